/- Contracts: the reference's clocks. -/
import Derived.Test.YtjgpiclllehgmaaGreatB3
import Derived.Test.YtjgpiclllehgmaaGreatB1
import Derived.Test.YtjgpiclllehgmaaGreatB2
import Derived.Test.YtjgpiclllehgmaaGreatB0
set_option linter.all false
namespace Go.Proofs.YtjgpiclllehgmaaGreat.Vm
attribute [local irreducible] Dn
open Go Go.Proofs Sp
set_option maxRecDepth 100000
set_option maxHeartbeats 1600000
def Zim:Int→List Chg→Int→Int
 |a,[],_=>a
 |a,c::r,k=>Zim (if c.at_≤k then a+c.by_ else a) r k
theorem ZkL {k:Int}:∀ {l:List Chg} {a lo:Int},Asc lo l→k<lo→Zim a l k=a
 |[],_,_,_,_=>rfl
 |c::r,a,lo,h,hk=>by
  unfold Zim
  rw[if_neg (by have:=h.1;omega)]
  exact ZkL h.2 (by have:=h.1;omega)
theorem ZkM {k:Int}:∀ {l:List Chg} {a lo:Int},Asc lo l→Zim a l k=af a l k
 |[],_,_,_=>rfl
 |c::r,a,lo,h=>by
  unfold Zim af
  by_cases hc:c.at_≤k
  ·rw[if_pos hc,if_pos hc];exact ZkM h.2
  ·rw[if_neg hc,if_neg hc];exact ZkL h.2 (by omega)
theorem c97 (z:Zone) (t:Int) (hz:Zu z=0):SC (fun _=>Tryz.prog) 198 [Zd z,.int .i64 fun _=>t] [] fun v h=>v= .int .i64 (fun _=>af z.base z.chs t)∧h=[]:=by
 obtain⟨nt,hnt⟩:=Zs
 obtain⟨ha,hb,hl,h1,h2⟩:=ZbD hz
 rw[←ZkM (a:=z.base) (k:=t) ha]
 generalize hR:Zim z.base z.chs t=R at*
 refine QP Tryz.func198 (body:=Zk Tryz.f198) rfl (by decide+kernel) ?_
 unfold Zd
 simp only[Za hnt]
 refine wS ?_
 refine ZV false false [] [1,2,5,6] [] (fun(⟨i,n⟩:Nat×Int)=>[(5,.int .i64 fun _=>n),(6,.int .i64 fun _=>(i:Int))]) (fun _=>[]) (fun⟨i,n⟩=>i≤z.chs.length∧(-720-180*(i:Int)≤n∧n≤720+180*(i:Int))∧Zim n (z.chs.drop i) t=R) (fun i=>z.chs.length-i.1+0) (0,z.base) ⟨Nat.zero_le _,by simp;omega,by simpa using hR⟩ ?_ ?_
 ·exact ZI
 rintro⟨i,n⟩ ⟨hi,hn,hp⟩
 have hi:i≤z.chs.length:=hi
 have hn:-720-180*(i:Int)≤n∧n≤720+180*(i:Int):=hn
 refine wS ?_
 refine⟨fun hb1=>?_,fun hb1=>?_⟩
 ·simp only[decide_eq_true_eq]at hb1
  have hil:i<z.chs.length:=by omega
  rw[Qu (d:=default) hnt hil]at hp
  have hc:=hb _ (XF (d:=default) hnt (l:=z.chs) (i:=i) hil)
  have hp:Zim (if(nt Chg default z.chs (i:Int)).at_≤t then n+(nt Chg default z.chs (i:Int)).by_ else n) (z.chs.drop (i+1)) t=R:=hp
  generalize hx:nt Chg default z.chs (i:Int)=c at*
  refine vS ?_
  simp only[hx]
  refine Chk.mk (Qa) ?_
  refine⟨fun h3=>?_,fun h3=>?_⟩
  ·rw[if_pos (by simpa using h3)]at hp
   refine vS ?_
   simp only[hx]
   refine Chk.mk (Qa) ?_
   refine⟨(i+1,n+c.by_),⟨by show i+1≤z.chs.length;omega,by dsimp only;omega,hp⟩,by show z.chs.length-(i+1)+0<z.chs.length-i+0;omega,?_⟩
   exact ZI
  ·rw[if_neg (by simpa using h3)]at hp
   refine wS ?_
   refine⟨(i+1,n),⟨by show i+1≤z.chs.length;omega,by dsimp only;omega,hp⟩,by show z.chs.length-(i+1)+0<z.chs.length-i+0;omega,?_⟩
   exact ZI
 ·have hie:z.chs.length≤i:=by simp only[decide_eq_false_iff_not]at hb1;omega
  rw[List.drop_eq_nil_of_le hie]at hp
  have hp:n=R:=hp
  rw[←hp]
  (cbv;(try simp only[nc]at*);(try refine Chk.mk (Qa) ?_))
  (try first|exact⟨rfl,trivial⟩|exact⟨trivial,trivial⟩)
def cl (p:Pc):Pc:=if p.bef=Xk then⟨p.fr,-1,p.ahd⟩else p
def ZnI (z:Zone):List Pc:=(ZP z).map cl
def X2 (a:Int) (l:List Chg):Int:=l.foldl (fun a c=>a+c.by_) a
theorem ZoW:∀(l1 l2:List Chg) (a k:Int),(∀c∈l1,c.at_≤k)→af a (l1++l2) k=af (X2 a l1) l2 k
 |[],_,_,_,_=>rfl
 |c::r,l2,a,k,h=>by
  have e:af a (c::r++l2) k=if c.at_≤k then af (a+c.by_) (r++l2) k else a:=rfl
  rw[e,if_pos (h c (List.mem_cons_self ..)),ZoW r l2 _ _ (fun x hx=>h x (List.mem_cons_of_mem _ hx))]
  rfl
theorem Zju (a:Int) (l:List Chg) (c:Chg):X2 a (l++[c])=X2 a l+c.by_:=by unfold X2;rw[List.foldl_append];rfl
structure Zaq (z:Zone) (i:Nat) (f:Int) (out:List Pc):Prop where
 le:i≤z.chs.length
 eq:ZnI z=out++(QG f (X2 z.base (z.chs.take i)) (z.chs.drop i)).map cl
 lo:∀c∈z.chs.take i,c.at_≤f
 fr:0≤f∧f≤43200
 asc:Asc (if i=0 then f else f+1) (z.chs.drop i)
 zero:i=0→f=0
 len:out.length≤i
theorem Zlf {z:Zone} (h:Zu z=0):Zaq z 0 0 []:=by
 obtain⟨ha,hb,hl,h1,h2⟩:=ZbD h
 exact⟨Nat.zero_le _,rfl,by simp,by omega,by simpa using ha,fun _=>rfl,by simp⟩
theorem Zaq.ahd {z:Zone} {i:Nat} {f:Int} {out:List Pc} (h:Zaq z i f out) (hn:∀c∈(z.chs.drop i).head?,f<c.at_):af z.base z.chs f=X2 z.base (z.chs.take i):=by
 have e:z.chs=z.chs.take i++z.chs.drop i:=(List.take_append_drop ..).symm
 rw[e,ZoW _ _ _ _ h.lo,←e]
 cases hd:z.chs.drop i with
 |nil=>rfl
 |cons c r=>
  rw[hd]at hn
  have hc:=hn c rfl
  unfold af
  rw[if_neg (by omega)]
theorem Zaq.step {z:Zone} {i:Nat} {f:Int} {out:List Pc} {c:Chg} (hz:Zu z=0) (h:Zaq z i f out) (hi:i<z.chs.length) (hc:z.chs.drop i=c::z.chs.drop (i+1)) (ht:z.chs.take (i+1)=z.chs.take i++[c]):
  (c.at_=0→Zaq z (i+1) c.at_ out)∧(c.at_≠0→af z.base z.chs f=X2 z.base (z.chs.take i)∧Zaq z (i+1) c.at_ (out++[⟨f,c.at_,X2 z.base (z.chs.take i)⟩])):=by
 obtain⟨ha,hb,hl,h1,h2⟩:=ZbD hz
 have hcm:c∈z.chs:=List.mem_of_mem_drop (i:=i) (by rw[hc];exact List.mem_cons_self ..)
 have hcb:=hb c hcm
 have hasc:=h.asc
 rw[hc]at hasc
 obtain⟨hlo,hrest⟩:=hasc
 have hfr:=h.fr
 have hle:f≤c.at_:=by split at hlo<;>omega
 have hsum:X2 z.base (z.chs.take (i+1))=X2 z.base (z.chs.take i)+c.by_:=by rw[ht,Zju]
 have hlo2:∀x∈z.chs.take (i+1),x.at_≤c.at_:=fun x hx=>by
  rw[ht]at hx
  rcases List.mem_append.1 hx with hx|hx
  ·have:=h.lo x hx;omega
  ·simp at hx;rw[hx];exact Int.le_refl _
 have hasc2:Asc (if i+1=0 then c.at_ else c.at_+1) (z.chs.drop (i+1)):=by rw[if_neg (by omega)];exact hrest
 have heq:=h.eq
 rw[hc]at heq
 have hlen:=h.len
 refine⟨fun h0=>?_,fun h0=>?_⟩
 ·have hf0:f=0:=by omega
  refine⟨hi,?_,hlo2,by omega,hasc2,fun h=>by omega,by omega⟩
  rw[heq,hsum]
  congr 1
  have e:QG f (X2 z.base (z.chs.take i)) (c::z.chs.drop (i+1))=QG c.at_ (X2 z.base (z.chs.take i)+c.by_) (z.chs.drop (i+1)):=if_neg (by omega)
  rw[e]
 ·have hlt:f<c.at_:=by
   by_cases hi0:i=0
   ·have:=h.zero hi0;omega
   ·rw[if_neg hi0]at hlo;omega
  refine⟨h.ahd (by rw[hc];intro x hx;simp at hx;rw[←hx];exact hlt),hi,?_,hlo2,by omega,hasc2,fun h=>by omega,by simp;omega⟩
  have e:QG f (X2 z.base (z.chs.take i)) (c::z.chs.drop (i+1))=⟨f,c.at_,X2 z.base (z.chs.take i)⟩::QG c.at_ (X2 z.base (z.chs.take i)+c.by_) (z.chs.drop (i+1)):=if_pos hlt
  have e2:cl ⟨f,c.at_,X2 z.base (z.chs.take i)⟩=⟨f,c.at_,X2 z.base (z.chs.take i)⟩:=if_neg (by unfold Xk;show¬c.at_=_;omega)
  rw[heq,e,List.map_cons,e2,hsum,List.append_assoc]
  rfl
theorem Zaq.last {z:Zone} {f:Int} {out:List Pc} (h:Zaq z z.chs.length f out):af z.base z.chs f=X2 z.base z.chs∧ZnI z=out++[⟨f,-1,X2 z.base z.chs⟩]:=by
 have h1:=h.ahd (by rw[List.drop_length];intro c hc;cases hc)
 have h2:=h.eq
 rw[List.take_length]at h1 h2
 rw[List.drop_length]at h2
 exact⟨h1,h2⟩
theorem Zvf (z:Zone) (hz:Zu z=0):SC (fun _=>Tryz.prog) 195 [Zd z] [] fun v h=>v=lst 3 Zed default (ZnI z)∧h=[]:=by
 obtain⟨nt,hnt⟩:=Zs
 obtain⟨ha,hb,hl,h1,h2⟩:=ZbD hz
 have k97:=fun t=>c97 z t hz
 have hst:=Zlf hz
 generalize hS:ZnI z=S at*
 refine SC.less (QP Tryz.func195 (body:=Zk Tryz.f195) rfl (by decide+kernel) ?_)
 unfold Zd at*
 simp only[Za hnt]at*
 refine wS ?_
 refine ZV false false [] [1,3,4,5] [.tok 3 fun _=>0] (fun(⟨i,f,out⟩:Nat×Int×List Pc)=>[(3,.isl 3 (fun _=>(out.length:Int)) (fun e=>Zed (nt Pc default out (e ()))) (.own 1)),(4,.int .i64 fun _=>f),(5,.int .i64 fun _=>(i:Int))])
  (fun⟨i,f,out⟩=>[(1,.tok 3 fun _=>(out.length:Int))]) (fun⟨i,f,out⟩=>Zaq z i f out∨(i=z.chs.length+1∧out=S)) (fun i=>z.chs.length+1-i.1+0) (0,0,[]) (.inl hst) ?_ ?_
 ·(refine To.of [(3,false)] ?_;cbv;(try simp only[nc]);(repeat' (first|exact trivial|exact ZD.refl _|exact ZL.refl _|refine⟨?_,?_⟩|refine ZL.cells ?_|refine ZD.agg ?_|refine ZD.tup ?_));(all_goals (first|exact X9|skip)))
 rintro⟨i,f,out⟩ hp
 have hp:Zaq z i f out∨(i=z.chs.length+1∧out=S):=hp
 have hol:out.length≤100∨out=S:=by
  rcases hp with h|⟨_,h⟩
  ·have:=h.len;have:=h.le;omega
  ·exact .inr h
 refine wS ?_
 refine⟨fun hb1=>?_,fun hb1=>?_⟩
 ·simp only[decide_eq_true_eq]at hb1
  have hs:Zaq z i f out:=by
   rcases hp with h|⟨h,_⟩
   ·exact h
   ·omega
  have hle:=hs.le
  have hlen:=hs.len
  have k97:=k97 f
  refine wS ?_
  refine⟨fun hb2=>?_,fun hb2=>?_⟩
  ·simp only[decide_eq_true_eq]at hb2
   have hil:i<z.chs.length:=by omega
   have hst2:=hs.step hz hil (Qu (d:=default) hnt hil) (Zex (d:=default) hnt hil)
   generalize hc:nt Chg default z.chs (i:Int)=c at*
   refine vS ?_
   simp only[hc]
   refine Chk.mk (Qa) ?_
   refine⟨fun hb3=>?_,fun hb3=>?_⟩
   ·have h0:c.at_≠0:=by simpa using hb3
    obtain⟨g1,g2⟩:=hst2.2 h0
    rw[g1]at k97
    generalize X2 z.base (z.chs.take i)=A at*
    refine wS ?_
    refine ZS (k97) (by first|rfl|(simp only[Zd,Za hnt];rfl)) fun r h₂ hp=>?_
    (try simp only[Zd,Za hnt]at hp)
    obtain⟨rfl,rfl⟩:=hp
    refine wS ?_
    refine⟨(i+1,c.at_,out++[⟨f,c.at_,A⟩]),.inl g2,by show z.chs.length+1-(i+1)+0<z.chs.length+1-i+0;omega,?_⟩
    exact ZI
   ·have h0:c.at_=0:=by simpa using hb3
    have g2:=hst2.1 h0
    refine wS ?_
    refine⟨(i+1,c.at_,out),.inl g2,by show z.chs.length+1-(i+1)+0<z.chs.length+1-i+0;omega,?_⟩
    exact ZI
  ·simp only[decide_eq_false_iff_not]at hb2
   have hie:i=z.chs.length:=by omega
   obtain⟨g1,g2⟩:=(hie▸hs:Zaq z z.chs.length f out).last
   rw[g1]at k97
   rw[hS]at g2
   generalize X2 z.base z.chs=A at*
   refine wS ?_
   refine Br.isT rfl ?_
   refine wS ?_
   refine ZS (k97) (by first|rfl|(simp only[Zd,Za hnt];rfl)) fun r h₂ hp=>?_
   (try simp only[Zd,Za hnt]at hp)
   obtain⟨rfl,rfl⟩:=hp
   refine wS ?_
   refine⟨(i+1,-1,out++[⟨f,-1,A⟩]),.inr ⟨by rw[hie],g2.symm⟩,by show z.chs.length+1-(i+1)+0<z.chs.length+1-i+0;omega,?_⟩
   exact ZI
 ·simp only[decide_eq_false_iff_not]at hb1
  have ho:out=S:=by
   rcases hp with h|⟨_,h⟩
   ·have:=h.le;omega
   ·exact h
  rw[←ho]
  refine wS ?_
  refine⟨_,[],?_,rfl,rfl⟩
  exact ZI
theorem ZtJ {nt:(α:Type)→α→List α→Int→α} (hnt:∀(α:Type) (d:α) (l:List α) (i:Int),nt α d l i=l.getD i.toNat d) {l:List Pc} {i:Nat} (hi:i<l.length):nt Pc default (l.map cl) (i:Int)=cl (nt Pc default l (i:Int)):=by
 rw[hnt,hnt]
 simp[List.getD_eq_getElem?_getD,hi]
theorem ZtK (p:Pc):(cl p).fr=p.fr:=by unfold cl;split<;>rfl
theorem ZsA (p:Pc):(cl p).ahd=p.ahd:=by unfold cl;split<;>rfl
theorem Ze7:∀(l:List Chg) (fr a:Int),(∀c∈l,c.at_≤43200)→∀i,i<(QG fr a l).length→(((QG fr a l).getD i default).bef=Xk↔i+1=(QG fr a l).length)
 |[],fr,a,_,i,hi=>by
  have e:QG fr a []=[⟨fr,Xk,a⟩]:=rfl
  rw[e]at hi⊢
  have:i=0:=by simpa using hi
  subst this
  simp
 |c::r,fr,a,h,i,hi=>by
  have hc:=h c (List.mem_cons_self ..)
  have ih:=Ze7 r c.at_ (a+c.by_) (fun x hx=>h x (List.mem_cons_of_mem _ hx))
  have hl:=(Zad r c.at_ (a+c.by_)).1
  by_cases hlt:fr<c.at_
  ·have e:QG fr a (c::r)=⟨fr,c.at_,a⟩::QG c.at_ (a+c.by_) r:=if_pos hlt
   rw[e]at hi⊢
   cases i with
   |zero=>
    simp only[List.getD_cons_zero,List.length_cons]
    unfold Xk
    constructor<;>intro h<;>omega
   |succ i=>
    simp only[List.getD_cons_succ,List.length_cons]
    rw[ih i (by simpa using hi)]
    omega
  ·have e:QG fr a (c::r)=QG c.at_ (a+c.by_) r:=if_neg hlt
   rw[e]at hi⊢
   exact ih i hi
theorem Zt5 (z:Zone) (r a:Int) (hz:Zu z=0) (hr:-1000000≤r∧r≤1000000) (ha:0≤a∧a<Xk):SC (fun _=>Tryz.prog) 190 [Zd z,.int .i64 fun _=>r,.int .i64 fun _=>a] [] fun v h=>v= .int .i64 (fun _=>QW (ZP z) r a)∧h=[]:=by
 obtain⟨nt,hnt⟩:=Zs
 have k2:=Zvf z hz
 obtain⟨k4,k5⟩:=Zdf hz
 have hop:=Ze7 z.chs 0 z.base (fun c hc=>((ZbD hz).2.1 c hc).2.1)
 have hl1:=(Zad z.chs 0 z.base).1
 change∀i,i<(ZP z).length→(((ZP z).getD i default).bef=Xk↔i+1=(ZP z).length)at hop
 change 1≤(ZP z).length at hl1
 unfold Xk at*
 refine QP Tryz.func190 (body:=Zk Tryz.f190) rfl (by decide+kernel) ?_
 unfold Zd at*
 simp only[Za hnt]at*
 unfold ZnI at k2
 generalize ZP z=L at*
 have hLl:(L.map cl).length=L.length:=List.length_map ..
 generalize hW:QW L r a=W at*
 refine wS ?_
 refine ZS (k2) (by first|rfl|(simp only[Zd,Za hnt];rfl)) fun r h₂ hp=>?_
 (try simp only[Zd,Za hnt]at hp)
 obtain⟨rfl,rfl⟩:=hp
 refine wS ?_
 refine ZV false false [] [1,2,7,8] [] (fun(i:Nat)=>[(8,.int .i64 fun _=>(i:Int))]) (fun _=>[]) (fun i=>i<L.length∧QW (L.drop i) r a=W) (fun i=>L.length-i+0) 0 ⟨by omega,by simpa using hW⟩ ?_ ?_
 ·exact ZI
 intro i hpp
 have hi:i<L.length:=hpp.1
 have hp:QW (L.drop i) r a=W:=hpp.2
 clear hpp
 have hq:=k5 _ (XF (d:=default) hnt (l:=L) (i:=i) hi)
 have hopi:=hop i hi
 have e1:L.getD i default=nt Pc default L (i:Int):=by rw[hnt];rfl
 rw[e1]at hopi
 rw[Qu (d:=default) hnt hi,QW]at hp
 have hcl:=ZtJ hnt (l:=L) hi
 generalize nt Pc default L (i:Int)=p at*
 have hah:=ZsA p
 have hfr:=ZtK p
 have hbe:(cl p).bef=if p.bef=1099511627776 then-1 else p.bef:=by
  unfold cl Xk
  split<;>rfl
 generalize cl p=q at*
 have hmx:(if(if q.fr<a then a else q.fr)<r-q.ahd then r-q.ahd else(if q.fr<a then a else q.fr))=max p.fr (max a (r-p.ahd)):=by
  rw[hfr,hah]
  split<;>split<;>omega
 have hmb:0≤max p.fr (max a (r-p.ahd))∧max p.fr (max a (r-p.ahd))<1099511627776:=by omega
 refine vS ?_
 simp only[hcl]
 refine Chk.mk (Qa) ?_
 simp only[hmx]
 generalize max p.fr (max a (r-p.ahd))=M at*
 refine⟨fun hb2=>?_,fun hb2=>?_⟩
 ·have hc:M<p.bef:=by
   by_cases h:p.bef=1099511627776
   ·omega
   ·rw[if_neg h]at hbe
    rw[hbe,decide_eq_false (by omega)]at hb2
    simpa using hb2
  rw[if_pos hc]at hp
  rw[←hp]
  (cbv;(try simp only[nc]at*);(try refine Chk.mk (Qa) ?_))
  (try first|exact⟨rfl,trivial⟩|exact⟨trivial,trivial⟩)
 ·have hc:¬M<p.bef:=by
   intro h'
   by_cases h:p.bef=1099511627776
   ·rw[if_pos h]at hbe
    rw[hbe]at hb2
    simp at hb2
   ·rw[if_neg h]at hbe
    rw[hbe,decide_eq_false (by omega),decide_eq_true h']at hb2
    cases hb2
  rw[if_neg hc]at hp
  have hi2:i+1<L.length:=by
   rcases Nat.lt_or_ge (i+1) L.length with h|h
   ·exact h
   ·have:=hopi.2 (by omega);omega
  refine wS ?_
  refine⟨i+1,⟨hi2,hp⟩,by show L.length-(i+1)+0<L.length-i+0;omega,?_⟩
  exact ZI
theorem Zjb {α:Type} [Inhabited α] {nt:(α:Type)→α→List α→Int→α} (hnt:∀(α:Type) (d:α) (l:List α) (i:Int),nt α d l i=l.getD i.toNat d) {q:α→Bool} {l:List α} {k:Nat} (hk:k<l.length):(l.take (k+1)).any q=((l.take k).any q||q (nt α default l (k:Int))):=by
 rw[Zex (d:=default) hnt hk,List.any_append]
 simp
theorem Zi5 {nt:(α:Type)→α→List α→Int→α} (hnt:∀(α:Type) (d:α) (l:List α) (i:Int),nt α d l i=l.getD i.toNat d) (b:XL):Zc b= .agg [.isl 2 (fun _=>(b.zones.length:Int)) (fun e=>encZone (nt Zone default b.zones (e ()))) .none,.isl 3 (fun _=>(b.old.length:Int)) (fun e=>encTrain (nt Train default b.old (e ()))) .none,.isl 3 (fun _=>(b.new.length:Int)) (fun e=>encTrain (nt Train default b.new (e ()))) .none,.int .i64 fun _=>b.night,.int .i64 fun _=>b.last]:=by
 unfold Zc;simp only[Za hnt]
theorem Zvd (b:XL) (l:List Stop) (hz:b.zones.length≤1000000) (hl:l.length≤1000000):SC (fun _=>Tryz.prog) 181 [Zc b,lst 4 Q0 default l] [] fun v h=>v= .int .i64 (fun _=>if ZJ l.length 2 4≠0 then ZJ l.length 2 4 else YD b.zones.length l)∧h=[]:=by
 obtain⟨nt,hnt⟩:=Zs
 generalize hE:(if ZJ l.length 2 4≠0 then ZJ l.length 2 4 else YD b.zones.length l)=E
 unfold Zc
 simp only[Za hnt]
 refine QP Tryz.func181 (body:=Zk Tryz.f181) rfl (by decide+kernel) ?_
 refine wS ?_
 refine⟨fun h1=>?_,fun h1=>?_⟩
 ·simp only[decide_eq_true_eq]at h1
  rw[show ZJ l.length 2 4=7 by unfold ZJ;rw[if_pos (by omega)],if_pos (by decide)]at hE
  subst hE
  (cbv;(try simp only[nc]at*);(try refine Chk.mk (Qa) ?_))
  (try first|exact⟨rfl,trivial⟩|exact⟨trivial,trivial⟩)
 simp only[decide_eq_false_iff_not]at h1
 refine wS ?_
 refine⟨fun h2=>?_,fun h2=>?_⟩
 ·simp only[decide_eq_true_eq]at h2
  rw[show ZJ l.length 2 4=6 by unfold ZJ;rw[if_neg (by omega),if_pos (by omega)],if_pos (by decide)]at hE
  subst hE
  (cbv;(try simp only[nc]at*);(try refine Chk.mk (Qa) ?_))
  (try first|exact⟨rfl,trivial⟩|exact⟨trivial,trivial⟩)
 simp only[decide_eq_false_iff_not]at h2
 rw[show ZJ l.length 2 4=0 by unfold ZJ;rw[if_neg (by omega),if_neg (by omega)],if_neg (by decide)]at hE
 refine wS ?_
 refine ZV false false [] [1,2,5] [] (fun(i:Nat)=>[(5,.int .i64 fun _=>(i:Int))]) (fun _=>[]) (fun i=>i≤l.length∧Zp (Q3 b.zones.length l) i (l.length-i)=E) (fun i=>l.length-i+0) 0 ⟨Nat.zero_le _,by simpa [YD]using hE⟩ ?_ ?_
 ·exact ZI
 rintro i ⟨hi,hp⟩
 refine wS ?_
 refine⟨fun hb=>?_,fun hb=>?_⟩
 ·simp only[decide_eq_true_eq]at hb
  obtain⟨q,hq⟩:∃q,l.length-i=q+1:=⟨l.length-i-1,by omega⟩
  rw[hq,Zp]at hp
  have hsp:Q3 b.zones.length l i=YP (l.take i) (nt Stop default l i) (decide (0<i)&&decide ((i:Int)<l.length-1)) b.zones.length:=by unfold Q3;rw[hnt];rfl
  rw[hsp]at hp
  unfold YP at hp
  refine wS ?_
  generalize nt Stop default l i=s at*
  refine Zb7 (c72 s.station 0 9) ?_
  refine vS ?_
  refine⟨fun h3=>?_,fun h3=>?_⟩
  ·simp only[if_pos h3]at hp
   rw[if_pos (by decide)]at hp
   subst hp
   (cbv;(try simp only[nc]at*);(try refine Chk.mk (Qa) ?_))
   (try first|exact⟨rfl,trivial⟩|exact⟨trivial,trivial⟩)
  simp only[if_neg (show¬(!Yx s.station 0 9)=true by rw[h3];exact Bool.false_ne_true)]at hp
  refine wS ?_
  refine Zai fun Q hQ=>?_
  refine ZV false false [] [1,2,5,6,7] [] (fun(k:Nat)=>[(7,.int .i64 fun _=>(k:Int))]) (fun _=>[]) (fun k=>k≤i∧(l.take k).any (fun x=>decide (x.station=s.station))=false) (fun k=>i-k+0) 0 ⟨Nat.zero_le _,by simp⟩ ?_ ?_
  ·exact ZI
  rintro k ⟨hk,hp2⟩
  refine wS ?_
  refine⟨fun hb=>?_,fun hb=>?_⟩
  ·simp only[decide_eq_true_eq]at hb
   have hkl:k<l.length:=by omega
   have hat:=Zjb hnt (q:=fun x:Stop=>decide (x.station=s.station)) hkl
   rw[hp2,Bool.false_or]at hat
   refine wS ?_
   simp only[ZaT]
   refine⟨fun h4=>?_,fun h4=>?_⟩
   ·rw[h4]at hat
    have:(l.take i).any (fun x=>decide (x.station=s.station))=true:=by
     rw[List.any_eq_true]at hat⊢
     obtain⟨x,hx,h⟩:=hat
     exact⟨x,List.Sublist.subset (List.take_sublist_take_left (by omega)) hx,h⟩
    simp only[if_pos this]at hp
    rw[if_pos (by decide)]at hp
    subst hp
    refine wS ?_
    refine hQ _ _ _ ?_
    (cbv;(try simp only[nc]at*);(try refine Chk.mk (Qa) ?_))
    (try first|exact⟨rfl,trivial⟩|exact⟨trivial,trivial⟩)
   ·rw[h4]at hat
    refine wS ?_
    refine⟨k+1,⟨by omega,hat⟩,by show i-(k+1)+0<i-k+0;omega,?_⟩
    exact ZI
  ·simp only[decide_eq_false_iff_not]at hb
   obtain rfl:k=i:=by omega
   simp only[hp2,Bool.false_eq_true,if_false]at hp
   refine wS ?_
   refine hQ _ _ _ ?_
   clear hQ
   refine wS ?_
   refine Zb7 (c72 s.zone 0 ((b.zones.length:Int)-1)) ?_
   refine vS ?_
   refine⟨fun h5=>?_,fun h5=>?_⟩
   ·simp only[if_pos h5]at hp
    rw[if_pos (by decide)]at hp
    subst hp
    (cbv;(try simp only[nc]at*);(try refine Chk.mk (Qa) ?_))
    (try first|exact⟨rfl,trivial⟩|exact⟨trivial,trivial⟩)
   simp only[if_neg (show¬(!Yx s.zone 0 ((b.zones.length:Int)-1))=true by rw[h5];exact Bool.false_ne_true)]at hp
   refine wS ?_
   refine Zb7 (c72 s.arrive 0 4319) ?_
   refine wS ?_
   refine⟨fun h6=>?_,fun h6=>?_⟩
   ·have h6:Yx s.arrive 0 4319=true:=by simpa using h6
    refine wS ?_
    refine Zb7 (c72 s.depart 0 4319) ?_
    refine wS ?_
    refine⟨fun h7=>?_,fun h7=>?_⟩
    ·have h7:Yx s.depart 0 4319=false:=by simpa [h6]using h7
     simp only[h6,h7,Bool.not_false,Bool.not_true,Bool.false_or,if_true]at hp
     rw[if_pos (by decide)]at hp
     subst hp
     (cbv;(try simp only[nc]at*);(try refine Chk.mk (Qa) ?_))
     (try first|exact⟨rfl,trivial⟩|exact⟨trivial,trivial⟩)
    ·have h7:Yx s.depart 0 4319=true:=by simpa [h6]using h7
     simp only[h6,h7,Bool.not_true,Bool.false_or,Bool.false_eq_true,if_false]at hp
     have he:(decide (0<k)&&decide ((k:Int)<l.length-1)&&decide (s.depart<s.arrive))=(bif bif decide (0<(k:Int))then decide ((k:Int)<(l.length:Int)-1)else false then decide (s.depart<s.arrive)else false):=by
      rw[show decide (0<k)=decide (0<(k:Int))from by rw[Bool.eq_iff_iff];simp]
      cases decide (0<(k:Int))<;>cases decide ((k:Int)<(l.length:Int)-1)<;>rfl
     rw[he]at hp
     refine wS ?_
     refine⟨fun h8=>?_,fun h8=>?_⟩
     ·rw[if_pos h8,if_pos (by decide)]at hp
      subst hp
      (cbv;(try simp only[nc]at*);(try refine Chk.mk (Qa) ?_))
      (try first|exact⟨rfl,trivial⟩|exact⟨trivial,trivial⟩)
     ·simp only[h8,Bool.false_eq_true,if_false,ne_eq,not_true_eq_false]at hp
      refine wS ?_
      refine⟨k+1,⟨by omega,by rw[←hp];congr 1;omega⟩,by show l.length-(k+1)+0<l.length-k+0;omega,?_⟩
      exact ZI
   ·have h6:Yx s.arrive 0 4319=false:=by simpa using h6
    simp only[h6,Bool.not_false,Bool.true_or,if_true]at hp
    rw[if_pos (by decide)]at hp
    subst hp
    refine wS ?_
    refine Br.isT (by rfl) ?_
    (cbv;(try simp only[nc]at*);(try refine Chk.mk (Qa) ?_))
    (try first|exact⟨rfl,trivial⟩|exact⟨trivial,trivial⟩)
 ·simp only[decide_eq_false_iff_not]at hb
  rw[show l.length-i=0 by omega,Zp]at hp
  subst hp
  (cbv;(try simp only[nc]at*);(try refine Chk.mk (Qa) ?_))
  (try first|exact⟨rfl,trivial⟩|exact⟨trivial,trivial⟩)
theorem c71 (b:XL) (l:List Train) (hz:b.zones.length≤1000000) (hl:l.length≤1000000) (hs:∀t∈l,t.stops.length≤1000000):SC (fun _=>Tryz.prog) 140 [Zc b,lst 3 encTrain default l] [] fun v h=>v= .int .i64 (fun _=>Qf b.zones.length l)∧h=[]:=by
 obtain⟨nt,hnt⟩:=Zs
 unfold Qf
 generalize hE:(if ZJ l.length 0 4≠0 then ZJ l.length 0 4 else Zp (QL b.zones.length l) 0 l.length)=E
 unfold Zc
 simp only[Za hnt]
 refine QP Tryz.func140 (body:=Zk Tryz.f140) rfl (by decide+kernel) ?_
 refine wS ?_
 refine⟨fun h2=>?_,fun h2=>?_⟩
 ·simp only[decide_eq_true_eq]at h2
  rw[show ZJ l.length 0 4=6 by unfold ZJ;rw[if_neg (by omega),if_pos (by omega)],if_pos (by decide)]at hE
  subst hE
  (cbv;(try simp only[nc]at*);(try refine Chk.mk (Qa) ?_))
  (try first|exact⟨rfl,trivial⟩|exact⟨trivial,trivial⟩)
 simp only[decide_eq_false_iff_not]at h2
 rw[show ZJ l.length 0 4=0 by unfold ZJ;rw[if_neg (by omega),if_neg (by omega)],if_neg (by decide)]at hE
 refine wS ?_
 refine ZV false false [] [1,2,5] [] (fun(i:Nat)=>[(5,.int .i64 fun _=>(i:Int))]) (fun _=>[]) (fun i=>i≤l.length∧Zp (QL b.zones.length l) i (l.length-i)=E) (fun i=>l.length-i+0) 0 ⟨Nat.zero_le _,by simpa using hE⟩ ?_ ?_
 ·exact ZI
 rintro i ⟨hi,hp⟩
 refine wS ?_
 refine⟨fun hb=>?_,fun hb=>?_⟩
 ·simp only[decide_eq_true_eq]at hb
  have hil:i<l.length:=by omega
  obtain⟨q,hq⟩:∃q,l.length-i=q+1:=⟨l.length-i-1,by omega⟩
  rw[hq,Zp]at hp
  have hst:=hs _ (XF (d:=default) hnt (l:=l) (i:=i) hil)
  have hct:QL b.zones.length l i=if !Yx (nt Train default l i).number 1 999 then 1 else if(l.take i).any (fun x=>decide (x.number=(nt Train default l i).number))then 4 else if !Yx (nt Train default l i).days 1 127 then 1
   else if ZJ (nt Train default l i).stops.length 2 4≠0 then ZJ (nt Train default l i).stops.length 2 4 else YD b.zones.length (nt Train default l i).stops:=by unfold QL;rw[hnt];rfl
  refine wS ?_
  refine Zb7 (c72 (nt Train default l i).number 1 999) ?_
  refine vS ?_
  refine⟨fun h3=>?_,fun h3=>?_⟩
  ·rw[if_pos h3]at hct
   rw[hct,if_pos (by decide)]at hp
   subst hp
   (cbv;(try simp only[nc]at*);(try refine Chk.mk (Qa) ?_))
   (try first|exact⟨rfl,trivial⟩|exact⟨trivial,trivial⟩)
  rw[if_neg (by rw[h3];exact Bool.false_ne_true)]at hct
  refine wS ?_
  refine Zai fun Q hQ=>?_
  refine ZV false false [] [1,2,5,6] [] (fun(k:Nat)=>[(6,.int .i64 fun _=>(k:Int))]) (fun _=>[]) (fun k=>k≤i∧(l.take k).any (fun x=>decide (x.number=(nt Train default l i).number))=false) (fun k=>i-k+0) 0 ⟨Nat.zero_le _,by simp⟩ ?_ ?_
  ·exact ZI
  rintro k ⟨hk,hp2⟩
  refine wS ?_
  refine⟨fun hb=>?_,fun hb=>?_⟩
  ·simp only[decide_eq_true_eq]at hb
   have hkl:k<l.length:=by omega
   have hat:=Zjb hnt (q:=fun x:Train=>decide (x.number=(nt Train default l i).number)) hkl
   rw[hp2,Bool.false_or]at hat
   refine wS ?_
   simp only[ZaT]
   refine⟨fun h4=>?_,fun h4=>?_⟩
   ·rw[h4]at hat
    have:(l.take i).any (fun x=>decide (x.number=(nt Train default l i).number))=true:=by
     rw[List.any_eq_true]at hat⊢
     obtain⟨x,hx,h⟩:=hat
     exact⟨x,List.Sublist.subset (List.take_sublist_take_left (by omega)) hx,h⟩
    rw[if_pos this]at hct
    rw[hct,if_pos (by decide)]at hp
    subst hp
    refine wS ?_
    refine hQ _ _ _ ?_
    (cbv;(try simp only[nc]at*);(try refine Chk.mk (Qa) ?_))
    (try first|exact⟨rfl,trivial⟩|exact⟨trivial,trivial⟩)
   ·rw[h4]at hat
    refine wS ?_
    refine⟨k+1,⟨by omega,hat⟩,by show i-(k+1)+0<i-k+0;omega,?_⟩
    exact ZI
  ·simp only[decide_eq_false_iff_not]at hb
   obtain rfl:k=i:=by omega
   rw[hp2,if_neg (by exact Bool.false_ne_true)]at hct
   refine wS ?_
   refine hQ _ _ _ ?_
   clear hQ
   refine wS ?_
   refine Zb7 (c72 (nt Train default l (k:Int)).days 1 127) ?_
   refine vS ?_
   refine⟨fun h3=>?_,fun h3=>?_⟩
   ·rw[if_pos h3]at hct
    rw[hct,if_pos (by decide)]at hp
    subst hp
    (cbv;(try simp only[nc]at*);(try refine Chk.mk (Qa) ?_))
    (try first|exact⟨rfl,trivial⟩|exact⟨trivial,trivial⟩)
   rw[if_neg (by rw[h3];exact Bool.false_ne_true)]at hct
   refine wS ?_
   have k110:=Zvd b (nt Train default l (k:Int)).stops hz hst
   rw[Zi5 hnt]at k110
   refine ZS k110 rfl fun r h₂ hp=>?_
   obtain⟨rfl,rfl⟩:=hp
   rw[←hct]
   generalize QL b.zones.length l k=e at*
   refine vS ?_
   refine⟨fun h5=>?_,fun h5=>?_⟩
   ·simp only[bne_iff_ne,ne_eq]at h5
    rw[if_pos h5]at hp
    subst hp
    (cbv;(try simp only[nc]at*);(try refine Chk.mk (Qa) ?_))
    (try first|exact⟨rfl,trivial⟩|exact⟨trivial,trivial⟩)
   ·simp only[bne_eq_false_iff_eq]at h5
    rw[if_neg (fun h=>h h5)]at hp
    refine wS ?_
    refine⟨k+1,⟨by omega,by rw[←hp];congr 1;omega⟩,by show l.length-(k+1)+0<l.length-k+0;omega,?_⟩
    exact ZI
 ·simp only[decide_eq_false_iff_not]at hb
  rw[show l.length-i=0 by omega,Zp]at hp
  subst hp
  (cbv;(try simp only[nc]at*);(try refine Chk.mk (Qa) ?_))
  (try first|exact⟨rfl,trivial⟩|exact⟨trivial,trivial⟩)
theorem c25 (b:XL) (hb:YG b):SC (fun _=>Tryz.prog) 87 [Zc b] [] fun v h=>v= .int .i64 (fun _=>Yw b)∧h=[]:=by
 obtain⟨nt,hnt⟩:=Zs
 have hz:=hb.zones
 have hc:=hb.chs
 unfold Yw
 generalize hE:(if ZJ b.zones.length 1 3≠0 then _ else _:Int)=E
 have k1:=c71 b b.old hz hb.old hb.stops.1
 have k2:=c71 b b.new hz hb.new hb.stops.2
 unfold Zc at k1 k2⊢
 simp only[Za hnt]at k1 k2⊢
 refine QP Tryz.func87 (body:=Zk Tryz.f87) rfl (by decide+kernel) ?_
 refine wS ?_
 refine⟨fun h1=>?_,fun h1=>?_⟩
 ·have h1:b.zones.length=0:=by simpa using h1
  rw[show ZJ b.zones.length 1 3=7 by unfold ZJ;rw[if_pos (by omega)],if_pos (by decide)]at hE
  subst hE
  (cbv;(try simp only[nc]at*);(try refine Chk.mk (Qa) ?_))
  (try first|exact⟨rfl,trivial⟩|exact⟨trivial,trivial⟩)
 have h1:¬b.zones.length=0:=by simpa using h1
 refine wS ?_
 refine⟨fun h2=>?_,fun h2=>?_⟩
 ·simp only[decide_eq_true_eq]at h2
  rw[show ZJ b.zones.length 1 3=6 by unfold ZJ;rw[if_neg (by omega),if_pos (by omega)],if_pos (by decide)]at hE
  subst hE
  (cbv;(try simp only[nc]at*);(try refine Chk.mk (Qa) ?_))
  (try first|exact⟨rfl,trivial⟩|exact⟨trivial,trivial⟩)
 simp only[decide_eq_false_iff_not]at h2
 rw[show ZJ b.zones.length 1 3=0 by unfold ZJ;rw[if_neg (by omega),if_neg (by omega)],if_neg (by decide)]at hE
 generalize hF:Zp (fun i=>Zu (b.zones.getD i default)) 0 b.zones.length=F at*
 refine wS ?_
 refine Zai fun Q hQ=>?_
 refine ZV false false [] [1,3] [] (fun(i:Nat)=>[(3,.int .i64 fun _=>(i:Int))]) (fun _=>[]) (fun i=>i≤b.zones.length∧Zp (fun i=>Zu (b.zones.getD i default)) i (b.zones.length-i)=F) (fun i=>b.zones.length-i+0) 0 ⟨Nat.zero_le _,by simpa using hF⟩ ?_ ?_
 ·exact ZI
 rintro i ⟨hi,hp⟩
 refine wS ?_
 refine⟨fun hb=>?_,fun hb=>?_⟩
 ·simp only[decide_eq_true_eq]at hb
  obtain⟨q,hq⟩:∃q,b.zones.length-i=q+1:=⟨b.zones.length-i-1,by omega⟩
  rw[hq,Zp]at hp
  have hch:=hc _ (XF (d:=default) hnt (l:=b.zones) (i:=i) (by omega))
  have hzn:b.zones.getD i default=nt Zone default b.zones i:=by rw[hnt];rfl
  rw[hzn]at hp
  refine wS ?_
  generalize nt Zone default b.zones i=z at*
  refine Zb7 (c70 z hch) ?_
  generalize Zu z=e at*
  refine vS ?_
  refine⟨fun h3=>?_,fun h3=>?_⟩
  ·simp only[bne_iff_ne,ne_eq]at h3
   rw[if_pos h3]at hp
   subst hp
   rw[if_pos h3]at hE
   subst hE
   refine wS ?_
   refine hQ _ _ _ ?_
   (cbv;(try simp only[nc]at*);(try refine Chk.mk (Qa) ?_))
   (try first|exact⟨rfl,trivial⟩|exact⟨trivial,trivial⟩)
  ·simp only[bne_eq_false_iff_eq]at h3
   rw[if_neg (fun h=>h h3)]at hp
   refine wS ?_
   refine⟨i+1,⟨by omega,by rw[←hp];congr 1;omega⟩,by show b.zones.length-(i+1)+0<b.zones.length-i+0;omega,?_⟩
   exact ZI
 simp only[decide_eq_false_iff_not]at hb
 rw[show b.zones.length-i=0 by omega,Zp]at hp
 subst hp
 rw[if_neg (fun h=>h rfl)]at hE
 refine wS ?_
 refine hQ _ _ _ ?_
 clear hQ
 generalize Qf b.zones.length b.old=e1 at*
 generalize Qf b.zones.length b.new=e2 at*
 refine wS ?_
 refine Zb7 (k1) ?_
 refine wS ?_
 refine⟨fun h3=>?_,fun h3=>?_⟩
 ·simp only[bne_iff_ne,ne_eq]at h3
  rw[if_pos h3]at hE
  subst hE
  (cbv;(try simp only[nc]at*);(try refine Chk.mk (Qa) ?_))
  (try first|exact⟨rfl,trivial⟩|exact⟨trivial,trivial⟩)
 simp only[bne_eq_false_iff_eq]at h3
 rw[if_neg (fun h=>h h3)]at hE
 refine wS ?_
 refine Zb7 (k2) ?_
 refine wS ?_
 refine⟨fun h4=>?_,fun h4=>?_⟩
 ·simp only[bne_iff_ne,ne_eq]at h4
  rw[if_pos h4]at hE
  subst hE
  (cbv;(try simp only[nc]at*);(try refine Chk.mk (Qa) ?_))
  (try first|exact⟨rfl,trivial⟩|exact⟨trivial,trivial⟩)
 simp only[bne_eq_false_iff_eq]at h4
 rw[if_neg (fun h=>h h4)]at hE
 refine wS ?_
 have k67:=c72 b.last 0 13
 rcases hI:Yx b.last 0 13 with _|_
 ·rw[hI]at k67 hE
  simp only[Bool.not_false,Bool.true_or,if_true]at hE
  subst hE
  refine Zb7 (k67) ?_
  refine vS ?_
  refine Chk.mk (by simp[QK,QI,QJ,Cn.p]) ?_
  refine Br.isF (by rfl) ?_
  refine wS ?_
  refine Br.isT (by rfl) ?_
  (cbv;(try simp only[nc]at*);(try refine Chk.mk (Qa) ?_))
  (try first|exact⟨rfl,trivial⟩|exact⟨trivial,trivial⟩)
 ·have hlast:0≤b.last∧b.last≤13:=by simpa [Yx]using hI
  rw[hI]at k67 hE
  simp only[Bool.not_true,Bool.false_or]at hE
  refine Zb7 (k67) ?_
  refine wS ?_
  refine Br.isT (by rfl) ?_
  refine wS ?_
  refine Zb7 (c72 b.night 0 (b.last+1)) ?_
  refine wS ?_
  refine⟨fun hb'=>?_,fun hb'=>?_⟩
  ·have hb':Yx b.night 0 (b.last+1)=false:=by simpa using hb'
   rw[if_pos (by simp[hb'])]at hE
   subst hE
   (cbv;(try simp only[nc]at*);(try refine Chk.mk (Qa) ?_))
   (try first|exact⟨rfl,trivial⟩|exact⟨trivial,trivial⟩)
  ·have hb':Yx b.night 0 (b.last+1)=true:=by simpa using hb'
   rw[if_neg (by simp[hb'])]at hE
   subst hE
   (cbv;(try simp only[nc]at*);(try refine Chk.mk (Qa) ?_))
   (try first|exact⟨rfl,trivial⟩|exact⟨trivial,trivial⟩)
end Go.Proofs.YtjgpiclllehgmaaGreat.Vm
namespace Go.Proofs.YtjgpiclllehgmaaGreat.Vm
open Go Go.Proofs Sp
set_option maxRecDepth 100000
set_option maxHeartbeats 1600000
attribute [local irreducible] Dn
theorem Zu6 (b:XL) (day:Int):SC (fun _=>Tryz.prog) 168 [Zc b,.int .i64 fun _=>day] [] fun v h=>v=lst 3 encTrain default (QT b day)∧h=[]:=by
 refine QP Tryz.func168 (body:=Zk Tryz.f168) rfl (by decide+kernel) ?_
 unfold Zc QT
 refine wS ?_
 refine⟨fun hb=>?_,fun hb=>?_⟩
 ·simp only[decide_eq_true_eq]at hb
  rw[if_pos hb]
  (cbv;(try simp only[nc]at*);(try refine Chk.mk (Qa) ?_))
  (try first|exact⟨rfl,trivial⟩|exact⟨trivial,trivial⟩)
 ·simp only[decide_eq_false_iff_not]at hb
  rw[if_neg hb]
  (cbv;(try simp only[nc]at*);(try refine Chk.mk (Qa) ?_))
  (try first|exact⟨rfl,trivial⟩|exact⟨trivial,trivial⟩)
theorem Zu4 (t:Train) (day:Int) (hd:0≤day∧day≤1000000) (ht:0≤t.days∧t.days≤1000000):SC (fun _=>Tryz.prog) 170 [.agg (encTrain t),.int .i64 fun _=>day] [] fun v h=>v= .bool (fun _=>Zbe t day)∧h=[]:=by
 refine QP Tryz.func170 (body:=Zk Tryz.f170) rfl (by decide+kernel) ?_
 have e:=(ZqW day 7).1 hd.1
 refine vS ?_
 rw[e]
 refine Chk.mk (Qa) ?_
 refine vS ?_
 refine⟨?_,trivial⟩
 congr 1;funext _
 rw[Nat.min_eq_left (show(day%7).toNat≤IntKind.i64.bits by show _≤64;omega),Int.fdiv_eq_ediv_of_nonneg _ (Int.le_of_lt (Int.pow_pos (by omega)))]
 have hq:0≤t.days/2^(day%7).toNat:=Int.ediv_nonneg ht.1 (Int.le_of_lt (Int.pow_pos (by omega)))
 have hle:t.days/2^(day%7).toNat≤t.days:=Int.ediv_le_self _ ht.1
 unfold Zbe
 generalize t.days/2^(day%7).toNat=q at*
 rw[Zk7 q hq (by omega),ZaT]
theorem Zu5 (l:List Train) (n:Int) (hl:l.length≤1000000):SC (fun _=>Tryz.prog) 169 [lst 3 encTrain default l,.int .i64 fun _=>n] [] fun v h=>v= .int .i64 (fun _=>place l n)∧h=[]:=by
 obtain⟨nt,hnt⟩:=Zs
 unfold place
 generalize hE:Zw (fun t:Train=>decide (t.number=n)) 0 l=E
 rw[Za hnt]
 refine QP Tryz.func169 (body:=Zk Tryz.f169) rfl (by decide+kernel) ?_
 refine wS ?_
 refine ZV false false [] [0,1,5] [] (fun(i:Nat)=>[(5,.int .i64 fun _=>(i:Int))]) (fun _=>[]) (fun i=>i≤l.length∧Zw (fun t:Train=>decide (t.number=n)) i (l.drop i)=E) (fun i=>l.length-i+0) 0 ⟨Nat.zero_le _,by simpa using hE⟩ ?_ ?_
 ·exact ZI
 rintro i ⟨hi,hp⟩
 refine wS ?_
 refine⟨fun hb=>?_,fun hb=>?_⟩
 ·simp only[decide_eq_true_eq]at hb
  rw[Qu (d:=default) hnt (l:=l) (i:=i) (by omega),Zw]at hp
  refine wS ?_
  simp only[ZaT]
  refine⟨fun h1=>?_,fun h1=>?_⟩
  ·rw[if_pos h1]at hp
   subst hp
   (cbv;(try simp only[nc]at*);(try refine Chk.mk (Qa) ?_))
   (try first|exact⟨rfl,trivial⟩|exact⟨trivial,trivial⟩)
  ·rw[if_neg (by rw[h1];exact Bool.false_ne_true)]at hp
   refine wS ?_
   refine⟨i+1,⟨by omega,by rw[←hp];rfl⟩,by show l.length-(i+1)+0<l.length-i+0;omega,?_⟩
   exact ZI
 ·simp only[decide_eq_false_iff_not]at hb
  rw[List.drop_eq_nil_of_le (by omega),Zw]at hp
  subst hp
  (cbv;(try simp only[nc]at*);(try refine Chk.mk (Qa) ?_))
  (try first|exact⟨rfl,trivial⟩|exact⟨trivial,trivial⟩)
theorem ZhG:∀(l:List Chg) (fr a r t:Int),(∀p∈QG fr a l,p.fr<Xk∧r-p.ahd<Xk)→t<Xk→QW (QG fr a l) r t<Xk
 |[],fr,a,r,t,h,ht=>by
  have:=h ⟨fr,Xk,a⟩ (by simp[QG])
  simp only[QG,QW]at*
  rw[if_pos (by omega)]
  omega
 |c::l,fr,a,r,t,h,ht=>by
  unfold QG at h⊢
  split
  ·rename_i hc
   rw[if_pos hc]at h
   unfold QW
   split
   ·have:=h ⟨fr,c.at_,a⟩ (List.mem_cons_self ..)
    simp only at this⊢
    omega
   ·exact ZhG l _ _ _ _ (fun p hp=>h p (List.mem_cons_of_mem _ hp)) ht
  ·rename_i hc
   rw[if_neg hc]at h
   exact ZhG l _ _ _ _ h ht
theorem ZkW:∀(l:List Pc) (r t:Int),0≤t→0≤QW l r t
 |[],_,_,_=>by unfold QW Xk;omega
 |p::l,r,t,h=>by
  unfold QW
  split
  ·omega
  ·exact ZkW l r t h
theorem ZiL {z:Zone} (hz:Zu z=0) {r t:Int} (hr:r≤1000000) (ht:0≤t∧t<Xk):0≤QW (ZP z) r t∧QW (ZP z) r t<Xk:=by
 refine⟨ZkW _ _ _ ht.1,ZhG _ _ _ _ _ (fun p hp=>?_) ht.2⟩
 have:=(Zdf hz).2 p hp
 unfold Xk
 omega
theorem Zu3 (b:XL) (t:Train) (day:Int) (hb':∀z∈b.zones,Zu z=0) (ht:∀s∈t.stops,(0≤s.zone∧s.zone<b.zones.length)∧(0≤s.arrive∧s.arrive≤10000)∧0≤s.depart∧s.depart≤10000) (hlen:2≤t.stops.length∧t.stops.length≤1000) (hd:0≤day∧day≤100):
  SC (fun _=>Tryz.prog) 171 [Zc b,.agg (encTrain t),.int .i64 fun _=>day] [] fun v h=>v=lst 3 XK default (calls b.zones t day)∧h=[]:=by
 obtain⟨nt,hnt⟩:=Zs
 refine SC.less (Zsy false false [] Tryz.func171 (body:=Zk Tryz.f171) rfl (by decide+kernel) ?_)
 rw[Zi5 hnt]
 rw[show AV.agg (encTrain t)= .agg [.int .i64 fun _=>t.number,.int .i64 fun _=>t.days,.isl 4 (fun _=>(t.stops.length:Int)) (fun e=>Q0 (nt Stop default t.stops (e ()))) .none] by unfold encTrain;rw[Za hnt]]
 refine wS ?_
 refine ZV false false [] [2,3,4,7,8,9] [.tok 3 fun _=>0] (fun(⟨i,now,out⟩:Nat×Int×List Sp.Call)=>[(7,.isl 3 (fun _=>(out.length:Int)) (fun e=>XK (nt Sp.Call default out (e ()))) (.own 2)),(8,.int .i64 fun _=>now),(9,.int .i64 fun _=>(i:Int))])
  (fun⟨i,now,out⟩=>[(2,.tok 3 fun _=>(out.length:Int))])
  (fun⟨i,now,out⟩=>(i≤t.stops.length∧out.length=i∧calls b.zones t day=out++QQ b.zones day t.stops.length i now (t.stops.drop i))∧0≤now∧now<Xk) (fun i=>t.stops.length-i.1+0) (0,0,[]) ⟨⟨Nat.zero_le _,rfl,rfl⟩,by decide,by decide⟩ ?_ ?_
 ·(refine To.of [(3,false)] ?_;cbv;(try simp only[nc]);(repeat' (first|exact trivial|exact ZD.refl _|exact ZL.refl _|refine⟨?_,?_⟩|refine ZL.cells ?_|refine ZD.agg ?_|refine ZD.tup ?_));(all_goals (first|exact X9|skip)))
 rintro⟨i,now,out⟩ ⟨⟨hi,ho,hp⟩,hn⟩
 have hgz:∀k:Nat,k<t.stops.length→Zu (nt Zone default b.zones (nt Stop default t.stops (k:Int)).zone)=0:=fun k hk=>hb' _ (by
  have:=ht _ (XF (d:=default) hnt (l:=t.stops) (i:=k) hk)
  rw[hnt,List.getD_eq_getElem?_getD,List.getElem?_eq_getElem (by omega)];exact List.getElem_mem _)
 have hgd:∀z:Int,b.zones.getD z.toNat default=nt Zone default b.zones z:=fun z=>by rw[hnt]
 refine wS ?_
 refine⟨fun hb=>?_,fun hb=>?_⟩
 ·simp only[decide_eq_true_eq]at hb
  have hil:i<t.stops.length:=by omega
  have hs:=ht _ (XF (d:=default) hnt (l:=t.stops) (i:=i) hil)
  have hz:=hgz i hil
  rw[Qu (d:=default) hnt hil,QQ]at hp
  simp only[hgd]at hp
  refine wS ?_
  generalize nt Stop default t.stops (i:Int)=s at*
  generalize hZ:nt Zone default b.zones s.zone=z at*
  have ka:=fun n hn=>Zt5 z (1440*day+s.arrive) n hz (by omega) hn
  have kd:=fun n hn=>Zt5 z (1440*day+s.depart) n hz (by omega) hn
  have fa:=fun n hn=>ZiL (t:=n) hz (show 1440*day+s.arrive≤1000000 by omega) hn
  have fd:=fun n hn=>ZiL (t:=n) hz (show 1440*day+s.depart≤1000000 by omega) hn
  generalize hL:ZP z=L at*
  rcases Nat.eq_zero_or_pos i with h0|h0
  ·subst h0
   rw[if_pos rfl,if_pos (by omega)]at hp
   refine Br.isF (by simp) ?_
   refine wS ?_
   refine Br.isT (by simp;omega) ?_
   refine vS ?_
   simp only[hZ]
   refine Chk.mk (Qa) ?_
   refine Zb7 (kd now hn) ?_
   have fd:=fd now hn
   try dsimp only at hp
   generalize QW L (1440*day+s.depart) now=d at*
   refine wS ?_
   refine Br.isT (by simp) ?_
   refine wS ?_
   refine⟨(1,d,out++[⟨s.station,d,d⟩]),⟨⟨by omega,by simp only[List.length_append,List.length_cons,List.length_nil];omega,by rw[hp];simp⟩,fd⟩,by show t.stops.length-1+0<t.stops.length-0+0;omega,?_⟩
   exact ZI
  ·rw[if_neg (by omega)]at hp
   refine Br.isT (by simp;omega) ?_
   refine vS ?_
   simp only[hZ]
   refine Chk.mk (Qa) ?_
   refine Zb7 (ka now hn) ?_
   have fa:=fa now hn
   try dsimp only at hp
   generalize QW L (1440*day+s.arrive) now=a at*
   refine wS ?_
   refine⟨fun h1=>?_,fun h1=>?_⟩
   ·simp only[decide_eq_true_eq]at h1
    rw[if_pos (by omega)]at hp
    refine vS ?_
    simp only[hZ]
    refine Chk.mk (Qa) ?_
    refine Zb7 (kd a fa) ?_
    have fd:=fd a fa
    generalize QW L (1440*day+s.depart) a=d at*
    refine wS ?_
    refine Br.isF (by simp;omega) ?_
    refine wS ?_
    refine⟨(i+1,d,out++[⟨s.station,a,d⟩]),⟨⟨by omega,by simp only[List.length_append,List.length_cons,List.length_nil];omega,by rw[hp];simp⟩,fd⟩,by show t.stops.length-(i+1)+0<t.stops.length-i+0;omega,?_⟩
    exact ZI
   ·simp only[decide_eq_false_iff_not]at h1
    rw[if_neg (by omega)]at hp
    refine wS ?_
    refine Br.isF (by simp;omega) ?_
    refine wS ?_
    refine⟨(i+1,a,out++[⟨s.station,a,a⟩]),⟨⟨by omega,by simp only[List.length_append,List.length_cons,List.length_nil];omega,by rw[hp];simp⟩,fa⟩,by show t.stops.length-(i+1)+0<t.stops.length-i+0;omega,?_⟩
    exact ZI
 ·simp only[decide_eq_false_iff_not]at hb
  rw[List.drop_eq_nil_of_le (by omega),QQ,List.append_nil]at hp
  rw[hp]
  refine wS ?_
  refine⟨lst 3 XK default out,[],?_,rfl,rfl⟩
  simp only[Za hnt]
  exact ZI
theorem Zlu (l:List Train) (n:Int):place l n=-1∨0≤place l n∧place l n<l.length:=by
 have:=Xz (q:=fun t:Train=>decide (t.number=n)) (l:=l) (i:=0) (by omega)
 rcases Nat.eq_zero_or_pos l.length with h|h
 ·rw[List.eq_nil_of_length_eq_zero h];exact .inl rfl
 ·unfold place;omega
theorem Zu7 (b:XL) (n day:Int) (hf:YG b):SC (fun _=>Tryz.prog) 128 [Zc b,.int .i64 fun _=>n,.int .i64 fun _=>day] [] fun v h=>v= .tup [lst 3 XK default (J4 b n day).1,.int .i64 fun _=>(J4 b n day).2]∧h=[]:=by
 obtain⟨nt,hnt⟩:=Zs
 refine SC.less (QP Tryz.func128 (body:=Zk Tryz.f128) rfl (by decide+kernel) ?_)
 unfold Zc J4
 simp only[Za hnt]
 refine wS ?_
 refine Zb7 (c25 b hf) ?_
 have hok0:=fun h=>ZbY (b:=b) h
 generalize Yw b=e at*
 refine vS ?_
 refine⟨fun hb=>?_,fun hb=>?_⟩
 ·simp only[bne_iff_ne,ne_eq]at hb
  rw[if_pos hb]
  refine wS ?_
  refine⟨_,[],?_,rfl,rfl⟩
  exact ZI
 simp only[bne_eq_false_iff_eq]at hb
 have hok:=hok0 hb
 subst hb
 rw[if_neg (fun h=>h rfl)]
 refine wS ?_
 refine Zb7 (c72 day 0 b.last) ?_
 refine vS ?_
 refine⟨fun hb=>?_,fun hb=>?_⟩
 ·rw[if_pos hb]
  refine wS ?_
  refine⟨_,[],?_,rfl,rfl⟩
  exact ZI
 rw[if_neg (by rw[hb];exact Bool.false_ne_true)]
 have hday:=JX (by simpa using hb:Yx day 0 b.last=true)
 have hlast:=hok.last
 have htab:=ZeN hok day
 refine wS ?_
 refine Zb7 (Zu6 b day) ?_
 have hpl:=Zlu (QT b day) n
 generalize QT b day=l at*
 refine wS ?_
 refine Zb7 (Zu5 l n (by omega)) ?_
 generalize place l n=p at*
 refine vS ?_
 refine⟨fun hb=>?_,fun hb=>?_⟩
 ·simp only[decide_eq_true_eq]at hb
  rw[if_pos hb]
  refine wS ?_
  refine⟨_,[],?_,rfl,rfl⟩
  exact ZI
 simp only[decide_eq_false_iff_not]at hb
 rw[if_neg hb]
 obtain⟨k,rfl⟩:∃k:Nat,p=k:=⟨p.toNat,by omega⟩
 refine wS ?_
 have hTk:=htab.2 _ (XF (d:=default) hnt (l:=l) (i:=k) (by omega))
 have hgk:l.getD (k:Int).toNat default=nt Train default l k:=by rw[hnt]
 rw[hgk]
 have hdays:=hTk.days
 refine Zb7 (Zu4 (nt Train default l k) day (by omega) (by omega)) ?_
 refine vS ?_
 refine⟨fun hb=>?_,fun hb=>?_⟩
 ·rw[if_pos hb]
  refine wS ?_
  refine⟨_,[],?_,rfl,rfl⟩
  exact ZI
 rw[if_neg (by rw[hb];exact Bool.false_ne_true)]
 refine wS ?_
 have hlen:=hTk.len
 refine Zb7 (Zu3 b (nt Train default l k) day hok.zones (fun s hs=>by obtain⟨_,h1,h2,h3⟩:=hTk.stops s hs;omega) (by omega) (by omega)) ?_
 generalize calls b.zones (nt Train default l k) day=C at*
 refine wS ?_
 refine⟨_,[],?_,rfl,rfl⟩
 (try simp only[ZaN hnt])
 exact ZI
end Go.Proofs.YtjgpiclllehgmaaGreat.Vm
namespace Go.Proofs.YtjgpiclllehgmaaGreat.Sp
def Qx (b:XL) (d:Qq):List Call×Bool:=if Q5 (J4 b d.number d.day).1≠0 then([],false)else((J4 b d.number d.day).1,decide ((J4 b d.number d.day).2=0))
end Go.Proofs.YtjgpiclllehgmaaGreat.Sp
namespace Go.Proofs.YtjgpiclllehgmaaGreat.Vm
attribute [local irreducible] Dn
open Go Go.Proofs Sp
set_option maxRecDepth 100000
set_option maxHeartbeats 4000000
theorem ZqI (b:XL) (d:Sp.Qq) (hf:YG b):SC (fun _=>Tryz.prog) 75 [Zc b,.agg (Zg d)] [] fun v h=>v= .tup [lst 3 XK default (Qx b d).1,.bool fun _=>(Qx b d).2]∧h=[]:=by
 obtain⟨nt,hnt⟩:=Zs
 have k:=Zu7 b d.number d.day hf
 have hlen:=(Zhg b d.number d.day).1
 have hE:Qx b d=if Q5 (J4 b d.number d.day).1≠0 then([],false)else((J4 b d.number d.day).1,decide ((J4 b d.number d.day).2=0)):=rfl
 generalize Qx b d=E at*
 generalize J4 b d.number d.day=r at*
 obtain⟨C,er⟩:=r
 unfold Zc Zg at*
 simp only[Za hnt]at*
 refine SC.less (QP Tryz.func75 (body:=Zk Tryz.f75) rfl (by decide+kernel) ?_)
 refine wS ?_
 refine ZS (k) (by first|rfl|(simp only[Zd,Zc,Za hnt];rfl)) fun r h₂ hp=>?_
 (try simp only[Zd,Zc,Za hnt]at hp)
 obtain⟨rfl,rfl⟩:=hp
 try dsimp only at hE hlen
 refine wS ?_
 refine Zai fun Q hQ=>?_
 refine ZV false false [] [6,7,8] [] (fun(j:Nat)=>[(8,.int .i64 fun _=>((j+1:Nat):Int))]) (fun _=>[]) (fun j=>Q5 C=Zp (Jg C) (j+1) (C.length-(j+1))) (fun j=>C.length-(j+1)+0) 0 rfl ?_ ?_
 ·exact ZI
 rintro j hpk
 refine wS ?_
 refine⟨fun hb=>?_,fun hb=>?_⟩
 ·simp only[decide_eq_true_eq]at hb
  rw[Xd (by omega)]at hpk
  have hoa:Jg C (j+1)=if(nt Sp.Call default C ((j+1:Nat):Int)).arrive≤(nt Sp.Call default C (((j+1:Nat):Int)-1)).depart then 5 else 0:=by
   unfold Jg
   rw[Jc hnt,Jc hnt,show((j+1-1:Nat):Int)=((j+1:Nat):Int)-1 by omega]
  refine wS ?_
  refine⟨fun hb'=>?_,fun hb'=>?_⟩
  ·simp only[decide_eq_true_eq]at hb'
   rw[if_pos (by omega)]at hoa
   rw[hoa,if_pos (by decide)]at hpk
   rw[if_pos (by rw[hpk];decide)]at hE
   subst hE
   refine wS ?_
   refine hQ _ _ _ ?_
   refine wS ?_
   refine⟨_,[],?_,rfl,rfl⟩
   exact ZI
  ·simp only[decide_eq_false_iff_not]at hb'
   rw[if_neg (by omega)]at hoa
   rw[hoa,if_neg (fun h=>h rfl)]at hpk
   refine wS ?_
   refine⟨j+1,hpk,by show C.length-(j+1+1)+0<C.length-(j+1)+0;omega,?_⟩
   exact ZI
 ·simp only[decide_eq_false_iff_not]at hb
  rw[XA (by omega)]at hpk
  rw[if_neg (fun h=>h hpk)]at hE
  subst hE
  refine wS ?_
  refine hQ _ _ _ ?_
  refine wS ?_
  refine⟨_,[],?_,rfl,rfl⟩
  exact ZI
theorem ZtZ (b:XL) (d:Sp.Qq) (hf:YG b) (hn:(Qx b d).2=false):SC (fun _=>Tryz.prog) 75 [Zc b,.agg (Zg d)] [] fun v h=>v= .tup [.undef,.bool fun _=>false]∧h=[]:=by
 refine SC.less (SC.mono (ZqI b d hf) fun r h' hr=>?_)
 obtain⟨rfl,rfl⟩:=hr
 rw[hn]
 generalize (Qx b d).1=C
 refine⟨.tup [.undef,.bool fun _=>false],[],?_,rfl,rfl⟩
 exact ZI
end Go.Proofs.YtjgpiclllehgmaaGreat.Vm
namespace Go.Proofs.YtjgpiclllehgmaaGreat.Vm
open Sp
theorem J1 {f:Nat→Int}:∀ {k i:Nat},(∀j,i≤j→j<i+k→f j=0)→Zp f i k=0
 |0,_,_=>rfl
 |k+1,i,h=>by
  unfold Zp
  rw[if_neg (fun hne=>hne (h i (Nat.le_refl _) (by omega)))]
  exact J1 fun j h1 h2=>h j (by omega) (by omega)
theorem Zfv {n a b:Int} (h1:a≤n) (h2:n≤b):Yx n a b=true:=by simp[Yx,h1,h2]
theorem JU {n a b:Int} (h1:a≤n) (h2:n≤b):Xw n a b=false:=by unfold Xw;rw[Zfv h1 h2];rfl
theorem ZoJ {n a b:Int} (h1:a≤n) (h2:n≤b):ZJ n a b=0:=by
 unfold ZJ
 rw[if_neg (by omega),if_neg (by omega)]
theorem Zmk {k:Int} {z:Zone} (h:ZoX k z) (hk:k≤3):Zu z=0:=by
 have hb:=h.base
 have hl:=h.len
 unfold Zu
 rw[if_neg (by simp[Yx];omega),if_neg (by omega)]
 have key:∀(l:List Chg) (p:Option Int),(∀c∈l,0≤c.at_∧c.at_≤43200∧Zpa c.by_)→l.Pairwise (fun a b=>a.at_<b.at_)→(∀a,p=some a→∀c∈l,a<c.at_)→YO p l=0:=by
  intro l
  induction l with
  |nil=>intro p _ _ _;exact Zct p
  |cons c l ih=>
   intro p h1 h2 h3
   obtain⟨b1,b2,b3⟩:=h1 c (List.mem_cons_self ..)
   have hle:leP p c.at_=false:=by
    cases p with
    |none=>rfl
    |some a=>have:=h3 a rfl c (List.mem_cons_self ..);simp[leP];omega
   rw[Yu,if_neg (by simp[Yx];omega),hle]
   unfold Zpa at b3
   have h4:(!Yx c.by_ (-180) 180||decide (c.by_=0))=false:=by
    have g1:Yx c.by_ (-180) 180=true:=by simp[Yx];omega
    have g2:decide (c.by_=0)=false:=by simp;omega
    rw[g1,g2];rfl
   rw[h4]
   simp only[Bool.false_eq_true,if_false]
   rw[List.pairwise_cons]at h2
   exact ih _ (fun x hx=>h1 x (List.mem_cons_of_mem _ hx)) h2.2 fun a e x hx=>by cases e;exact h2.1 x hx
 exact key _ none (fun c hc=>by
  have h1:=h.at_ c hc
  have:0<z.chs.length:=List.length_pos_of_mem hc
  exact⟨h1.1,by omega,h.by_ c hc⟩) h.asc fun a e=>by cases e
theorem Zft {α:Type} {q:α→Bool} {d:α}:∀ {l:List α} {i:Nat} {k:Int},i<l.length→q (l.getD i d)=true→(∀j,j<i→q (l.getD j d)=false)→Zw q k l=k+i
 |[],i,k,h,_,_=>by simp at h
 |a::l,i,k,h,hi,hj=>by
  unfold Zw
  cases i with
  |zero=>
   rw[show q a=true from hi,if_pos rfl]
   simp
  |succ i=>
   rw[show q a=false from hj 0 (by omega),if_neg Bool.false_ne_true,Zft (d:=d) (i:=i) (by simpa using h) hi fun j h'=>hj (j+1) (by omega)]
   omega
theorem ZjS {α:Type} {d:α} {l:List α} {i:Nat} (h:i<l.length):l.getD i d∈l:=by rw[List.getD_eq_getElem?_getD,List.getElem?_eq_getElem h];exact List.getElem_mem _
theorem Zn4 {α:Type} {d:α} {r:α→α→Prop} {l:List α} (h:l.Pairwise r) {i j:Nat} (hij:i<j) (hj:j<l.length):r (l.getD i d) (l.getD j d):=by
 have:=List.pairwise_iff_getElem.1 h i j (by omega) hj hij
 rw[List.getD_eq_getElem?_getD,List.getD_eq_getElem?_getD,List.getElem?_eq_getElem (by omega),List.getElem?_eq_getElem hj]
 exact this
structure DL (n:Int) (l:List Train):Prop where
 all:∀(k:Nat),k<l.length→∃st:Nat,2≤st∧st≤10∧Zjm st (n-k) (l.getD k default)
theorem DL.snoc {n:Int} {l:List Train} {t:Train} {st:Nat} (h:DL n l) (h1:2≤st∧st≤10) (ht:Zjm st (n-l.length) t):DL n (l++[t]):=⟨fun k hk=>by
 simp only[List.length_append,List.length_cons,List.length_nil]at hk
 by_cases h2:k<l.length
 ·rw[List.getD_eq_getElem?_getD,List.getElem?_append_left h2,←List.getD_eq_getElem?_getD]
  exact h.all k h2
 ·have hk:k=l.length:=by omega
  subst hk
  have e:(l++[t]).getD l.length default=t:=by simp[List.getD_eq_getElem?_getD]
  rw[e]
  exact⟨st,h1.1,h1.2,ht⟩⟩
def Zn (z:Zone) (old:List Train):XL:=⟨[z],old,[],1,0⟩
theorem Zqz {st:Nat} {number:Int} {t:Train} (hst:st≤10) (h:ZgY 1 st number t):YD 1 t.stops=0:=by
 refine J1 fun j _ hj=>?_
 have hj:j<t.stops.length:=by omega
 obtain⟨h1,h2,h3,h4,h5⟩:=h.stop _ (ZjS (d:=default) hj)
 unfold Q3 YP
 rw[Zfv h1.1 (by omega)]
 have hany:(t.stops.take j).any (fun x=>decide (x.station=(t.stops.getD j default).station))=false:=by
  rw[List.any_eq_false]
  intro x hx
  obtain⟨i,hi,rfl⟩:=List.mem_iff_getElem.1 hx
  have hi':i<j:=by simp at hi;omega
  have:=Zn4 (d:=default) h.nodup hi' hj
  rw[List.getD_eq_getElem?_getD,List.getElem?_eq_getElem (show i<t.stops.length by omega)]at this
  simpa using this
 rw[hany,Zfv h2.1 (by omega),Zfv h3 (by omega),Zfv (by omega:(0:Int)≤_) h5]
 have hd:decide ((t.stops.getD j default).depart<(t.stops.getD j default).arrive)=false:=decide_eq_false (by omega)
 rw[hd]
 simp
theorem Zee {n:Int} {l:List Train} (h:DL n l) {i:Nat} (hi:i<l.length):(l.getD i default).number=n-i:=by
 obtain⟨st,_,_,ht⟩:=h.all i hi
 exact ht.made.number
theorem ZhN {z:Zone} {n:Int} {l:List Train} (hz:Zu z=0) (h:DL n l) (hn:n=l.length) (hl:l.length≤4):Yw (Zn z l)=0:=by
 have h1:Qf 1 l=0:=by
  unfold Qf
  rw[ZoJ (show(0:Int)≤l.length by omega) (by omega),if_neg (fun h=>h rfl)]
  refine J1 fun j _ hj=>?_
  have hj:j<l.length:=by omega
  obtain⟨st,_,hst,ht⟩:=h.all j hj
  have hlen:=ht.made.len
  unfold QL
  rw[Zfv (by rw[Zee h hj];omega) (by rw[Zee h hj];omega)]
  have hany:(l.take j).any (fun x=>decide (x.number=(l.getD j default).number))=false:=by
   rw[List.any_eq_false]
   intro x hx
   obtain⟨i,hi,rfl⟩:=List.mem_iff_getElem.1 hx
   have hi':i<j:=by simp at hi;omega
   have hx:=Zee h (show i<l.length by omega)
   rw[List.getD_eq_getElem?_getD,List.getElem?_eq_getElem (show i<l.length by omega)]at hx
   rw[Zee h hj,List.getElem_take]
   have hx:l[i].number=n-i:=hx
   rw[hx]
   simp
   omega
  rw[hany,Zfv ht.made.days.1 ht.made.days.2,ZoJ (by omega) (by omega)]
  simp only[Bool.not_true,Bool.false_eq_true,if_false,ne_eq,not_true_eq_false]
  exact Zqz hst ht.made
 unfold Yw Zn
 simp only[List.length_cons,List.length_nil]
 rw[show Qf ((0+1:Nat):Int) l=0 from h1]
 rw[J1 (f:=fun i=>Zu ([z].getD i default)) (k:=0+1) (i:=0) (fun j _ hj=>by
  have:j=0:=by omega
  subst this
  exact hz)]
 rfl
theorem ZkK {z:Zone} {n:Int} {l:List Train} (hc:Yw (Zn z l)=0) (h:DL n l) {j:Nat} (hj:j<l.length):J4 (Zn z l) (l.getD j default).number 0=(Sp.calls [z] (l.getD j default) 0,0):=by
 obtain⟨st,_,hst,ht⟩:=h.all j hj
 have hp:place l (l.getD j default).number=j:=by
  unfold place
  rw[Zft (d:=default) hj (by simp) fun i hi=>by
   rw[Zee h hj,Zee h (show i<l.length by omega)]
   simp
   omega]
  omega
 unfold J4
 rw[if_neg (fun hne=>hne hc)]
 show(if(!Yx 0 0 0)=true then _ else _)=_
 rw[if_neg (by decide)]
 show(if place l (l.getD j default).number<0 then _ else if(!Zbe (l.getD (place l (l.getD j default).number).toNat default) 0)=true then _ else(Sp.calls [z] (l.getD (place l (l.getD j default).number).toNat default) 0,0))=_
 rw[hp,if_neg (by omega),Int.toNat_natCast]
 have:Zbe (l.getD j default) 0=true:=by
  unfold Zbe
  rw[ht.days]
  decide
 rw[this]
 rfl
theorem ZcX (zs:List Zone) (day:Int) (many:Nat):∀(l:List Stop) (i:Nat) (now:Int),(QQ zs day many i now l).map (·.station)=l.map (·.station)
 |[],_,_=>rfl
 |s::r,i,now=>by
  unfold QQ
  split
  ·simp[ZcX zs day many r]
  ·simp[ZcX zs day many r]
structure Zjj (r:List Sp.Call):Prop where
 len:2≤r.length∧r.length≤4
 st:r.Pairwise fun a b=>a.station≠b.station
 asc:Q5 r=0
theorem ZnT {z:Zone} {st:Nat} {number:Int} {t:Train} (h:Zjm st number t) (ho:Q5 (Sp.calls [z] t 0)=0):Zjj (Sp.calls [z] t 0):=by
 have hl:(Sp.calls [z] t 0).length=t.stops.length:=YF _ _ _ _ _ _
 refine⟨by rw[hl];exact⟨h.made.len.1,h.made.len.2.1⟩,?_,ho⟩
 have e:(Sp.calls [z] t 0).map (·.station)=t.stops.map (·.station):=ZcX _ _ _ _ _ _
 have h1:(t.stops.map (·.station)).Pairwise (· ≠·):=List.pairwise_map.2 h.made.nodup
 rw[←e]at h1
 exact List.pairwise_map.1 h1
def eAt (many i:Nat) (s:Stop):Sp.Call:=if i=0 then⟨s.station,if i+1<many then s.depart else 0,if i+1<many then s.depart else 0⟩else⟨s.station,s.arrive,if i+1<many then s.depart else s.arrive⟩
def eGo (many:Nat):Nat→List Stop→List Sp.Call
 |_,[]=>[]
 |i,s::r=>eAt many i s::eGo many (i+1) r
theorem Zop {r now:Int} (h1:0≤r∧r≤10000) (h2:0≤now∧now≤r):QW (ZP ⟨0,[]⟩) r now=r:=by
 show(if max 0 (max now (r-0))<Xk then max 0 (max now (r-0))else Xk)=r
 unfold Xk
 rw[if_pos (by omega)]
 omega
theorem Zor {many:Nat}:∀(l:List Stop) (i:Nat) (now:Int),(∀s∈l,s.zone=0∧0≤s.arrive∧s.arrive≤s.depart∧s.depart≤5000)→(∀k,k+1<l.length→(l.getD k default).depart<(l.getD (k+1) default).arrive)→
  (0≤now∧∀s∈l.head?,if i=0 then now=0 else now<s.arrive)→QQ [⟨0,[]⟩] 0 many i now l=eGo many i l
 |[],_,_,_,_,_=>rfl
 |s::r,i,now,hs,ha,hn=>by
  obtain⟨z0,a0,a1,a2⟩:=hs s (List.mem_cons_self ..)
  have hn1:=hn.1
  have hn2:=hn.2 s (by simp)
  have hz:([⟨0,[]⟩]:List Zone).getD s.zone.toNat default=⟨0,[]⟩:=by rw[z0];rfl
  have hnext:∀d:Int,0≤d→d≤s.depart→0≤d∧∀s'∈r.head?,if i+1=0 then d=0 else d<s'.arrive:=fun d h1 h2=>⟨h1,fun s' hs'=>by
   rw[if_neg (by omega)]
   cases r with
   |nil=>cases hs'
   |cons x r=>
    have:x=s':=by simpa using hs'
    subst this
    have:=ha 0 (by simp)
    exact Int.lt_of_le_of_lt h2 this⟩
  have har:∀k,k+1<r.length→(r.getD k default).depart<(r.getD (k+1) default).arrive:=fun k hk=>ha (k+1) (by simpa using hk)
  have hsr:∀s∈r,s.zone=0∧0≤s.arrive∧s.arrive≤s.depart∧s.depart≤5000:=fun x hx=>hs x (List.mem_cons_of_mem _ hx)
  unfold QQ eGo eAt
  rw[hz]
  by_cases h0:i=0
  ·rw[if_pos h0]at hn2
   subst hn2
   simp only[if_pos h0]
   have e:QW (ZP ⟨0,[]⟩) (1440*0+s.depart) 0=s.depart:=by rw[show(1440:Int)*0+s.depart=s.depart by omega];exact Zop (by omega) (by omega)
   rw[e]
   rw[Zor r (i+1) _ hsr har (hnext _ (by split<;>omega) (by split<;>omega))]
  ·rw[if_neg h0]at hn2
   simp only[if_neg h0]
   have e:QW (ZP ⟨0,[]⟩) (1440*0+s.arrive) now=s.arrive:=by rw[show(1440:Int)*0+s.arrive=s.arrive by omega];exact Zop (by omega) (by omega)
   have e2:QW (ZP ⟨0,[]⟩) (1440*0+s.depart) s.arrive=s.depart:=by rw[show(1440:Int)*0+s.depart=s.depart by omega];exact Zop (by omega) (by omega)
   rw[e,e2]
   rw[Zor r (i+1) _ hsr har (hnext _ (by split<;>omega) (by split<;>omega))]
theorem ZhL {many:Nat}:∀(l:List Stop) (i k:Nat),k<l.length→(eGo many i l).getD k default=eAt many (i+k) (l.getD k default)
 |[],_,k,h=>by simp at h
 |s::r,i,0,_=>rfl
 |s::r,i,k+1,h=>by
  have:=ZhL (many:=many) r (i+1) k (by simpa using h)
  rw[show i+1+k=i+(k+1) by omega]at this
  exact this
theorem ZjC {st:Nat} {number:Int} {t:Train} (h:Zjm st number t):Q5 (Sp.calls [⟨0,[]⟩] t 0)=0:=by
 have e:Sp.calls [⟨0,[]⟩] t 0=eGo t.stops.length 0 t.stops:=Zor _ _ _ (fun s hs=>by
  have:=h.made.stop s hs
  have:=h.late s hs
  omega) h.asc ⟨Int.le_refl _,fun s hs=>by rw[if_pos rfl]⟩
 have hl:(Sp.calls [⟨0,[]⟩] t 0).length=t.stops.length:=YF _ _ _ _ _ _
 unfold Q5
 rw[hl,e]
 refine J1 fun k hk1 hk2=>?_
 have hlen:=h.made.len
 unfold Jg
 rw[ZhL _ _ _ (by omega),ZhL _ _ _ (by omega)]
 have ha:=h.asc (k-1) (by omega)
 rw[show k-1+1=k by omega]at ha
 have hs:=h.made.stop _ (ZjS (d:=default) (show k-1<t.stops.length by omega))
 have h1:(eAt t.stops.length (0+k) (t.stops.getD k default)).arrive=(t.stops.getD k default).arrive:=by unfold eAt;rw[if_neg (by omega)]
 have h2:(eAt t.stops.length (0+(k-1)) (t.stops.getD (k-1) default)).depart≤(t.stops.getD (k-1) default).depart:=by
  unfold eAt
  split
  ·show(if _ then _ else(0:Int))≤_
   split<;>omega
  ·show(if _ then _ else _)≤_
   split<;>omega
 rw[h1,if_neg (by omega)]
theorem Zev {r:List Sp.Call} (hp:r.Pairwise fun a b=>a.station≠b.station) {f i:Nat} (hf:f≤i) (hi:i<r.length):ZM r f (r.getD i default).station=i:=by
 unfold ZM
 rw[show(max 0 (f:Int))=f by omega,Int.toNat_natCast]
 have hg:∀j,(r.drop f).getD j default=r.getD (f+j) default:=fun j=>by simp[List.getD_eq_getElem?_getD,List.getElem?_drop]
 rw[Zft (d:=default) (i:=i-f) (by rw[List.length_drop];omega) (by rw[hg,show f+(i-f)=i by omega];simp) fun j hj=>by
  rw[hg]
  have:=Zn4 (d:=default) hp (show f+j<i by omega) hi
  simpa using this]
 omega
theorem Ze1 {c:List (List Sp.Call)} {f:Int} (h:0≤f∧f<c.length):Sp.Zo c f∈c:=by
 unfold Sp.Zo
 exact ZjS (by omega)
theorem Zpd {c:List (List Sp.Call)} (hc:∀r∈c,Zjj r) {w:Sp.Xo} {before:List Sp.Xo} {i k:Nat} (hf:0≤w.feeder∧w.feeder<c.length) (ht:0≤w.train∧w.train<c.length) (hne:w.feeder≠w.train) (hi:1≤i∧i<(Sp.Zo c w.feeder).length) (hk:k+1<(Sp.Zo c w.train).length)
  (hs:w.station=((Sp.Zo c w.feeder).getD i default).station) (hs2:((Sp.Zo c w.train).getD k default).station=w.station) (ha:((Sp.Zo c w.feeder).getD i default).arrive≤((Sp.Zo c w.train).getD k default).depart) (hm:0≤w.minutes∧w.minutes≤60)
  (hn:before.any (fun x=>decide (x.feeder=w.feeder∧x.train=w.train∧x.station=w.station))=false):QA c w before=0:=by
 have h1:Qc (Sp.Zo c w.feeder) w.station=i:=by rw[hs];exact Zev (hc _ (Ze1 hf)).st hi.1 hi.2
 have h2:ZM (Sp.Zo c w.train) 0 w.station=k:=by rw[←hs2];exact Zev (hc _ (Ze1 ht)).st (Nat.zero_le _) (by omega)
 have h3:Z7 (Sp.Zo c w.train) w.station=k:=by unfold Z7;rw[h2,if_pos (by omega)]
 unfold QA
 rw[JU hf.1 (by omega),JU ht.1 (by omega),if_neg (by decide),if_neg hne]
 show(if Qc (Sp.Zo c w.feeder) w.station<0∨Z7 (Sp.Zo c w.train) w.station<0 then(3:Int)else if Xw w.minutes 0 60=true then 1 else if((Sp.Zo c w.train).getD (Z7 (Sp.Zo c w.train) w.station).toNat default).depart<((Sp.Zo c w.feeder).getD (Qc (Sp.Zo c w.feeder) w.station).toNat default).arrive then 5 else if before.any _=true then 4 else 0)=0
 rw[h1,h3,if_neg (by omega),JU hm.1 hm.2,if_neg Bool.false_ne_true,Int.toNat_natCast,Int.toNat_natCast,if_neg (by omega),hn,if_neg Bool.false_ne_true]
theorem ZoE {c:List (List Sp.Call)} {d:Sp.Qn} {before:List Sp.Qn} (hr:0≤d.run∧d.run<c.length) (hl:0≤d.leg∧d.leg+2≤(Sp.Zo c d.run).length) (hb:1≤d.by_.length∧d.by_.length≤3) (hv:∀k,k<d.by_.length→0≤d.by_.getD k 0∧d.by_.getD k 0≤240)
  (ha:∀k,k+1<d.by_.length→d.by_.getD k 0<d.by_.getD (k+1) 0) (hn:before.any (fun x=>decide (x.run=d.run∧x.leg=d.leg))=false):QY c d before=0:=by
 unfold QY
 rw[JU hr.1 (by omega)]
 show(if(false||Xw d.leg 0 (((Sp.Zo c d.run).length:Int)-2))=true then(3:Int)else _)=0
 rw[JU hl.1 (by omega),if_neg (by decide),if_neg (by omega),if_neg (by omega)]
 have h0:Zp (ZhV d.by_) 0 d.by_.length=0:=J1 fun k _ hk=>by
  have hk:k<d.by_.length:=by omega
  unfold ZhV
  rw[JU (hv k hk).1 (hv k hk).2,if_neg Bool.false_ne_true,if_neg]
  rintro⟨h1,h2⟩
  have:=ha (k-1) (by omega)
  rw[show k-1+1=k by omega]at this
  omega
 rw[h0,if_neg (fun h=>h rfl),hn,if_neg Bool.false_ne_true]
structure LOk {α:Type} [Inhabited α] (e:α→List α→Int) (l:List α):Prop where
 ok:∀i,i<l.length→e (l.getD i default) (l.take i)=0
theorem LOk.nil {α:Type} [Inhabited α] {e:α→List α→Int}:LOk e []:=⟨fun i h=>by simp at h⟩
theorem LOk.snoc {α:Type} [Inhabited α] {e:α→List α→Int} {l:List α} {a:α} (h:LOk e l) (ha:e a l=0):LOk e (l++[a]):=⟨fun i hi=>by
 simp only[List.length_append,List.length_cons,List.length_nil]at hi
 by_cases h2:i<l.length
 ·rw[List.getD_eq_getElem?_getD,List.getElem?_append_left h2,←List.getD_eq_getElem?_getD,List.take_append_of_le_length (by omega)]
  exact h.ok i h2
 ·have hk:i=l.length:=by omega
  subst hk
  rw[List.take_left]
  have e:(l++[a]).getD l.length default=a:=by simp[List.getD_eq_getElem?_getD]
  rw[e]
  exact ha⟩
theorem ZoR {t:Ze} (h1:Yw t.book=0) (h2:QO t=0) (h3:t.waits.length≤4) (h4:LOk (QA (callsOf t)) t.waits) (h5:t.delays.length≤6) (h6:LOk (QY (callsOf t)) t.delays):Zr t=0:=by
 unfold Zr
 rw[if_neg (fun h=>h h1),if_neg (fun h=>h h2),if_neg (by omega),J1 (fun j _ hj=>h4.ok j (by omega)),if_neg (fun h=>h rfl),if_neg (by omega)]
 exact J1 fun j _ hj=>h6.ok j (by omega)
end Go.Proofs.YtjgpiclllehgmaaGreat.Vm
namespace Go.Proofs.YtjgpiclllehgmaaGreat.Sp
open Vm
theorem JO {t:Ze} (h:Zr t=0):Sp.Yw t.book=0∧QO t=0∧t.waits.length≤4∧LOk (QA (callsOf t)) t.waits∧t.delays.length≤6∧LOk (QY (callsOf t)) t.delays:=by
 unfold Zr at h
 split at h
 ·exact absurd h (by assumption)
 split at h
 ·exact absurd h (by assumption)
 rename_i h0 h1
 split at h
 ·cases h
 split at h
 ·exact absurd h (by assumption)
 rename_i h2 h3
 split at h
 ·cases h
 rename_i h4
 exact⟨Decidable.of_not_not h0,Decidable.of_not_not h1,by omega,⟨fun i hi=>Qb (Decidable.of_not_not h3) i (Nat.zero_le _) (by omega)⟩,by omega,⟨fun i hi=>Qb h i (Nat.zero_le _) (by omega)⟩⟩
theorem ZlW (t:Ze):(callsOf t).length=t.runs.length:=by unfold callsOf;rw[List.length_map]
theorem LOk.map {α β:Type} [Inhabited α] [Inhabited β] {e:α→List α→Int} {e':β→List β→Int} {f:α→β} {l:List α} (h:LOk e l) (hm:∀a∈l,∀p,(∀b∈p,b∈l)→e a p=0→e' (f a) (p.map f)=0):LOk e' (l.map f):=⟨fun i hi=>by
 rw[List.length_map]at hi
 have h1:=h.ok i hi
 rw[List.getD_eq_getElem?_getD,List.getElem?_eq_getElem hi]at h1
 rw[List.getD_eq_getElem?_getD,List.getElem?_map,List.getElem?_eq_getElem hi,←List.map_take]
 exact hm _ (List.getElem_mem hi) _ (fun b hb=>List.mem_of_mem_take hb) h1⟩
theorem ZfF {p:Nat→Bool}:∀n,Qh p n=0↔∀i,i<n→p i=false
 |0=>⟨fun _ i h=>by omega,fun _=>rfl⟩
 |n+1=>by
  have ih:=ZfF (p:=p) n
  have hpos:∀n,0≤Qh p n:=fun n=>by
   induction n with
   |zero=>exact Int.le_refl _
   |succ n ih=>unfold Qh;split<;>omega
  unfold Qh
  constructor
  ·intro h i hi
   split at h
   ·have:=hpos n;omega
   ·rename_i hp
    by_cases e:i=n
    ·subst e;simpa using hp
    ·exact ih.1 h i (by omega)
  ·intro h
   rw[if_neg (by rw[h n (by omega)];exact Bool.false_ne_true)]
   exact ih.2 fun i hi=>h i (by omega)
end Go.Proofs.YtjgpiclllehgmaaGreat.Sp
namespace Go.Proofs.YtjgpiclllehgmaaGreat.Vm
open Sp
def Qr (b:XL) (j:Nat):Sp.Qq:=⟨(b.old.getD j default).number,0⟩
structure RL (b:XL) (i:Nat) (runs:List Sp.Qq) (rows:List (List Sp.Call)):Prop where
 len:rows.length=runs.length
 le:runs.length≤i
 row:∀k,k<runs.length→∃j,j<i∧j<b.old.length∧runs.getD k default=Qr b j∧Qx b (Qr b j)=(rows.getD k [],true)
 pw:runs.Pairwise fun a c=>a≠c
 some:∀j,j<i→(Qx b (Qr b j)).2=true→0<runs.length
theorem RL.nil {b:XL}:RL b 0 [] []:=⟨rfl,Nat.le_refl _,fun k h=>by simp at h,.nil,fun j h=>by omega⟩
theorem RL.skip {b:XL} {i:Nat} {runs:List Sp.Qq} {rows:List (List Sp.Call)} (h:RL b i runs rows) (hc:(Qx b (Qr b i)).2=false):RL b (i+1) runs rows:=
 ⟨h.len,by have:=h.le;omega,fun k hk=>by
  obtain⟨j,h1,h2⟩:=h.row k hk
  exact⟨j,by omega,h2⟩,h.pw,fun j hj hs=>by
  by_cases e:j=i
  ·subst e;rw[hc]at hs;cases hs
  ·exact h.some j (by omega) hs⟩
theorem Zdt {α:Type} {d:α} {l:List α} {a:α} {k:Nat} (h:k<l.length):(l++[a]).getD k d=l.getD k d:=by rw[List.getD_eq_getElem?_getD,List.getElem?_append_left h,←List.getD_eq_getElem?_getD]
theorem Zdu {α:Type} {d:α} {l:List α} {a:α}:(l++[a]).getD l.length d=a:=by simp[List.getD_eq_getElem?_getD]
theorem RL.snoc {b:XL} {n:Int} {i:Nat} {runs:List Sp.Qq} {rows:List (List Sp.Call)} {C:List Sp.Call} (hd:DL n b.old) (h:RL b i runs rows) (hi:i<b.old.length) (hc:Qx b (Qr b i)=(C,true)):RL b (i+1) (runs++[Qr b i]) (rows++[C]):=by
 have hl:=h.len
 refine⟨by simp[hl],by have:=h.le;simp;omega,fun k hk=>?_,?_,fun j hj hs=>by simp⟩
 ·simp only[List.length_append,List.length_cons,List.length_nil]at hk
  by_cases hk2:k<runs.length
  ·obtain⟨j,h1,h2,h3,h4⟩:=h.row k hk2
   exact⟨j,by omega,h2,by rw[Zdt hk2];exact h3,by rw[Zdt (by omega)];exact h4⟩
  ·have hk3:k=runs.length:=by omega
   subst hk3
   refine⟨i,by omega,hi,Zdu,?_⟩
   rw[←hl,Zdu]
   exact hc
 ·refine List.pairwise_append.2 ⟨h.pw,List.pairwise_singleton _ _,fun c hc e he=>?_⟩
  simp only[List.mem_singleton]at he
  subst he
  obtain⟨k,hk,rfl⟩:=List.mem_iff_getElem.1 hc
  obtain⟨j,h1,h2,h3,_⟩:=h.row k hk
  rw[List.getD_eq_getElem?_getD,List.getElem?_eq_getElem hk]at h3
  have h3:runs[k]=Qr b j:=h3
  rw[h3]
  intro e
  have e:=congrArg Sp.Qq.number e
  have e:(b.old.getD j default).number=(b.old.getD i default).number:=e
  rw[Zee hd h2,Zee hd hi]at e
  omega
structure RJ (b:XL) (runs:List Sp.Qq) (rows:List (List Sp.Call)):Prop where
 len:rows.length=runs.length
 pos:1≤runs.length∧runs.length≤4
 check:Yw b=0
 row:∀r∈rows,Zjj r
 calls:∀w d,callsOf ⟨b,runs,w,d⟩=rows
 err:∀w d,QO ⟨b,runs,w,d⟩=0
 from_:∀k,k<runs.length→∃j,j<b.old.length∧runs.getD k default=Qr b j
theorem ZdE {b:XL} {d:Sp.Qq} {C:List Sp.Call} (h:Qx b d=(C,true)):Q5 (J4 b d.number d.day).1=0∧(J4 b d.number d.day).1=C∧(J4 b d.number d.day).2=0:=by
 unfold Qx at h
 split at h
 ·cases h
 ·rename_i h0
  simp only[Prod.mk.injEq,decide_eq_true_eq]at h
  exact⟨by omega,h⟩
theorem RL.ok {z:Zone} {n:Int} {i:Nat} {old:List Train} {runs:List Sp.Qq} {rows:List (List Sp.Call)} (hz:Zu z=0) (hd:DL n old) (hn:n=old.length) (hl:old.length≤4) (h:RL (Zn z old) i runs rows) (hi:i≤4) (hp:0<runs.length):RJ (Zn z old) runs rows:=by
 have hc:=ZhN hz hd hn hl
 have hle:=h.le
 refine⟨h.len,by omega,hc,fun r hr=>?_,fun w d=>?_,fun w d=>?_,fun k hk=>by
  obtain⟨j,h1,h2,h3,h4⟩:=h.row k hk
  exact⟨j,h2,h3⟩⟩
 ·obtain⟨k,hk,rfl⟩:=List.mem_iff_getElem.1 hr
  obtain⟨j,h1,h2,h3,h4⟩:=h.row k (by rw[←h.len];exact hk)
  obtain⟨g1,g2,g3⟩:=ZdE h4
  rw[List.getD_eq_getElem?_getD,List.getElem?_eq_getElem hk]at g2
  have g2:(J4 (Zn z old) (Qr (Zn z old) j).number (Qr (Zn z old) j).day).1=rows[k]:=g2
  rw[←g2]
  have e:=ZkK hc hd (j:=j) h2
  have e:J4 (Zn z old) (Qr (Zn z old) j).number (Qr (Zn z old) j).day=_:=e
  rw[e]at g1⊢
  obtain⟨st,_,_,ht⟩:=hd.all j h2
  exact ZnT ht g1
 ·refine List.ext_getElem (by show(List.map _ runs).length=_;rw[List.length_map,h.len]) fun k h1 h2=>?_
  have hk:k<runs.length:=by rw[←h.len];exact h2
  have e0:∀(f:Sp.Qq→List Sp.Call) (h1:k<(runs.map f).length),(runs.map f)[k]'h1=f runs[k]:=fun f h1=>List.getElem_map _
  refine(e0 _ h1).trans ?_
  obtain⟨j,g1,g2,g3,g4⟩:=h.row k hk
  rw[List.getD_eq_getElem?_getD,List.getElem?_eq_getElem hk]at g3
  have g3:runs[k]=Qr (Zn z old) j:=g3
  rw[List.getD_eq_getElem?_getD,List.getElem?_eq_getElem h2]at g4
  have g5:=(ZdE g4).2.1
  rw[g3]
  exact g5
 ·unfold QO
  show(if runs.length=0 then(7:Int)else if 4<runs.length then 6 else _)=0
  rw[if_neg (by omega),if_neg (by omega)]
  refine J1 fun k _ hk=>?_
  have hk:k<runs.length:=by have hk:k<0+runs.length:=hk;omega
  obtain⟨j,g1,g2,g3,g4⟩:=h.row k hk
  obtain⟨e1,e2,e3⟩:=ZdE g4
  rw[←g3]at e1 e2 e3
  unfold JS
  show(if(J4 (Zn z old) (runs.getD k default).number (runs.getD k default).day).2≠0 then _ else if Q5 (J4 (Zn z old) (runs.getD k default).number (runs.getD k default).day).1≠0 then(5:Int)else if(runs.take k).any (fun x=>decide (x=runs.getD k default))then 4 else 0)=0
  rw[if_neg (fun hne=>hne e3),if_neg (fun hne=>hne e1),if_neg]
  rw[Bool.not_eq_true,List.any_eq_false]
  intro x hx
  obtain⟨q,hq,rfl⟩:=List.mem_iff_getElem.1 hx
  have hq':q<k:=by simp at hq;omega
  have:=Zn4 (d:=default) h.pw hq' hk
  rw[List.getD_eq_getElem?_getD,List.getElem?_eq_getElem (show q<runs.length by omega)]at this
  rw[List.getElem_take]
  simpa using this
structure Zji (t:Ze):Prop where
 begin:Zr t=0
 row:∀r∈callsOf t,Zjj r
 book:∃z old n,t.book=Zn z old∧Zu z=0∧DL n old
 from_:∀k,k<t.runs.length→∃j,j<t.book.old.length∧t.runs.getD k default=Qr t.book j
theorem RL.one {n:Int} {old:List Train} (hc:Yw (Zn ⟨0,[]⟩ old)=0) (hd:DL n old) (hl:0<old.length):Qx (Zn ⟨0,[]⟩ old) (Qr (Zn ⟨0,[]⟩ old) 0)=((Qx (Zn ⟨0,[]⟩ old) (Qr (Zn ⟨0,[]⟩ old) 0)).1,true):=by
 have e:J4 (Zn ⟨0,[]⟩ old) (Qr (Zn ⟨0,[]⟩ old) 0).number (Qr (Zn ⟨0,[]⟩ old) 0).day=_:=ZkK hc hd (j:=0) hl
 obtain⟨st,_,_,ht⟩:=hd.all 0 hl
 have h0:=ZjC ht
 unfold Qx
 rw[e]
 rw[if_neg (fun hne=>hne h0)]
 rfl
end Go.Proofs.YtjgpiclllehgmaaGreat.Vm
namespace Go.Proofs.YtjgpiclllehgmaaGreat.Sp
open Vm
theorem Zsj {b:XL} {n d:Int} (h:(J4 b n d).2=0):(J4 b n d).1=calls b.zones ((QT b d).getD (place (QT b d) n).toNat default) d∧0≤place (QT b d) n:=by
 have h':=h
 unfold J4 at h'⊢
 split at h'
 ·rename_i g;exact absurd h' g
 split at h'
 ·cases h'
 split at h'
 ·cases h'
 split at h'
 ·cases h'
 rename_i g1 g2 g3 g4
 rw[if_neg g1,if_neg g2,if_neg g3,if_neg g4]
 exact⟨rfl,by omega⟩
theorem Zgr {t:Ze} (he:Zr t=0) {k:Nat} (hk:k<t.runs.length):(J4 t.book (t.runs.getD k default).number (t.runs.getD k default).day).2=0:=by
 have h:=(JO he).2.1
 unfold QO at h
 split at h
 ·cases h
 split at h
 ·cases h
 have h2:=Qb h k (Nat.zero_le _) (by omega)
 unfold JS at h2
 split at h2
 ·rename_i g;exact absurd h2 g
 ·rename_i g;exact Decidable.of_not_not g
theorem ZnU {t:Ze} {k:Nat} (hk:k<t.runs.length):(callsOf t).getD k []=(J4 t.book (t.runs.getD k default).number (t.runs.getD k default).day).1:=by
 unfold callsOf
 rw[List.getD_eq_getElem?_getD,List.getElem?_map,List.getElem?_eq_getElem hk,List.getD_eq_getElem?_getD,List.getElem?_eq_getElem hk]
 rfl
end Go.Proofs.YtjgpiclllehgmaaGreat.Sp
namespace Go.Proofs.YtjgpiclllehgmaaGreat.Vm
open Go Go.Proofs
attribute [local irreducible] Dn
open Go Go.Proofs Sp
set_option maxRecDepth 100000
set_option maxHeartbeats 4000000
def Qg (l:List Int):List AV:=[lst 1 XC 0 l]
theorem ZtP:SC (fun _=>Tryz.prog) 120 [lst 1 XC 0 [],lst 1 XC 0 []] [] fun v h=>v= .int .i64 (fun _=>0)∧h=[]:=by
 obtain⟨nt,hnt⟩:=Zs
 simp only[Za hnt]
 refine SC.less (QP Tryz.func120 (body:=Zk Tryz.f120) rfl (by decide+kernel) ?_)
 refine wS ?_
 refine ZV false false [] [0,1,9,10,11] [] (fun(i:Nat)=>[(11,.int .i64 fun _=>(i:Int))]) (fun _=>[]) (fun i=>i=0) (fun i=>0) 0 rfl ?_ ?_
 ·exact ZI
 intro i hi
 have hi:i=0:=hi
 subst hi
 refine wS ?_
 refine Br.isF rfl ?_
 refine wS ?_
 refine Br.isF rfl ?_
 refine wS ?_
 refine⟨_,_,?_,rfl,rfl⟩
 exact ZI
theorem ZtR:SC (fun _=>Tryz.prog) 119 [lst 1 Qg [] [],lst 1 XC 0 [],.fn 120 [] []] [] fun v h=>v= .tup [.int .i64 fun _=>0,.bool fun _=>false]∧h=[]:=by
 obtain⟨nt,hnt⟩:=Zs
 simp only[Za hnt]
 refine SC.less (QP Tryz.func119 (body:=Zk Tryz.f119) rfl (by decide+kernel) ?_)
 refine wS ?_
 refine ZV false false [] [0,1,2,8,9,10] [] (fun(i:Nat)=>[(9,.int .i64 fun _=>(i:Int)),(10,.int .i64 fun _=>0)]) (fun _=>[]) (fun i=>i=0) (fun i=>0) 0 rfl ?_ ?_
 ·exact ZI
 intro i hi
 have hi:i=0:=hi
 subst hi
 refine wS ?_
 refine Br.isF rfl ?_
 refine wS ?_
 refine Br.isF rfl ?_
 refine vS ?_
 refine Chk.mk (by simp[nc,QK,QJ,QU,QI,Cn.p]) ?_
 refine⟨_,_,?_,rfl,rfl⟩
 exact ZI
theorem ZtQ:SC (fun _=>Tryz.prog) 119 [lst 1 Qg [] [[]],lst 1 XC 0 [],.fn 120 [] []] [] fun v h=>v= .tup [.int .i64 fun _=>0,.bool fun _=>true]∧h=[]:=by
 obtain⟨nt,hnt⟩:=Zs
 have k:=ZtP
 have e0:nt (List Int) [] [[]] 0=[]:=by rw[hnt];rfl
 simp only[Za hnt,Qg]at*
 refine SC.less (QP Tryz.func119 (body:=Zk Tryz.f119) rfl (by decide+kernel) ?_)
 refine wS ?_
 refine ZV false false [] [0,1,2,8,9,10] [] (fun(j:Nat)=>[(9,.int .i64 fun _=>0),(10,.int .i64 fun _=>(j:Int))]) (fun _=>[]) (fun j=>j≤1) (fun j=>j+0) 1 (Nat.le_refl _) ?_ ?_
 ·exact ZI
 intro j hj
 have hj:j≤1:=hj
 refine wS ?_
 refine⟨fun h=>?_,fun h=>?_⟩
 ·have h:=of_decide_eq_true h
  obtain rfl:j=1:=by omega
  have hq:(IntKind.u64.wrap (0+((1:Nat):Int))).fdiv (2^ min (Int.toNat 1) IntKind.u64.bits)=0:=by decide+kernel
  refine wS ?_
  simp only[hq,e0]
  refine ZS (k) (by first|rfl|(simp only[Zd,Zc,Zf,ZQ,Zb,Za hnt];rfl)) fun r h₂ hp=>?_
  (try simp only[Zd,Zc,Zf,ZQ,Zb,Za hnt]at hp)
  obtain⟨rfl,rfl⟩:=hp
  refine wS ?_
  refine Br.isF rfl ?_
  refine wS ?_
  refine⟨0,by show 0≤1;omega,by show 0+0<1+0;omega,?_⟩
  (refine To.of [] ?_;cbv;(try simp only[nc]);(repeat' (first|exact trivial|exact ZD.refl _|exact ZL.refl _|refine⟨?_,?_⟩|refine ZL.cells ?_|refine ZD.agg ?_|refine ZD.tup ?_));(all_goals (first|exact X9|skip)))
  all_goals exact .int hq
 ·have h:=of_decide_eq_false h
  obtain rfl:j=0:=by omega
  refine wS ?_
  refine Br.isT rfl ?_
  refine wS ?_
  simp only[e0]
  refine ZS (k) (by first|rfl|(simp only[Zd,Zc,Zf,ZQ,Zb,Za hnt];rfl)) fun r h₂ hp=>?_
  (try simp only[Zd,Zc,Zf,ZQ,Zb,Za hnt]at hp)
  obtain⟨rfl,rfl⟩:=hp
  refine vS ?_
  try refine Chk.mk (by simp[nc,QK,QJ,QU,QI,Cn.p]) ?_
  refine⟨_,_,?_,rfl,rfl⟩
  exact ZI
theorem ZtO:SC (fun _=>Tryz.prog) 121 [.isl 0 (fun _=>0) (fun _=>[]) .nil,.int .i64 fun _=>0,Zcq 1 [[lst 1 XC 0 []]]] [] fun v h=>v=lst 1 Qg [] [[]]∧h=[]:=by
 obtain⟨nt,hnt⟩:=Zs
 simp only[Za hnt,Qg]
 refine SC.less (QP Tryz.func121 (body:=Zk Tryz.f121) rfl (by decide+kernel) ?_)
 refine wS ?_
 refine Br.isF rfl ?_
 refine wS ?_
 refine Br.isT rfl ?_
 refine wS ?_
 refine⟨_,_,?_,rfl,rfl⟩
 refine toR ?_
 refine .isl rfl fun i hi=>?_
 obtain rfl:i=0:=by simp at hi;omega
 show(if((0:Nat):Int)<0 then _ else _)=_
 rw[if_neg (by omega)]
 simp[hnt]
end Go.Proofs.YtjgpiclllehgmaaGreat.Vm
namespace Go.Proofs.YtjgpiclllehgmaaGreat.Sp
open Vm
theorem Zg7 {t:Ze} {x:List Int} {a:Zq} (h:a.from_=a.goal):YH t x a=([],a.since,true):=Zgl (Nat.succ_pos _) h
end Go.Proofs.YtjgpiclllehgmaaGreat.Sp
namespace Go.Proofs.YtjgpiclllehgmaaGreat.Vm
attribute [local irreducible] Dn
open Go Go.Proofs Sp
set_option maxRecDepth 100000
set_option maxHeartbeats 4000000
theorem Zt2 (t:Ze) (a:Zq) (hf:Xi t) (ha:a.steps.length≤1000000) (hw:ZA t) (he:Qt t a=0) (hg:a.from_=a.goal):SC (fun _=>Tryz.prog) 54 [Zf t,ZQ a] [] fun v h=>
  v= .tup [lst 1 Qg [] [[]],.int .i64 fun _=>0]∧h=[]:=by
 obtain⟨nt,hnt⟩:=Zs
 have k:=ZqG t a hf ha
 have hb:=Zao he
 have ht:QB (callsOf t) t.runs.length a=0:=by
  unfold Qt at he
  rw[if_neg (fun h=>h hb)]at he
  exact he
 have k415:=fun i=>ZsE t (Zj t i) a hw (Xq hw i) ht
 simp only[Zg7 hg]at k415
 have k382:=ZlZ t
 have k435:=fun B0 B1 B2 B3 B4 B5 stop=>ZlY t hw B0 B1 B2 B3 B4 B5 stop
 have hmany:=ZcQ hw
 have kA:=ZtR
 have kB:=ZtQ
 have kI:=ZtO
 unfold QE at k
 rw[if_pos hb,he]at k
 generalize Zj t=TA at*
 generalize Qe t=HL at*
 unfold XM ZT Zf ZQ at*
 simp only[Za hnt,Zb,ZE,Q1,Qg]at*
 obtain⟨F,hF0,hFS⟩:∃F:Nat→Zi,F 0= .cells [.isl 0 (fun _=>0) (fun _=>[]) .nil]∧∀j,F (j+1)= .cells [.isl 1 (fun _=>(([[]]:List (List Int)).length:Int)) (fun e=>[.isl 1 (fun _=>((nt (List Int) [] [[]] (e ())).length:Int)) (fun e'=>XC (nt Int 0 (nt (List Int) [] [[]] (e ())) (e' ()))) .none]) .none]:=
  ⟨fun i=>if i=0 then _ else _,if_pos rfl,fun j=>if_neg (Nat.succ_ne_zero j)⟩
 refine SC.less (QP Tryz.func54 (body:=Zk Tryz.f54) rfl (by decide+kernel) ?_)
 refine wS ?_
 refine Zl3 (k) ?_
 refine wS ?_
 refine Br.isF rfl ?_
 refine wS ?_
 refine Zl3 (k382) ?_
 refine wS ?_
 refine Zcn [3,6,8,26] [.tok 1 fun _=>0] [(3,F 0)] (fid:=135) (first:=[]) ?_ rfl ?_ ?_
 ·rw[hF0]
  (refine To.of [(1,false)] ?_;cbv;(try simp only[nc]);(repeat' (first|exact trivial|exact ZD.refl _|exact ZL.refl _|refine⟨?_,?_⟩|refine ZL.cells ?_|refine ZD.agg ?_|refine ZD.tup ?_));(all_goals (first|exact X9|skip)))
 ·exact Xm
 refine SC.mono (k435 (fun _=>_) (fun _=>_) (fun _=>_) F (fun _=>_) (fun _=>.loop _ ⟨_,_,_,.ready,none⟩) (fun _=>false) ?_ ?_ ?_ ?_ ?_ ?_ ?_) ?_
 iterate 3 exact fun i=>Ql.of rfl
 ·intro i
  cases i with
  |zero=>rw[hF0];exact Ql.of rfl
  |succ j=>rw[hFS];exact Ql.of rfl
 iterate 2 exact fun i=>Ql.of rfl
 ·intro i hi hno
  refine YC.less (Zat false false [] rfl rfl ?_)
  cases i with
  |zero=>
   simp only[hF0,hFS]
   refine wS ?_
   refine Zl3 (k415 0) ?_
   refine wS ?_
   refine J2 (kA) (by(try simp only[Zd,Zc,Zf,ZQ,Zb,Za hnt]);exact ZI) (by first|rfl|(simp only[Zd,Zc,Zf,ZQ,Zb,Za hnt];rfl)) fun r h₂ hp=>?_
   (try simp only[Zd,Zc,Zf,ZQ,Zb,Za hnt]at hp)
   obtain⟨rfl,rfl⟩:=hp
   refine wS ?_
   refine Br.isT rfl ?_
   refine wS ?_
   refine Zl3 (kI) ?_
   refine wS ?_
   refine⟨.bool fun _=> !false,_,?_,rfl,rfl⟩
   exact ZI
  |succ j=>
   simp only[hFS]
   refine wS ?_
   refine Zl3 (k415 (j+1)) ?_
   refine wS ?_
   refine Zl3 (kB) ?_
   refine wS ?_
   refine Br.isF rfl ?_
   refine wS ?_
   refine⟨.bool fun _=> !false,_,?_,rfl,rfl⟩
   exact ZI
 ·intro v h hh
  obtain⟨m,hm,rfl⟩:=hh
  rcases hm with⟨hm,hno⟩|⟨j,hm,hj,hst,hno⟩
  ·obtain⟨q,rfl⟩:∃q,m=q+1:=⟨m-1,by omega⟩
   simp only[hFS]
   refine wS ?_
   refine⟨_,[],?_,rfl,rfl⟩
   exact ZI
  ·cases hst
end Go.Proofs.YtjgpiclllehgmaaGreat.Vm
namespace Go.Proofs.YtjgpiclllehgmaaGreat.Sp
open Vm
end Go.Proofs.YtjgpiclllehgmaaGreat.Sp
namespace Go.Proofs.YtjgpiclllehgmaaGreat.Vm
attribute [local irreducible] Dn
open Go Go.Proofs Sp
set_option maxRecDepth 100000
set_option maxHeartbeats 4000000
end Go.Proofs.YtjgpiclllehgmaaGreat.Vm
namespace Go.Proofs.YtjgpiclllehgmaaGreat.Sp
open Vm
end Go.Proofs.YtjgpiclllehgmaaGreat.Sp
namespace Go.Proofs.YtjgpiclllehgmaaGreat.Vm
attribute [local irreducible] Dn
open Go Go.Proofs Sp
set_option maxRecDepth 100000
set_option maxHeartbeats 4000000
end Go.Proofs.YtjgpiclllehgmaaGreat.Vm
namespace Go.Proofs.YtjgpiclllehgmaaGreat.Vm
open Go Go.Proofs Go.Proofs.YtjgpiclllehgmaaGreat.Conc1
section
variable {P:Program} {G:Nat→Nat→Nat→Prop} {R:RC} {h:List Zi}
theorem Zqt (H:HR G R h) {E:Operand→AV} {ρ:Operand→Value} {t:TypeId} {n:Nat} {ps:Array (Nat×Operand)} {s:Nat} {m:Unit→Int} {f:(Unit→Int)→List AV} {tk:Tk} (hE:∀p∈ps.toList,VR R (E p.2) (ρ p.2)) (hv:XS P E t n ps.toList=some (.isl s m f tk)):
  ∃u R',(Instr.buildSlice t n (ps.map fun(i,x)=>(i,ρ x))).run P R.w= .ok u R'.w∧HR G R' (h++[.gar s m f])∧Xf R h R' (h++[.gar s m f])∧R.le R'∧VR R' (.gsl h.length m) u:=by
 unfold XS at hv
 split at hv
 case h_2=>cases hv
 rename_i T hT
 split at hv
 case h_2=>cases hv
 rename_i e s' eb hk
 split at hv
 case isFalse=>cases hv
 rename_i hcd
 simp only[Bool.and_eq_true]at hcd
 obtain⟨⟨hzo,hln⟩,hbig⟩:=hcd
 have hln:=Zz hln
 have hbig:=Xc hbig
 obtain⟨j,hu,hj,hs,_⟩:=YZ hT hk
 obtain⟨j',z,hj',hz,hzs,hjs,_⟩:=JH hzo
 rw[hj]at hj'
 cases hj'
 split at hv
 case h_2=>
  unfold ZhD at hv
  split at hv
  case h_2=>cases hv
  split at hv
  case isFalse=>cases hv
  cases hv
 rename_i rows hr
 unfold Zcq at hv
 simp only[Option.some.injEq,AV.isl.injEq]at hv
 obtain⟨rfl,rfl,rfl,_⟩:=hv
 obtain⟨arr,a1,a2,a3,a4,a5⟩:=Zdy (R:=R) (ρ:=ρ) ps.toList 0 rows ((Array.range (n*s')).map fun k=>(if n*s'=0 then #[]else z.cells)[k%(if n*s'=0 then #[]else z.cells).size]!) hr (by simp[hln]) hE
 have hrl:rows.length=n:=by rw[a3,Array.length_toList];rw[Array.length_toList]at hln;exact hln
 have hsz:arr.size=n*s':=by rw[a2];simp
 obtain⟨R',hw,H',hx,hle,hm,hhw,hhv⟩:=H.garFresh s' (fun _=>(rows.length:Int)) (fun e=>rows.getD (e ()).toNat (rows.headD [])) n (by show(rows.length:Int)=n;rw[hrl]) arr e hsz (fun R' hle i hi=>by
  have hri:rows[i]? =some rows[i]:=List.getElem?_eq_getElem (by omega)
  have er:rows.getD (i:Int).toNat (rows.headD [])=rows[i]:=by rw[Int.toNat_natCast,List.getD_eq_getElem?_getD,hri];rfl
  show(rows.getD (i:Int).toNat (rows.headD [])).length=s'∧∀j c,(rows.getD (i:Int).toNat (rows.headD []))[j]? =some c→_
  rw[er]
  refine⟨(a5 i _ hri).1,fun j c hj=>?_⟩
  have:=(a5 i _ hri).2 j c hj
  rw[Nat.zero_add]at this
  exact this.mono hle.ok hle.keep hle.keepM)
 refine⟨.slice (some ⟨R.w.heap.size,0,none⟩) n n,R',?_,H',hx,hle,?_⟩
 ·have hpm:(ps.map fun(i,x)=>(i,ρ x)).toList=ps.toList.map fun p=>(p.1,ρ p.2):=by simp
  unfold Instr.buildSlice
  simp only[Sem.run_bind,Zv hu,Result.andThen_ok,Z6 hj,hs,hpm]
  rw[if_neg (by omega)]
  rw[hw]
  by_cases hns:n*s'=0
  ·simp only[if_pos hns]at a1⊢
   simp only[Sem.run_bind,Sem.run_pure,Result.andThen_ok]
   rw[a1]
   rfl
  ·simp only[if_neg hns]at a1⊢
   simp only[Sem.run_bind,Sem.run_pure,Result.andThen_ok,zeroValue,Q4 hj,hz]
   rw[a1]
   rfl
 ·rw[H.len]
  exact .gsl _ _ _ _ _ (by omega) (by rw[hhw];exact Int.le_refl _) (fun _=>hhv.symm) ⟨by show(rows.length:Int)=n;rw[hrl],.inr ⟨_,_,rfl⟩⟩
end
def Zot (T:Tb) (o:Oper) (E:Operand→AV) (h:List Zi):Option (AV×List Zi×Cd):=match o.op,o.guard with
 |.buildSlice t n ps,none=>(match XY T (fun x=>strip (E x)) t n ps.toList with
  |some (.isl s m f _)=>some (.gsl h.length m,h++[.gar s m f],gdC E o.op.operands.toList)
  |_=>none)
 |_,_=>none
def Zei (T:Tb) (p:Unit→Program) (d:Nat) (ops:Array Oper):List Oper→List AV→List Zi→Cd→(List AV→List Zi→Cd→Prop)→Prop
 |[],s,h,c,K=>K s h c
 |o::r,s,h,c,K=>(match o.dst with
  |some e=>if ZC e d then(match Zot T o (ev s) h with
   |some (v,h',c')=>Zei T p d ops r (putO s o.dst v) h' (c++c') K
   |none=>False)else Wop T p ops o (ev s) h c fun v h c=>Zei T p d ops r (putO s o.dst v) h c K
  |none=>Wop T p ops o (ev s) h c fun v h c=>Zei T p d ops r (putO s o.dst v) h c K)
section
variable {T:Tb} {p:Unit→Program} {R₀:RC} {h₀:List Zi}
theorem Zos (hT:T.Of (p ())) {ops:Array Oper} {i:Nat} {o:Oper} (ho:ops[i]? =some o) {E:Operand→AV} {h h':List Zi} {v:AV} {c:Cd} (hv:Zot T o E h=some (v,h',c)) (hc:ZN c):Zc6 (p ()) R₀ h₀ ops i o E h fun v' h''=>v'=v∧h''=h':=by
 unfold Zot at hv
 split at hv
 case h_2=>cases hv
 rename_i t n ps hop hg
 split at hv
 case h_2=>cases hv
 rename_i s m f tk hb
 have hb':=Jb hT hb
 simp only[Option.some.injEq,Prod.mk.injEq]at hv
 obtain⟨rfl,rfl,rfl⟩:=hv
 intro R t' hi hE b ds k cs rest
 have hEs:∀x∈o.op.operands,VR R (strip (E x)) (Qv t' x):=fun x hx=>(hE x (List.mem_append_left _ (Array.mem_toList_iff.2 hx))).strip (ZeC hc x (Array.mem_toList_iff.2 hx))
 obtain⟨u,R',h1,h2,h3,h4,h5⟩:=Zqt (ρ:=Qv t') hi.hr (fun q hq=>hEs q.2 (by
  rw[hop]
  simp only[Op.operands]
  rw[←Array.mem_toList_iff]
  simp only[Array.toList_map]
  exact List.mem_map.2 ⟨q,hq,rfl⟩)) hb'
 refine⟨_,_,R',u,⟨rfl,rfl⟩,hi.step h2 h3 h4,h3,h4,h5,.one (J6 (nv:=.value u) ho (by simp[Region.wanted,hg]) (fun c e=>by rw[hop]at e;cases e) ?_ ?_ (.inl rfl))⟩
 ·unfold execOp
  simp only[hop]
  exact Zh (fun _=>Za2) fun _ _=>Zl
 ·unfold execOp
  simp only[hop]
  rw[Sem.run_bind,h1]
  rfl
theorem Zjd (hT:T.Of (p ())) {d:Nat} {ops:Array Oper} {K:List AV→List Zi→Cd→Prop} (hK:∀s h c,K s h c→ZN c):∀(l:List Oper) (j:Nat) (s:List AV) (h:List Zi) (c:Cd),(∀m,m<l.length→ops[j+m]? =l[m]?)→Zei T p d ops l s h c K→
  ZN c∧ZaW (p ()) R₀ h₀ ops (List.range' j l.length) s h fun s h=>∃c,K s h c
 |[],j,s,h,c,_,hW=>⟨hK _ _ _ hW,fun R t hi hs b ds k cs=>⟨s,h,R,t,⟨_,hW⟩,hi,Xf.refl _ _,RC.le.refl _,hs,.one YI⟩⟩
 |o::r,j,s,h,c,hl,hW=>by
  have ho:ops[j]? =some o:=by simpa using hl 0 (by simp)
  have ih:=fun s h c=>Zjd hT (d:=d) hK r (j+1) s h c (fun m hm=>by have:=hl (m+1) (by simpa using hm);rw[show j+1+m=j+(m+1) by omega];simpa using this)
  have key:∀(Q:AV→List Zi→Prop),Zc6 (p ()) R₀ h₀ ops j o (Vm.ev s) h Q→(∀v h',Q v h'→∃c',Zei T p d ops r (putO s o.dst v) h' c' K)→ZaW (p ()) R₀ h₀ ops (List.range' j (o::r).length) s h fun s h=>∃c,K s h c:=fun Q h2 hq R t hi hs b ds k cs=>by
   obtain⟨v,h',R',u,hQ,a1,a2,a3,a4,a5⟩:=h2 R t hi (hs.eok ops o) b ds k cs (List.range' (j+1) r.length)
   obtain⟨c',hk⟩:=hq v h' hQ
   obtain⟨s'',h'',R'',t'',b1,b2,b3,b4,b5,b6⟩:=(ih _ _ _ hk).2 R' _ a1 ((hs.mono a3).putO a4 o.dst) b ds k cs
   exact⟨s'',h'',R'',t'',b1,b2,a2.trans b3,a3.trans b4,b5,a5.trans (X3 a3 b6)⟩
  have other:(Wop T p ops o (Vm.ev s) h c fun v h c=>Zei T p d ops r (putO s o.dst v) h c K)→ZN c∧ZaW (p ()) R₀ h₀ ops (List.range' j (o::r).length) s h fun s h=>∃c,K s h c:=fun hW=>by
   obtain⟨h1,h2⟩:=Zh0 hT (R₀:=R₀) (h₀:=h₀) ho (fun v h c hk=>(ih _ _ _ hk).1) hW
   exact⟨h1,key _ h2 fun v h' hq=>hq⟩
  unfold Zei at hW
  split at hW
  ·split at hW
   ·split at hW
    case h_2=>exact hW.elim
    rename_i v h' c' hv
    have hcc:=(ih _ _ _ hW).1
    exact⟨(ZY hcc).1,key _ (Zos hT ho hv (ZY hcc).2) fun v' h'' hq=>by
     obtain⟨rfl,rfl⟩:=hq
     exact⟨_,hW⟩⟩
   ·exact other hW
  ·exact other hW
theorem hpX {nb:Nat} {K:Ex→List AV→List Zi→Cd→Prop} {id:Nat} {ops:Array Oper} {k:List Item} {s:List AV} {h:List Zi} (hT:T.Of (p ())) (d:Nat) (hW:Zei T p d ops ops.toList s h [] fun s h c=>Chk c (HP false nb p k K s h)):HP false nb p (.code (.region id ops false)::k) K s h:=
 ⟨fun hK R₀ h₀ hnb=>by
  obtain⟨_,h2⟩:=Zjd (R₀:=R₀) (h₀:=h₀) hT (fun s h c (hk:Chk c _)=>hk.c) ops.toList 0 s h [] (fun m hm=>by simp) hW
  have h3:ZaW (p ()) R₀ h₀ ops (List.range ops.size) s h fun s h=>∃c,Chk c (HP false nb p k K s h):=by
   rw[List.range_eq_range']
   simpa using h2
  exact CI.then (CI.region h3 fun s h hk=>⟨rfl,hk⟩) fun s h ⟨c,hk⟩=>hk.g.run hK R₀ h₀ hnb⟩
end
end Go.Proofs.YtjgpiclllehgmaaGreat.Vm
namespace Go.Proofs.YtjgpiclllehgmaaGreat.Vm
open Go Go.Proofs
theorem To.freeze {s:List AV} {h:List Zi} {id sz:Nat} {n:Unit→Int} {f:(Unit→Int)→List AV} (hid:h[id]? =some (.gar sz n f)):To s h s (h.set id (.fro sz n f)):=fun G R t H hs=>by
 have hlt:=(List.getElem?_eq_some_iff.1 hid).1
 let R':RC:={R with ok:=fun b o k=>b<R.w.heap.size∧G b o k∧ZfZ R (h.set id (.fro sz n f)) b o k}
 have hget:∀ {j x},(h.set id (.fro sz n f))[j]? =some x→(j=id∧x= .fro sz n f)∨(j≠id∧h[j]? =some x):=fun {j x} hx=>by
  rw[List.getElem?_set]at hx
  split at hx
  ·rename_i e
   simp only[Option.some.injEq]at hx
   exact .inl ⟨e.symm,hx.symm⟩
  ·rename_i e
   exact .inr ⟨fun e'=>e e'.symm,hx⟩
 have hok:∀b o k,R.ok b o k→R'.ok b o k:=fun b o k hk=>by
  obtain⟨h1,h2,h3⟩:=(H.okd _ _ _).1 hk
  refine⟨h1,h2,fun j x hx=>?_⟩
  rcases hget hx with⟨rfl,rfl⟩|⟨hne,hx⟩
  ·exact fun h=>h
  ·exact h3 j x hx
 have hle:R.le R':=⟨Nat.le_refl _,fun _ _=>rfl,fun _ _=>⟨Int.le_refl _,fun _=>rfl⟩,fun _ _=>.refl _,hok,fun _ _ _ _ _ _=>rfl,fun _ _ _ _ h=>h,rfl⟩
 have hph:∀ {j x b},(h.set id (.fro sz n f))[j]? =some x→ZG R' j x b→j≠id∧h[j]? =some x∧ZG R j x b:=fun {j x b} hx hp=>by
  rcases hget hx with⟨rfl,rfl⟩|⟨hne,hx⟩
  ·exact hp.elim
  ·exact⟨hne,hx,(ZG.congr (R:=R) rfl rfl).1 hp⟩
 refine⟨R',rfl,⟨?_,fun _ _ _=>Iff.rfl,fun j x hx=>?_,fun i j bi bj b hij hi hj hp hp'=>?_,H.cl,H.fresh,fun j x b hx hk hp o k=>?_,H.n0m⟩,⟨rfl,rfl,rfl,rfl,Nat.le_refl _,Nat.le_refl _,fun _ _=>rfl,hok,fun _ _ _ _ _ _=>rfl,fun _ _ _=>rfl,fun j x b hx hp=>?_⟩,hle,hs.mono hle⟩
 ·rw[List.length_set];exact H.len
 ·rcases hget hx with⟨rfl,rfl⟩|⟨hne,hx⟩
  ·obtain⟨e1,e2⟩:=H.blk _ _ hid
   refine⟨e1,?_⟩
   rcases e2 with⟨h0,a0,h1⟩|⟨b,o,len,cap,arr,ty,a1,a2,a3,a4,a5,a6⟩
   ·show PR R'.w R'.ok _ (R.hv _)
    rw[h1]
    cases a0 with
    |none=>exact .isl0 _ _ _ _ h0 rfl
    |some a0=>exact .islE _ _ _ _ a0 h0 (.inl rfl)
   ·show PR R'.w R'.ok _ (R.hv _)
    rw[a3]
    rcases Nat.eq_zero_or_pos cap with hc0|hc0
    ·rw[hc0,show len=0 by omega]
     exact .islE _ _ _ _ ⟨b,o,none⟩ (by omega) (.inl rfl)
    have hmul:len*sz≤cap*sz:=Nat.mul_le_mul_right _ a2
    have hb:ZG R j (.gar sz n f) b:=⟨_,_,_,a3,hc0,rfl⟩
    refine .isl _ _ _ _ b o len cap (fun i j=>arr.getD (o+i*sz+j) undef) a1 a2 (.inl rfl) (fun h=>by cases h) (fun i hi=>(a6 i hi).1) (fun i j c hi hj=>?_) (fun i j c hi hj=>?_) ?_
    ·have hjs:j<sz:=by rw[←(a6 i hi).1];exact(List.getElem?_eq_some_iff.1 hj).1
     have:(i+1)*sz≤len*sz:=Nat.mul_le_mul_right _ hi
     rw[Nat.succ_mul]at this
     exact Qd (w:=R.w) a4 (by omega)
    ·exact((a6 i hi).2 j c hj).mono hok (fun _ _ _ _ _ _=>rfl) fun _ _ _ _ h=>h
    ·refine⟨H.phys_lt hid hb,H.tokG _ _ _ hid rfl hb _ _,fun i x hx=>?_⟩
     rcases hget hx with⟨rfl,rfl⟩|⟨hne,hx⟩
     ·exact fun h=>h
     ·exact ZaU fun hp=>H.dis _ _ _ _ b (fun e=>hne e.symm) hid hx hb hp
  ·exact(H.blk j x hx).mono hle rfl rfl rfl rfl (fun _ _=>rfl)
 ·obtain⟨_,hx,hp⟩:=hph hi hp
  obtain⟨_,hx',hp'⟩:=hph hj hp'
  exact H.dis i j bi bj b hij hx hx' hp hp'
 ·obtain⟨_,hx,hp⟩:=hph hx hp
  exact H.tokG j x b hx hk hp o k
 ·obtain⟨_,hx,hp⟩:=hph hx hp
  exact .inr ⟨j,x,hx,hp,.inl rfl⟩
theorem To.froze {s:List AV} {h:List Zi} {id sz:Nat} {n:Unit→Int} {f:(Unit→Int)→List AV} (hid:h[id]? =some (.gar sz n f)):To s h (s.map (rsv (h.set id (.fro sz n f)))) (h.set id (.fro sz n f)):=fun G R t H hs=>by
 obtain⟨R',a1,a2,a3,a4,a5⟩:=To.freeze (s:=s) hid G R t H hs
 have:=SL.rsv a2 a5 {tb with rs:=true}
 exact⟨R',a1,a2,a3,a4,this⟩
open Go Go.Proofs Sp
def Y5 (r r':List AV):Prop:=r'.length=r.length∧∀(j:Nat) (c':AV),r'[j]? =some c'→∃c,r[j]? =some c∧∀w ok v,PR w ok c v→PR w ok c' v
theorem Y5.two {a b b':AV} (h:∀w ok v,PR w ok b v→PR w ok b' v):Y5 [a,b] [a,b']:=⟨rfl,fun j c hj=>by
 match j with
 |0=>simp only[List.getElem?_cons_zero,Option.some.injEq]at hj;subst hj;exact⟨_,rfl,fun _ _ _ h=>h⟩
 |1=>simp only[List.getElem?_cons_succ,List.getElem?_cons_zero,Option.some.injEq]at hj;subst hj;exact⟨_,rfl,h⟩
 |j+2=>simp at hj⟩
theorem PR.elems {w:World} {ok:Nat→Nat→Nat→Prop} {s:Nat} {m m':Unit→Int} {f f':(Unit→Int)→List AV} {v:Value} (hm:m ()=m' ()) (hf:∀i:Nat,(i:Int)<m ()→Y5 (f fun _=>(i:Int)) (f' fun _=>(i:Int))) (hv:PR w ok (.isl s m f .none) v):PR w ok (.isl s m' f' .none) v:=by
 cases hv with
 |isl0 _ _ _ _ hz h1=>exact .isl0 _ _ _ _ (by omega) rfl
 |islE _ _ _ _ a hz h1=>exact .islE _ _ _ _ a (by omega) (.inl rfl)
 |isl _ _ _ _ b o len cap us hn hc h1 he hl h2 h3 h4=>
  refine .isl _ _ _ _ b o len cap us (by omega) hc (.inl rfl) (fun e=>by cases e) (fun i hi=>?_) (fun i j c hi hj=>?_) (fun i j c hi hj=>?_) h4
  ·rw[(hf i (by omega)).1];exact hl i hi
  ·obtain⟨c0,g1,_⟩:=(hf i (by omega)).2 j c hj
   exact h2 i j c0 hi g1
  ·obtain⟨c0,g1,g2⟩:=(hf i (by omega)).2 j c hj
   exact g2 _ _ _ (h3 i j c0 hi g1)
theorem Y5.three {a b c c':AV} (h:∀w ok v,PR w ok c v→PR w ok c' v):Y5 [a,b,c] [a,b,c']:=⟨rfl,fun j d hj=>by
 match j with
 |0=>simp only[List.getElem?_cons_zero,Option.some.injEq]at hj;subst hj;exact⟨_,rfl,fun _ _ _ h=>h⟩
 |1=>simp only[List.getElem?_cons_succ,List.getElem?_cons_zero,Option.some.injEq]at hj;subst hj;exact⟨_,rfl,fun _ _ _ h=>h⟩
 |2=>simp only[List.getElem?_cons_succ,List.getElem?_cons_zero,Option.some.injEq]at hj;subst hj;exact⟨_,rfl,h⟩
 |j+3=>simp at hj⟩
theorem ZD.elems {n k s:Nat} {m m':Unit→Int} {f f':(Unit→Int)→List AV} {tk:Tk} (hm:m ()=m' ()) (hf:∀i:Nat,(i:Int)<m ()→Y5 (f fun _=>(i:Int)) (f' fun _=>(i:Int))):ZD n k (.isl s m f tk) (.isl s m' f' .none):=⟨fun R v _ hv=>.pure _ _ (hv.isl_inv.elems hm hf)⟩
theorem ZjX {nt:(α:Type)→α→List α→Int→α} (hnt:∀(α:Type) (d:α) (l:List α) (i:Int),nt α d l i=l.getD i.toNat d) {α:Type} {n k sz:Nat} (enc:α→List AV) (d:α) (l:List α) (rows:List (List AV)) (hl:rows.length=l.length) (hr:∀i,i<l.length→Y5 (rows.getD i (rows.headD [])) (enc (l.getD i d))):
  ZD n k (.isl sz (fun _=>(rows.length:Int)) (fun e=>rows.getD (e ()).toNat (rows.headD [])) .exact) (.isl sz (fun _=>(l.length:Int)) (fun e=>enc (nt α d l (e ()))) .none):=
 .elems (by simp[hl]) fun i hi=>by
  have hi:i<l.length:=by have:(i:Int)<(rows.length:Int):=hi;omega
  simp only[hnt,Int.toNat_natCast]
  exact hr i hi
end Go.Proofs.YtjgpiclllehgmaaGreat.Vm
