/- Contracts: the reference's stretches. -/
import Derived.Test.YtjgpiclllehgmaaGreatB3
import Derived.Test.YtjgpiclllehgmaaGreatB1
import Derived.Test.YtjgpiclllehgmaaGreatB2
import Derived.Test.YtjgpiclllehgmaaGreatB0
set_option linter.all false
namespace Go.Proofs.YtjgpiclllehgmaaGreat.Vm
attribute [local irreducible] Dn
open Go Go.Proofs Sp
set_option maxRecDepth 100000
set_option maxHeartbeats 1600000
def cl (p:Pc):Pc:=if p.bef=Xr then⟨p.fr,-1,p.ahd⟩else p
def ZnE (z:Zone):List Pc:=(ZQ z).map cl
def X1 (a:Int) (l:List Chg):Int:=l.foldl (fun a c=>a+c.by_) a
theorem ZoT:∀(l1 l2:List Chg) (a k:Int),(∀c∈l1,c.at_≤k)→af a (l1++l2) k=af (X1 a l1) l2 k
 |[],_,_,_,_=>rfl
 |c::r,l2,a,k,h=>by
  have e:af a (c::r++l2) k=if c.at_≤k then af (a+c.by_) (r++l2) k else a:=rfl
  rw[e,if_pos (h c (List.mem_cons_self ..)),ZoT r l2 _ _ (fun x hx=>h x (List.mem_cons_of_mem _ hx))]
  rfl
theorem Zjr (a:Int) (l:List Chg) (c:Chg):X1 a (l++[c])=X1 a l+c.by_:=by unfold X1;rw[List.foldl_append];rfl
structure Zao (z:Zone) (i:Nat) (f:Int) (out:List Pc):Prop where
 le:i≤z.chs.length
 eq:ZnE z=out++(QM f (X1 z.base (z.chs.take i)) (z.chs.drop i)).map cl
 lo:∀c∈z.chs.take i,c.at_≤f
 fr:0≤f∧f≤43200
 asc:Asc (if i=0 then f else f+1) (z.chs.drop i)
 zero:i=0→f=0
 len:out.length≤i
theorem Zle {z:Zone} (h:Zv z=0):Zao z 0 0 []:=by
 obtain⟨ha,hb,hl,h1,h2⟩:=ZbA h
 exact⟨Nat.zero_le _,rfl,by simp,by omega,by simpa using ha,fun _=>rfl,by simp⟩
theorem Zao.ahd {z:Zone} {i:Nat} {f:Int} {out:List Pc} (h:Zao z i f out) (hn:∀c∈(z.chs.drop i).head?,f<c.at_):af z.base z.chs f=X1 z.base (z.chs.take i):=by
 have e:z.chs=z.chs.take i++z.chs.drop i:=(List.take_append_drop ..).symm
 rw[e,ZoT _ _ _ _ h.lo,←e]
 cases hd:z.chs.drop i with
 |nil=>rfl
 |cons c r=>
  rw[hd]at hn
  have hc:=hn c rfl
  unfold af
  rw[if_neg (by omega)]
theorem Zao.step {z:Zone} {i:Nat} {f:Int} {out:List Pc} {c:Chg} (hz:Zv z=0) (h:Zao z i f out) (hi:i<z.chs.length) (hc:z.chs.drop i=c::z.chs.drop (i+1)) (ht:z.chs.take (i+1)=z.chs.take i++[c]):
  (c.at_=0→Zao z (i+1) c.at_ out)∧(c.at_≠0→af z.base z.chs f=X1 z.base (z.chs.take i)∧Zao z (i+1) c.at_ (out++[⟨f,c.at_,X1 z.base (z.chs.take i)⟩])):=by
 obtain⟨ha,hb,hl,h1,h2⟩:=ZbA hz
 have hcm:c∈z.chs:=List.mem_of_mem_drop (i:=i) (by rw[hc];exact List.mem_cons_self ..)
 have hcb:=hb c hcm
 have hasc:=h.asc
 rw[hc]at hasc
 obtain⟨hlo,hrest⟩:=hasc
 have hfr:=h.fr
 have hle:f≤c.at_:=by split at hlo<;>omega
 have hsum:X1 z.base (z.chs.take (i+1))=X1 z.base (z.chs.take i)+c.by_:=by rw[ht,Zjr]
 have hlo2:∀x∈z.chs.take (i+1),x.at_≤c.at_:=fun x hx=>by
  rw[ht]at hx
  rcases List.mem_append.1 hx with hx|hx
  ·have:=h.lo x hx;omega
  ·simp at hx;rw[hx];exact Int.le_refl _
 have hasc2:Asc (if i+1=0 then c.at_ else c.at_+1) (z.chs.drop (i+1)):=by rw[if_neg (by omega)];exact hrest
 have heq:=h.eq
 rw[hc]at heq
 have hlen:=h.len
 refine⟨fun h0=>?_,fun h0=>?_⟩
 ·have hf0:f=0:=by omega
  refine⟨hi,?_,hlo2,by omega,hasc2,fun h=>by omega,by omega⟩
  rw[heq,hsum]
  congr 1
  have e:QM f (X1 z.base (z.chs.take i)) (c::z.chs.drop (i+1))=QM c.at_ (X1 z.base (z.chs.take i)+c.by_) (z.chs.drop (i+1)):=if_neg (by omega)
  rw[e]
 ·have hlt:f<c.at_:=by
   by_cases hi0:i=0
   ·have:=h.zero hi0;omega
   ·rw[if_neg hi0]at hlo;omega
  refine⟨h.ahd (by rw[hc];intro x hx;simp at hx;rw[←hx];exact hlt),hi,?_,hlo2,by omega,hasc2,fun h=>by omega,by simp;omega⟩
  have e:QM f (X1 z.base (z.chs.take i)) (c::z.chs.drop (i+1))=⟨f,c.at_,X1 z.base (z.chs.take i)⟩::QM c.at_ (X1 z.base (z.chs.take i)+c.by_) (z.chs.drop (i+1)):=if_pos hlt
  have e2:cl ⟨f,c.at_,X1 z.base (z.chs.take i)⟩=⟨f,c.at_,X1 z.base (z.chs.take i)⟩:=if_neg (by unfold Xr;show¬c.at_=_;omega)
  rw[heq,e,List.map_cons,e2,hsum,List.append_assoc]
  rfl
theorem Zao.last {z:Zone} {f:Int} {out:List Pc} (h:Zao z z.chs.length f out):af z.base z.chs f=X1 z.base z.chs∧ZnE z=out++[⟨f,-1,X1 z.base z.chs⟩]:=by
 have h1:=h.ahd (by rw[List.drop_length];intro c hc;cases hc)
 have h2:=h.eq
 rw[List.take_length]at h1 h2
 rw[List.drop_length]at h2
 exact⟨h1,h2⟩
theorem Zvl (z:Zone) (hz:Zv z=0):SC (fun _=>Tryz.prog) 195 [Zd z] [] fun v h=>v=lst 3 Zd7 default (ZnE z)∧h=[]:=by
 obtain⟨nt,hnt⟩:=Zp
 obtain⟨ha,hb,hl,h1,h2⟩:=ZbA hz
 have k97:=fun t=>c97 z t hz
 have hst:=Zle hz
 generalize hS:ZnE z=S at*
 refine SC.less (Qu Tryz.func195 (body:=Zj Tryz.f195) rfl (by decide+kernel) ?_)
 unfold Zd at*
 simp only[Za hnt]at*
 refine wS ?_
 refine ZT false false [] [1,3,4,5] [.tok 3 fun _=>0] (fun(⟨i,f,out⟩:Nat×Int×List Pc)=>[(3,.isl 3 (fun _=>(out.length:Int)) (fun e=>Zd7 (nt Pc default out (e ()))) (.own 1)),(4,.int .i64 fun _=>f),(5,.int .i64 fun _=>(i:Int))])
  (fun⟨i,f,out⟩=>[(1,.tok 3 fun _=>(out.length:Int))]) (fun⟨i,f,out⟩=>Zao z i f out∨(i=z.chs.length+1∧out=S)) (fun i=>z.chs.length+1-i.1+0) (0,0,[]) (.inl hst) ?_ ?_
 ·(refine To.of [(3,false)] ?_;cbv;(try simp only[nc]);(repeat' (first|exact trivial|exact ZE.refl _|exact ZM.refl _|refine⟨?_,?_⟩|refine ZM.cells ?_|refine ZE.agg ?_|refine ZE.tup ?_));(all_goals (first|exact X3|skip)))
 rintro⟨i,f,out⟩ hp
 have hp:Zao z i f out∨(i=z.chs.length+1∧out=S):=hp
 have hol:out.length≤100∨out=S:=by
  rcases hp with h|⟨_,h⟩
  ·have:=h.len;have:=h.le;omega
  ·exact .inr h
 refine wS ?_
 refine⟨fun hb1=>?_,fun hb1=>?_⟩
 ·simp only[decide_eq_true_eq]at hb1
  have hs:Zao z i f out:=by
   rcases hp with h|⟨h,_⟩
   ·exact h
   ·omega
  have hle:=hs.le
  have hlen:=hs.len
  have k97:=k97 f
  refine wS ?_
  refine⟨fun hb2=>?_,fun hb2=>?_⟩
  ·simp only[decide_eq_true_eq]at hb2
   have hil:i<z.chs.length:=by omega
   have hst2:=hs.step hz hil (Qy (d:=default) hnt hil) (Zet (d:=default) hnt hil)
   generalize hc:nt Chg default z.chs (i:Int)=c at*
   refine vS ?_
   simp only[hc]
   refine Chk.mk (Qc) ?_
   refine⟨fun hb3=>?_,fun hb3=>?_⟩
   ·have h0:c.at_≠0:=by simpa using hb3
    obtain⟨g1,g2⟩:=hst2.2 h0
    rw[g1]at k97
    generalize X1 z.base (z.chs.take i)=A at*
    refine wS ?_
    refine ZV (k97) (by first|rfl|(simp only[Zd,Za hnt];rfl)) fun r h₂ hp=>?_
    (try simp only[Zd,Za hnt]at hp)
    obtain⟨rfl,rfl⟩:=hp
    refine wS ?_
    refine⟨(i+1,c.at_,out++[⟨f,c.at_,A⟩]),.inl g2,by show z.chs.length+1-(i+1)+0<z.chs.length+1-i+0;omega,?_⟩
    exact ZJ
   ·have h0:c.at_=0:=by simpa using hb3
    have g2:=hst2.1 h0
    refine wS ?_
    refine⟨(i+1,c.at_,out),.inl g2,by show z.chs.length+1-(i+1)+0<z.chs.length+1-i+0;omega,?_⟩
    exact ZJ
  ·simp only[decide_eq_false_iff_not]at hb2
   have hie:i=z.chs.length:=by omega
   obtain⟨g1,g2⟩:=(hie▸hs:Zao z z.chs.length f out).last
   rw[g1]at k97
   rw[hS]at g2
   generalize X1 z.base z.chs=A at*
   refine wS ?_
   refine Br.isT rfl ?_
   refine wS ?_
   refine ZV (k97) (by first|rfl|(simp only[Zd,Za hnt];rfl)) fun r h₂ hp=>?_
   (try simp only[Zd,Za hnt]at hp)
   obtain⟨rfl,rfl⟩:=hp
   refine wS ?_
   refine⟨(i+1,-1,out++[⟨f,-1,A⟩]),.inr ⟨by rw[hie],g2.symm⟩,by show z.chs.length+1-(i+1)+0<z.chs.length+1-i+0;omega,?_⟩
   exact ZJ
 ·simp only[decide_eq_false_iff_not]at hb1
  have ho:out=S:=by
   rcases hp with h|⟨_,h⟩
   ·have:=h.le;omega
   ·exact h
  rw[←ho]
  refine wS ?_
  refine⟨_,[],?_,rfl,rfl⟩
  exact ZJ
theorem ZtK {nt:(α:Type)→α→List α→Int→α} (hnt:∀(α:Type) (d:α) (l:List α) (i:Int),nt α d l i=l.getD i.toNat d) {l:List Pc} {i:Nat} (hi:i<l.length):nt Pc default (l.map cl) (i:Int)=cl (nt Pc default l (i:Int)):=by
 rw[hnt,hnt]
 simp[List.getD_eq_getElem?_getD,hi]
theorem ZtL (p:Pc):(cl p).fr=p.fr:=by unfold cl;split<;>rfl
theorem ZsC (p:Pc):(cl p).ahd=p.ahd:=by unfold cl;split<;>rfl
theorem Ze4:∀(l:List Chg) (fr a:Int),(∀c∈l,c.at_≤43200)→∀i,i<(QM fr a l).length→(((QM fr a l).getD i default).bef=Xr↔i+1=(QM fr a l).length)
 |[],fr,a,_,i,hi=>by
  have e:QM fr a []=[⟨fr,Xr,a⟩]:=rfl
  rw[e]at hi⊢
  have:i=0:=by simpa using hi
  subst this
  simp
 |c::r,fr,a,h,i,hi=>by
  have hc:=h c (List.mem_cons_self ..)
  have ih:=Ze4 r c.at_ (a+c.by_) (fun x hx=>h x (List.mem_cons_of_mem _ hx))
  have hl:=(Zac r c.at_ (a+c.by_)).1
  by_cases hlt:fr<c.at_
  ·have e:QM fr a (c::r)=⟨fr,c.at_,a⟩::QM c.at_ (a+c.by_) r:=if_pos hlt
   rw[e]at hi⊢
   cases i with
   |zero=>
    simp only[List.getD_cons_zero,List.length_cons]
    unfold Xr
    constructor<;>intro h<;>omega
   |succ i=>
    simp only[List.getD_cons_succ,List.length_cons]
    rw[ih i (by simpa using hi)]
    omega
  ·have e:QM fr a (c::r)=QM c.at_ (a+c.by_) r:=if_neg hlt
   rw[e]at hi⊢
   exact ih i hi
theorem Zuc (z:Zone) (r a:Int) (hz:Zv z=0) (hr:-1000000≤r∧r≤1000000) (ha:0≤a∧a<Xr):SC (fun _=>Tryz.prog) 190 [Zd z,.int .i64 fun _=>r,.int .i64 fun _=>a] [] fun v h=>v= .int .i64 (fun _=>QV (ZQ z) r a)∧h=[]:=by
 obtain⟨nt,hnt⟩:=Zp
 have k2:=Zvl z hz
 obtain⟨k4,k5⟩:=Zc9 hz
 have hop:=Ze4 z.chs 0 z.base (fun c hc=>((ZbA hz).2.1 c hc).2.1)
 have hl1:=(Zac z.chs 0 z.base).1
 change∀i,i<(ZQ z).length→(((ZQ z).getD i default).bef=Xr↔i+1=(ZQ z).length)at hop
 change 1≤(ZQ z).length at hl1
 unfold Xr at*
 refine Qu Tryz.func190 (body:=Zj Tryz.f190) rfl (by decide+kernel) ?_
 unfold Zd at*
 simp only[Za hnt]at*
 unfold ZnE at k2
 generalize ZQ z=L at*
 have hLl:(L.map cl).length=L.length:=List.length_map ..
 generalize hW:QV L r a=W at*
 refine wS ?_
 refine ZV (k2) (by first|rfl|(simp only[Zd,Za hnt];rfl)) fun r h₂ hp=>?_
 (try simp only[Zd,Za hnt]at hp)
 obtain⟨rfl,rfl⟩:=hp
 refine wS ?_
 refine ZT false false [] [1,2,7,8] [] (fun(i:Nat)=>[(8,.int .i64 fun _=>(i:Int))]) (fun _=>[]) (fun i=>i<L.length∧QV (L.drop i) r a=W) (fun i=>L.length-i+0) 0 ⟨by omega,by simpa using hW⟩ ?_ ?_
 ·exact ZJ
 intro i hpp
 have hi:i<L.length:=hpp.1
 have hp:QV (L.drop i) r a=W:=hpp.2
 clear hpp
 have hq:=k5 _ (Xg (d:=default) hnt (l:=L) (i:=i) hi)
 have hopi:=hop i hi
 have e1:L.getD i default=nt Pc default L (i:Int):=by rw[hnt];rfl
 rw[e1]at hopi
 rw[Qy (d:=default) hnt hi,QV]at hp
 have hcl:=ZtK hnt (l:=L) hi
 generalize nt Pc default L (i:Int)=p at*
 have hah:=ZsC p
 have hfr:=ZtL p
 have hbe:(cl p).bef=if p.bef=1099511627776 then-1 else p.bef:=by
  unfold cl Xr
  split<;>rfl
 generalize cl p=q at*
 have hmx:(if(if q.fr<a then a else q.fr)<r-q.ahd then r-q.ahd else(if q.fr<a then a else q.fr))=max p.fr (max a (r-p.ahd)):=by
  rw[hfr,hah]
  split<;>split<;>omega
 have hmb:0≤max p.fr (max a (r-p.ahd))∧max p.fr (max a (r-p.ahd))<1099511627776:=by omega
 refine vS ?_
 simp only[hcl]
 refine Chk.mk (Qc) ?_
 simp only[hmx]
 generalize max p.fr (max a (r-p.ahd))=M at*
 refine⟨fun hb2=>?_,fun hb2=>?_⟩
 ·have hc:M<p.bef:=by
   by_cases h:p.bef=1099511627776
   ·omega
   ·rw[if_neg h]at hbe
    rw[hbe,decide_eq_false (by omega)]at hb2
    simpa using hb2
  rw[if_pos hc]at hp
  rw[←hp]
  (cbv;(try simp only[nc]at*);(try refine Chk.mk (Qc) ?_))
  (try first|exact⟨rfl,trivial⟩|exact⟨trivial,trivial⟩)
 ·have hc:¬M<p.bef:=by
   intro h'
   by_cases h:p.bef=1099511627776
   ·rw[if_pos h]at hbe
    rw[hbe]at hb2
    simp at hb2
   ·rw[if_neg h]at hbe
    rw[hbe,decide_eq_false (by omega),decide_eq_true h']at hb2
    cases hb2
  rw[if_neg hc]at hp
  have hi2:i+1<L.length:=by
   rcases Nat.lt_or_ge (i+1) L.length with h|h
   ·exact h
   ·have:=hopi.2 (by omega);omega
  refine wS ?_
  refine⟨i+1,⟨hi2,hp⟩,by show L.length-(i+1)+0<L.length-i+0;omega,?_⟩
  exact ZJ
theorem Zi8 {α:Type} [Inhabited α] {nt:(α:Type)→α→List α→Int→α} (hnt:∀(α:Type) (d:α) (l:List α) (i:Int),nt α d l i=l.getD i.toNat d) {q:α→Bool} {l:List α} {k:Nat} (hk:k<l.length):(l.take (k+1)).any q=((l.take k).any q||q (nt α default l (k:Int))):=by
 rw[Zet (d:=default) hnt hk,List.any_append]
 simp
theorem Zi1 {nt:(α:Type)→α→List α→Int→α} (hnt:∀(α:Type) (d:α) (l:List α) (i:Int),nt α d l i=l.getD i.toNat d) (b:XH):Zc b= .agg [.isl 2 (fun _=>(b.zones.length:Int)) (fun e=>encZone (nt Zone default b.zones (e ()))) .none,.isl 3 (fun _=>(b.old.length:Int)) (fun e=>encTrain (nt Train default b.old (e ()))) .none,.isl 3 (fun _=>(b.new.length:Int)) (fun e=>encTrain (nt Train default b.new (e ()))) .none,.int .i64 fun _=>b.night,.int .i64 fun _=>b.last]:=by
 unfold Zc;simp only[Za hnt]
theorem Zvj (b:XH) (l:List Stop) (hz:b.zones.length≤1000000) (hl:l.length≤1000000):SC (fun _=>Tryz.prog) 181 [Zc b,lst 4 QH default l] [] fun v h=>v= .int .i64 (fun _=>if ZK l.length 2 4≠0 then ZK l.length 2 4 else YD b.zones.length l)∧h=[]:=by
 obtain⟨nt,hnt⟩:=Zp
 generalize hE:(if ZK l.length 2 4≠0 then ZK l.length 2 4 else YD b.zones.length l)=E
 unfold Zc
 simp only[Za hnt]
 refine Qu Tryz.func181 (body:=Zj Tryz.f181) rfl (by decide+kernel) ?_
 refine wS ?_
 refine⟨fun h1=>?_,fun h1=>?_⟩
 ·simp only[decide_eq_true_eq]at h1
  rw[show ZK l.length 2 4=7 by unfold ZK;rw[if_pos (by omega)],if_pos (by decide)]at hE
  subst hE
  (cbv;(try simp only[nc]at*);(try refine Chk.mk (Qc) ?_))
  (try first|exact⟨rfl,trivial⟩|exact⟨trivial,trivial⟩)
 simp only[decide_eq_false_iff_not]at h1
 refine wS ?_
 refine⟨fun h2=>?_,fun h2=>?_⟩
 ·simp only[decide_eq_true_eq]at h2
  rw[show ZK l.length 2 4=6 by unfold ZK;rw[if_neg (by omega),if_pos (by omega)],if_pos (by decide)]at hE
  subst hE
  (cbv;(try simp only[nc]at*);(try refine Chk.mk (Qc) ?_))
  (try first|exact⟨rfl,trivial⟩|exact⟨trivial,trivial⟩)
 simp only[decide_eq_false_iff_not]at h2
 rw[show ZK l.length 2 4=0 by unfold ZK;rw[if_neg (by omega),if_neg (by omega)],if_neg (by decide)]at hE
 refine wS ?_
 refine ZT false false [] [1,2,5] [] (fun(i:Nat)=>[(5,.int .i64 fun _=>(i:Int))]) (fun _=>[]) (fun i=>i≤l.length∧Zr (Q5 b.zones.length l) i (l.length-i)=E) (fun i=>l.length-i+0) 0 ⟨Nat.zero_le _,by simpa [YD]using hE⟩ ?_ ?_
 ·exact ZJ
 rintro i ⟨hi,hp⟩
 refine wS ?_
 refine⟨fun hb=>?_,fun hb=>?_⟩
 ·simp only[decide_eq_true_eq]at hb
  obtain⟨q,hq⟩:∃q,l.length-i=q+1:=⟨l.length-i-1,by omega⟩
  rw[hq,Zr]at hp
  have hsp:Q5 b.zones.length l i=YO (l.take i) (nt Stop default l i) (decide (0<i)&&decide ((i:Int)<l.length-1)) b.zones.length:=by unfold Q5;rw[hnt];rfl
  rw[hsp]at hp
  unfold YO at hp
  refine wS ?_
  generalize nt Stop default l i=s at*
  refine Zb4 (c72 s.station 0 9) ?_
  refine vS ?_
  refine⟨fun h3=>?_,fun h3=>?_⟩
  ·simp only[if_pos h3]at hp
   rw[if_pos (by decide)]at hp
   subst hp
   (cbv;(try simp only[nc]at*);(try refine Chk.mk (Qc) ?_))
   (try first|exact⟨rfl,trivial⟩|exact⟨trivial,trivial⟩)
  simp only[if_neg (show¬(!Yv s.station 0 9)=true by rw[h3];exact Bool.false_ne_true)]at hp
  refine wS ?_
  refine Zah fun Q hQ=>?_
  refine ZT false false [] [1,2,5,6,7] [] (fun(k:Nat)=>[(7,.int .i64 fun _=>(k:Int))]) (fun _=>[]) (fun k=>k≤i∧(l.take k).any (fun x=>decide (x.station=s.station))=false) (fun k=>i-k+0) 0 ⟨Nat.zero_le _,by simp⟩ ?_ ?_
  ·exact ZJ
  rintro k ⟨hk,hp2⟩
  refine wS ?_
  refine⟨fun hb=>?_,fun hb=>?_⟩
  ·simp only[decide_eq_true_eq]at hb
   have hkl:k<l.length:=by omega
   have hat:=Zi8 hnt (q:=fun x:Stop=>decide (x.station=s.station)) hkl
   rw[hp2,Bool.false_or]at hat
   refine wS ?_
   simp only[ZaQ]
   refine⟨fun h4=>?_,fun h4=>?_⟩
   ·rw[h4]at hat
    have:(l.take i).any (fun x=>decide (x.station=s.station))=true:=by
     rw[List.any_eq_true]at hat⊢
     obtain⟨x,hx,h⟩:=hat
     exact⟨x,List.Sublist.subset (List.take_sublist_take_left (by omega)) hx,h⟩
    simp only[if_pos this]at hp
    rw[if_pos (by decide)]at hp
    subst hp
    refine wS ?_
    refine hQ _ _ _ ?_
    (cbv;(try simp only[nc]at*);(try refine Chk.mk (Qc) ?_))
    (try first|exact⟨rfl,trivial⟩|exact⟨trivial,trivial⟩)
   ·rw[h4]at hat
    refine wS ?_
    refine⟨k+1,⟨by omega,hat⟩,by show i-(k+1)+0<i-k+0;omega,?_⟩
    exact ZJ
  ·simp only[decide_eq_false_iff_not]at hb
   obtain rfl:k=i:=by omega
   simp only[hp2,Bool.false_eq_true,if_false]at hp
   refine wS ?_
   refine hQ _ _ _ ?_
   clear hQ
   refine wS ?_
   refine Zb4 (c72 s.zone 0 ((b.zones.length:Int)-1)) ?_
   refine vS ?_
   refine⟨fun h5=>?_,fun h5=>?_⟩
   ·simp only[if_pos h5]at hp
    rw[if_pos (by decide)]at hp
    subst hp
    (cbv;(try simp only[nc]at*);(try refine Chk.mk (Qc) ?_))
    (try first|exact⟨rfl,trivial⟩|exact⟨trivial,trivial⟩)
   simp only[if_neg (show¬(!Yv s.zone 0 ((b.zones.length:Int)-1))=true by rw[h5];exact Bool.false_ne_true)]at hp
   refine wS ?_
   refine Zb4 (c72 s.arrive 0 4319) ?_
   refine wS ?_
   refine⟨fun h6=>?_,fun h6=>?_⟩
   ·have h6:Yv s.arrive 0 4319=true:=by simpa using h6
    refine wS ?_
    refine Zb4 (c72 s.depart 0 4319) ?_
    refine wS ?_
    refine⟨fun h7=>?_,fun h7=>?_⟩
    ·have h7:Yv s.depart 0 4319=false:=by simpa [h6]using h7
     simp only[h6,h7,Bool.not_false,Bool.not_true,Bool.false_or,if_true]at hp
     rw[if_pos (by decide)]at hp
     subst hp
     (cbv;(try simp only[nc]at*);(try refine Chk.mk (Qc) ?_))
     (try first|exact⟨rfl,trivial⟩|exact⟨trivial,trivial⟩)
    ·have h7:Yv s.depart 0 4319=true:=by simpa [h6]using h7
     simp only[h6,h7,Bool.not_true,Bool.false_or,Bool.false_eq_true,if_false]at hp
     have he:(decide (0<k)&&decide ((k:Int)<l.length-1)&&decide (s.depart<s.arrive))=(bif bif decide (0<(k:Int))then decide ((k:Int)<(l.length:Int)-1)else false then decide (s.depart<s.arrive)else false):=by
      rw[show decide (0<k)=decide (0<(k:Int))from by rw[Bool.eq_iff_iff];simp]
      cases decide (0<(k:Int))<;>cases decide ((k:Int)<(l.length:Int)-1)<;>rfl
     rw[he]at hp
     refine wS ?_
     refine⟨fun h8=>?_,fun h8=>?_⟩
     ·rw[if_pos h8,if_pos (by decide)]at hp
      subst hp
      (cbv;(try simp only[nc]at*);(try refine Chk.mk (Qc) ?_))
      (try first|exact⟨rfl,trivial⟩|exact⟨trivial,trivial⟩)
     ·simp only[h8,Bool.false_eq_true,if_false,ne_eq,not_true_eq_false]at hp
      refine wS ?_
      refine⟨k+1,⟨by omega,by rw[←hp];congr 1;omega⟩,by show l.length-(k+1)+0<l.length-k+0;omega,?_⟩
      exact ZJ
   ·have h6:Yv s.arrive 0 4319=false:=by simpa using h6
    simp only[h6,Bool.not_false,Bool.true_or,if_true]at hp
    rw[if_pos (by decide)]at hp
    subst hp
    refine wS ?_
    refine Br.isT (by rfl) ?_
    (cbv;(try simp only[nc]at*);(try refine Chk.mk (Qc) ?_))
    (try first|exact⟨rfl,trivial⟩|exact⟨trivial,trivial⟩)
 ·simp only[decide_eq_false_iff_not]at hb
  rw[show l.length-i=0 by omega,Zr]at hp
  subst hp
  (cbv;(try simp only[nc]at*);(try refine Chk.mk (Qc) ?_))
  (try first|exact⟨rfl,trivial⟩|exact⟨trivial,trivial⟩)
theorem c71 (b:XH) (l:List Train) (hz:b.zones.length≤1000000) (hl:l.length≤1000000) (hs:∀t∈l,t.stops.length≤1000000):SC (fun _=>Tryz.prog) 140 [Zc b,lst 3 encTrain default l] [] fun v h=>v= .int .i64 (fun _=>Qg b.zones.length l)∧h=[]:=by
 obtain⟨nt,hnt⟩:=Zp
 unfold Qg
 generalize hE:(if ZK l.length 0 4≠0 then ZK l.length 0 4 else Zr (QN b.zones.length l) 0 l.length)=E
 unfold Zc
 simp only[Za hnt]
 refine Qu Tryz.func140 (body:=Zj Tryz.f140) rfl (by decide+kernel) ?_
 refine wS ?_
 refine⟨fun h2=>?_,fun h2=>?_⟩
 ·simp only[decide_eq_true_eq]at h2
  rw[show ZK l.length 0 4=6 by unfold ZK;rw[if_neg (by omega),if_pos (by omega)],if_pos (by decide)]at hE
  subst hE
  (cbv;(try simp only[nc]at*);(try refine Chk.mk (Qc) ?_))
  (try first|exact⟨rfl,trivial⟩|exact⟨trivial,trivial⟩)
 simp only[decide_eq_false_iff_not]at h2
 rw[show ZK l.length 0 4=0 by unfold ZK;rw[if_neg (by omega),if_neg (by omega)],if_neg (by decide)]at hE
 refine wS ?_
 refine ZT false false [] [1,2,5] [] (fun(i:Nat)=>[(5,.int .i64 fun _=>(i:Int))]) (fun _=>[]) (fun i=>i≤l.length∧Zr (QN b.zones.length l) i (l.length-i)=E) (fun i=>l.length-i+0) 0 ⟨Nat.zero_le _,by simpa using hE⟩ ?_ ?_
 ·exact ZJ
 rintro i ⟨hi,hp⟩
 refine wS ?_
 refine⟨fun hb=>?_,fun hb=>?_⟩
 ·simp only[decide_eq_true_eq]at hb
  have hil:i<l.length:=by omega
  obtain⟨q,hq⟩:∃q,l.length-i=q+1:=⟨l.length-i-1,by omega⟩
  rw[hq,Zr]at hp
  have hst:=hs _ (Xg (d:=default) hnt (l:=l) (i:=i) hil)
  have hct:QN b.zones.length l i=if !Yv (nt Train default l i).number 1 999 then 1 else if(l.take i).any (fun x=>decide (x.number=(nt Train default l i).number))then 4 else if !Yv (nt Train default l i).days 1 127 then 1
   else if ZK (nt Train default l i).stops.length 2 4≠0 then ZK (nt Train default l i).stops.length 2 4 else YD b.zones.length (nt Train default l i).stops:=by unfold QN;rw[hnt];rfl
  refine wS ?_
  refine Zb4 (c72 (nt Train default l i).number 1 999) ?_
  refine vS ?_
  refine⟨fun h3=>?_,fun h3=>?_⟩
  ·rw[if_pos h3]at hct
   rw[hct,if_pos (by decide)]at hp
   subst hp
   (cbv;(try simp only[nc]at*);(try refine Chk.mk (Qc) ?_))
   (try first|exact⟨rfl,trivial⟩|exact⟨trivial,trivial⟩)
  rw[if_neg (by rw[h3];exact Bool.false_ne_true)]at hct
  refine wS ?_
  refine Zah fun Q hQ=>?_
  refine ZT false false [] [1,2,5,6] [] (fun(k:Nat)=>[(6,.int .i64 fun _=>(k:Int))]) (fun _=>[]) (fun k=>k≤i∧(l.take k).any (fun x=>decide (x.number=(nt Train default l i).number))=false) (fun k=>i-k+0) 0 ⟨Nat.zero_le _,by simp⟩ ?_ ?_
  ·exact ZJ
  rintro k ⟨hk,hp2⟩
  refine wS ?_
  refine⟨fun hb=>?_,fun hb=>?_⟩
  ·simp only[decide_eq_true_eq]at hb
   have hkl:k<l.length:=by omega
   have hat:=Zi8 hnt (q:=fun x:Train=>decide (x.number=(nt Train default l i).number)) hkl
   rw[hp2,Bool.false_or]at hat
   refine wS ?_
   simp only[ZaQ]
   refine⟨fun h4=>?_,fun h4=>?_⟩
   ·rw[h4]at hat
    have:(l.take i).any (fun x=>decide (x.number=(nt Train default l i).number))=true:=by
     rw[List.any_eq_true]at hat⊢
     obtain⟨x,hx,h⟩:=hat
     exact⟨x,List.Sublist.subset (List.take_sublist_take_left (by omega)) hx,h⟩
    rw[if_pos this]at hct
    rw[hct,if_pos (by decide)]at hp
    subst hp
    refine wS ?_
    refine hQ _ _ _ ?_
    (cbv;(try simp only[nc]at*);(try refine Chk.mk (Qc) ?_))
    (try first|exact⟨rfl,trivial⟩|exact⟨trivial,trivial⟩)
   ·rw[h4]at hat
    refine wS ?_
    refine⟨k+1,⟨by omega,hat⟩,by show i-(k+1)+0<i-k+0;omega,?_⟩
    exact ZJ
  ·simp only[decide_eq_false_iff_not]at hb
   obtain rfl:k=i:=by omega
   rw[hp2,if_neg (by exact Bool.false_ne_true)]at hct
   refine wS ?_
   refine hQ _ _ _ ?_
   clear hQ
   refine wS ?_
   refine Zb4 (c72 (nt Train default l (k:Int)).days 1 127) ?_
   refine vS ?_
   refine⟨fun h3=>?_,fun h3=>?_⟩
   ·rw[if_pos h3]at hct
    rw[hct,if_pos (by decide)]at hp
    subst hp
    (cbv;(try simp only[nc]at*);(try refine Chk.mk (Qc) ?_))
    (try first|exact⟨rfl,trivial⟩|exact⟨trivial,trivial⟩)
   rw[if_neg (by rw[h3];exact Bool.false_ne_true)]at hct
   refine wS ?_
   have k110:=Zvj b (nt Train default l (k:Int)).stops hz hst
   rw[Zi1 hnt]at k110
   refine ZV k110 rfl fun r h₂ hp=>?_
   obtain⟨rfl,rfl⟩:=hp
   rw[←hct]
   generalize QN b.zones.length l k=e at*
   refine vS ?_
   refine⟨fun h5=>?_,fun h5=>?_⟩
   ·simp only[bne_iff_ne,ne_eq]at h5
    rw[if_pos h5]at hp
    subst hp
    (cbv;(try simp only[nc]at*);(try refine Chk.mk (Qc) ?_))
    (try first|exact⟨rfl,trivial⟩|exact⟨trivial,trivial⟩)
   ·simp only[bne_eq_false_iff_eq]at h5
    rw[if_neg (fun h=>h h5)]at hp
    refine wS ?_
    refine⟨k+1,⟨by omega,by rw[←hp];congr 1;omega⟩,by show l.length-(k+1)+0<l.length-k+0;omega,?_⟩
    exact ZJ
 ·simp only[decide_eq_false_iff_not]at hb
  rw[show l.length-i=0 by omega,Zr]at hp
  subst hp
  (cbv;(try simp only[nc]at*);(try refine Chk.mk (Qc) ?_))
  (try first|exact⟨rfl,trivial⟩|exact⟨trivial,trivial⟩)
theorem c25 (b:XH) (hb:YG b):SC (fun _=>Tryz.prog) 87 [Zc b] [] fun v h=>v= .int .i64 (fun _=>XX b)∧h=[]:=by
 obtain⟨nt,hnt⟩:=Zp
 have hz:=hb.zones
 have hc:=hb.chs
 unfold XX
 generalize hE:(if ZK b.zones.length 1 3≠0 then _ else _:Int)=E
 have k1:=c71 b b.old hz hb.old hb.stops.1
 have k2:=c71 b b.new hz hb.new hb.stops.2
 unfold Zc at k1 k2⊢
 simp only[Za hnt]at k1 k2⊢
 refine Qu Tryz.func87 (body:=Zj Tryz.f87) rfl (by decide+kernel) ?_
 refine wS ?_
 refine⟨fun h1=>?_,fun h1=>?_⟩
 ·have h1:b.zones.length=0:=by simpa using h1
  rw[show ZK b.zones.length 1 3=7 by unfold ZK;rw[if_pos (by omega)],if_pos (by decide)]at hE
  subst hE
  (cbv;(try simp only[nc]at*);(try refine Chk.mk (Qc) ?_))
  (try first|exact⟨rfl,trivial⟩|exact⟨trivial,trivial⟩)
 have h1:¬b.zones.length=0:=by simpa using h1
 refine wS ?_
 refine⟨fun h2=>?_,fun h2=>?_⟩
 ·simp only[decide_eq_true_eq]at h2
  rw[show ZK b.zones.length 1 3=6 by unfold ZK;rw[if_neg (by omega),if_pos (by omega)],if_pos (by decide)]at hE
  subst hE
  (cbv;(try simp only[nc]at*);(try refine Chk.mk (Qc) ?_))
  (try first|exact⟨rfl,trivial⟩|exact⟨trivial,trivial⟩)
 simp only[decide_eq_false_iff_not]at h2
 rw[show ZK b.zones.length 1 3=0 by unfold ZK;rw[if_neg (by omega),if_neg (by omega)],if_neg (by decide)]at hE
 generalize hF:Zr (fun i=>Zv (b.zones.getD i default)) 0 b.zones.length=F at*
 refine wS ?_
 refine Zah fun Q hQ=>?_
 refine ZT false false [] [1,3] [] (fun(i:Nat)=>[(3,.int .i64 fun _=>(i:Int))]) (fun _=>[]) (fun i=>i≤b.zones.length∧Zr (fun i=>Zv (b.zones.getD i default)) i (b.zones.length-i)=F) (fun i=>b.zones.length-i+0) 0 ⟨Nat.zero_le _,by simpa using hF⟩ ?_ ?_
 ·exact ZJ
 rintro i ⟨hi,hp⟩
 refine wS ?_
 refine⟨fun hb=>?_,fun hb=>?_⟩
 ·simp only[decide_eq_true_eq]at hb
  obtain⟨q,hq⟩:∃q,b.zones.length-i=q+1:=⟨b.zones.length-i-1,by omega⟩
  rw[hq,Zr]at hp
  have hch:=hc _ (Xg (d:=default) hnt (l:=b.zones) (i:=i) (by omega))
  have hzn:b.zones.getD i default=nt Zone default b.zones i:=by rw[hnt];rfl
  rw[hzn]at hp
  refine wS ?_
  generalize nt Zone default b.zones i=z at*
  refine Zb4 (c70 z hch) ?_
  generalize Zv z=e at*
  refine vS ?_
  refine⟨fun h3=>?_,fun h3=>?_⟩
  ·simp only[bne_iff_ne,ne_eq]at h3
   rw[if_pos h3]at hp
   subst hp
   rw[if_pos h3]at hE
   subst hE
   refine wS ?_
   refine hQ _ _ _ ?_
   (cbv;(try simp only[nc]at*);(try refine Chk.mk (Qc) ?_))
   (try first|exact⟨rfl,trivial⟩|exact⟨trivial,trivial⟩)
  ·simp only[bne_eq_false_iff_eq]at h3
   rw[if_neg (fun h=>h h3)]at hp
   refine wS ?_
   refine⟨i+1,⟨by omega,by rw[←hp];congr 1;omega⟩,by show b.zones.length-(i+1)+0<b.zones.length-i+0;omega,?_⟩
   exact ZJ
 simp only[decide_eq_false_iff_not]at hb
 rw[show b.zones.length-i=0 by omega,Zr]at hp
 subst hp
 rw[if_neg (fun h=>h rfl)]at hE
 refine wS ?_
 refine hQ _ _ _ ?_
 clear hQ
 generalize Qg b.zones.length b.old=e1 at*
 generalize Qg b.zones.length b.new=e2 at*
 refine wS ?_
 refine Zb4 (k1) ?_
 refine wS ?_
 refine⟨fun h3=>?_,fun h3=>?_⟩
 ·simp only[bne_iff_ne,ne_eq]at h3
  rw[if_pos h3]at hE
  subst hE
  (cbv;(try simp only[nc]at*);(try refine Chk.mk (Qc) ?_))
  (try first|exact⟨rfl,trivial⟩|exact⟨trivial,trivial⟩)
 simp only[bne_eq_false_iff_eq]at h3
 rw[if_neg (fun h=>h h3)]at hE
 refine wS ?_
 refine Zb4 (k2) ?_
 refine wS ?_
 refine⟨fun h4=>?_,fun h4=>?_⟩
 ·simp only[bne_iff_ne,ne_eq]at h4
  rw[if_pos h4]at hE
  subst hE
  (cbv;(try simp only[nc]at*);(try refine Chk.mk (Qc) ?_))
  (try first|exact⟨rfl,trivial⟩|exact⟨trivial,trivial⟩)
 simp only[bne_eq_false_iff_eq]at h4
 rw[if_neg (fun h=>h h4)]at hE
 refine wS ?_
 have k67:=c72 b.last 0 13
 rcases hI:Yv b.last 0 13 with _|_
 ·rw[hI]at k67 hE
  simp only[Bool.not_false,Bool.true_or,if_true]at hE
  subst hE
  refine Zb4 (k67) ?_
  refine vS ?_
  refine Chk.mk (by simp[Q0,QY,QZ,Cn.p]) ?_
  refine Br.isF (by rfl) ?_
  refine wS ?_
  refine Br.isT (by rfl) ?_
  (cbv;(try simp only[nc]at*);(try refine Chk.mk (Qc) ?_))
  (try first|exact⟨rfl,trivial⟩|exact⟨trivial,trivial⟩)
 ·have hlast:0≤b.last∧b.last≤13:=by simpa [Yv]using hI
  rw[hI]at k67 hE
  simp only[Bool.not_true,Bool.false_or]at hE
  refine Zb4 (k67) ?_
  refine wS ?_
  refine Br.isT (by rfl) ?_
  refine wS ?_
  refine Zb4 (c72 b.night 0 (b.last+1)) ?_
  refine wS ?_
  refine⟨fun hb'=>?_,fun hb'=>?_⟩
  ·have hb':Yv b.night 0 (b.last+1)=false:=by simpa using hb'
   rw[if_pos (by simp[hb'])]at hE
   subst hE
   (cbv;(try simp only[nc]at*);(try refine Chk.mk (Qc) ?_))
   (try first|exact⟨rfl,trivial⟩|exact⟨trivial,trivial⟩)
  ·have hb':Yv b.night 0 (b.last+1)=true:=by simpa using hb'
   rw[if_neg (by simp[hb'])]at hE
   subst hE
   (cbv;(try simp only[nc]at*);(try refine Chk.mk (Qc) ?_))
   (try first|exact⟨rfl,trivial⟩|exact⟨trivial,trivial⟩)
end Go.Proofs.YtjgpiclllehgmaaGreat.Vm
namespace Go.Proofs.YtjgpiclllehgmaaGreat.Vm
open Go Go.Proofs Sp
set_option maxRecDepth 100000
set_option maxHeartbeats 1600000
attribute [local irreducible] Dn
theorem Zvc (b:XH) (day:Int):SC (fun _=>Tryz.prog) 168 [Zc b,.int .i64 fun _=>day] [] fun v h=>v=lst 3 encTrain default (QT b day)∧h=[]:=by
 refine Qu Tryz.func168 (body:=Zj Tryz.f168) rfl (by decide+kernel) ?_
 unfold Zc QT
 refine wS ?_
 refine⟨fun hb=>?_,fun hb=>?_⟩
 ·simp only[decide_eq_true_eq]at hb
  rw[if_pos hb]
  (cbv;(try simp only[nc]at*);(try refine Chk.mk (Qc) ?_))
  (try first|exact⟨rfl,trivial⟩|exact⟨trivial,trivial⟩)
 ·simp only[decide_eq_false_iff_not]at hb
  rw[if_neg hb]
  (cbv;(try simp only[nc]at*);(try refine Chk.mk (Qc) ?_))
  (try first|exact⟨rfl,trivial⟩|exact⟨trivial,trivial⟩)
theorem Zva (t:Train) (day:Int) (hd:0≤day∧day≤1000000) (ht:0≤t.days∧t.days≤1000000):SC (fun _=>Tryz.prog) 170 [.agg (encTrain t),.int .i64 fun _=>day] [] fun v h=>v= .bool (fun _=>Zba t day)∧h=[]:=by
 refine Qu Tryz.func170 (body:=Zj Tryz.f170) rfl (by decide+kernel) ?_
 have e:=(ZqY day 7).1 hd.1
 refine vS ?_
 rw[e]
 refine Chk.mk (Qc) ?_
 refine vS ?_
 refine⟨?_,trivial⟩
 congr 1;funext _
 rw[Nat.min_eq_left (show(day%7).toNat≤IntKind.i64.bits by show _≤64;omega),Int.fdiv_eq_ediv_of_nonneg _ (Int.le_of_lt (Int.pow_pos (by omega)))]
 have hq:0≤t.days/2^(day%7).toNat:=Int.ediv_nonneg ht.1 (Int.le_of_lt (Int.pow_pos (by omega)))
 have hle:t.days/2^(day%7).toNat≤t.days:=Int.ediv_le_self _ ht.1
 unfold Zba
 generalize t.days/2^(day%7).toNat=q at*
 rw[Zk3 q hq (by omega),ZaQ]
theorem Zvb (l:List Train) (n:Int) (hl:l.length≤1000000):SC (fun _=>Tryz.prog) 169 [lst 3 encTrain default l,.int .i64 fun _=>n] [] fun v h=>v= .int .i64 (fun _=>place l n)∧h=[]:=by
 obtain⟨nt,hnt⟩:=Zp
 unfold place
 generalize hE:Zy (fun t:Train=>decide (t.number=n)) 0 l=E
 rw[Za hnt]
 refine Qu Tryz.func169 (body:=Zj Tryz.f169) rfl (by decide+kernel) ?_
 refine wS ?_
 refine ZT false false [] [0,1,5] [] (fun(i:Nat)=>[(5,.int .i64 fun _=>(i:Int))]) (fun _=>[]) (fun i=>i≤l.length∧Zy (fun t:Train=>decide (t.number=n)) i (l.drop i)=E) (fun i=>l.length-i+0) 0 ⟨Nat.zero_le _,by simpa using hE⟩ ?_ ?_
 ·exact ZJ
 rintro i ⟨hi,hp⟩
 refine wS ?_
 refine⟨fun hb=>?_,fun hb=>?_⟩
 ·simp only[decide_eq_true_eq]at hb
  rw[Qy (d:=default) hnt (l:=l) (i:=i) (by omega),Zy]at hp
  refine wS ?_
  simp only[ZaQ]
  refine⟨fun h1=>?_,fun h1=>?_⟩
  ·rw[if_pos h1]at hp
   subst hp
   (cbv;(try simp only[nc]at*);(try refine Chk.mk (Qc) ?_))
   (try first|exact⟨rfl,trivial⟩|exact⟨trivial,trivial⟩)
  ·rw[if_neg (by rw[h1];exact Bool.false_ne_true)]at hp
   refine wS ?_
   refine⟨i+1,⟨by omega,by rw[←hp];rfl⟩,by show l.length-(i+1)+0<l.length-i+0;omega,?_⟩
   exact ZJ
 ·simp only[decide_eq_false_iff_not]at hb
  rw[List.drop_eq_nil_of_le (by omega),Zy]at hp
  subst hp
  (cbv;(try simp only[nc]at*);(try refine Chk.mk (Qc) ?_))
  (try first|exact⟨rfl,trivial⟩|exact⟨trivial,trivial⟩)
theorem Zhz:∀(l:List Chg) (fr a r t:Int),(∀p∈QM fr a l,p.fr<Xr∧r-p.ahd<Xr)→t<Xr→QV (QM fr a l) r t<Xr
 |[],fr,a,r,t,h,ht=>by
  have:=h ⟨fr,Xr,a⟩ (by simp[QM])
  simp only[QM,QV]at*
  rw[if_pos (by omega)]
  omega
 |c::l,fr,a,r,t,h,ht=>by
  unfold QM at h⊢
  split
  ·rename_i hc
   rw[if_pos hc]at h
   unfold QV
   split
   ·have:=h ⟨fr,c.at_,a⟩ (List.mem_cons_self ..)
    simp only at this⊢
    omega
   ·exact Zhz l _ _ _ _ (fun p hp=>h p (List.mem_cons_of_mem _ hp)) ht
  ·rename_i hc
   rw[if_neg hc]at h
   exact Zhz l _ _ _ _ h ht
theorem ZkU:∀(l:List Pc) (r t:Int),0≤t→0≤QV l r t
 |[],_,_,_=>by unfold QV Xr;omega
 |p::l,r,t,h=>by
  unfold QV
  split
  ·omega
  ·exact ZkU l r t h
theorem ZiH {z:Zone} (hz:Zv z=0) {r t:Int} (hr:r≤1000000) (ht:0≤t∧t<Xr):0≤QV (ZQ z) r t∧QV (ZQ z) r t<Xr:=by
 refine⟨ZkU _ _ _ ht.1,Zhz _ _ _ _ _ (fun p hp=>?_) ht.2⟩
 have:=(Zc9 hz).2 p hp
 unfold Xr
 omega
theorem Zu9 (b:XH) (t:Train) (day:Int) (hb':∀z∈b.zones,Zv z=0) (ht:∀s∈t.stops,(0≤s.zone∧s.zone<b.zones.length)∧(0≤s.arrive∧s.arrive≤10000)∧0≤s.depart∧s.depart≤10000) (hlen:2≤t.stops.length∧t.stops.length≤1000) (hd:0≤day∧day≤100):
  SC (fun _=>Tryz.prog) 171 [Zc b,.agg (encTrain t),.int .i64 fun _=>day] [] fun v h=>v=lst 3 XI default (calls b.zones t day)∧h=[]:=by
 obtain⟨nt,hnt⟩:=Zp
 refine SC.less (ZsA false false [] Tryz.func171 (body:=Zj Tryz.f171) rfl (by decide+kernel) ?_)
 rw[Zi1 hnt]
 rw[show AV.agg (encTrain t)= .agg [.int .i64 fun _=>t.number,.int .i64 fun _=>t.days,.isl 4 (fun _=>(t.stops.length:Int)) (fun e=>QH (nt Stop default t.stops (e ()))) .none] by unfold encTrain;rw[Za hnt]]
 refine wS ?_
 refine ZT false false [] [2,3,4,7,8,9] [.tok 3 fun _=>0] (fun(⟨i,now,out⟩:Nat×Int×List Sp.Call)=>[(7,.isl 3 (fun _=>(out.length:Int)) (fun e=>XI (nt Sp.Call default out (e ()))) (.own 2)),(8,.int .i64 fun _=>now),(9,.int .i64 fun _=>(i:Int))])
  (fun⟨i,now,out⟩=>[(2,.tok 3 fun _=>(out.length:Int))])
  (fun⟨i,now,out⟩=>(i≤t.stops.length∧out.length=i∧calls b.zones t day=out++QR b.zones day t.stops.length i now (t.stops.drop i))∧0≤now∧now<Xr) (fun i=>t.stops.length-i.1+0) (0,0,[]) ⟨⟨Nat.zero_le _,rfl,rfl⟩,by decide,by decide⟩ ?_ ?_
 ·(refine To.of [(3,false)] ?_;cbv;(try simp only[nc]);(repeat' (first|exact trivial|exact ZE.refl _|exact ZM.refl _|refine⟨?_,?_⟩|refine ZM.cells ?_|refine ZE.agg ?_|refine ZE.tup ?_));(all_goals (first|exact X3|skip)))
 rintro⟨i,now,out⟩ ⟨⟨hi,ho,hp⟩,hn⟩
 have hgz:∀k:Nat,k<t.stops.length→Zv (nt Zone default b.zones (nt Stop default t.stops (k:Int)).zone)=0:=fun k hk=>hb' _ (by
  have:=ht _ (Xg (d:=default) hnt (l:=t.stops) (i:=k) hk)
  rw[hnt,List.getD_eq_getElem?_getD,List.getElem?_eq_getElem (by omega)];exact List.getElem_mem _)
 have hgd:∀z:Int,b.zones.getD z.toNat default=nt Zone default b.zones z:=fun z=>by rw[hnt]
 refine wS ?_
 refine⟨fun hb=>?_,fun hb=>?_⟩
 ·simp only[decide_eq_true_eq]at hb
  have hil:i<t.stops.length:=by omega
  have hs:=ht _ (Xg (d:=default) hnt (l:=t.stops) (i:=i) hil)
  have hz:=hgz i hil
  rw[Qy (d:=default) hnt hil,QR]at hp
  simp only[hgd]at hp
  refine wS ?_
  generalize nt Stop default t.stops (i:Int)=s at*
  generalize hZ:nt Zone default b.zones s.zone=z at*
  have ka:=fun n hn=>Zuc z (1440*day+s.arrive) n hz (by omega) hn
  have kd:=fun n hn=>Zuc z (1440*day+s.depart) n hz (by omega) hn
  have fa:=fun n hn=>ZiH (t:=n) hz (show 1440*day+s.arrive≤1000000 by omega) hn
  have fd:=fun n hn=>ZiH (t:=n) hz (show 1440*day+s.depart≤1000000 by omega) hn
  generalize hL:ZQ z=L at*
  rcases Nat.eq_zero_or_pos i with h0|h0
  ·subst h0
   rw[if_pos rfl,if_pos (by omega)]at hp
   refine Br.isF (by simp) ?_
   refine wS ?_
   refine Br.isT (by simp;omega) ?_
   refine vS ?_
   simp only[hZ]
   refine Chk.mk (Qc) ?_
   refine Zb4 (kd now hn) ?_
   have fd:=fd now hn
   try dsimp only at hp
   generalize QV L (1440*day+s.depart) now=d at*
   refine wS ?_
   refine Br.isT (by simp) ?_
   refine wS ?_
   refine⟨(1,d,out++[⟨s.station,d,d⟩]),⟨⟨by omega,by simp only[List.length_append,List.length_cons,List.length_nil];omega,by rw[hp];simp⟩,fd⟩,by show t.stops.length-1+0<t.stops.length-0+0;omega,?_⟩
   exact ZJ
  ·rw[if_neg (by omega)]at hp
   refine Br.isT (by simp;omega) ?_
   refine vS ?_
   simp only[hZ]
   refine Chk.mk (Qc) ?_
   refine Zb4 (ka now hn) ?_
   have fa:=fa now hn
   try dsimp only at hp
   generalize QV L (1440*day+s.arrive) now=a at*
   refine wS ?_
   refine⟨fun h1=>?_,fun h1=>?_⟩
   ·simp only[decide_eq_true_eq]at h1
    rw[if_pos (by omega)]at hp
    refine vS ?_
    simp only[hZ]
    refine Chk.mk (Qc) ?_
    refine Zb4 (kd a fa) ?_
    have fd:=fd a fa
    generalize QV L (1440*day+s.depart) a=d at*
    refine wS ?_
    refine Br.isF (by simp;omega) ?_
    refine wS ?_
    refine⟨(i+1,d,out++[⟨s.station,a,d⟩]),⟨⟨by omega,by simp only[List.length_append,List.length_cons,List.length_nil];omega,by rw[hp];simp⟩,fd⟩,by show t.stops.length-(i+1)+0<t.stops.length-i+0;omega,?_⟩
    exact ZJ
   ·simp only[decide_eq_false_iff_not]at h1
    rw[if_neg (by omega)]at hp
    refine wS ?_
    refine Br.isF (by simp;omega) ?_
    refine wS ?_
    refine⟨(i+1,a,out++[⟨s.station,a,a⟩]),⟨⟨by omega,by simp only[List.length_append,List.length_cons,List.length_nil];omega,by rw[hp];simp⟩,fa⟩,by show t.stops.length-(i+1)+0<t.stops.length-i+0;omega,?_⟩
    exact ZJ
 ·simp only[decide_eq_false_iff_not]at hb
  rw[List.drop_eq_nil_of_le (by omega),QR,List.append_nil]at hp
  rw[hp]
  refine wS ?_
  refine⟨lst 3 XI default out,[],?_,rfl,rfl⟩
  simp only[Za hnt]
  exact ZJ
theorem Zlt (l:List Train) (n:Int):place l n=-1∨0≤place l n∧place l n<l.length:=by
 have:=XC (q:=fun t:Train=>decide (t.number=n)) (l:=l) (i:=0) (by omega)
 rcases Nat.eq_zero_or_pos l.length with h|h
 ·rw[List.eq_nil_of_length_eq_zero h];exact .inl rfl
 ·unfold place;omega
theorem Zvd (b:XH) (n day:Int) (hf:YG b):SC (fun _=>Tryz.prog) 128 [Zc b,.int .i64 fun _=>n,.int .i64 fun _=>day] [] fun v h=>v= .tup [lst 3 XI default (J3 b n day).1,.int .i64 fun _=>(J3 b n day).2]∧h=[]:=by
 obtain⟨nt,hnt⟩:=Zp
 refine SC.less (Qu Tryz.func128 (body:=Zj Tryz.f128) rfl (by decide+kernel) ?_)
 unfold Zc J3
 simp only[Za hnt]
 refine wS ?_
 refine Zb4 (c25 b hf) ?_
 have hok0:=fun h=>ZbU (b:=b) h
 generalize XX b=e at*
 refine vS ?_
 refine⟨fun hb=>?_,fun hb=>?_⟩
 ·simp only[bne_iff_ne,ne_eq]at hb
  rw[if_pos hb]
  refine wS ?_
  refine⟨_,[],?_,rfl,rfl⟩
  exact ZJ
 simp only[bne_eq_false_iff_eq]at hb
 have hok:=hok0 hb
 subst hb
 rw[if_neg (fun h=>h rfl)]
 refine wS ?_
 refine Zb4 (c72 day 0 b.last) ?_
 refine vS ?_
 refine⟨fun hb=>?_,fun hb=>?_⟩
 ·rw[if_pos hb]
  refine wS ?_
  refine⟨_,[],?_,rfl,rfl⟩
  exact ZJ
 rw[if_neg (by rw[hb];exact Bool.false_ne_true)]
 have hday:=JX (by simpa using hb:Yv day 0 b.last=true)
 have hlast:=hok.last
 have htab:=ZeK hok day
 refine wS ?_
 refine Zb4 (Zvc b day) ?_
 have hpl:=Zlt (QT b day) n
 generalize QT b day=l at*
 refine wS ?_
 refine Zb4 (Zvb l n (by omega)) ?_
 generalize place l n=p at*
 refine vS ?_
 refine⟨fun hb=>?_,fun hb=>?_⟩
 ·simp only[decide_eq_true_eq]at hb
  rw[if_pos hb]
  refine wS ?_
  refine⟨_,[],?_,rfl,rfl⟩
  exact ZJ
 simp only[decide_eq_false_iff_not]at hb
 rw[if_neg hb]
 obtain⟨k,rfl⟩:∃k:Nat,p=k:=⟨p.toNat,by omega⟩
 refine wS ?_
 have hTk:=htab.2 _ (Xg (d:=default) hnt (l:=l) (i:=k) (by omega))
 have hgk:l.getD (k:Int).toNat default=nt Train default l k:=by rw[hnt]
 rw[hgk]
 have hdays:=hTk.days
 refine Zb4 (Zva (nt Train default l k) day (by omega) (by omega)) ?_
 refine vS ?_
 refine⟨fun hb=>?_,fun hb=>?_⟩
 ·rw[if_pos hb]
  refine wS ?_
  refine⟨_,[],?_,rfl,rfl⟩
  exact ZJ
 rw[if_neg (by rw[hb];exact Bool.false_ne_true)]
 refine wS ?_
 have hlen:=hTk.len
 refine Zb4 (Zu9 b (nt Train default l k) day hok.zones (fun s hs=>by obtain⟨_,h1,h2,h3⟩:=hTk.stops s hs;omega) (by omega) (by omega)) ?_
 generalize calls b.zones (nt Train default l k) day=C at*
 refine wS ?_
 refine⟨_,[],?_,rfl,rfl⟩
 (try simp only[ZaM hnt])
 exact ZJ
end Go.Proofs.YtjgpiclllehgmaaGreat.Vm
namespace Go.Proofs.YtjgpiclllehgmaaGreat.Sp
def QD (b:XH) (d:Qp):List Call×Bool:=if Q8 (J3 b d.number d.day).1≠0 then([],false)else((J3 b d.number d.day).1,decide ((J3 b d.number d.day).2=0))
end Go.Proofs.YtjgpiclllehgmaaGreat.Sp
namespace Go.Proofs.YtjgpiclllehgmaaGreat.Vm
attribute [local irreducible] Dn
open Go Go.Proofs Sp
set_option maxRecDepth 100000
set_option maxHeartbeats 4000000
theorem ZqM (b:XH) (d:Sp.Qp) (hf:YG b):SC (fun _=>Tryz.prog) 75 [Zc b,.agg (Zg d)] [] fun v h=>v= .tup [lst 3 XI default (QD b d).1,.bool fun _=>(QD b d).2]∧h=[]:=by
 obtain⟨nt,hnt⟩:=Zp
 have k:=Zvd b d.number d.day hf
 have hlen:=(Zg9 b d.number d.day).1
 have hE:QD b d=if Q8 (J3 b d.number d.day).1≠0 then([],false)else((J3 b d.number d.day).1,decide ((J3 b d.number d.day).2=0)):=rfl
 generalize QD b d=E at*
 generalize J3 b d.number d.day=r at*
 obtain⟨C,er⟩:=r
 unfold Zc Zg at*
 simp only[Za hnt]at*
 refine SC.less (Qu Tryz.func75 (body:=Zj Tryz.f75) rfl (by decide+kernel) ?_)
 refine wS ?_
 refine ZV (k) (by first|rfl|(simp only[Zd,Zc,Za hnt];rfl)) fun r h₂ hp=>?_
 (try simp only[Zd,Zc,Za hnt]at hp)
 obtain⟨rfl,rfl⟩:=hp
 try dsimp only at hE hlen
 refine wS ?_
 refine Zah fun Q hQ=>?_
 refine ZT false false [] [6,7,8] [] (fun(j:Nat)=>[(8,.int .i64 fun _=>((j+1:Nat):Int))]) (fun _=>[]) (fun j=>Q8 C=Zr (Jg C) (j+1) (C.length-(j+1))) (fun j=>C.length-(j+1)+0) 0 rfl ?_ ?_
 ·exact ZJ
 rintro j hpk
 refine wS ?_
 refine⟨fun hb=>?_,fun hb=>?_⟩
 ·simp only[decide_eq_true_eq]at hb
  rw[Xk (by omega)]at hpk
  have hoa:Jg C (j+1)=if(nt Sp.Call default C ((j+1:Nat):Int)).arrive≤(nt Sp.Call default C (((j+1:Nat):Int)-1)).depart then 5 else 0:=by
   unfold Jg
   rw[Jd hnt,Jd hnt,show((j+1-1:Nat):Int)=((j+1:Nat):Int)-1 by omega]
  refine wS ?_
  refine⟨fun hb'=>?_,fun hb'=>?_⟩
  ·simp only[decide_eq_true_eq]at hb'
   rw[if_pos (by omega)]at hoa
   rw[hoa,if_pos (by decide)]at hpk
   rw[if_pos (by rw[hpk];decide)]at hE
   subst hE
   refine wS ?_
   refine hQ _ _ _ ?_
   refine wS ?_
   refine⟨_,[],?_,rfl,rfl⟩
   exact ZJ
  ·simp only[decide_eq_false_iff_not]at hb'
   rw[if_neg (by omega)]at hoa
   rw[hoa,if_neg (fun h=>h rfl)]at hpk
   refine wS ?_
   refine⟨j+1,hpk,by show C.length-(j+1+1)+0<C.length-(j+1)+0;omega,?_⟩
   exact ZJ
 ·simp only[decide_eq_false_iff_not]at hb
  rw[XD (by omega)]at hpk
  rw[if_neg (fun h=>h hpk)]at hE
  subst hE
  refine wS ?_
  refine hQ _ _ _ ?_
  refine wS ?_
  refine⟨_,[],?_,rfl,rfl⟩
  exact ZJ
theorem Zt7 (b:XH) (d:Sp.Qp) (hf:YG b) (hn:(QD b d).2=false):SC (fun _=>Tryz.prog) 75 [Zc b,.agg (Zg d)] [] fun v h=>v= .tup [.undef,.bool fun _=>false]∧h=[]:=by
 refine SC.less (SC.mono (ZqM b d hf) fun r h' hr=>?_)
 obtain⟨rfl,rfl⟩:=hr
 rw[hn]
 generalize (QD b d).1=C
 refine⟨.tup [.undef,.bool fun _=>false],[],?_,rfl,rfl⟩
 exact ZJ
end Go.Proofs.YtjgpiclllehgmaaGreat.Vm
namespace Go.Proofs.YtjgpiclllehgmaaGreat.Vm
open Sp
theorem J1 {f:Nat→Int}:∀ {k i:Nat},(∀j,i≤j→j<i+k→f j=0)→Zr f i k=0
 |0,_,_=>rfl
 |k+1,i,h=>by
  unfold Zr
  rw[if_neg (fun hne=>hne (h i (Nat.le_refl _) (by omega)))]
  exact J1 fun j h1 h2=>h j (by omega) (by omega)
theorem Zft {n a b:Int} (h1:a≤n) (h2:n≤b):Yv n a b=true:=by simp[Yv,h1,h2]
theorem Ye {n a b:Int} (h1:a≤n) (h2:n≤b):QQ n a b=false:=by unfold QQ;rw[Zft h1 h2];rfl
theorem ZoG {n a b:Int} (h1:a≤n) (h2:n≤b):ZK n a b=0:=by
 unfold ZK
 rw[if_neg (by omega),if_neg (by omega)]
theorem Zmg {k:Int} {z:Zone} (h:ZoU k z) (hk:k≤3):Zv z=0:=by
 have hb:=h.base
 have hl:=h.len
 unfold Zv
 rw[if_neg (by simp[Yv];omega),if_neg (by omega)]
 have key:∀(l:List Chg) (p:Option Int),(∀c∈l,0≤c.at_∧c.at_≤43200∧Zo8 c.by_)→l.Pairwise (fun a b=>a.at_<b.at_)→(∀a,p=some a→∀c∈l,a<c.at_)→YN p l=0:=by
  intro l
  induction l with
  |nil=>intro p _ _ _;exact Zcp p
  |cons c l ih=>
   intro p h1 h2 h3
   obtain⟨b1,b2,b3⟩:=h1 c (List.mem_cons_self ..)
   have hle:leP p c.at_=false:=by
    cases p with
    |none=>rfl
    |some a=>have:=h3 a rfl c (List.mem_cons_self ..);simp[leP];omega
   rw[Yt,if_neg (by simp[Yv];omega),hle]
   unfold Zo8 at b3
   have h4:(!Yv c.by_ (-180) 180||decide (c.by_=0))=false:=by
    have g1:Yv c.by_ (-180) 180=true:=by simp[Yv];omega
    have g2:decide (c.by_=0)=false:=by simp;omega
    rw[g1,g2];rfl
   rw[h4]
   simp only[Bool.false_eq_true,if_false]
   rw[List.pairwise_cons]at h2
   exact ih _ (fun x hx=>h1 x (List.mem_cons_of_mem _ hx)) h2.2 fun a e x hx=>by cases e;exact h2.1 x hx
 exact key _ none (fun c hc=>by
  have h1:=h.at_ c hc
  have:0<z.chs.length:=List.length_pos_of_mem hc
  exact⟨h1.1,by omega,h.by_ c hc⟩) h.asc fun a e=>by cases e
theorem Zfr {α:Type} {q:α→Bool} {d:α}:∀ {l:List α} {i:Nat} {k:Int},i<l.length→q (l.getD i d)=true→(∀j,j<i→q (l.getD j d)=false)→Zy q k l=k+i
 |[],i,k,h,_,_=>by simp at h
 |a::l,i,k,h,hi,hj=>by
  unfold Zy
  cases i with
  |zero=>
   rw[show q a=true from hi,if_pos rfl]
   simp
  |succ i=>
   rw[show q a=false from hj 0 (by omega),if_neg Bool.false_ne_true,Zfr (d:=d) (i:=i) (by simpa using h) hi fun j h'=>hj (j+1) (by omega)]
   omega
theorem ZjP {α:Type} {d:α} {l:List α} {i:Nat} (h:i<l.length):l.getD i d∈l:=by rw[List.getD_eq_getElem?_getD,List.getElem?_eq_getElem h];exact List.getElem_mem _
theorem Zn0 {α:Type} {d:α} {r:α→α→Prop} {l:List α} (h:l.Pairwise r) {i j:Nat} (hij:i<j) (hj:j<l.length):r (l.getD i d) (l.getD j d):=by
 have:=List.pairwise_iff_getElem.1 h i j (by omega) hj hij
 rw[List.getD_eq_getElem?_getD,List.getD_eq_getElem?_getD,List.getElem?_eq_getElem (by omega),List.getElem?_eq_getElem hj]
 exact this
structure DL (n:Int) (l:List Train):Prop where
 all:∀(k:Nat),k<l.length→∃st:Nat,2≤st∧st≤10∧Zjj st (n-k) (l.getD k default)
theorem DL.snoc {n:Int} {l:List Train} {t:Train} {st:Nat} (h:DL n l) (h1:2≤st∧st≤10) (ht:Zjj st (n-l.length) t):DL n (l++[t]):=⟨fun k hk=>by
 simp only[List.length_append,List.length_cons,List.length_nil]at hk
 by_cases h2:k<l.length
 ·rw[List.getD_eq_getElem?_getD,List.getElem?_append_left h2,←List.getD_eq_getElem?_getD]
  exact h.all k h2
 ·have hk:k=l.length:=by omega
  subst hk
  have e:(l++[t]).getD l.length default=t:=by simp[List.getD_eq_getElem?_getD]
  rw[e]
  exact⟨st,h1.1,h1.2,ht⟩⟩
def Zo (z:Zone) (old:List Train):XH:=⟨[z],old,[],1,0⟩
theorem ZqB {st:Nat} {number:Int} {t:Train} (hst:st≤10) (h:ZgS 1 st number t):YD 1 t.stops=0:=by
 refine J1 fun j _ hj=>?_
 have hj:j<t.stops.length:=by omega
 obtain⟨h1,h2,h3,h4,h5⟩:=h.stop _ (ZjP (d:=default) hj)
 unfold Q5 YO
 rw[Zft h1.1 (by omega)]
 have hany:(t.stops.take j).any (fun x=>decide (x.station=(t.stops.getD j default).station))=false:=by
  rw[List.any_eq_false]
  intro x hx
  obtain⟨i,hi,rfl⟩:=List.mem_iff_getElem.1 hx
  have hi':i<j:=by simp at hi;omega
  have:=Zn0 (d:=default) h.nodup hi' hj
  rw[List.getD_eq_getElem?_getD,List.getElem?_eq_getElem (show i<t.stops.length by omega)]at this
  simpa using this
 rw[hany,Zft h2.1 (by omega),Zft h3 (by omega),Zft (by omega:(0:Int)≤_) h5]
 have hd:decide ((t.stops.getD j default).depart<(t.stops.getD j default).arrive)=false:=decide_eq_false (by omega)
 rw[hd]
 simp
theorem Zd8 {n:Int} {l:List Train} (h:DL n l) {i:Nat} (hi:i<l.length):(l.getD i default).number=n-i:=by
 obtain⟨st,_,_,ht⟩:=h.all i hi
 exact ht.made.number
theorem ZhG {z:Zone} {n:Int} {l:List Train} (hz:Zv z=0) (h:DL n l) (hn:n=l.length) (hl:l.length≤4):XX (Zo z l)=0:=by
 have h1:Qg 1 l=0:=by
  unfold Qg
  rw[ZoG (show(0:Int)≤l.length by omega) (by omega),if_neg (fun h=>h rfl)]
  refine J1 fun j _ hj=>?_
  have hj:j<l.length:=by omega
  obtain⟨st,_,hst,ht⟩:=h.all j hj
  have hlen:=ht.made.len
  unfold QN
  rw[Zft (by rw[Zd8 h hj];omega) (by rw[Zd8 h hj];omega)]
  have hany:(l.take j).any (fun x=>decide (x.number=(l.getD j default).number))=false:=by
   rw[List.any_eq_false]
   intro x hx
   obtain⟨i,hi,rfl⟩:=List.mem_iff_getElem.1 hx
   have hi':i<j:=by simp at hi;omega
   have hx:=Zd8 h (show i<l.length by omega)
   rw[List.getD_eq_getElem?_getD,List.getElem?_eq_getElem (show i<l.length by omega)]at hx
   rw[Zd8 h hj,List.getElem_take]
   have hx:l[i].number=n-i:=hx
   rw[hx]
   simp
   omega
  rw[hany,Zft ht.made.days.1 ht.made.days.2,ZoG (by omega) (by omega)]
  simp only[Bool.not_true,Bool.false_eq_true,if_false,ne_eq,not_true_eq_false]
  exact ZqB hst ht.made
 unfold XX Zo
 simp only[List.length_cons,List.length_nil]
 rw[show Qg ((0+1:Nat):Int) l=0 from h1]
 rw[J1 (f:=fun i=>Zv ([z].getD i default)) (k:=0+1) (i:=0) (fun j _ hj=>by
  have:j=0:=by omega
  subst this
  exact hz)]
 rfl
theorem ZkI {z:Zone} {n:Int} {l:List Train} (hc:XX (Zo z l)=0) (h:DL n l) {j:Nat} (hj:j<l.length):J3 (Zo z l) (l.getD j default).number 0=(Sp.calls [z] (l.getD j default) 0,0):=by
 obtain⟨st,_,hst,ht⟩:=h.all j hj
 have hp:place l (l.getD j default).number=j:=by
  unfold place
  rw[Zfr (d:=default) hj (by simp) fun i hi=>by
   rw[Zd8 h hj,Zd8 h (show i<l.length by omega)]
   simp
   omega]
  omega
 unfold J3
 rw[if_neg (fun hne=>hne hc)]
 show(if(!Yv 0 0 0)=true then _ else _)=_
 rw[if_neg (by decide)]
 show(if place l (l.getD j default).number<0 then _ else if(!Zba (l.getD (place l (l.getD j default).number).toNat default) 0)=true then _ else(Sp.calls [z] (l.getD (place l (l.getD j default).number).toNat default) 0,0))=_
 rw[hp,if_neg (by omega),Int.toNat_natCast]
 have:Zba (l.getD j default) 0=true:=by
  unfold Zba
  rw[ht.days]
  decide
 rw[this]
 rfl
theorem ZcR (zs:List Zone) (day:Int) (many:Nat):∀(l:List Stop) (i:Nat) (now:Int),(QR zs day many i now l).map (·.station)=l.map (·.station)
 |[],_,_=>rfl
 |s::r,i,now=>by
  unfold QR
  split
  ·simp[ZcR zs day many r]
  ·simp[ZcR zs day many r]
structure Zjg (r:List Sp.Call):Prop where
 len:2≤r.length∧r.length≤4
 st:r.Pairwise fun a b=>a.station≠b.station
 asc:Q8 r=0
theorem ZnP {z:Zone} {st:Nat} {number:Int} {t:Train} (h:Zjj st number t) (ho:Q8 (Sp.calls [z] t 0)=0):Zjg (Sp.calls [z] t 0):=by
 have hl:(Sp.calls [z] t 0).length=t.stops.length:=YF _ _ _ _ _ _
 refine⟨by rw[hl];exact⟨h.made.len.1,h.made.len.2.1⟩,?_,ho⟩
 have e:(Sp.calls [z] t 0).map (·.station)=t.stops.map (·.station):=ZcR _ _ _ _ _ _
 have h1:(t.stops.map (·.station)).Pairwise (· ≠·):=List.pairwise_map.2 h.made.nodup
 rw[←e]at h1
 exact List.pairwise_map.1 h1
def eAt (many i:Nat) (s:Stop):Sp.Call:=if i=0 then⟨s.station,if i+1<many then s.depart else 0,if i+1<many then s.depart else 0⟩else⟨s.station,s.arrive,if i+1<many then s.depart else s.arrive⟩
def eGo (many:Nat):Nat→List Stop→List Sp.Call
 |_,[]=>[]
 |i,s::r=>eAt many i s::eGo many (i+1) r
theorem Zok {r now:Int} (h1:0≤r∧r≤10000) (h2:0≤now∧now≤r):QV (ZQ ⟨0,[]⟩) r now=r:=by
 show(if max 0 (max now (r-0))<Xr then max 0 (max now (r-0))else Xr)=r
 unfold Xr
 rw[if_pos (by omega)]
 omega
theorem Zom {many:Nat}:∀(l:List Stop) (i:Nat) (now:Int),(∀s∈l,s.zone=0∧0≤s.arrive∧s.arrive≤s.depart∧s.depart≤5000)→(∀k,k+1<l.length→(l.getD k default).depart<(l.getD (k+1) default).arrive)→
  (0≤now∧∀s∈l.head?,if i=0 then now=0 else now<s.arrive)→QR [⟨0,[]⟩] 0 many i now l=eGo many i l
 |[],_,_,_,_,_=>rfl
 |s::r,i,now,hs,ha,hn=>by
  obtain⟨z0,a0,a1,a2⟩:=hs s (List.mem_cons_self ..)
  have hn1:=hn.1
  have hn2:=hn.2 s (by simp)
  have hz:([⟨0,[]⟩]:List Zone).getD s.zone.toNat default=⟨0,[]⟩:=by rw[z0];rfl
  have hnext:∀d:Int,0≤d→d≤s.depart→0≤d∧∀s'∈r.head?,if i+1=0 then d=0 else d<s'.arrive:=fun d h1 h2=>⟨h1,fun s' hs'=>by
   rw[if_neg (by omega)]
   cases r with
   |nil=>cases hs'
   |cons x r=>
    have:x=s':=by simpa using hs'
    subst this
    have:=ha 0 (by simp)
    exact Int.lt_of_le_of_lt h2 this⟩
  have har:∀k,k+1<r.length→(r.getD k default).depart<(r.getD (k+1) default).arrive:=fun k hk=>ha (k+1) (by simpa using hk)
  have hsr:∀s∈r,s.zone=0∧0≤s.arrive∧s.arrive≤s.depart∧s.depart≤5000:=fun x hx=>hs x (List.mem_cons_of_mem _ hx)
  unfold QR eGo eAt
  rw[hz]
  by_cases h0:i=0
  ·rw[if_pos h0]at hn2
   subst hn2
   simp only[if_pos h0]
   have e:QV (ZQ ⟨0,[]⟩) (1440*0+s.depart) 0=s.depart:=by rw[show(1440:Int)*0+s.depart=s.depart by omega];exact Zok (by omega) (by omega)
   rw[e]
   rw[Zom r (i+1) _ hsr har (hnext _ (by split<;>omega) (by split<;>omega))]
  ·rw[if_neg h0]at hn2
   simp only[if_neg h0]
   have e:QV (ZQ ⟨0,[]⟩) (1440*0+s.arrive) now=s.arrive:=by rw[show(1440:Int)*0+s.arrive=s.arrive by omega];exact Zok (by omega) (by omega)
   have e2:QV (ZQ ⟨0,[]⟩) (1440*0+s.depart) s.arrive=s.depart:=by rw[show(1440:Int)*0+s.depart=s.depart by omega];exact Zok (by omega) (by omega)
   rw[e,e2]
   rw[Zom r (i+1) _ hsr har (hnext _ (by split<;>omega) (by split<;>omega))]
theorem ZhE {many:Nat}:∀(l:List Stop) (i k:Nat),k<l.length→(eGo many i l).getD k default=eAt many (i+k) (l.getD k default)
 |[],_,k,h=>by simp at h
 |s::r,i,0,_=>rfl
 |s::r,i,k+1,h=>by
  have:=ZhE (many:=many) r (i+1) k (by simpa using h)
  rw[show i+1+k=i+(k+1) by omega]at this
  exact this
theorem Zjz {st:Nat} {number:Int} {t:Train} (h:Zjj st number t):Q8 (Sp.calls [⟨0,[]⟩] t 0)=0:=by
 have e:Sp.calls [⟨0,[]⟩] t 0=eGo t.stops.length 0 t.stops:=Zom _ _ _ (fun s hs=>by
  have:=h.made.stop s hs
  have:=h.late s hs
  omega) h.asc ⟨Int.le_refl _,fun s hs=>by rw[if_pos rfl]⟩
 have hl:(Sp.calls [⟨0,[]⟩] t 0).length=t.stops.length:=YF _ _ _ _ _ _
 unfold Q8
 rw[hl,e]
 refine J1 fun k hk1 hk2=>?_
 have hlen:=h.made.len
 unfold Jg
 rw[ZhE _ _ _ (by omega),ZhE _ _ _ (by omega)]
 have ha:=h.asc (k-1) (by omega)
 rw[show k-1+1=k by omega]at ha
 have hs:=h.made.stop _ (ZjP (d:=default) (show k-1<t.stops.length by omega))
 have h1:(eAt t.stops.length (0+k) (t.stops.getD k default)).arrive=(t.stops.getD k default).arrive:=by unfold eAt;rw[if_neg (by omega)]
 have h2:(eAt t.stops.length (0+(k-1)) (t.stops.getD (k-1) default)).depart≤(t.stops.getD (k-1) default).depart:=by
  unfold eAt
  split
  ·show(if _ then _ else(0:Int))≤_
   split<;>omega
  ·show(if _ then _ else _)≤_
   split<;>omega
 rw[h1,if_neg (by omega)]
theorem Zer {r:List Sp.Call} (hp:r.Pairwise fun a b=>a.station≠b.station) {f i:Nat} (hf:f≤i) (hi:i<r.length):ZN r f (r.getD i default).station=i:=by
 unfold ZN
 rw[show(max 0 (f:Int))=f by omega,Int.toNat_natCast]
 have hg:∀j,(r.drop f).getD j default=r.getD (f+j) default:=fun j=>by simp[List.getD_eq_getElem?_getD,List.getElem?_drop]
 rw[Zfr (d:=default) (i:=i-f) (by rw[List.length_drop];omega) (by rw[hg,show f+(i-f)=i by omega];simp) fun j hj=>by
  rw[hg]
  have:=Zn0 (d:=default) hp (show f+j<i by omega) hi
  simpa using this]
 omega
theorem ZeY {c:List (List Sp.Call)} {f:Int} (h:0≤f∧f<c.length):Sp.Zq c f∈c:=by
 unfold Sp.Zq
 exact ZjP (by omega)
theorem Zpc {c:List (List Sp.Call)} (hc:∀r∈c,Zjg r) {w:Sp.Xt} {before:List Sp.Xt} {i k:Nat} (hf:0≤w.feeder∧w.feeder<c.length) (ht:0≤w.train∧w.train<c.length) (hne:w.feeder≠w.train) (hi:1≤i∧i<(Sp.Zq c w.feeder).length) (hk:k+1<(Sp.Zq c w.train).length)
  (hs:w.station=((Sp.Zq c w.feeder).getD i default).station) (hs2:((Sp.Zq c w.train).getD k default).station=w.station) (ha:((Sp.Zq c w.feeder).getD i default).arrive≤((Sp.Zq c w.train).getD k default).depart) (hm:0≤w.minutes∧w.minutes≤60)
  (hn:before.any (fun x=>decide (x.feeder=w.feeder∧x.train=w.train∧x.station=w.station))=false):Qx c w before=0:=by
 have h1:Z6 (Sp.Zq c w.feeder) w.station=i:=by rw[hs];exact Zer (hc _ (ZeY hf)).st hi.1 hi.2
 have h2:ZN (Sp.Zq c w.train) 0 w.station=k:=by rw[←hs2];exact Zer (hc _ (ZeY ht)).st (Nat.zero_le _) (by omega)
 have h3:ZZ (Sp.Zq c w.train) w.station=k:=by unfold ZZ;rw[h2,if_pos (by omega)]
 unfold Qx
 rw[Ye hf.1 (by omega),Ye ht.1 (by omega),if_neg (by decide),if_neg hne]
 show(if Z6 (Sp.Zq c w.feeder) w.station<0∨ZZ (Sp.Zq c w.train) w.station<0 then(3:Int)else if QQ w.minutes 0 60=true then 1 else if((Sp.Zq c w.train).getD (ZZ (Sp.Zq c w.train) w.station).toNat default).depart<((Sp.Zq c w.feeder).getD (Z6 (Sp.Zq c w.feeder) w.station).toNat default).arrive then 5 else if before.any _=true then 4 else 0)=0
 rw[h1,h3,if_neg (by omega),Ye hm.1 hm.2,if_neg Bool.false_ne_true,Int.toNat_natCast,Int.toNat_natCast,if_neg (by omega),hn,if_neg Bool.false_ne_true]
theorem ZoA {c:List (List Sp.Call)} {d:Sp.Qh} {before:List Sp.Qh} (hr:0≤d.run∧d.run<c.length) (hl:0≤d.leg∧d.leg+2≤(Sp.Zq c d.run).length) (hb:1≤d.by_.length∧d.by_.length≤3) (hv:∀k,k<d.by_.length→0≤d.by_.getD k 0∧d.by_.getD k 0≤240)
  (ha:∀k,k+1<d.by_.length→d.by_.getD k 0<d.by_.getD (k+1) 0) (hn:before.any (fun x=>decide (x.run=d.run∧x.leg=d.leg))=false):QX c d before=0:=by
 unfold QX
 rw[Ye hr.1 (by omega)]
 show(if(false||QQ d.leg 0 (((Sp.Zq c d.run).length:Int)-2))=true then(3:Int)else _)=0
 rw[Ye hl.1 (by omega),if_neg (by decide),if_neg (by omega),if_neg (by omega)]
 have h0:Zr (ZhQ d.by_) 0 d.by_.length=0:=J1 fun k _ hk=>by
  have hk:k<d.by_.length:=by omega
  unfold ZhQ
  rw[Ye (hv k hk).1 (hv k hk).2,if_neg Bool.false_ne_true,if_neg]
  rintro⟨h1,h2⟩
  have:=ha (k-1) (by omega)
  rw[show k-1+1=k by omega]at this
  omega
 rw[h0,if_neg (fun h=>h rfl),hn,if_neg Bool.false_ne_true]
structure LOk {α:Type} [Inhabited α] (e:α→List α→Int) (l:List α):Prop where
 ok:∀i,i<l.length→e (l.getD i default) (l.take i)=0
theorem LOk.nil {α:Type} [Inhabited α] {e:α→List α→Int}:LOk e []:=⟨fun i h=>by simp at h⟩
theorem LOk.snoc {α:Type} [Inhabited α] {e:α→List α→Int} {l:List α} {a:α} (h:LOk e l) (ha:e a l=0):LOk e (l++[a]):=⟨fun i hi=>by
 simp only[List.length_append,List.length_cons,List.length_nil]at hi
 by_cases h2:i<l.length
 ·rw[List.getD_eq_getElem?_getD,List.getElem?_append_left h2,←List.getD_eq_getElem?_getD,List.take_append_of_le_length (by omega)]
  exact h.ok i h2
 ·have hk:i=l.length:=by omega
  subst hk
  rw[List.take_left]
  have e:(l++[a]).getD l.length default=a:=by simp[List.getD_eq_getElem?_getD]
  rw[e]
  exact ha⟩
theorem Zi2 {t:Zf} (h1:XX t.book=0) (h2:QP t=0) (h3:t.waits.length≤4) (h4:LOk (Qx (callsOf t)) t.waits) (h5:t.delays.length≤6) (h6:LOk (QX (callsOf t)) t.delays):Zn t=0:=by
 unfold Zn
 rw[if_neg (fun h=>h h1),if_neg (fun h=>h h2),if_neg (by omega),J1 (fun j _ hj=>h4.ok j (by omega)),if_neg (fun h=>h rfl),if_neg (by omega)]
 exact J1 fun j _ hj=>h6.ok j (by omega)
end Go.Proofs.YtjgpiclllehgmaaGreat.Vm
namespace Go.Proofs.YtjgpiclllehgmaaGreat.Sp
open Vm
theorem Y4 {t:Zf} (h:Zn t=0):Sp.XX t.book=0∧QP t=0∧t.waits.length≤4∧LOk (Qx (callsOf t)) t.waits∧t.delays.length≤6∧LOk (QX (callsOf t)) t.delays:=by
 unfold Zn at h
 split at h
 ·exact absurd h (by assumption)
 split at h
 ·exact absurd h (by assumption)
 rename_i h0 h1
 split at h
 ·cases h
 split at h
 ·exact absurd h (by assumption)
 rename_i h2 h3
 split at h
 ·cases h
 rename_i h4
 exact⟨Decidable.of_not_not h0,Decidable.of_not_not h1,by omega,⟨fun i hi=>Qd (Decidable.of_not_not h3) i (Nat.zero_le _) (by omega)⟩,by omega,⟨fun i hi=>Qd h i (Nat.zero_le _) (by omega)⟩⟩
theorem ZlV (t:Zf):(callsOf t).length=t.runs.length:=by unfold callsOf;rw[List.length_map]
theorem LOk.map {α β:Type} [Inhabited α] [Inhabited β] {e:α→List α→Int} {e':β→List β→Int} {f:α→β} {l:List α} (h:LOk e l) (hm:∀a∈l,∀p,(∀b∈p,b∈l)→e a p=0→e' (f a) (p.map f)=0):LOk e' (l.map f):=⟨fun i hi=>by
 rw[List.length_map]at hi
 have h1:=h.ok i hi
 rw[List.getD_eq_getElem?_getD,List.getElem?_eq_getElem hi]at h1
 rw[List.getD_eq_getElem?_getD,List.getElem?_map,List.getElem?_eq_getElem hi,←List.map_take]
 exact hm _ (List.getElem_mem hi) _ (fun b hb=>List.mem_of_mem_take hb) h1⟩
theorem Zh3 {t:Zf} {w n:Int} {k:Nat}:(Zt t w n).waits.getD k default=if k=w.toNat∧k<t.waits.length then {t.waits.getD k default with minutes:=n}else t.waits.getD k default:=by
 show(t.waits.set w.toNat _).getD k default=_
 rw[List.getD_eq_getElem?_getD,List.getElem?_set]
 by_cases h:w.toNat=k
 ·subst h
  rw[if_pos rfl]
  by_cases hl:w.toNat<t.waits.length
  ·rw[if_pos hl,if_pos ⟨rfl,hl⟩];rfl
  ·rw[if_neg hl,if_neg (fun h=>hl h.2),List.getD_eq_getElem?_getD,List.getElem?_eq_none (by omega)]
 ·rw[if_neg h,if_neg (fun h'=>h h'.1.symm),←List.getD_eq_getElem?_getD]
theorem ZeH {t:Zf} (he:Zn t=0) {w n:Int} (hn:0≤n∧n≤60):Zn (Zt t w n)=0:=by
 obtain⟨h1,h2,h3,h4,h5,h6⟩:=Y4 he
 have hsame:∀k,((Zt t w n).waits.getD k default).feeder=(t.waits.getD k default).feeder∧((Zt t w n).waits.getD k default).train=(t.waits.getD k default).train∧((Zt t w n).waits.getD k default).station=(t.waits.getD k default).station:=fun k=>by
  rw[Zh3];split<;>exact⟨rfl,rfl,rfl⟩
 have hlen:(Zt t w n).waits.length=t.waits.length:=by show(t.waits.set _ _).length=_;rw[List.length_set]
 refine Zi2 h1 h2 (by omega) ⟨fun i hi=>?_⟩ h5 h6
 have h:=h4.ok i (by omega)
 have hs:=hsame i
 have hany:((Zt t w n).waits.take i).any (fun x=>decide (x.feeder=(t.waits.getD i default).feeder∧x.train=(t.waits.getD i default).train∧x.station=(t.waits.getD i default).station))=(t.waits.take i).any (fun x=>decide (x.feeder=(t.waits.getD i default).feeder∧x.train=(t.waits.getD i default).train∧x.station=(t.waits.getD i default).station)):=by
  rw[Bool.eq_iff_iff,List.any_eq_true,List.any_eq_true]
  constructor
  ·rintro⟨x,hx,hq⟩
   obtain⟨k,hk,rfl⟩:=List.mem_iff_getElem.1 hx
   have hk':k<i∧k<t.waits.length:=by rw[List.length_take]at hk;omega
   refine⟨t.waits.getD k default,?_,?_⟩
   ·rw[List.mem_iff_getElem?]
    exact⟨k,by rw[List.getElem?_take,if_pos hk'.1,List.getD_eq_getElem?_getD,List.getElem?_eq_getElem hk'.2];rfl⟩
   ·have e:((Zt t w n).waits.take i)[k]=(Zt t w n).waits.getD k default:=by
     rw[List.getElem_take,List.getD_eq_getElem?_getD,List.getElem?_eq_getElem (by omega)];rfl
    rw[e,(hsame k).1,(hsame k).2.1,(hsame k).2.2]at hq
    exact hq
  ·rintro⟨x,hx,hq⟩
   obtain⟨k,hk,rfl⟩:=List.mem_iff_getElem.1 hx
   have hk':k<i∧k<t.waits.length:=by rw[List.length_take]at hk;omega
   refine⟨(Zt t w n).waits.getD k default,?_,?_⟩
   ·rw[List.mem_iff_getElem?]
    exact⟨k,by rw[List.getElem?_take,if_pos hk'.1,List.getD_eq_getElem?_getD,List.getElem?_eq_getElem (by omega)];rfl⟩
   ·have e:(t.waits.take i)[k]=t.waits.getD k default:=by
     rw[List.getElem_take,List.getD_eq_getElem?_getD,List.getElem?_eq_getElem (by omega)];rfl
    rw[e]at hq
    rw[(hsame k).1,(hsame k).2.1,(hsame k).2.2]
    exact hq
 unfold Qx at h⊢
 show(if(QQ ((Zt t w n).waits.getD i default).feeder 0 ((callsOf t).length-1)||QQ ((Zt t w n).waits.getD i default).train 0 ((callsOf t).length-1))=true then(3:Int)else if((Zt t w n).waits.getD i default).feeder=((Zt t w n).waits.getD i default).train then 4 else if Z6 ((callsOf t).getD ((Zt t w n).waits.getD i default).feeder.toNat []) ((Zt t w n).waits.getD i default).station<0∨ZZ ((callsOf t).getD ((Zt t w n).waits.getD i default).train.toNat []) ((Zt t w n).waits.getD i default).station<0 then 3 else if QQ ((Zt t w n).waits.getD i default).minutes 0 60=true then 1 else if(((callsOf t).getD ((Zt t w n).waits.getD i default).train.toNat []).getD (ZZ ((callsOf t).getD ((Zt t w n).waits.getD i default).train.toNat []) ((Zt t w n).waits.getD i default).station).toNat default).depart<(((callsOf t).getD ((Zt t w n).waits.getD i default).feeder.toNat []).getD (Z6 ((callsOf t).getD ((Zt t w n).waits.getD i default).feeder.toNat []) ((Zt t w n).waits.getD i default).station).toNat default).arrive then 5 else if((Zt t w n).waits.take i).any (fun x=>decide (x.feeder=((Zt t w n).waits.getD i default).feeder∧x.train=((Zt t w n).waits.getD i default).train∧x.station=((Zt t w n).waits.getD i default).station))=true then 4 else 0)=0
 rw[hs.1,hs.2.1,hs.2.2,hany]
 have hmin:QQ ((Zt t w n).waits.getD i default).minutes 0 60=false:=by
  rw[Zh3]
  split
  ·exact Ye hn.1 hn.2
  ·rename_i hne
   split at h
   ·cases h
   split at h
   ·cases h
   split at h
   ·cases h
   split at h
   ·cases h
   rename_i g
   simpa using g
 rw[hmin]
 split at h
 ·cases h
 rename_i g1
 rw[if_neg g1]
 split at h
 ·cases h
 rename_i g2
 rw[if_neg g2]
 split at h
 ·cases h
 rename_i g3
 rw[if_neg g3,if_neg Bool.false_ne_true]
 split at h
 ·cases h
 exact h
def Zcg (t:Zf) (a:Zs) (w n:Int):Int×Int×Int:=
 if Qk t a w≠0 then(0,0,Qk t a w)else if QQ n 0 60=true then(0,0,1)
 else if ZU t a=true∧ZU (Zt t w n) a=true then((ZP t a).to_,(ZP (Zt t w n) a).to_,0)else(0,0,11)
end Go.Proofs.YtjgpiclllehgmaaGreat.Sp
namespace Go.Proofs.YtjgpiclllehgmaaGreat.Vm
attribute [local irreducible] Dn
open Go Go.Proofs Sp
set_option maxRecDepth 100000
set_option maxHeartbeats 4000000
theorem Zu4 (t:Zf) (a:Zs) (w n:Int) (hf:Xe t) (ha:a.steps.length≤1000000) (hw:Zn t=0→ZH t):SC (fun _=>Tryz.prog) 33 [Ze t,ZX a,.int .i64 fun _=>w,.int .i64 fun _=>n] [] fun v h=>
  v= .tup [.int .i64 fun _=>(Zcg t a w n).1,.int .i64 fun _=>(Zcg t a w n).2.1,.int .i64 fun _=>(Zcg t a w n).2.2]∧h=[]:=by
 obtain⟨nt,hnt⟩:=Zp
 have k:=Zt2 t a w hf ha
 by_cases he:Qk t a w=0
 ·have hok:=ZgI he
  have hw:=hw hok.1
  have k381:=Zb3 n 0 60
  have k400:=ZqI t w n hf hok.2.2
  have k399:=ZqJ t a hw hok.2.1
  have k399w:=fun h=>ZqJ (Zt t w n) a (Zc3 hw (n:=n) h) hok.2.1
  have hE:Zcg t a w n=if QQ n 0 60=true then(0,0,1)else if ZU t a=true∧ZU (Zt t w n) a=true then((ZP t a).to_,(ZP (Zt t w n) a).to_,0)else(0,0,11):=by
   unfold Zcg
   rw[if_neg (fun h=>h he)]
  have hob:QQ n 0 60=false→0≤n∧n≤60:=fun h=>Xn h
  have hbk:(Zt t w n).book=t.book:=rfl
  have hrn:(Zt t w n).runs=t.runs:=rfl
  have hdl:(Zt t w n).delays=t.delays:=rfl
  have hcl:callsOf (Zt t w n)=callsOf t:=rfl
  unfold QA at k
  rw[if_pos hok.1,he]at k
  unfold ZR Ze ZX Qs at*
  simp only[hbk,hrn,hdl,hcl]at k400 k399w
  simp only[Za hnt,Zb,Xc,Zx]at*
  generalize Zcg t a w n=BE at*
  generalize QQ n 0 60=B at*
  generalize ZU (Zt t w n) a=CB at*
  generalize ZP (Zt t w n) a=SB at*
  generalize Zt t w n=WT at*
  generalize ZU t a=CA at*
  generalize ZP t a=SA at*
  refine SC.less (Qu Tryz.func33 (body:=Zj Tryz.f33) rfl (by decide+kernel) ?_)
  refine wS ?_
  refine ZoO (k) ?_
  refine wS ?_
  refine Br.isF rfl ?_
  refine wS ?_
  refine ZoO (k381) ?_
  refine wS ?_
  cases B
  case true=>
   rw[if_pos rfl]at hE
   subst hE
   refine Br.isT rfl ?_
   refine wS ?_
   refine⟨_,[],?_,rfl,rfl⟩
   exact ZJ
  rw[if_neg Bool.false_ne_true]at hE
  have k399w:=k399w (hob rfl)
  refine Br.isF rfl ?_
  refine wS ?_
  refine ZoO (k399) ?_
  refine wS ?_
  repeat' (first|(with_reducible refine Zkx.mk ?_ ?_)|((with_reducible refine Chk.mk ?_ ?_);(focus exact Qc))|((with_reducible refine ZV k400 ?_ ?_);(focus (first|rfl|(simp only[Za hnt];rfl)));(intro r h₂ hp;obtain⟨rfl,rfl⟩:=hp;cbv;(try simp only[nc]at*)))|((with_reducible refine SC.lend0 k399w ?_ ?_);(focus (first|rfl|(simp only[Za hnt];rfl)));(intro r h₂ hp;obtain⟨rfl,rfl⟩:=hp;refine⟨rfl,rfl,?_⟩;cbv;(try simp only[nc]at*))))
  all_goals
   refine⟨fun h2=>?_,fun h2=>?_⟩
   ·rw[if_neg (by rintro⟨rfl,rfl⟩;cases h2)]at hE
    subst hE
    refine wS ?_
    refine⟨_,[],?_,rfl,rfl⟩
    exact ZJ
   ·rw[if_pos (by cases CA<;>cases CB<;>first|exact⟨rfl,rfl⟩|cases h2)]at hE
    subst hE
    refine wS ?_
    refine⟨_,[],?_,rfl,rfl⟩
    exact ZJ
 ·have hE:Zcg t a w n=(0,0,Qk t a w):=by
   unfold Zcg
   rw[if_pos he]
  rw[hE]
  generalize Qk t a w=e at*
  refine SC.less (Qu Tryz.func33 (body:=Zj Tryz.f33) rfl (by decide+kernel) ?_)
  unfold Ze ZX at*
  by_cases hb:Zn t=0
  ·unfold QA at k
   rw[if_pos hb]at k
   unfold ZR at k
   simp only[Za hnt,Zb,Xc,Zx]at*
   refine wS ?_
   refine ZoO (k) ?_
   refine wS ?_
   refine⟨fun h=>?_,fun h=>?_⟩
   ·refine wS ?_
    refine⟨_,[],?_,rfl,rfl⟩
    exact ZJ
   ·exact absurd (by simpa only[bne_eq_false_iff_eq]using h) he
  ·unfold QA at k
   rw[if_neg hb]at k
   simp only[Za hnt,Zb,Xc,Zx]at*
   refine wS ?_
   refine ZoO (k) ?_
   refine wS ?_
   refine⟨fun h=>?_,fun h=>?_⟩
   ·refine wS ?_
    refine⟨_,[],?_,rfl,rfl⟩
    exact ZJ
   ·exact absurd (by simpa only[bne_eq_false_iff_eq]using h) he
end Go.Proofs.YtjgpiclllehgmaaGreat.Vm
namespace Go.Proofs.YtjgpiclllehgmaaGreat.Vm
open Go Go.Proofs
theorem SC.nilOr {f:FuncId} {s:Nat} {n:Unit→Int} {g:(Unit→Int)→List AV} {h:List Zi} {Post:AV→List Zi→Prop} (hn:n ()=0) (h1:SC (fun _=>Tryz.prog) f [.isl s n g .nil] h Post) (h2:SC (fun _=>Tryz.prog) f [.isl s n g .nn] h Post):SC (fun _=>Tryz.prog) f [.isl s n g .none] h Post:=
 ⟨h1.enter,fun G R vs hr ha cs=>by
  have hv:=ha.2 0 _ rfl
  by_cases e:vs.getD 0 Go.undef= .slice none 0 0
  ·refine h1.run G R vs hr ⟨ha.1,fun j c hj=>?_⟩ cs
   cases j with
   |zero=>
    simp only[List.getElem?_cons_zero,Option.some.injEq]at hj
    subst hj
    rw[e]
    exact .pure _ _ (.isl0 _ _ _ _ hn rfl)
   |succ j=>simp at hj
  ·refine h2.run G R vs hr ⟨ha.1,fun j c hj=>?_⟩ cs
   cases j with
   |zero=>
    simp only[List.getElem?_cons_zero,Option.some.injEq]at hj
    subst hj
    exact .nn _ _ _ _ hv.isl_inv e
   |succ j=>simp at hj⟩
attribute [local irreducible] Dn
open Go Go.Proofs Sp
set_option maxRecDepth 100000
set_option maxHeartbeats 4000000
theorem QJ {n k s:Nat} {m:Unit→Int} {g:(Unit→Int)→List AV} {n0:Unit→Int} {f:(Unit→Int)→List AV} {m':Unit→Int} (h0:n0 ()=0) (hm:m' ()=m ()):ZE n k (.isl s m' (QK n0 f g) .none) (.isl s m g .none):=
 .isl hm fun i hi=>by
  show(if(i:Int)<n0 ()then _ else _)=_
  rw[if_neg (by omega)]
  have e:(fun _:Unit=>(i:Int)-n0 ())=fun _=>(i:Int):=funext fun _=>by omega
  rw[e]
theorem ZtV (l:List Chg) (hl:l.length≤1000000):SC (fun _=>Tryz.prog) 155 [lst 2 JC default l] [] fun v h=>v=lst 2 JC default l∧h=[]:=by
 obtain⟨nt,hnt⟩:=Zp
 simp only[Za hnt]
 by_cases h0:l=[]
 ·subst h0
  refine SC.nilOr rfl ?_ ?_
  ·refine SC.less (Qu Tryz.func155 (body:=Zj Tryz.f155) rfl (by decide+kernel) ?_)
   refine wS ?_
   refine Br.isT rfl ?_
   refine wS ?_
   refine⟨_,_,?_,rfl,rfl⟩
   exact ZJ
  ·refine SC.less (Qu Tryz.func155 (body:=Zj Tryz.f155) rfl (by decide+kernel) ?_)
   refine wS ?_
   refine Br.isF rfl ?_
   refine wS ?_
   refine⟨_,_,?_,rfl,rfl⟩
   refine toR ?_
   exact QJ rfl (by simp)
 ·have hp:0<l.length:=List.length_pos_iff.2 h0
  refine SC.less (Qu Tryz.func155 (body:=Zj Tryz.f155) rfl (by decide+kernel) ?_)
  refine wS ?_
  refine Br.isF rfl ?_
  refine wS ?_
  refine⟨_,_,?_,rfl,rfl⟩
  refine toR ?_
  exact QJ rfl (by simp)
theorem ZtR (l:List Stop) (hl:l.length≤1000000):SC (fun _=>Tryz.prog) 158 [lst 4 QH default l] [] fun v h=>v=lst 4 QH default l∧h=[]:=by
 obtain⟨nt,hnt⟩:=Zp
 simp only[Za hnt]
 by_cases h0:l=[]
 ·subst h0
  refine SC.nilOr rfl ?_ ?_
  ·refine SC.less (Qu Tryz.func158 (body:=Zj Tryz.f158) rfl (by decide+kernel) ?_)
   refine wS ?_
   refine Br.isT rfl ?_
   refine wS ?_
   refine⟨_,_,?_,rfl,rfl⟩
   exact ZJ
  ·refine SC.less (Qu Tryz.func158 (body:=Zj Tryz.f158) rfl (by decide+kernel) ?_)
   refine wS ?_
   refine Br.isF rfl ?_
   refine wS ?_
   refine⟨_,_,?_,rfl,rfl⟩
   refine toR ?_
   exact QJ rfl (by simp)
 ·have hp:0<l.length:=List.length_pos_iff.2 h0
  refine SC.less (Qu Tryz.func158 (body:=Zj Tryz.f158) rfl (by decide+kernel) ?_)
  refine wS ?_
  refine Br.isF rfl ?_
  refine wS ?_
  refine⟨_,_,?_,rfl,rfl⟩
  refine toR ?_
  exact QJ rfl (by simp)
theorem ZtN (l:List Int) (hl:l.length≤1000000):SC (fun _=>Tryz.prog) 161 [lst 1 XN 0 l] [] fun v h=>v=lst 1 XN 0 l∧h=[]:=by
 obtain⟨nt,hnt⟩:=Zp
 simp only[Za hnt]
 by_cases h0:l=[]
 ·subst h0
  refine SC.nilOr rfl ?_ ?_
  ·refine SC.less (Qu Tryz.func161 (body:=Zj Tryz.f161) rfl (by decide+kernel) ?_)
   refine wS ?_
   refine Br.isT rfl ?_
   refine wS ?_
   refine⟨_,_,?_,rfl,rfl⟩
   exact ZJ
  ·refine SC.less (Qu Tryz.func161 (body:=Zj Tryz.f161) rfl (by decide+kernel) ?_)
   refine wS ?_
   refine Br.isF rfl ?_
   refine wS ?_
   refine⟨_,_,?_,rfl,rfl⟩
   refine toR ?_
   exact QJ rfl (by simp)
 ·have hp:0<l.length:=List.length_pos_iff.2 h0
  refine SC.less (Qu Tryz.func161 (body:=Zj Tryz.f161) rfl (by decide+kernel) ?_)
  refine wS ?_
  refine Br.isF rfl ?_
  refine wS ?_
  refine⟨_,_,?_,rfl,rfl⟩
  refine toR ?_
  exact QJ rfl (by simp)
theorem ZtQ (l:List Sp.Qp) (hl:l.length≤1000000):SC (fun _=>Tryz.prog) 159 [lst 2 Zg default l] [] fun v h=>v=lst 2 Zg default l∧h=[]:=by
 obtain⟨nt,hnt⟩:=Zp
 simp only[Za hnt]
 by_cases h0:l=[]
 ·subst h0
  refine SC.nilOr rfl ?_ ?_
  ·refine SC.less (Qu Tryz.func159 (body:=Zj Tryz.f159) rfl (by decide+kernel) ?_)
   refine wS ?_
   refine Br.isT rfl ?_
   refine wS ?_
   refine⟨_,_,?_,rfl,rfl⟩
   exact ZJ
  ·refine SC.less (Qu Tryz.func159 (body:=Zj Tryz.f159) rfl (by decide+kernel) ?_)
   refine wS ?_
   refine Br.isF rfl ?_
   refine wS ?_
   refine⟨_,_,?_,rfl,rfl⟩
   refine toR ?_
   exact QJ rfl (by simp)
 ·have hp:0<l.length:=List.length_pos_iff.2 h0
  refine SC.less (Qu Tryz.func159 (body:=Zj Tryz.f159) rfl (by decide+kernel) ?_)
  refine wS ?_
  refine Br.isF rfl ?_
  refine wS ?_
  refine⟨_,_,?_,rfl,rfl⟩
  refine toR ?_
  exact QJ rfl (by simp)
theorem ZtX (l:List Sp.Xt) (hl:l.length≤1000000):SC (fun _=>Tryz.prog) 152 [lst 4 Q2 default l] [] fun v h=>v=lst 4 Q2 default l∧h=[]:=by
 obtain⟨nt,hnt⟩:=Zp
 simp only[Za hnt]
 by_cases h0:l=[]
 ·subst h0
  refine SC.nilOr rfl ?_ ?_
  ·refine SC.less (Qu Tryz.func152 (body:=Zj Tryz.f152) rfl (by decide+kernel) ?_)
   refine wS ?_
   refine Br.isT rfl ?_
   refine wS ?_
   refine⟨_,_,?_,rfl,rfl⟩
   exact ZJ
  ·refine SC.less (Qu Tryz.func152 (body:=Zj Tryz.f152) rfl (by decide+kernel) ?_)
   refine wS ?_
   refine Br.isF rfl ?_
   refine wS ?_
   refine⟨_,_,?_,rfl,rfl⟩
   refine toR ?_
   exact QJ rfl (by simp)
 ·have hp:0<l.length:=List.length_pos_iff.2 h0
  refine SC.less (Qu Tryz.func152 (body:=Zj Tryz.f152) rfl (by decide+kernel) ?_)
  refine wS ?_
  refine Br.isF rfl ?_
  refine wS ?_
  refine⟨_,_,?_,rfl,rfl⟩
  refine toR ?_
  exact QJ rfl (by simp)
theorem ZtS (l:List Train) (hl:l.length≤1000000):SC (fun _=>Tryz.prog) 157 [lst 3 encTrain default l] [] fun v h=>v=lst 3 encTrain default l∧h=[]:=by
 obtain⟨nt,hnt⟩:=Zp
 simp only[Za hnt]
 by_cases h0:l=[]
 ·subst h0
  refine SC.nilOr rfl ?_ ?_
  ·refine SC.less (Qu Tryz.func157 (body:=Zj Tryz.f157) rfl (by decide+kernel) ?_)
   refine wS ?_
   refine Br.isT rfl ?_
   refine wS ?_
   refine⟨_,_,?_,rfl,rfl⟩
   exact ZJ
  ·refine SC.less (Qu Tryz.func157 (body:=Zj Tryz.f157) rfl (by decide+kernel) ?_)
   refine wS ?_
   refine Br.isF rfl ?_
   refine wS ?_
   refine⟨_,_,?_,rfl,rfl⟩
   refine toR ?_
   exact QJ rfl (by simp)
 ·have hp:0<l.length:=List.length_pos_iff.2 h0
  refine SC.less (Qu Tryz.func157 (body:=Zj Tryz.f157) rfl (by decide+kernel) ?_)
  refine wS ?_
  refine Br.isF rfl ?_
  refine wS ?_
  refine⟨_,_,?_,rfl,rfl⟩
  refine toR ?_
  exact QJ rfl (by simp)
theorem ZtO (l:List Sp.Qh) (hl:l.length≤1000000):SC (fun _=>Tryz.prog) 160 [lst 3 Zx default l] [] fun v h=>v=lst 3 Zx default l∧h=[]:=by
 obtain⟨nt,hnt⟩:=Zp
 simp only[Za hnt]
 by_cases h0:l=[]
 ·subst h0
  refine SC.nilOr rfl ?_ ?_
  ·refine SC.less (Qu Tryz.func160 (body:=Zj Tryz.f160) rfl (by decide+kernel) ?_)
   refine wS ?_
   refine Br.isT rfl ?_
   refine wS ?_
   refine⟨_,_,?_,rfl,rfl⟩
   exact ZJ
  ·refine SC.less (Qu Tryz.func160 (body:=Zj Tryz.f160) rfl (by decide+kernel) ?_)
   refine wS ?_
   refine Br.isF rfl ?_
   refine wS ?_
   refine⟨_,_,?_,rfl,rfl⟩
   refine toR ?_
   exact QJ rfl (by simp)
 ·have hp:0<l.length:=List.length_pos_iff.2 h0
  refine SC.less (Qu Tryz.func160 (body:=Zj Tryz.f160) rfl (by decide+kernel) ?_)
  refine wS ?_
  refine Br.isF rfl ?_
  refine wS ?_
  refine⟨_,_,?_,rfl,rfl⟩
  refine toR ?_
  exact QJ rfl (by simp)
theorem ZtW {nt:(α:Type)→α→List α→Int→α} (hnt:∀(α:Type) (d:α) (l:List α) (i:Int),nt α d l i=l.getD i.toNat d) (l:List Zone) (hl:0<l.length∧l.length≤1000000):SC (fun _=>Tryz.prog) 154 [lst 2 encZone default l] [] fun v h=>v= .gsl 0 (fun _=>(l.length:Int))∧h=[.gar 2 (fun _=>(l.length:Int)) (fun e=>encZone (nt Zone default l (e ())))]:=by
 simp only[Za hnt]
 refine SC.less (ZoD true false [] Tryz.func154 (body:=Zj Tryz.f154) rfl (by decide+kernel) ?_)
 refine wS ?_
 refine Br.isF rfl ?_
 refine wS ?_
 refine⟨_,_,?_,rfl,rfl⟩
 refine toR ?_
 exact .gar (by simp) fun i hi=>by rw[Xp (len:=0) rfl (Nat.zero_le _)];rfl
theorem ZtT {nt:(α:Type)→α→List α→Int→α} (hnt:∀(α:Type) (d:α) (l:List α) (i:Int),nt α d l i=l.getD i.toNat d) (l:List Train) (hl:0<l.length∧l.length≤1000000):SC (fun _=>Tryz.prog) 157 [lst 3 encTrain default l] [] fun v h=>v= .gsl 0 (fun _=>(l.length:Int))∧h=[.gar 3 (fun _=>(l.length:Int)) (fun e=>encTrain (nt Train default l (e ())))]:=by
 simp only[Za hnt]
 refine SC.less (ZoD true false [] Tryz.func157 (body:=Zj Tryz.f157) rfl (by decide+kernel) ?_)
 refine wS ?_
 refine Br.isF rfl ?_
 refine wS ?_
 refine⟨_,_,?_,rfl,rfl⟩
 refine toR ?_
 exact .gar (by simp) fun i hi=>by rw[Xp (len:=0) rfl (Nat.zero_le _)];rfl
theorem ZtP {nt:(α:Type)→α→List α→Int→α} (hnt:∀(α:Type) (d:α) (l:List α) (i:Int),nt α d l i=l.getD i.toNat d) (l:List Sp.Qh) (hl:0<l.length∧l.length≤1000000):SC (fun _=>Tryz.prog) 160 [lst 3 Zx default l] [] fun v h=>v= .gsl 0 (fun _=>(l.length:Int))∧h=[.gar 3 (fun _=>(l.length:Int)) (fun e=>Zx (nt Sp.Qh default l (e ())))]:=by
 simp only[Za hnt]
 refine SC.less (ZoD true false [] Tryz.func160 (body:=Zj Tryz.f160) rfl (by decide+kernel) ?_)
 refine wS ?_
 refine Br.isF rfl ?_
 refine wS ?_
 refine⟨_,_,?_,rfl,rfl⟩
 refine toR ?_
 exact .gar (by simp) fun i hi=>by rw[Xp (len:=0) rfl (Nat.zero_le _)];rfl
theorem Zld {nt:(α:Type)→α→List α→Int→α} (hnt:∀(α:Type) (d:α) (l:List α) (i:Int),nt α d l i=l.getD i.toNat d) (t:Train):encTrain t=[.int .i64 fun _=>t.number,.int .i64 fun _=>t.days,.isl 4 (fun _=>(t.stops.length:Int)) (fun e=>QH (nt Stop default t.stops (e ()))) .none]:=by
 unfold encTrain
 rw[Za hnt]
theorem ZtU (l:List Train) (hl:l.length≤1000000) (hs:∀t∈l,t.stops.length≤1000000):SC (fun _=>Tryz.prog) 156 [lst 3 encTrain default l] [] fun v h=>v=lst 3 encTrain default l∧h=[]:=by
 obtain⟨nt,hnt⟩:=Zp
 have kE:=ZtS l hl
 have kG:=fun h=>ZtT hnt l ⟨h,hl⟩
 have kS:=fun(i:Nat) (hi:i<l.length)=>ZtR (nt Train default l i).stops (hs _ (Xg (d:=default) hnt (l:=l) (i:=i) (by omega)))
 simp only[Za hnt,Zld hnt]at*
 by_cases h0:l=[]
 ·subst h0
  refine SC.less (Qu Tryz.func156 (body:=Zj Tryz.f156) rfl (by decide+kernel) ?_)
  refine wS ?_
  refine ZoO (kE) ?_
  refine wS ?_
  refine ZT false false [] [0,7,8] [] (fun(i:Nat)=>[(8,.int .i64 fun _=>(i:Int))]) (fun _=>[]) (fun i=>i=0) (fun i=>0) 0 rfl ?_ ?_
  ·exact ZJ
  intro i hi
  have hi:i=0:=hi
  subst hi
  refine wS ?_
  refine Br.isF rfl ?_
  refine wS ?_
  refine⟨_,_,?_,rfl,rfl⟩
  exact ZJ
 ·have hp:0<l.length:=List.length_pos_iff.2 h0
  have kG:=kG hp
  refine SC.less (Qu Tryz.func156 (body:=Zj Tryz.f156) rfl (by decide+kernel) ?_)
  refine wS ?_
  refine cL1 [] (kG) fun r h₂ hp=>?_
  (try simp only[Zd,Zc,Ze,Zb,Za hnt]at hp)
  obtain⟨rfl,rfl⟩:=hp
  refine wS ?_
  refine ZT false false [] [0,7,8] [] (fun(i:Nat)=>[(8,.int .i64 fun _=>(i:Int))]) (fun _=>[]) (fun i=>i≤l.length) (fun i=>l.length-i+0) 0 (Nat.zero_le _) ?_ ?_
  ·exact ZJ
  intro i hi
  have hi:i≤l.length:=hi
  refine wS ?_
  refine⟨fun hb=>?_,fun hb=>?_⟩
  ·simp only[decide_eq_true_eq]at hb
   have kS:=kS i (by omega)
   refine wS ?_
   refine ZoO (kS) ?_
   refine wS ?_
   refine⟨i+1,by show i+1≤_;omega,by show l.length-(i+1)+0<l.length-i+0;omega,?_⟩
   (refine To.of [] ?_;cbv;(try simp only[nc]);(repeat' (first|exact trivial|exact ZE.refl _|exact ZM.refl _|refine⟨?_,?_⟩|refine ZM.cells ?_|refine ZE.agg ?_|refine ZE.tup ?_));(all_goals (first|exact X3|skip)))
   refine .gar rfl fun x hx=>?_
   by_cases h:(x:Int)=(i:Int)
   ·obtain rfl:x=i:=by omega
    simp only[decide_true]
    rfl
   ·simp only[decide_eq_false h]
    rfl
  ·refine wS ?_
   refine⟨_,_,?_,rfl,rfl⟩
   exact ZJ
theorem Zmf {nt:(α:Type)→α→List α→Int→α} (hnt:∀(α:Type) (d:α) (l:List α) (i:Int),nt α d l i=l.getD i.toNat d) (z:Zone):encZone z=[.int .i64 fun _=>z.base,.isl 2 (fun _=>(z.chs.length:Int)) (fun e=>JC (nt Chg default z.chs (e ()))) .none]:=by
 unfold encZone
 rw[Za hnt]
theorem ZlT {nt:(α:Type)→α→List α→Int→α} (hnt:∀(α:Type) (d:α) (l:List α) (i:Int),nt α d l i=l.getD i.toNat d) (z:Sp.Qh):Zx z=[.int .i64 fun _=>z.run,.int .i64 fun _=>z.leg,.isl 1 (fun _=>(z.by_.length:Int)) (fun e=>XN (nt Int 0 z.by_ (e ()))) .none]:=by
 unfold Zx
 rw[Za hnt]
theorem ZuV (t:Zf) (hf:Xe t) (hz:0<t.book.zones.length):SC (fun _=>Tryz.prog) 111 [Ze t] [] fun v h=>v=Ze t∧h=[]:=by
 obtain⟨nt,hnt⟩:=Zp
 have hzl:=hf.book.zones
 have kZ:=ZtW hnt t.book.zones ⟨hz,hf.book.zones⟩
 have kC:=fun(i:Nat) (hi:i<t.book.zones.length)=>ZtV (nt Zone default t.book.zones i).chs (hf.book.chs _ (Xg (d:=default) hnt (l:=t.book.zones) (i:=i) (by omega)))
 have kO:=ZtU t.book.old hf.book.old hf.book.stops.1
 have kN:=ZtU t.book.new hf.book.new hf.book.stops.2
 have kR:=ZtQ t.runs hf.runs
 have kW:=ZtX t.waits hf.waits
 have kE:=ZtO t.delays hf.delays
 have kG:=fun h=>ZtP hnt t.delays ⟨h,hf.delays⟩
 have kB:=fun(i:Nat) (hi:i<t.delays.length)=>ZtN (nt Sp.Qh default t.delays i).by_ (hf.bys _ (Xg (d:=default) hnt (l:=t.delays) (i:=i) (by omega)))
 have hdl:=hf.delays
 unfold Ze
 simp only[Za hnt,Zmf hnt,ZlT hnt]at*
 refine SC.less (Qu Tryz.func111 (body:=Zj Tryz.f111) rfl (by decide+kernel) ?_)
 refine wS ?_
 refine cL1 [] (kZ) fun r h₂ hp=>?_
 (try simp only[Zd,Zc,Ze,Zb,Za hnt]at hp)
 obtain⟨rfl,rfl⟩:=hp
 refine wS ?_
 refine ZT false false [] [1,2,16,17] [] (fun(i:Nat)=>[(17,.int .i64 fun _=>(i:Int))]) (fun _=>[]) (fun i=>i≤t.book.zones.length) (fun i=>t.book.zones.length-i+0) 0 (Nat.zero_le _) ?_ ?_
 ·exact ZJ
 intro i hi
 have hi:i≤t.book.zones.length:=hi
 refine wS ?_
 refine⟨fun hb=>?_,fun hb=>?_⟩
 ·simp only[decide_eq_true_eq]at hb
  have kC:=kC i (by omega)
  refine wS ?_
  refine ZoO (kC) ?_
  refine wS ?_
  refine⟨i+1,by show i+1≤_;omega,by show t.book.zones.length-(i+1)+0<t.book.zones.length-i+0;omega,?_⟩
  (refine To.of [] ?_;cbv;(try simp only[nc]);(repeat' (first|exact trivial|exact ZE.refl _|exact ZM.refl _|refine⟨?_,?_⟩|refine ZM.cells ?_|refine ZE.agg ?_|refine ZE.tup ?_));(all_goals (first|exact X3|skip)))
  refine .gar rfl fun x hx=>?_
  by_cases h:(x:Int)=(i:Int)
  ·obtain rfl:x=i:=by omega
   simp only[decide_true]
   rfl
  ·simp only[decide_eq_false h]
   rfl
 clear kC kZ
 refine wS ?_
 refine ZoO (kO) ?_
 refine wS ?_
 refine ZoO (kN) ?_
 refine wS ?_
 refine ZoO (kR) ?_
 refine wS ?_
 refine ZoO (kW) ?_
 refine wS ?_
 by_cases h0:t.delays=[]
 ·have hl0:t.delays.length=0:=by rw[h0];rfl
  refine ZoO (kE) ?_
  refine wS ?_
  refine ZT false false [] [1,2,62,63] [] (fun(i:Nat)=>[(63,.int .i64 fun _=>(i:Int))]) (fun _=>[]) (fun i=>i=0) (fun i=>0) 0 rfl ?_ ?_
  ·exact ZJ
  intro i hi
  have hi:i=0:=hi
  subst hi
  refine wS ?_
  refine Br.isF (decide_eq_false (by omega)) ?_
  refine wS ?_
  refine⟨_,_,?_,rfl,rfl⟩
  exact ZJ
 ·have hp:0<t.delays.length:=List.length_pos_iff.2 h0
  have kG:=kG hp
  refine cL1 [] (kG) fun r h₂ hp=>?_
  (try simp only[Zd,Zc,Ze,Zb,Za hnt]at hp)
  obtain⟨rfl,rfl⟩:=hp
  refine wS ?_
  refine ZT false false [] [1,2,62,63] [] (fun(i:Nat)=>[(63,.int .i64 fun _=>(i:Int))]) (fun _=>[]) (fun i=>i≤t.delays.length) (fun i=>t.delays.length-i+0) 0 (Nat.zero_le _) ?_ ?_
  ·exact ZJ
  intro i hi
  have hi:i≤t.delays.length:=hi
  refine wS ?_
  refine⟨fun hb=>?_,fun hb=>?_⟩
  ·simp only[decide_eq_true_eq]at hb
   have kB:=kB i (by omega)
   refine wS ?_
   refine ZoO (kB) ?_
   refine wS ?_
   refine⟨i+1,by show i+1≤_;omega,by show t.delays.length-(i+1)+0<t.delays.length-i+0;omega,?_⟩
   (refine To.of [] ?_;cbv;(try simp only[nc]);(repeat' (first|exact trivial|exact ZE.refl _|exact ZM.refl _|refine⟨?_,?_⟩|refine ZM.cells ?_|refine ZE.agg ?_|refine ZE.tup ?_));(all_goals (first|exact X3|skip)))
   refine .gar rfl fun x hx=>?_
   by_cases h:(x:Int)=(i:Int)
   ·obtain rfl:x=i:=by omega
    simp only[decide_true]
    rfl
   ·simp only[decide_eq_false h]
    rfl
  ·refine wS ?_
   refine⟨_,_,?_,rfl,rfl⟩
   exact ZJ
theorem Zk9 {b:XH} (h:Sp.XX b=0):0<b.zones.length:=by
 unfold Sp.XX at h
 split at h
 ·rename_i g;exact absurd h g
 ·rename_i g
  unfold ZK at g
  split at g
  ·omega
  ·omega
end Go.Proofs.YtjgpiclllehgmaaGreat.Vm
namespace Go.Proofs.YtjgpiclllehgmaaGreat.Sp
open Vm
def Zed (t:Zf) (w n:Int):Zf×Int:=if Qi t w≠0 then(⟨⟨[],[],[],0,0⟩,[],[],[]⟩,Qi t w)else if QQ n 0 60 then(⟨⟨[],[],[],0,0⟩,[],[],[]⟩,1)else(Zt t w n,0)
end Go.Proofs.YtjgpiclllehgmaaGreat.Sp
namespace Go.Proofs.YtjgpiclllehgmaaGreat.Vm
attribute [local irreducible] Dn
open Go Go.Proofs Sp
set_option maxRecDepth 100000
set_option maxHeartbeats 4000000
theorem Zu2 (t:Zf) (w n:Int) (hf:Xe t):SC (fun _=>Tryz.prog) 43 [Ze t,.int .i64 fun _=>w,.int .i64 fun _=>n] [] fun v h=>v= .tup [Ze (Zed t w n).1,.int .i64 fun _=>(Zed t w n).2]∧h=[]:=by
 obtain⟨nt,hnt⟩:=Zp
 have k:=Zt1 t w hf
 by_cases he:Qi t w=0
 ·have hb:Zn t=0:=by
   unfold Qi at he
   split at he
   ·assumption
   ·exact he
  have hi:0≤w∧w<t.waits.length:=by
   unfold Qi at he
   rw[if_pos hb]at he
   split at he
   ·cases he
   ·rename_i h2
    have:=Xn (by simpa using h2)
    omega
  have hz:0<t.book.zones.length:=by
   unfold Zn at hb
   split at hb
   ·exact absurd hb (by assumption)
   ·rename_i g
    exact Zk9 (Decidable.of_not_not g)
  have k381:=Zb3 n 0 60
  have k400:=ZqI t w n hf hi
  have k411:=ZuV (Zt t w n) ⟨hf.book,hf.runs,by show(t.waits.set _ _).length≤_;rw[List.length_set];exact hf.waits,hf.delays,hf.bys⟩ hz
  obtain⟨W,hW⟩:∃W,W=Zed t w n:=⟨_,rfl⟩
  rw[←hW]
  unfold Zed at hW
  rw[if_neg (fun h=>h he)]at hW
  unfold QA at k
  rw[if_pos hb,he]at k
  generalize Zt t w n=t2 at*
  generalize QQ n 0 60=B at*
  unfold ZR Ze at*
  simp only[Za hnt,Zb,Zx]at*
  refine SC.less (Qu Tryz.func43 (body:=Zj Tryz.f43) rfl (by decide+kernel) ?_)
  refine wS ?_
  refine ZoO (k) ?_
  refine wS ?_
  refine Br.isF rfl ?_
  refine wS ?_
  refine ZoO (k381) ?_
  refine wS ?_
  cases B
  case true=>
   rw[if_pos rfl]at hW
   subst hW
   refine Br.isT rfl ?_
   refine wS ?_
   refine⟨_,_,?_,rfl,rfl⟩
   exact ZJ
  rw[if_neg Bool.false_ne_true]at hW
  subst hW
  refine Br.isF rfl ?_
  refine wS ?_
  refine ZoO (k400) ?_
  refine wS ?_
  refine ZoO (k411) ?_
  refine wS ?_
  refine⟨_,_,?_,rfl,rfl⟩
  exact ZJ
 ·have hE:Zed t w n=(⟨⟨[],[],[],0,0⟩,[],[],[]⟩,Qi t w):=by
   unfold Zed
   rw[if_pos he]
  rw[hE]
  generalize Qi t w=e at*
  refine SC.less (Qu Tryz.func43 (body:=Zj Tryz.f43) rfl (by decide+kernel) ?_)
  unfold Ze at*
  by_cases hb:Zn t=0
  ·unfold QA at k
   rw[if_pos hb]at k
   unfold ZR at k
   simp only[Za hnt,Zb,Zx]at*
   refine wS ?_
   refine ZoO (k) ?_
   refine wS ?_
   refine⟨fun h=>?_,fun h=>?_⟩
   ·refine wS ?_
    refine⟨_,_,?_,rfl,rfl⟩
    exact ZJ
   ·exact absurd (by simpa only[bne_eq_false_iff_eq]using h) he
  ·unfold QA at k
   rw[if_neg hb]at k
   simp only[Za hnt,Zb,Zx]at*
   refine wS ?_
   refine ZoO (k) ?_
   refine wS ?_
   refine⟨fun h=>?_,fun h=>?_⟩
   ·refine wS ?_
    refine⟨_,_,?_,rfl,rfl⟩
    exact ZJ
   ·exact absurd (by simpa only[bne_eq_false_iff_eq]using h) he
end Go.Proofs.YtjgpiclllehgmaaGreat.Vm
namespace Go.Proofs.YtjgpiclllehgmaaGreat.Sp
open Vm
end Go.Proofs.YtjgpiclllehgmaaGreat.Sp
namespace Go.Proofs.YtjgpiclllehgmaaGreat.Vm
open Sp
def Qt (b:XH) (j:Nat):Sp.Qp:=⟨(b.old.getD j default).number,0⟩
structure RL (b:XH) (i:Nat) (runs:List Sp.Qp) (rows:List (List Sp.Call)):Prop where
 len:rows.length=runs.length
 le:runs.length≤i
 row:∀k,k<runs.length→∃j,j<i∧j<b.old.length∧runs.getD k default=Qt b j∧QD b (Qt b j)=(rows.getD k [],true)
 pw:runs.Pairwise fun a c=>a≠c
 some:∀j,j<i→(QD b (Qt b j)).2=true→0<runs.length
theorem RL.nil {b:XH}:RL b 0 [] []:=⟨rfl,Nat.le_refl _,fun k h=>by simp at h,.nil,fun j h=>by omega⟩
theorem RL.skip {b:XH} {i:Nat} {runs:List Sp.Qp} {rows:List (List Sp.Call)} (h:RL b i runs rows) (hc:(QD b (Qt b i)).2=false):RL b (i+1) runs rows:=
 ⟨h.len,by have:=h.le;omega,fun k hk=>by
  obtain⟨j,h1,h2⟩:=h.row k hk
  exact⟨j,by omega,h2⟩,h.pw,fun j hj hs=>by
  by_cases e:j=i
  ·subst e;rw[hc]at hs;cases hs
  ·exact h.some j (by omega) hs⟩
theorem Zdn {α:Type} {d:α} {l:List α} {a:α} {k:Nat} (h:k<l.length):(l++[a]).getD k d=l.getD k d:=by rw[List.getD_eq_getElem?_getD,List.getElem?_append_left h,←List.getD_eq_getElem?_getD]
theorem Zdo {α:Type} {d:α} {l:List α} {a:α}:(l++[a]).getD l.length d=a:=by simp[List.getD_eq_getElem?_getD]
theorem RL.snoc {b:XH} {n:Int} {i:Nat} {runs:List Sp.Qp} {rows:List (List Sp.Call)} {C:List Sp.Call} (hd:DL n b.old) (h:RL b i runs rows) (hi:i<b.old.length) (hc:QD b (Qt b i)=(C,true)):RL b (i+1) (runs++[Qt b i]) (rows++[C]):=by
 have hl:=h.len
 refine⟨by simp[hl],by have:=h.le;simp;omega,fun k hk=>?_,?_,fun j hj hs=>by simp⟩
 ·simp only[List.length_append,List.length_cons,List.length_nil]at hk
  by_cases hk2:k<runs.length
  ·obtain⟨j,h1,h2,h3,h4⟩:=h.row k hk2
   exact⟨j,by omega,h2,by rw[Zdn hk2];exact h3,by rw[Zdn (by omega)];exact h4⟩
  ·have hk3:k=runs.length:=by omega
   subst hk3
   refine⟨i,by omega,hi,Zdo,?_⟩
   rw[←hl,Zdo]
   exact hc
 ·refine List.pairwise_append.2 ⟨h.pw,List.pairwise_singleton _ _,fun c hc e he=>?_⟩
  simp only[List.mem_singleton]at he
  subst he
  obtain⟨k,hk,rfl⟩:=List.mem_iff_getElem.1 hc
  obtain⟨j,h1,h2,h3,_⟩:=h.row k hk
  rw[List.getD_eq_getElem?_getD,List.getElem?_eq_getElem hk]at h3
  have h3:runs[k]=Qt b j:=h3
  rw[h3]
  intro e
  have e:=congrArg Sp.Qp.number e
  have e:(b.old.getD j default).number=(b.old.getD i default).number:=e
  rw[Zd8 hd h2,Zd8 hd hi]at e
  omega
structure RJ (b:XH) (runs:List Sp.Qp) (rows:List (List Sp.Call)):Prop where
 len:rows.length=runs.length
 pos:1≤runs.length∧runs.length≤4
 check:XX b=0
 row:∀r∈rows,Zjg r
 calls:∀w d,callsOf ⟨b,runs,w,d⟩=rows
 err:∀w d,QP ⟨b,runs,w,d⟩=0
 from_:∀k,k<runs.length→∃j,j<b.old.length∧runs.getD k default=Qt b j
theorem Zdx {b:XH} {d:Sp.Qp} {C:List Sp.Call} (h:QD b d=(C,true)):Q8 (J3 b d.number d.day).1=0∧(J3 b d.number d.day).1=C∧(J3 b d.number d.day).2=0:=by
 unfold QD at h
 split at h
 ·cases h
 ·rename_i h0
  simp only[Prod.mk.injEq,decide_eq_true_eq]at h
  exact⟨by omega,h⟩
theorem RL.ok {z:Zone} {n:Int} {i:Nat} {old:List Train} {runs:List Sp.Qp} {rows:List (List Sp.Call)} (hz:Zv z=0) (hd:DL n old) (hn:n=old.length) (hl:old.length≤4) (h:RL (Zo z old) i runs rows) (hi:i≤4) (hp:0<runs.length):RJ (Zo z old) runs rows:=by
 have hc:=ZhG hz hd hn hl
 have hle:=h.le
 refine⟨h.len,by omega,hc,fun r hr=>?_,fun w d=>?_,fun w d=>?_,fun k hk=>by
  obtain⟨j,h1,h2,h3,h4⟩:=h.row k hk
  exact⟨j,h2,h3⟩⟩
 ·obtain⟨k,hk,rfl⟩:=List.mem_iff_getElem.1 hr
  obtain⟨j,h1,h2,h3,h4⟩:=h.row k (by rw[←h.len];exact hk)
  obtain⟨g1,g2,g3⟩:=Zdx h4
  rw[List.getD_eq_getElem?_getD,List.getElem?_eq_getElem hk]at g2
  have g2:(J3 (Zo z old) (Qt (Zo z old) j).number (Qt (Zo z old) j).day).1=rows[k]:=g2
  rw[←g2]
  have e:=ZkI hc hd (j:=j) h2
  have e:J3 (Zo z old) (Qt (Zo z old) j).number (Qt (Zo z old) j).day=_:=e
  rw[e]at g1⊢
  obtain⟨st,_,_,ht⟩:=hd.all j h2
  exact ZnP ht g1
 ·refine List.ext_getElem (by show(List.map _ runs).length=_;rw[List.length_map,h.len]) fun k h1 h2=>?_
  have hk:k<runs.length:=by rw[←h.len];exact h2
  have e0:∀(f:Sp.Qp→List Sp.Call) (h1:k<(runs.map f).length),(runs.map f)[k]'h1=f runs[k]:=fun f h1=>List.getElem_map _
  refine(e0 _ h1).trans ?_
  obtain⟨j,g1,g2,g3,g4⟩:=h.row k hk
  rw[List.getD_eq_getElem?_getD,List.getElem?_eq_getElem hk]at g3
  have g3:runs[k]=Qt (Zo z old) j:=g3
  rw[List.getD_eq_getElem?_getD,List.getElem?_eq_getElem h2]at g4
  have g5:=(Zdx g4).2.1
  rw[g3]
  exact g5
 ·unfold QP
  show(if runs.length=0 then(7:Int)else if 4<runs.length then 6 else _)=0
  rw[if_neg (by omega),if_neg (by omega)]
  refine J1 fun k _ hk=>?_
  have hk:k<runs.length:=by have hk:k<0+runs.length:=hk;omega
  obtain⟨j,g1,g2,g3,g4⟩:=h.row k hk
  obtain⟨e1,e2,e3⟩:=Zdx g4
  rw[←g3]at e1 e2 e3
  unfold JT
  show(if(J3 (Zo z old) (runs.getD k default).number (runs.getD k default).day).2≠0 then _ else if Q8 (J3 (Zo z old) (runs.getD k default).number (runs.getD k default).day).1≠0 then(5:Int)else if(runs.take k).any (fun x=>decide (x=runs.getD k default))then 4 else 0)=0
  rw[if_neg (fun hne=>hne e3),if_neg (fun hne=>hne e1),if_neg]
  rw[Bool.not_eq_true,List.any_eq_false]
  intro x hx
  obtain⟨q,hq,rfl⟩:=List.mem_iff_getElem.1 hx
  have hq':q<k:=by simp at hq;omega
  have:=Zn0 (d:=default) h.pw hq' hk
  rw[List.getD_eq_getElem?_getD,List.getElem?_eq_getElem (show q<runs.length by omega)]at this
  rw[List.getElem_take]
  simpa using this
structure Zjf (t:Zf):Prop where
 begin:Zn t=0
 row:∀r∈callsOf t,Zjg r
 book:∃z old n,t.book=Zo z old∧Zv z=0∧DL n old
 from_:∀k,k<t.runs.length→∃j,j<t.book.old.length∧t.runs.getD k default=Qt t.book j
theorem RL.one {n:Int} {old:List Train} (hc:XX (Zo ⟨0,[]⟩ old)=0) (hd:DL n old) (hl:0<old.length):QD (Zo ⟨0,[]⟩ old) (Qt (Zo ⟨0,[]⟩ old) 0)=((QD (Zo ⟨0,[]⟩ old) (Qt (Zo ⟨0,[]⟩ old) 0)).1,true):=by
 have e:J3 (Zo ⟨0,[]⟩ old) (Qt (Zo ⟨0,[]⟩ old) 0).number (Qt (Zo ⟨0,[]⟩ old) 0).day=_:=ZkI hc hd (j:=0) hl
 obtain⟨st,_,_,ht⟩:=hd.all 0 hl
 have h0:=Zjz ht
 unfold QD
 rw[e]
 rw[if_neg (fun hne=>hne h0)]
 rfl
end Go.Proofs.YtjgpiclllehgmaaGreat.Vm
namespace Go.Proofs.YtjgpiclllehgmaaGreat.Sp
open Vm
theorem Zsl {b:XH} {n d:Int} (h:(J3 b n d).2=0):(J3 b n d).1=calls b.zones ((QT b d).getD (place (QT b d) n).toNat default) d∧0≤place (QT b d) n:=by
 have h':=h
 unfold J3 at h'⊢
 split at h'
 ·rename_i g;exact absurd h' g
 split at h'
 ·cases h'
 split at h'
 ·cases h'
 split at h'
 ·cases h'
 rename_i g1 g2 g3 g4
 rw[if_neg g1,if_neg g2,if_neg g3,if_neg g4]
 exact⟨rfl,by omega⟩
theorem Zgl {t:Zf} (he:Zn t=0) {k:Nat} (hk:k<t.runs.length):(J3 t.book (t.runs.getD k default).number (t.runs.getD k default).day).2=0:=by
 have h:=(Y4 he).2.1
 unfold QP at h
 split at h
 ·cases h
 split at h
 ·cases h
 have h2:=Qd h k (Nat.zero_le _) (by omega)
 unfold JT at h2
 split at h2
 ·rename_i g;exact absurd h2 g
 ·rename_i g;exact Decidable.of_not_not g
theorem ZnQ {t:Zf} {k:Nat} (hk:k<t.runs.length):(callsOf t).getD k []=(J3 t.book (t.runs.getD k default).number (t.runs.getD k default).day).1:=by
 unfold callsOf
 rw[List.getD_eq_getElem?_getD,List.getElem?_map,List.getElem?_eq_getElem hk,List.getD_eq_getElem?_getD,List.getElem?_eq_getElem hk]
 rfl
end Go.Proofs.YtjgpiclllehgmaaGreat.Sp
namespace Go.Proofs.YtjgpiclllehgmaaGreat.Vm
attribute [local irreducible] Dn
open Go Go.Proofs Sp
set_option maxRecDepth 100000
set_option maxHeartbeats 4000000
def Qz (l:List Int):List AV:=[lst 1 XN 0 l]
end Go.Proofs.YtjgpiclllehgmaaGreat.Vm
namespace Go.Proofs.YtjgpiclllehgmaaGreat.Vm
open Go Go.Proofs Go.Proofs.YtjgpiclllehgmaaGreat.Conc1
section
variable {P:Program} {G:Nat→Nat→Nat→Prop} {R:RC} {h:List Zi}
theorem Zqu (H:HR G R h) {E:Operand→AV} {ρ:Operand→Value} {t:TypeId} {n:Nat} {ps:Array (Nat×Operand)} {s:Nat} {m:Unit→Int} {f:(Unit→Int)→List AV} {tk:Tk} (hE:∀p∈ps.toList,VR R (E p.2) (ρ p.2)) (hv:XO P E t n ps.toList=some (.isl s m f tk)):
  ∃u R',(Instr.buildSlice t n (ps.map fun(i,x)=>(i,ρ x))).run P R.w= .ok u R'.w∧HR G R' (h++[.gar s m f])∧Xm R h R' (h++[.gar s m f])∧R.le R'∧VR R' (.gsl h.length m) u:=by
 unfold XO at hv
 split at hv
 case h_2=>cases hv
 rename_i T hT
 split at hv
 case h_2=>cases hv
 rename_i e s' eb hk
 split at hv
 case isFalse=>cases hv
 rename_i hcd
 simp only[Bool.and_eq_true]at hcd
 obtain⟨⟨hzo,hln⟩,hbig⟩:=hcd
 have hln:=ZA hln
 have hbig:=Xj hbig
 obtain⟨j,hu,hj,hs,_⟩:=YY hT hk
 obtain⟨j',z,hj',hz,hzs,hjs,_⟩:=JI hzo
 rw[hj]at hj'
 cases hj'
 split at hv
 case h_2=>
  unfold Zhx at hv
  split at hv
  case h_2=>cases hv
  split at hv
  case isFalse=>cases hv
  cases hv
 rename_i rows hr
 unfold Zfq at hv
 simp only[Option.some.injEq,AV.isl.injEq]at hv
 obtain⟨rfl,rfl,rfl,_⟩:=hv
 obtain⟨arr,a1,a2,a3,a4,a5⟩:=Zds (R:=R) (ρ:=ρ) ps.toList 0 rows ((Array.range (n*s')).map fun k=>(if n*s'=0 then #[]else z.cells)[k%(if n*s'=0 then #[]else z.cells).size]!) hr (by simp[hln]) hE
 have hrl:rows.length=n:=by rw[a3,Array.length_toList];rw[Array.length_toList]at hln;exact hln
 have hsz:arr.size=n*s':=by rw[a2];simp
 obtain⟨R',hw,H',hx,hle,hm,hhw,hhv⟩:=H.garFresh s' (fun _=>(rows.length:Int)) (fun e=>rows.getD (e ()).toNat (rows.headD [])) n (by show(rows.length:Int)=n;rw[hrl]) arr e hsz (fun R' hle i hi=>by
  have hri:rows[i]? =some rows[i]:=List.getElem?_eq_getElem (by omega)
  have er:rows.getD (i:Int).toNat (rows.headD [])=rows[i]:=by rw[Int.toNat_natCast,List.getD_eq_getElem?_getD,hri];rfl
  show(rows.getD (i:Int).toNat (rows.headD [])).length=s'∧∀j c,(rows.getD (i:Int).toNat (rows.headD []))[j]? =some c→_
  rw[er]
  refine⟨(a5 i _ hri).1,fun j c hj=>?_⟩
  have:=(a5 i _ hri).2 j c hj
  rw[Nat.zero_add]at this
  exact this.mono hle.ok hle.keep hle.keepM)
 refine⟨.slice (some ⟨R.w.heap.size,0,none⟩) n n,R',?_,H',hx,hle,?_⟩
 ·have hpm:(ps.map fun(i,x)=>(i,ρ x)).toList=ps.toList.map fun p=>(p.1,ρ p.2):=by simp
  unfold Instr.buildSlice
  simp only[Sem.run_bind,Zw hu,Result.andThen_ok,Z9 hj,hs,hpm]
  rw[if_neg (by omega)]
  rw[hw]
  by_cases hns:n*s'=0
  ·simp only[if_pos hns]at a1⊢
   simp only[Sem.run_bind,Sem.run_pure,Result.andThen_ok]
   rw[a1]
   rfl
  ·simp only[if_neg hns]at a1⊢
   simp only[Sem.run_bind,Sem.run_pure,Result.andThen_ok,zeroValue,Q7 hj,hz]
   rw[a1]
   rfl
 ·rw[H.len]
  exact .gsl _ _ _ _ _ (by omega) (by rw[hhw];exact Int.le_refl _) (fun _=>hhv.symm) ⟨by show(rows.length:Int)=n;rw[hrl],.inr ⟨_,_,rfl⟩⟩
end
def Zoo (T:Tb) (o:Oper) (E:Operand→AV) (h:List Zi):Option (AV×List Zi×Cd):=match o.op,o.guard with
 |.buildSlice t n ps,none=>(match XW T (fun x=>strip (E x)) t n ps.toList with
  |some (.isl s m f _)=>some (.gsl h.length m,h++[.gar s m f],gdC E o.op.operands.toList)
  |_=>none)
 |_,_=>none
def Zec (T:Tb) (p:Unit→Program) (d:Nat) (ops:Array Oper):List Oper→List AV→List Zi→Cd→(List AV→List Zi→Cd→Prop)→Prop
 |[],s,h,c,K=>K s h c
 |o::r,s,h,c,K=>(match o.dst with
  |some e=>if ZC e d then(match Zoo T o (ev s) h with
   |some (v,h',c')=>Zec T p d ops r (putO s o.dst v) h' (c++c') K
   |none=>False)else Wop T p ops o (ev s) h c fun v h c=>Zec T p d ops r (putO s o.dst v) h c K
  |none=>Wop T p ops o (ev s) h c fun v h c=>Zec T p d ops r (putO s o.dst v) h c K)
section
variable {T:Tb} {p:Unit→Program} {R₀:RC} {h₀:List Zi}
theorem Zon (hT:T.Of (p ())) {ops:Array Oper} {i:Nat} {o:Oper} (ho:ops[i]? =some o) {E:Operand→AV} {h h':List Zi} {v:AV} {c:Cd} (hv:Zoo T o E h=some (v,h',c)) (hc:ZO c):ZcZ (p ()) R₀ h₀ ops i o E h fun v' h''=>v'=v∧h''=h':=by
 unfold Zoo at hv
 split at hv
 case h_2=>cases hv
 rename_i t n ps hop hg
 split at hv
 case h_2=>cases hv
 rename_i s m f tk hb
 have hb':=Jc hT hb
 simp only[Option.some.injEq,Prod.mk.injEq]at hv
 obtain⟨rfl,rfl,rfl⟩:=hv
 intro R t' hi hE b ds k cs rest
 have hEs:∀x∈o.op.operands,VR R (strip (E x)) (QB t' x):=fun x hx=>(hE x (List.mem_append_left _ (Array.mem_toList_iff.2 hx))).strip (Zey hc x (Array.mem_toList_iff.2 hx))
 obtain⟨u,R',h1,h2,h3,h4,h5⟩:=Zqu (ρ:=QB t') hi.hr (fun q hq=>hEs q.2 (by
  rw[hop]
  simp only[Op.operands]
  rw[←Array.mem_toList_iff]
  simp only[Array.toList_map]
  exact List.mem_map.2 ⟨q,hq,rfl⟩)) hb'
 refine⟨_,_,R',u,⟨rfl,rfl⟩,hi.step h2 h3 h4,h3,h4,h5,.one (J5 (nv:=.value u) ho (by simp[Region.wanted,hg]) (fun c e=>by rw[hop]at e;cases e) ?_ ?_ (.inl rfl))⟩
 ·unfold execOp
  simp only[hop]
  exact Zh (fun _=>ZaY) fun _ _=>Zl
 ·unfold execOp
  simp only[hop]
  rw[Sem.run_bind,h1]
  rfl
theorem Zja (hT:T.Of (p ())) {d:Nat} {ops:Array Oper} {K:List AV→List Zi→Cd→Prop} (hK:∀s h c,K s h c→ZO c):∀(l:List Oper) (j:Nat) (s:List AV) (h:List Zi) (c:Cd),(∀m,m<l.length→ops[j+m]? =l[m]?)→Zec T p d ops l s h c K→
  ZO c∧ZaT (p ()) R₀ h₀ ops (List.range' j l.length) s h fun s h=>∃c,K s h c
 |[],j,s,h,c,_,hW=>⟨hK _ _ _ hW,fun R t hi hs b ds k cs=>⟨s,h,R,t,⟨_,hW⟩,hi,Xm.refl _ _,RC.le.refl _,hs,.one YH⟩⟩
 |o::r,j,s,h,c,hl,hW=>by
  have ho:ops[j]? =some o:=by simpa using hl 0 (by simp)
  have ih:=fun s h c=>Zja hT (d:=d) hK r (j+1) s h c (fun m hm=>by have:=hl (m+1) (by simpa using hm);rw[show j+1+m=j+(m+1) by omega];simpa using this)
  have key:∀(Q:AV→List Zi→Prop),ZcZ (p ()) R₀ h₀ ops j o (Vm.ev s) h Q→(∀v h',Q v h'→∃c',Zec T p d ops r (putO s o.dst v) h' c' K)→ZaT (p ()) R₀ h₀ ops (List.range' j (o::r).length) s h fun s h=>∃c,K s h c:=fun Q h2 hq R t hi hs b ds k cs=>by
   obtain⟨v,h',R',u,hQ,a1,a2,a3,a4,a5⟩:=h2 R t hi (hs.eok ops o) b ds k cs (List.range' (j+1) r.length)
   obtain⟨c',hk⟩:=hq v h' hQ
   obtain⟨s'',h'',R'',t'',b1,b2,b3,b4,b5,b6⟩:=(ih _ _ _ hk).2 R' _ a1 ((hs.mono a3).putO a4 o.dst) b ds k cs
   exact⟨s'',h'',R'',t'',b1,b2,a2.trans b3,a3.trans b4,b5,a5.trans (X2 a3 b6)⟩
  have other:(Wop T p ops o (Vm.ev s) h c fun v h c=>Zec T p d ops r (putO s o.dst v) h c K)→ZO c∧ZaT (p ()) R₀ h₀ ops (List.range' j (o::r).length) s h fun s h=>∃c,K s h c:=fun hW=>by
   obtain⟨h1,h2⟩:=ZhV hT (R₀:=R₀) (h₀:=h₀) ho (fun v h c hk=>(ih _ _ _ hk).1) hW
   exact⟨h1,key _ h2 fun v h' hq=>hq⟩
  unfold Zec at hW
  split at hW
  ·split at hW
   ·split at hW
    case h_2=>exact hW.elim
    rename_i v h' c' hv
    have hcc:=(ih _ _ _ hW).1
    exact⟨(Z0 hcc).1,key _ (Zon hT ho hv (Z0 hcc).2) fun v' h'' hq=>by
     obtain⟨rfl,rfl⟩:=hq
     exact⟨_,hW⟩⟩
   ·exact other hW
  ·exact other hW
theorem hpX {nb:Nat} {K:Ex→List AV→List Zi→Cd→Prop} {id:Nat} {ops:Array Oper} {k:List Item} {s:List AV} {h:List Zi} (hT:T.Of (p ())) (d:Nat) (hW:Zec T p d ops ops.toList s h [] fun s h c=>Chk c (HP false nb p k K s h)):HP false nb p (.code (.region id ops false)::k) K s h:=
 ⟨fun hK R₀ h₀ hnb=>by
  obtain⟨_,h2⟩:=Zja (R₀:=R₀) (h₀:=h₀) hT (fun s h c (hk:Chk c _)=>hk.c) ops.toList 0 s h [] (fun m hm=>by simp) hW
  have h3:ZaT (p ()) R₀ h₀ ops (List.range ops.size) s h fun s h=>∃c,Chk c (HP false nb p k K s h):=by
   rw[List.range_eq_range']
   simpa using h2
  exact CI.then (CI.region h3 fun s h hk=>⟨rfl,hk⟩) fun s h ⟨c,hk⟩=>hk.g.run hK R₀ h₀ hnb⟩
end
end Go.Proofs.YtjgpiclllehgmaaGreat.Vm
namespace Go.Proofs.YtjgpiclllehgmaaGreat.Vm
open Go Go.Proofs
theorem To.freeze {s:List AV} {h:List Zi} {id sz:Nat} {n:Unit→Int} {f:(Unit→Int)→List AV} (hid:h[id]? =some (.gar sz n f)):To s h s (h.set id (.fro sz n f)):=fun G R t H hs=>by
 have hlt:=(List.getElem?_eq_some_iff.1 hid).1
 let R':RC:={R with ok:=fun b o k=>b<R.w.heap.size∧G b o k∧ZfW R (h.set id (.fro sz n f)) b o k}
 have hget:∀ {j x},(h.set id (.fro sz n f))[j]? =some x→(j=id∧x= .fro sz n f)∨(j≠id∧h[j]? =some x):=fun {j x} hx=>by
  rw[List.getElem?_set]at hx
  split at hx
  ·rename_i e
   simp only[Option.some.injEq]at hx
   exact .inl ⟨e.symm,hx.symm⟩
  ·rename_i e
   exact .inr ⟨fun e'=>e e'.symm,hx⟩
 have hok:∀b o k,R.ok b o k→R'.ok b o k:=fun b o k hk=>by
  obtain⟨h1,h2,h3⟩:=(H.okd _ _ _).1 hk
  refine⟨h1,h2,fun j x hx=>?_⟩
  rcases hget hx with⟨rfl,rfl⟩|⟨hne,hx⟩
  ·exact fun h=>h
  ·exact h3 j x hx
 have hle:R.le R':=⟨Nat.le_refl _,fun _ _=>rfl,fun _ _=>⟨Int.le_refl _,fun _=>rfl⟩,fun _ _=>.refl _,hok,fun _ _ _ _ _ _=>rfl,fun _ _ _ _ h=>h,rfl⟩
 have hph:∀ {j x b},(h.set id (.fro sz n f))[j]? =some x→ZI R' j x b→j≠id∧h[j]? =some x∧ZI R j x b:=fun {j x b} hx hp=>by
  rcases hget hx with⟨rfl,rfl⟩|⟨hne,hx⟩
  ·exact hp.elim
  ·exact⟨hne,hx,(ZI.congr (R:=R) rfl rfl).1 hp⟩
 refine⟨R',rfl,⟨?_,fun _ _ _=>Iff.rfl,fun j x hx=>?_,fun i j bi bj b hij hi hj hp hp'=>?_,H.cl,H.fresh,fun j x b hx hk hp o k=>?_,H.n0m⟩,⟨rfl,rfl,rfl,rfl,Nat.le_refl _,Nat.le_refl _,fun _ _=>rfl,hok,fun _ _ _ _ _ _=>rfl,fun _ _ _=>rfl,fun j x b hx hp=>?_⟩,hle,hs.mono hle⟩
 ·rw[List.length_set];exact H.len
 ·rcases hget hx with⟨rfl,rfl⟩|⟨hne,hx⟩
  ·obtain⟨e1,e2⟩:=H.blk _ _ hid
   refine⟨e1,?_⟩
   rcases e2 with⟨h0,a0,h1⟩|⟨b,o,len,cap,arr,ty,a1,a2,a3,a4,a5,a6⟩
   ·show PR R'.w R'.ok _ (R.hv _)
    rw[h1]
    cases a0 with
    |none=>exact .isl0 _ _ _ _ h0 rfl
    |some a0=>exact .islE _ _ _ _ a0 h0 (.inl rfl)
   ·show PR R'.w R'.ok _ (R.hv _)
    rw[a3]
    rcases Nat.eq_zero_or_pos cap with hc0|hc0
    ·rw[hc0,show len=0 by omega]
     exact .islE _ _ _ _ ⟨b,o,none⟩ (by omega) (.inl rfl)
    have hmul:len*sz≤cap*sz:=Nat.mul_le_mul_right _ a2
    have hb:ZI R j (.gar sz n f) b:=⟨_,_,_,a3,hc0,rfl⟩
    refine .isl _ _ _ _ b o len cap (fun i j=>arr.getD (o+i*sz+j) undef) a1 a2 (.inl rfl) (fun h=>by cases h) (fun i hi=>(a6 i hi).1) (fun i j c hi hj=>?_) (fun i j c hi hj=>?_) ?_
    ·have hjs:j<sz:=by rw[←(a6 i hi).1];exact(List.getElem?_eq_some_iff.1 hj).1
     have:(i+1)*sz≤len*sz:=Nat.mul_le_mul_right _ hi
     rw[Nat.succ_mul]at this
     exact Qf (w:=R.w) a4 (by omega)
    ·exact((a6 i hi).2 j c hj).mono hok (fun _ _ _ _ _ _=>rfl) fun _ _ _ _ h=>h
    ·refine⟨H.phys_lt hid hb,H.tokG _ _ _ hid rfl hb _ _,fun i x hx=>?_⟩
     rcases hget hx with⟨rfl,rfl⟩|⟨hne,hx⟩
     ·exact fun h=>h
     ·exact ZaR fun hp=>H.dis _ _ _ _ b (fun e=>hne e.symm) hid hx hb hp
  ·exact(H.blk j x hx).mono hle rfl rfl rfl rfl (fun _ _=>rfl)
 ·obtain⟨_,hx,hp⟩:=hph hi hp
  obtain⟨_,hx',hp'⟩:=hph hj hp'
  exact H.dis i j bi bj b hij hx hx' hp hp'
 ·obtain⟨_,hx,hp⟩:=hph hx hp
  exact H.tokG j x b hx hk hp o k
 ·obtain⟨_,hx,hp⟩:=hph hx hp
  exact .inr ⟨j,x,hx,hp,.inl rfl⟩
theorem To.froze {s:List AV} {h:List Zi} {id sz:Nat} {n:Unit→Int} {f:(Unit→Int)→List AV} (hid:h[id]? =some (.gar sz n f)):To s h (s.map (rsv (h.set id (.fro sz n f)))) (h.set id (.fro sz n f)):=fun G R t H hs=>by
 obtain⟨R',a1,a2,a3,a4,a5⟩:=To.freeze (s:=s) hid G R t H hs
 have:=SL.rsv a2 a5 {tb with rs:=true}
 exact⟨R',a1,a2,a3,a4,this⟩
open Go Go.Proofs Sp
def Y6 (r r':List AV):Prop:=r'.length=r.length∧∀(j:Nat) (c':AV),r'[j]? =some c'→∃c,r[j]? =some c∧∀w ok v,PR w ok c v→PR w ok c' v
theorem Y6.two {a b b':AV} (h:∀w ok v,PR w ok b v→PR w ok b' v):Y6 [a,b] [a,b']:=⟨rfl,fun j c hj=>by
 match j with
 |0=>simp only[List.getElem?_cons_zero,Option.some.injEq]at hj;subst hj;exact⟨_,rfl,fun _ _ _ h=>h⟩
 |1=>simp only[List.getElem?_cons_succ,List.getElem?_cons_zero,Option.some.injEq]at hj;subst hj;exact⟨_,rfl,h⟩
 |j+2=>simp at hj⟩
theorem PR.elems {w:World} {ok:Nat→Nat→Nat→Prop} {s:Nat} {m m':Unit→Int} {f f':(Unit→Int)→List AV} {v:Value} (hm:m ()=m' ()) (hf:∀i:Nat,(i:Int)<m ()→Y6 (f fun _=>(i:Int)) (f' fun _=>(i:Int))) (hv:PR w ok (.isl s m f .none) v):PR w ok (.isl s m' f' .none) v:=by
 cases hv with
 |isl0 _ _ _ _ hz h1=>exact .isl0 _ _ _ _ (by omega) rfl
 |islE _ _ _ _ a hz h1=>exact .islE _ _ _ _ a (by omega) (.inl rfl)
 |isl _ _ _ _ b o len cap us hn hc h1 he hl h2 h3 h4=>
  refine .isl _ _ _ _ b o len cap us (by omega) hc (.inl rfl) (fun e=>by cases e) (fun i hi=>?_) (fun i j c hi hj=>?_) (fun i j c hi hj=>?_) h4
  ·rw[(hf i (by omega)).1];exact hl i hi
  ·obtain⟨c0,g1,_⟩:=(hf i (by omega)).2 j c hj
   exact h2 i j c0 hi g1
  ·obtain⟨c0,g1,g2⟩:=(hf i (by omega)).2 j c hj
   exact g2 _ _ _ (h3 i j c0 hi g1)
theorem Y6.three {a b c c':AV} (h:∀w ok v,PR w ok c v→PR w ok c' v):Y6 [a,b,c] [a,b,c']:=⟨rfl,fun j d hj=>by
 match j with
 |0=>simp only[List.getElem?_cons_zero,Option.some.injEq]at hj;subst hj;exact⟨_,rfl,fun _ _ _ h=>h⟩
 |1=>simp only[List.getElem?_cons_succ,List.getElem?_cons_zero,Option.some.injEq]at hj;subst hj;exact⟨_,rfl,fun _ _ _ h=>h⟩
 |2=>simp only[List.getElem?_cons_succ,List.getElem?_cons_zero,Option.some.injEq]at hj;subst hj;exact⟨_,rfl,h⟩
 |j+3=>simp at hj⟩
theorem ZE.elems {n k s:Nat} {m m':Unit→Int} {f f':(Unit→Int)→List AV} {tk:Tk} (hm:m ()=m' ()) (hf:∀i:Nat,(i:Int)<m ()→Y6 (f fun _=>(i:Int)) (f' fun _=>(i:Int))):ZE n k (.isl s m f tk) (.isl s m' f' .none):=⟨fun R v _ hv=>.pure _ _ (hv.isl_inv.elems hm hf)⟩
theorem ZjU {nt:(α:Type)→α→List α→Int→α} (hnt:∀(α:Type) (d:α) (l:List α) (i:Int),nt α d l i=l.getD i.toNat d) {α:Type} {n k sz:Nat} (enc:α→List AV) (d:α) (l:List α) (rows:List (List AV)) (hl:rows.length=l.length) (hr:∀i,i<l.length→Y6 (rows.getD i (rows.headD [])) (enc (l.getD i d))):
  ZE n k (.isl sz (fun _=>(rows.length:Int)) (fun e=>rows.getD (e ()).toNat (rows.headD [])) .exact) (.isl sz (fun _=>(l.length:Int)) (fun e=>enc (nt α d l (e ()))) .none):=
 .elems (by simp[hl]) fun i hi=>by
  have hi:i<l.length:=by have:(i:Int)<(rows.length:Int):=hi;omega
  simp only[hnt,Int.toNat_natCast]
  exact hr i hi
end Go.Proofs.YtjgpiclllehgmaaGreat.Vm
