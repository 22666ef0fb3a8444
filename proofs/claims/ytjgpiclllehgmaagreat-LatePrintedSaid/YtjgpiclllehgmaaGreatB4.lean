/- Contracts: the reference's stretches. -/
import Derived.Test.YtjgpiclllehgmaaGreatB3
import Derived.Test.YtjgpiclllehgmaaGreatB1
import Derived.Test.YtjgpiclllehgmaaGreatB2
import Derived.Test.YtjgpiclllehgmaaGreatB0
set_option linter.all false
namespace Go.Proofs.YtjgpiclllehgmaaGreat.Vm
attribute [local irreducible] Dn
open Go Go.Proofs Sp
set_option maxRecDepth 100000
set_option maxHeartbeats 1600000
def cl (p:Pc):Pc:=if p.bef=Xj then⟨p.fr,-1,p.ahd⟩else p
def ZnS (z:Zone):List Pc:=(ZR z).map cl
def XY (a:Int) (l:List Chg):Int:=l.foldl (fun a c=>a+c.by_) a
theorem Zpd:∀(l1 l2:List Chg) (a k:Int),(∀c∈l1,c.at_≤k)→af a (l1++l2) k=af (XY a l1) l2 k
 |[],_,_,_,_=>rfl
 |c::r,l2,a,k,h=>by
  have e:af a (c::r++l2) k=if c.at_≤k then af (a+c.by_) (r++l2) k else a:=rfl
  rw[e,if_pos (h c (List.mem_cons_self ..)),Zpd r l2 _ _ (fun x hx=>h x (List.mem_cons_of_mem _ hx))]
  rfl
theorem Zjz (a:Int) (l:List Chg) (c:Chg):XY a (l++[c])=XY a l+c.by_:=by unfold XY;rw[List.foldl_append];rfl
structure Zap (z:Zone) (i:Nat) (f:Int) (out:List Pc):Prop where
 le:i≤z.chs.length
 eq:ZnS z=out++(QF f (XY z.base (z.chs.take i)) (z.chs.drop i)).map cl
 lo:∀c∈z.chs.take i,c.at_≤f
 fr:0≤f∧f≤43200
 asc:Asc (if i=0 then f else f+1) (z.chs.drop i)
 zero:i=0→f=0
 len:out.length≤i
theorem Zll {z:Zone} (h:Zw z=0):Zap z 0 0 []:=by
 obtain⟨ha,hb,hl,h1,h2⟩:=ZbF h
 exact⟨Nat.zero_le _,rfl,by simp,by omega,by simpa using ha,fun _=>rfl,by simp⟩
theorem Zap.ahd {z:Zone} {i:Nat} {f:Int} {out:List Pc} (h:Zap z i f out) (hn:∀c∈(z.chs.drop i).head?,f<c.at_):af z.base z.chs f=XY z.base (z.chs.take i):=by
 have e:z.chs=z.chs.take i++z.chs.drop i:=(List.take_append_drop ..).symm
 rw[e,Zpd _ _ _ _ h.lo,←e]
 cases hd:z.chs.drop i with
 |nil=>rfl
 |cons c r=>
  rw[hd]at hn
  have hc:=hn c rfl
  unfold af
  rw[if_neg (by omega)]
theorem Zap.step {z:Zone} {i:Nat} {f:Int} {out:List Pc} {c:Chg} (hz:Zw z=0) (h:Zap z i f out) (hi:i<z.chs.length) (hc:z.chs.drop i=c::z.chs.drop (i+1)) (ht:z.chs.take (i+1)=z.chs.take i++[c]):
  (c.at_=0→Zap z (i+1) c.at_ out)∧(c.at_≠0→af z.base z.chs f=XY z.base (z.chs.take i)∧Zap z (i+1) c.at_ (out++[⟨f,c.at_,XY z.base (z.chs.take i)⟩])):=by
 obtain⟨ha,hb,hl,h1,h2⟩:=ZbF hz
 have hcm:c∈z.chs:=List.mem_of_mem_drop (i:=i) (by rw[hc];exact List.mem_cons_self ..)
 have hcb:=hb c hcm
 have hasc:=h.asc
 rw[hc]at hasc
 obtain⟨hlo,hrest⟩:=hasc
 have hfr:=h.fr
 have hle:f≤c.at_:=by split at hlo<;>omega
 have hsum:XY z.base (z.chs.take (i+1))=XY z.base (z.chs.take i)+c.by_:=by rw[ht,Zjz]
 have hlo2:∀x∈z.chs.take (i+1),x.at_≤c.at_:=fun x hx=>by
  rw[ht]at hx
  rcases List.mem_append.1 hx with hx|hx
  ·have:=h.lo x hx;omega
  ·simp at hx;rw[hx];exact Int.le_refl _
 have hasc2:Asc (if i+1=0 then c.at_ else c.at_+1) (z.chs.drop (i+1)):=by rw[if_neg (by omega)];exact hrest
 have heq:=h.eq
 rw[hc]at heq
 have hlen:=h.len
 refine⟨fun h0=>?_,fun h0=>?_⟩
 ·have hf0:f=0:=by omega
  refine⟨hi,?_,hlo2,by omega,hasc2,fun h=>by omega,by omega⟩
  rw[heq,hsum]
  congr 1
  have e:QF f (XY z.base (z.chs.take i)) (c::z.chs.drop (i+1))=QF c.at_ (XY z.base (z.chs.take i)+c.by_) (z.chs.drop (i+1)):=if_neg (by omega)
  rw[e]
 ·have hlt:f<c.at_:=by
   by_cases hi0:i=0
   ·have:=h.zero hi0;omega
   ·rw[if_neg hi0]at hlo;omega
  refine⟨h.ahd (by rw[hc];intro x hx;simp at hx;rw[←hx];exact hlt),hi,?_,hlo2,by omega,hasc2,fun h=>by omega,by simp;omega⟩
  have e:QF f (XY z.base (z.chs.take i)) (c::z.chs.drop (i+1))=⟨f,c.at_,XY z.base (z.chs.take i)⟩::QF c.at_ (XY z.base (z.chs.take i)+c.by_) (z.chs.drop (i+1)):=if_pos hlt
  have e2:cl ⟨f,c.at_,XY z.base (z.chs.take i)⟩=⟨f,c.at_,XY z.base (z.chs.take i)⟩:=if_neg (by unfold Xj;show¬c.at_=_;omega)
  rw[heq,e,List.map_cons,e2,hsum,List.append_assoc]
  rfl
theorem Zap.last {z:Zone} {f:Int} {out:List Pc} (h:Zap z z.chs.length f out):af z.base z.chs f=XY z.base z.chs∧ZnS z=out++[⟨f,-1,XY z.base z.chs⟩]:=by
 have h1:=h.ahd (by rw[List.drop_length];intro c hc;cases hc)
 have h2:=h.eq
 rw[List.take_length]at h1 h2
 rw[List.drop_length]at h2
 exact⟨h1,h2⟩
theorem ZvA (z:Zone) (hz:Zw z=0):SC (fun _=>Tryz.prog) 195 [Ze z] [] fun v h=>v=lst 3 Zej default (ZnS z)∧h=[]:=by
 obtain⟨nt,hnt⟩:=Zu
 obtain⟨ha,hb,hl,h1,h2⟩:=ZbF hz
 have k97:=fun t=>c97 z t hz
 have hst:=Zll hz
 generalize hS:ZnS z=S at*
 refine SC.less (QT Tryz.func195 (body:=Zm Tryz.f195) rfl (by decide+kernel) ?_)
 unfold Ze at*
 simp only[Za hnt]at*
 refine wS ?_
 refine ZP false false [] [1,3,4,5] [.tok 3 fun _=>0] (fun(⟨i,f,out⟩:Nat×Int×List Pc)=>[(3,.isl 3 (fun _=>(out.length:Int)) (fun e=>Zej (nt Pc default out (e ()))) (.own 1)),(4,.int .i64 fun _=>f),(5,.int .i64 fun _=>(i:Int))])
  (fun⟨i,f,out⟩=>[(1,.tok 3 fun _=>(out.length:Int))]) (fun⟨i,f,out⟩=>Zap z i f out∨(i=z.chs.length+1∧out=S)) (fun i=>z.chs.length+1-i.1+0) (0,0,[]) (.inl hst) ?_ ?_
 ·(refine To.of [(3,false)] ?_;cbv;(try simp only[nc]);(repeat' (first|exact trivial|exact ZH.refl _|exact ZN.refl _|refine⟨?_,?_⟩|refine ZN.cells ?_|refine ZH.agg ?_|refine ZH.tup ?_));(all_goals (first|exact Yv|skip)))
 rintro⟨i,f,out⟩ hp
 have hp:Zap z i f out∨(i=z.chs.length+1∧out=S):=hp
 have hol:out.length≤100∨out=S:=by
  rcases hp with h|⟨_,h⟩
  ·have:=h.len;have:=h.le;omega
  ·exact .inr h
 refine wS ?_
 refine⟨fun hb1=>?_,fun hb1=>?_⟩
 ·simp only[decide_eq_true_eq]at hb1
  have hs:Zap z i f out:=by
   rcases hp with h|⟨h,_⟩
   ·exact h
   ·omega
  have hle:=hs.le
  have hlen:=hs.len
  have k97:=k97 f
  refine wS ?_
  refine⟨fun hb2=>?_,fun hb2=>?_⟩
  ·simp only[decide_eq_true_eq]at hb2
   have hil:i<z.chs.length:=by omega
   have hst2:=hs.step hz hil (Qo (d:=default) hnt hil) (ZcO (d:=default) hnt hil)
   generalize hc:nt Chg default z.chs (i:Int)=c at*
   refine vS ?_
   simp only[hc]
   refine Chk.mk (Qa) ?_
   refine⟨fun hb3=>?_,fun hb3=>?_⟩
   ·have h0:c.at_≠0:=by simpa using hb3
    obtain⟨g1,g2⟩:=hst2.2 h0
    rw[g1]at k97
    generalize XY z.base (z.chs.take i)=A at*
    refine wS ?_
    refine ZW (k97) (by first|rfl|(simp only[Ze,Za hnt];rfl)) fun r h₂ hp=>?_
    (try simp only[Ze,Za hnt]at hp)
    obtain⟨rfl,rfl⟩:=hp
    refine wS ?_
    refine⟨(i+1,c.at_,out++[⟨f,c.at_,A⟩]),.inl g2,by show z.chs.length+1-(i+1)+0<z.chs.length+1-i+0;omega,?_⟩
    exact ZK
   ·have h0:c.at_=0:=by simpa using hb3
    have g2:=hst2.1 h0
    refine wS ?_
    refine⟨(i+1,c.at_,out),.inl g2,by show z.chs.length+1-(i+1)+0<z.chs.length+1-i+0;omega,?_⟩
    exact ZK
  ·simp only[decide_eq_false_iff_not]at hb2
   have hie:i=z.chs.length:=by omega
   obtain⟨g1,g2⟩:=(hie▸hs:Zap z z.chs.length f out).last
   rw[g1]at k97
   rw[hS]at g2
   generalize XY z.base z.chs=A at*
   refine wS ?_
   refine Br.isT rfl ?_
   refine wS ?_
   refine ZW (k97) (by first|rfl|(simp only[Ze,Za hnt];rfl)) fun r h₂ hp=>?_
   (try simp only[Ze,Za hnt]at hp)
   obtain⟨rfl,rfl⟩:=hp
   refine wS ?_
   refine⟨(i+1,-1,out++[⟨f,-1,A⟩]),.inr ⟨by rw[hie],g2.symm⟩,by show z.chs.length+1-(i+1)+0<z.chs.length+1-i+0;omega,?_⟩
   exact ZK
 ·simp only[decide_eq_false_iff_not]at hb1
  have ho:out=S:=by
   rcases hp with h|⟨_,h⟩
   ·have:=h.le;omega
   ·exact h
  rw[←ho]
  refine wS ?_
  refine⟨_,[],?_,rfl,rfl⟩
  exact ZK
end Go.Proofs.YtjgpiclllehgmaaGreat.Vm
namespace Go.Proofs.YtjgpiclllehgmaaGreat.Vm
attribute [local irreducible] Dn
open Go Go.Proofs Sp
set_option maxRecDepth 100000
set_option maxHeartbeats 1600000
theorem Zt5 {nt:(α:Type)→α→List α→Int→α} (hnt:∀(α:Type) (d:α) (l:List α) (i:Int),nt α d l i=l.getD i.toNat d) {l:List Pc} {i:Nat} (hi:i<l.length):nt Pc default (l.map cl) (i:Int)=cl (nt Pc default l (i:Int)):=by
 rw[hnt,hnt]
 simp[List.getD_eq_getElem?_getD,hi]
theorem Zt6 (p:Pc):(cl p).fr=p.fr:=by unfold cl;split<;>rfl
theorem ZsV (p:Pc):(cl p).ahd=p.ahd:=by unfold cl;split<;>rfl
theorem Ze9:∀(l:List Chg) (fr a:Int),(∀c∈l,c.at_≤43200)→∀i,i<(QF fr a l).length→(((QF fr a l).getD i default).bef=Xj↔i+1=(QF fr a l).length)
 |[],fr,a,_,i,hi=>by
  have e:QF fr a []=[⟨fr,Xj,a⟩]:=rfl
  rw[e]at hi⊢
  have:i=0:=by simpa using hi
  subst this
  simp
 |c::r,fr,a,h,i,hi=>by
  have hc:=h c (List.mem_cons_self ..)
  have ih:=Ze9 r c.at_ (a+c.by_) (fun x hx=>h x (List.mem_cons_of_mem _ hx))
  have hl:=(Zae r c.at_ (a+c.by_)).1
  by_cases hlt:fr<c.at_
  ·have e:QF fr a (c::r)=⟨fr,c.at_,a⟩::QF c.at_ (a+c.by_) r:=if_pos hlt
   rw[e]at hi⊢
   cases i with
   |zero=>
    simp only[List.getD_cons_zero,List.length_cons]
    unfold Xj
    constructor<;>intro h<;>omega
   |succ i=>
    simp only[List.getD_cons_succ,List.length_cons]
    rw[ih i (by simpa using hi)]
    omega
  ·have e:QF fr a (c::r)=QF c.at_ (a+c.by_) r:=if_neg hlt
   rw[e]at hi⊢
   exact ih i hi
theorem Zun (z:Zone) (r a:Int) (hz:Zw z=0) (hr:-1000000≤r∧r≤1000000) (ha:0≤a∧a<Xj):SC (fun _=>Tryz.prog) 190 [Ze z,.int .i64 fun _=>r,.int .i64 fun _=>a] [] fun v h=>v= .int .i64 (fun _=>QR (ZR z) r a)∧h=[]:=by
 obtain⟨nt,hnt⟩:=Zu
 have k2:=ZvA z hz
 obtain⟨k4,k5⟩:=Zdl hz
 have hop:=Ze9 z.chs 0 z.base (fun c hc=>((ZbF hz).2.1 c hc).2.1)
 have hl1:=(Zae z.chs 0 z.base).1
 change∀i,i<(ZR z).length→(((ZR z).getD i default).bef=Xj↔i+1=(ZR z).length)at hop
 change 1≤(ZR z).length at hl1
 unfold Xj at*
 refine QT Tryz.func190 (body:=Zm Tryz.f190) rfl (by decide+kernel) ?_
 unfold Ze at*
 simp only[Za hnt]at*
 unfold ZnS at k2
 generalize ZR z=L at*
 have hLl:(L.map cl).length=L.length:=List.length_map ..
 generalize hW:QR L r a=W at*
 refine wS ?_
 refine ZW (k2) (by first|rfl|(simp only[Ze,Za hnt];rfl)) fun r h₂ hp=>?_
 (try simp only[Ze,Za hnt]at hp)
 obtain⟨rfl,rfl⟩:=hp
 refine wS ?_
 refine ZP false false [] [1,2,7,8] [] (fun(i:Nat)=>[(8,.int .i64 fun _=>(i:Int))]) (fun _=>[]) (fun i=>i<L.length∧QR (L.drop i) r a=W) (fun i=>L.length-i+0) 0 ⟨by omega,by simpa using hW⟩ ?_ ?_
 ·exact ZK
 intro i hpp
 have hi:i<L.length:=hpp.1
 have hp:QR (L.drop i) r a=W:=hpp.2
 clear hpp
 have hq:=k5 _ (QY (d:=default) hnt (l:=L) (i:=i) hi)
 have hopi:=hop i hi
 have e1:L.getD i default=nt Pc default L (i:Int):=by rw[hnt];rfl
 rw[e1]at hopi
 rw[Qo (d:=default) hnt hi,QR]at hp
 have hcl:=Zt5 hnt (l:=L) hi
 generalize nt Pc default L (i:Int)=p at*
 have hah:=ZsV p
 have hfr:=Zt6 p
 have hbe:(cl p).bef=if p.bef=1099511627776 then-1 else p.bef:=by
  unfold cl Xj
  split<;>rfl
 generalize cl p=q at*
 have hmx:(if(if q.fr<a then a else q.fr)<r-q.ahd then r-q.ahd else(if q.fr<a then a else q.fr))=max p.fr (max a (r-p.ahd)):=by
  rw[hfr,hah]
  split<;>split<;>omega
 have hmb:0≤max p.fr (max a (r-p.ahd))∧max p.fr (max a (r-p.ahd))<1099511627776:=by omega
 refine vS ?_
 simp only[hcl]
 refine Chk.mk (Qa) ?_
 simp only[hmx]
 generalize max p.fr (max a (r-p.ahd))=M at*
 refine⟨fun hb2=>?_,fun hb2=>?_⟩
 ·have hc:M<p.bef:=by
   by_cases h:p.bef=1099511627776
   ·omega
   ·rw[if_neg h]at hbe
    rw[hbe,decide_eq_false (by omega)]at hb2
    simpa using hb2
  rw[if_pos hc]at hp
  rw[←hp]
  (cbv;(try simp only[nc]at*);(try refine Chk.mk (Qa) ?_))
  (try first|exact⟨rfl,trivial⟩|exact⟨trivial,trivial⟩)
 ·have hc:¬M<p.bef:=by
   intro h'
   by_cases h:p.bef=1099511627776
   ·rw[if_pos h]at hbe
    rw[hbe]at hb2
    simp at hb2
   ·rw[if_neg h]at hbe
    rw[hbe,decide_eq_false (by omega),decide_eq_true h']at hb2
    cases hb2
  rw[if_neg hc]at hp
  have hi2:i+1<L.length:=by
   rcases Nat.lt_or_ge (i+1) L.length with h|h
   ·exact h
   ·have:=hopi.2 (by omega);omega
  refine wS ?_
  refine⟨i+1,⟨hi2,hp⟩,by show L.length-(i+1)+0<L.length-i+0;omega,?_⟩
  exact ZK
end Go.Proofs.YtjgpiclllehgmaaGreat.Vm
namespace Go.Proofs.YtjgpiclllehgmaaGreat.Vm
attribute [local irreducible] Dn
open Go Go.Proofs Sp
set_option maxRecDepth 100000
set_option maxHeartbeats 1600000
theorem Zey {f:FuncId} {xs ys:List AV} {h:List Zh} {Post Q:AV→List Zh→Prop} {B:Prop} (H:SC (fun _=>Tryz.prog) f ys [] Q) (k:B) (t:SC (fun _=>Tryz.prog) f ys [] Q→HdW B→SC (fun _=>Tryz.prog) f xs h Post:=by intro hH hW;refine ZW hH (by first|rfl|(simp only[Ze,Zd,Za hnt];rfl)) fun r h₂ hp=>?_;(try simp only[Ze,Zd,Za hnt]at hp);obtain⟨rfl,rfl⟩:=hp;exact hW.out):SC (fun _=>Tryz.prog) f xs h Post:=t H ⟨k⟩
theorem Zje {α:Type} [Inhabited α] {nt:(α:Type)→α→List α→Int→α} (hnt:∀(α:Type) (d:α) (l:List α) (i:Int),nt α d l i=l.getD i.toNat d) {q:α→Bool} {l:List α} {k:Nat} (hk:k<l.length):(l.take (k+1)).any q=((l.take k).any q||q (nt α default l (k:Int))):=by
 rw[ZcO (d:=default) hnt hk,List.any_append]
 simp
theorem Zi8 {nt:(α:Type)→α→List α→Int→α} (hnt:∀(α:Type) (d:α) (l:List α) (i:Int),nt α d l i=l.getD i.toNat d) (b:XD):Zd b= .agg [.isl 2 (fun _=>(b.zones.length:Int)) (fun e=>encZone (nt Zone default b.zones (e ()))) .none,.isl 3 (fun _=>(b.old.length:Int)) (fun e=>encTrain (nt Train default b.old (e ()))) .none,.isl 3 (fun _=>(b.new.length:Int)) (fun e=>encTrain (nt Train default b.new (e ()))) .none,.int .i64 fun _=>b.night,.int .i64 fun _=>b.last]:=by
 unfold Zd;simp only[Za hnt]
theorem Zvy (b:XD) (l:List Stop) (hz:b.zones.length≤1000000) (hl:l.length≤1000000):SC (fun _=>Tryz.prog) 181 [Zd b,lst 4 QK default l] [] fun v h=>v= .int .i64 (fun _=>if ZL l.length 2 4≠0 then ZL l.length 2 4 else YF b.zones.length l)∧h=[]:=by
 obtain⟨nt,hnt⟩:=Zu
 generalize hE:(if ZL l.length 2 4≠0 then ZL l.length 2 4 else YF b.zones.length l)=E
 unfold Zd
 simp only[Za hnt]
 refine QT Tryz.func181 (body:=Zm Tryz.f181) rfl (by decide+kernel) ?_
 refine wS ?_
 refine⟨fun h1=>?_,fun h1=>?_⟩
 ·simp only[decide_eq_true_eq]at h1
  rw[show ZL l.length 2 4=7 by unfold ZL;rw[if_pos (by omega)],if_pos (by decide)]at hE
  subst hE
  (cbv;(try simp only[nc]at*);(try refine Chk.mk (Qa) ?_))
  (try first|exact⟨rfl,trivial⟩|exact⟨trivial,trivial⟩)
 simp only[decide_eq_false_iff_not]at h1
 refine wS ?_
 refine⟨fun h2=>?_,fun h2=>?_⟩
 ·simp only[decide_eq_true_eq]at h2
  rw[show ZL l.length 2 4=6 by unfold ZL;rw[if_neg (by omega),if_pos (by omega)],if_pos (by decide)]at hE
  subst hE
  (cbv;(try simp only[nc]at*);(try refine Chk.mk (Qa) ?_))
  (try first|exact⟨rfl,trivial⟩|exact⟨trivial,trivial⟩)
 simp only[decide_eq_false_iff_not]at h2
 rw[show ZL l.length 2 4=0 by unfold ZL;rw[if_neg (by omega),if_neg (by omega)],if_neg (by decide)]at hE
 refine wS ?_
 refine ZP false false [] [1,2,5] [] (fun(i:Nat)=>[(5,.int .i64 fun _=>(i:Int))]) (fun _=>[]) (fun i=>i≤l.length∧Zr (Q0 b.zones.length l) i (l.length-i)=E) (fun i=>l.length-i+0) 0 ⟨Nat.zero_le _,by simpa [YF]using hE⟩ ?_ ?_
 ·exact ZK
 rintro i ⟨hi,hp⟩
 refine wS ?_
 refine⟨fun hb=>?_,fun hb=>?_⟩
 ·simp only[decide_eq_true_eq]at hb
  obtain⟨q,hq⟩:∃q,l.length-i=q+1:=⟨l.length-i-1,by omega⟩
  rw[hq,Zr]at hp
  have hsp:Q0 b.zones.length l i=YQ (l.take i) (nt Stop default l i) (decide (0<i)&&decide ((i:Int)<l.length-1)) b.zones.length:=by unfold Q0;rw[hnt];rfl
  rw[hsp]at hp
  unfold YQ at hp
  refine wS ?_
  generalize nt Stop default l i=s at*
  refine Zey (c72 s.station 0 9) ?_
  refine vS ?_
  refine⟨fun h3=>?_,fun h3=>?_⟩
  ·simp only[if_pos h3]at hp
   rw[if_pos (by decide)]at hp
   subst hp
   (cbv;(try simp only[nc]at*);(try refine Chk.mk (Qa) ?_))
   (try first|exact⟨rfl,trivial⟩|exact⟨trivial,trivial⟩)
  simp only[if_neg (show¬(!Yw s.station 0 9)=true by rw[h3];exact Bool.false_ne_true)]at hp
  refine wS ?_
  refine JL fun Q hQ=>?_
  refine ZP false false [] [1,2,5,6,7] [] (fun(k:Nat)=>[(7,.int .i64 fun _=>(k:Int))]) (fun _=>[]) (fun k=>k≤i∧(l.take k).any (fun x=>decide (x.station=s.station))=false) (fun k=>i-k+0) 0 ⟨Nat.zero_le _,by simp⟩ ?_ ?_
  ·exact ZK
  rintro k ⟨hk,hp2⟩
  refine wS ?_
  refine⟨fun hb=>?_,fun hb=>?_⟩
  ·simp only[decide_eq_true_eq]at hb
   have hkl:k<l.length:=by omega
   have hat:=Zje hnt (q:=fun x:Stop=>decide (x.station=s.station)) hkl
   rw[hp2,Bool.false_or]at hat
   refine wS ?_
   simp only[ZaT]
   refine⟨fun h4=>?_,fun h4=>?_⟩
   ·rw[h4]at hat
    have:(l.take i).any (fun x=>decide (x.station=s.station))=true:=by
     rw[List.any_eq_true]at hat⊢
     obtain⟨x,hx,h⟩:=hat
     exact⟨x,List.Sublist.subset (List.take_sublist_take_left (by omega)) hx,h⟩
    simp only[if_pos this]at hp
    rw[if_pos (by decide)]at hp
    subst hp
    refine wS ?_
    refine hQ _ _ _ ?_
    (cbv;(try simp only[nc]at*);(try refine Chk.mk (Qa) ?_))
    (try first|exact⟨rfl,trivial⟩|exact⟨trivial,trivial⟩)
   ·rw[h4]at hat
    refine wS ?_
    refine⟨k+1,⟨by omega,hat⟩,by show i-(k+1)+0<i-k+0;omega,?_⟩
    exact ZK
  ·simp only[decide_eq_false_iff_not]at hb
   obtain rfl:k=i:=by omega
   simp only[hp2,Bool.false_eq_true,if_false]at hp
   refine wS ?_
   refine hQ _ _ _ ?_
   clear hQ
   refine wS ?_
   refine Zey (c72 s.zone 0 ((b.zones.length:Int)-1)) ?_
   refine vS ?_
   refine⟨fun h5=>?_,fun h5=>?_⟩
   ·simp only[if_pos h5]at hp
    rw[if_pos (by decide)]at hp
    subst hp
    (cbv;(try simp only[nc]at*);(try refine Chk.mk (Qa) ?_))
    (try first|exact⟨rfl,trivial⟩|exact⟨trivial,trivial⟩)
   simp only[if_neg (show¬(!Yw s.zone 0 ((b.zones.length:Int)-1))=true by rw[h5];exact Bool.false_ne_true)]at hp
   refine wS ?_
   refine Zey (c72 s.arrive 0 4319) ?_
   refine wS ?_
   refine⟨fun h6=>?_,fun h6=>?_⟩
   ·have h6:Yw s.arrive 0 4319=true:=by simpa using h6
    refine wS ?_
    refine Zey (c72 s.depart 0 4319) ?_
    refine wS ?_
    refine⟨fun h7=>?_,fun h7=>?_⟩
    ·have h7:Yw s.depart 0 4319=false:=by simpa [h6]using h7
     simp only[h6,h7,Bool.not_false,Bool.not_true,Bool.false_or,if_true]at hp
     rw[if_pos (by decide)]at hp
     subst hp
     (cbv;(try simp only[nc]at*);(try refine Chk.mk (Qa) ?_))
     (try first|exact⟨rfl,trivial⟩|exact⟨trivial,trivial⟩)
    ·have h7:Yw s.depart 0 4319=true:=by simpa [h6]using h7
     simp only[h6,h7,Bool.not_true,Bool.false_or,Bool.false_eq_true,if_false]at hp
     have he:(decide (0<k)&&decide ((k:Int)<l.length-1)&&decide (s.depart<s.arrive))=(bif bif decide (0<(k:Int))then decide ((k:Int)<(l.length:Int)-1)else false then decide (s.depart<s.arrive)else false):=by
      rw[show decide (0<k)=decide (0<(k:Int))from by rw[Bool.eq_iff_iff];simp]
      cases decide (0<(k:Int))<;>cases decide ((k:Int)<(l.length:Int)-1)<;>rfl
     rw[he]at hp
     refine wS ?_
     refine⟨fun h8=>?_,fun h8=>?_⟩
     ·rw[if_pos h8,if_pos (by decide)]at hp
      subst hp
      (cbv;(try simp only[nc]at*);(try refine Chk.mk (Qa) ?_))
      (try first|exact⟨rfl,trivial⟩|exact⟨trivial,trivial⟩)
     ·simp only[h8,Bool.false_eq_true,if_false,ne_eq,not_true_eq_false]at hp
      refine wS ?_
      refine⟨k+1,⟨by omega,by rw[←hp];congr 1;omega⟩,by show l.length-(k+1)+0<l.length-k+0;omega,?_⟩
      exact ZK
   ·have h6:Yw s.arrive 0 4319=false:=by simpa using h6
    simp only[h6,Bool.not_false,Bool.true_or,if_true]at hp
    rw[if_pos (by decide)]at hp
    subst hp
    refine wS ?_
    refine Br.isT (by rfl) ?_
    (cbv;(try simp only[nc]at*);(try refine Chk.mk (Qa) ?_))
    (try first|exact⟨rfl,trivial⟩|exact⟨trivial,trivial⟩)
 ·simp only[decide_eq_false_iff_not]at hb
  rw[show l.length-i=0 by omega,Zr]at hp
  subst hp
  (cbv;(try simp only[nc]at*);(try refine Chk.mk (Qa) ?_))
  (try first|exact⟨rfl,trivial⟩|exact⟨trivial,trivial⟩)
theorem c71 (b:XD) (l:List Train) (hz:b.zones.length≤1000000) (hl:l.length≤1000000) (hs:∀t∈l,t.stops.length≤1000000):SC (fun _=>Tryz.prog) 140 [Zd b,lst 3 encTrain default l] [] fun v h=>v= .int .i64 (fun _=>Qc b.zones.length l)∧h=[]:=by
 obtain⟨nt,hnt⟩:=Zu
 unfold Qc
 generalize hE:(if ZL l.length 0 4≠0 then ZL l.length 0 4 else Zr (QG b.zones.length l) 0 l.length)=E
 unfold Zd
 simp only[Za hnt]
 refine QT Tryz.func140 (body:=Zm Tryz.f140) rfl (by decide+kernel) ?_
 refine wS ?_
 refine⟨fun h2=>?_,fun h2=>?_⟩
 ·simp only[decide_eq_true_eq]at h2
  rw[show ZL l.length 0 4=6 by unfold ZL;rw[if_neg (by omega),if_pos (by omega)],if_pos (by decide)]at hE
  subst hE
  (cbv;(try simp only[nc]at*);(try refine Chk.mk (Qa) ?_))
  (try first|exact⟨rfl,trivial⟩|exact⟨trivial,trivial⟩)
 simp only[decide_eq_false_iff_not]at h2
 rw[show ZL l.length 0 4=0 by unfold ZL;rw[if_neg (by omega),if_neg (by omega)],if_neg (by decide)]at hE
 refine wS ?_
 refine ZP false false [] [1,2,5] [] (fun(i:Nat)=>[(5,.int .i64 fun _=>(i:Int))]) (fun _=>[]) (fun i=>i≤l.length∧Zr (QG b.zones.length l) i (l.length-i)=E) (fun i=>l.length-i+0) 0 ⟨Nat.zero_le _,by simpa using hE⟩ ?_ ?_
 ·exact ZK
 rintro i ⟨hi,hp⟩
 refine wS ?_
 refine⟨fun hb=>?_,fun hb=>?_⟩
 ·simp only[decide_eq_true_eq]at hb
  have hil:i<l.length:=by omega
  obtain⟨q,hq⟩:∃q,l.length-i=q+1:=⟨l.length-i-1,by omega⟩
  rw[hq,Zr]at hp
  have hst:=hs _ (QY (d:=default) hnt (l:=l) (i:=i) hil)
  have hct:QG b.zones.length l i=if !Yw (nt Train default l i).number 1 999 then 1 else if(l.take i).any (fun x=>decide (x.number=(nt Train default l i).number))then 4 else if !Yw (nt Train default l i).days 1 127 then 1
   else if ZL (nt Train default l i).stops.length 2 4≠0 then ZL (nt Train default l i).stops.length 2 4 else YF b.zones.length (nt Train default l i).stops:=by unfold QG;rw[hnt];rfl
  refine wS ?_
  refine Zey (c72 (nt Train default l i).number 1 999) ?_
  refine vS ?_
  refine⟨fun h3=>?_,fun h3=>?_⟩
  ·rw[if_pos h3]at hct
   rw[hct,if_pos (by decide)]at hp
   subst hp
   (cbv;(try simp only[nc]at*);(try refine Chk.mk (Qa) ?_))
   (try first|exact⟨rfl,trivial⟩|exact⟨trivial,trivial⟩)
  rw[if_neg (by rw[h3];exact Bool.false_ne_true)]at hct
  refine wS ?_
  refine JL fun Q hQ=>?_
  refine ZP false false [] [1,2,5,6] [] (fun(k:Nat)=>[(6,.int .i64 fun _=>(k:Int))]) (fun _=>[]) (fun k=>k≤i∧(l.take k).any (fun x=>decide (x.number=(nt Train default l i).number))=false) (fun k=>i-k+0) 0 ⟨Nat.zero_le _,by simp⟩ ?_ ?_
  ·exact ZK
  rintro k ⟨hk,hp2⟩
  refine wS ?_
  refine⟨fun hb=>?_,fun hb=>?_⟩
  ·simp only[decide_eq_true_eq]at hb
   have hkl:k<l.length:=by omega
   have hat:=Zje hnt (q:=fun x:Train=>decide (x.number=(nt Train default l i).number)) hkl
   rw[hp2,Bool.false_or]at hat
   refine wS ?_
   simp only[ZaT]
   refine⟨fun h4=>?_,fun h4=>?_⟩
   ·rw[h4]at hat
    have:(l.take i).any (fun x=>decide (x.number=(nt Train default l i).number))=true:=by
     rw[List.any_eq_true]at hat⊢
     obtain⟨x,hx,h⟩:=hat
     exact⟨x,List.Sublist.subset (List.take_sublist_take_left (by omega)) hx,h⟩
    rw[if_pos this]at hct
    rw[hct,if_pos (by decide)]at hp
    subst hp
    refine wS ?_
    refine hQ _ _ _ ?_
    (cbv;(try simp only[nc]at*);(try refine Chk.mk (Qa) ?_))
    (try first|exact⟨rfl,trivial⟩|exact⟨trivial,trivial⟩)
   ·rw[h4]at hat
    refine wS ?_
    refine⟨k+1,⟨by omega,hat⟩,by show i-(k+1)+0<i-k+0;omega,?_⟩
    exact ZK
  ·simp only[decide_eq_false_iff_not]at hb
   obtain rfl:k=i:=by omega
   rw[hp2,if_neg (by exact Bool.false_ne_true)]at hct
   refine wS ?_
   refine hQ _ _ _ ?_
   clear hQ
   refine wS ?_
   refine Zey (c72 (nt Train default l (k:Int)).days 1 127) ?_
   refine vS ?_
   refine⟨fun h3=>?_,fun h3=>?_⟩
   ·rw[if_pos h3]at hct
    rw[hct,if_pos (by decide)]at hp
    subst hp
    (cbv;(try simp only[nc]at*);(try refine Chk.mk (Qa) ?_))
    (try first|exact⟨rfl,trivial⟩|exact⟨trivial,trivial⟩)
   rw[if_neg (by rw[h3];exact Bool.false_ne_true)]at hct
   refine wS ?_
   have k110:=Zvy b (nt Train default l (k:Int)).stops hz hst
   rw[Zi8 hnt]at k110
   refine ZW k110 rfl fun r h₂ hp=>?_
   obtain⟨rfl,rfl⟩:=hp
   rw[←hct]
   generalize QG b.zones.length l k=e at*
   refine vS ?_
   refine⟨fun h5=>?_,fun h5=>?_⟩
   ·simp only[bne_iff_ne,ne_eq]at h5
    rw[if_pos h5]at hp
    subst hp
    (cbv;(try simp only[nc]at*);(try refine Chk.mk (Qa) ?_))
    (try first|exact⟨rfl,trivial⟩|exact⟨trivial,trivial⟩)
   ·simp only[bne_eq_false_iff_eq]at h5
    rw[if_neg (fun h=>h h5)]at hp
    refine wS ?_
    refine⟨k+1,⟨by omega,by rw[←hp];congr 1;omega⟩,by show l.length-(k+1)+0<l.length-k+0;omega,?_⟩
    exact ZK
 ·simp only[decide_eq_false_iff_not]at hb
  rw[show l.length-i=0 by omega,Zr]at hp
  subst hp
  (cbv;(try simp only[nc]at*);(try refine Chk.mk (Qa) ?_))
  (try first|exact⟨rfl,trivial⟩|exact⟨trivial,trivial⟩)
theorem c25 (b:XD) (hb:YH b):SC (fun _=>Tryz.prog) 87 [Zd b] [] fun v h=>v= .int .i64 (fun _=>Yu b)∧h=[]:=by
 obtain⟨nt,hnt⟩:=Zu
 have hz:=hb.zones
 have hc:=hb.chs
 unfold Yu
 generalize hE:(if ZL b.zones.length 1 3≠0 then _ else _:Int)=E
 have k1:=c71 b b.old hz hb.old hb.stops.1
 have k2:=c71 b b.new hz hb.new hb.stops.2
 unfold Zd at k1 k2⊢
 simp only[Za hnt]at k1 k2⊢
 refine QT Tryz.func87 (body:=Zm Tryz.f87) rfl (by decide+kernel) ?_
 refine wS ?_
 refine⟨fun h1=>?_,fun h1=>?_⟩
 ·have h1:b.zones.length=0:=by simpa using h1
  rw[show ZL b.zones.length 1 3=7 by unfold ZL;rw[if_pos (by omega)],if_pos (by decide)]at hE
  subst hE
  (cbv;(try simp only[nc]at*);(try refine Chk.mk (Qa) ?_))
  (try first|exact⟨rfl,trivial⟩|exact⟨trivial,trivial⟩)
 have h1:¬b.zones.length=0:=by simpa using h1
 refine wS ?_
 refine⟨fun h2=>?_,fun h2=>?_⟩
 ·simp only[decide_eq_true_eq]at h2
  rw[show ZL b.zones.length 1 3=6 by unfold ZL;rw[if_neg (by omega),if_pos (by omega)],if_pos (by decide)]at hE
  subst hE
  (cbv;(try simp only[nc]at*);(try refine Chk.mk (Qa) ?_))
  (try first|exact⟨rfl,trivial⟩|exact⟨trivial,trivial⟩)
 simp only[decide_eq_false_iff_not]at h2
 rw[show ZL b.zones.length 1 3=0 by unfold ZL;rw[if_neg (by omega),if_neg (by omega)],if_neg (by decide)]at hE
 generalize hF:Zr (fun i=>Zw (b.zones.getD i default)) 0 b.zones.length=F at*
 refine wS ?_
 refine JL fun Q hQ=>?_
 refine ZP false false [] [1,3] [] (fun(i:Nat)=>[(3,.int .i64 fun _=>(i:Int))]) (fun _=>[]) (fun i=>i≤b.zones.length∧Zr (fun i=>Zw (b.zones.getD i default)) i (b.zones.length-i)=F) (fun i=>b.zones.length-i+0) 0 ⟨Nat.zero_le _,by simpa using hF⟩ ?_ ?_
 ·exact ZK
 rintro i ⟨hi,hp⟩
 refine wS ?_
 refine⟨fun hb=>?_,fun hb=>?_⟩
 ·simp only[decide_eq_true_eq]at hb
  obtain⟨q,hq⟩:∃q,b.zones.length-i=q+1:=⟨b.zones.length-i-1,by omega⟩
  rw[hq,Zr]at hp
  have hch:=hc _ (QY (d:=default) hnt (l:=b.zones) (i:=i) (by omega))
  have hzn:b.zones.getD i default=nt Zone default b.zones i:=by rw[hnt];rfl
  rw[hzn]at hp
  refine wS ?_
  generalize nt Zone default b.zones i=z at*
  refine Zey (c70 z hch) ?_
  generalize Zw z=e at*
  refine vS ?_
  refine⟨fun h3=>?_,fun h3=>?_⟩
  ·simp only[bne_iff_ne,ne_eq]at h3
   rw[if_pos h3]at hp
   subst hp
   rw[if_pos h3]at hE
   subst hE
   refine wS ?_
   refine hQ _ _ _ ?_
   (cbv;(try simp only[nc]at*);(try refine Chk.mk (Qa) ?_))
   (try first|exact⟨rfl,trivial⟩|exact⟨trivial,trivial⟩)
  ·simp only[bne_eq_false_iff_eq]at h3
   rw[if_neg (fun h=>h h3)]at hp
   refine wS ?_
   refine⟨i+1,⟨by omega,by rw[←hp];congr 1;omega⟩,by show b.zones.length-(i+1)+0<b.zones.length-i+0;omega,?_⟩
   exact ZK
 simp only[decide_eq_false_iff_not]at hb
 rw[show b.zones.length-i=0 by omega,Zr]at hp
 subst hp
 rw[if_neg (fun h=>h rfl)]at hE
 refine wS ?_
 refine hQ _ _ _ ?_
 clear hQ
 generalize Qc b.zones.length b.old=e1 at*
 generalize Qc b.zones.length b.new=e2 at*
 refine wS ?_
 refine Zey (k1) ?_
 refine wS ?_
 refine⟨fun h3=>?_,fun h3=>?_⟩
 ·simp only[bne_iff_ne,ne_eq]at h3
  rw[if_pos h3]at hE
  subst hE
  (cbv;(try simp only[nc]at*);(try refine Chk.mk (Qa) ?_))
  (try first|exact⟨rfl,trivial⟩|exact⟨trivial,trivial⟩)
 simp only[bne_eq_false_iff_eq]at h3
 rw[if_neg (fun h=>h h3)]at hE
 refine wS ?_
 refine Zey (k2) ?_
 refine wS ?_
 refine⟨fun h4=>?_,fun h4=>?_⟩
 ·simp only[bne_iff_ne,ne_eq]at h4
  rw[if_pos h4]at hE
  subst hE
  (cbv;(try simp only[nc]at*);(try refine Chk.mk (Qa) ?_))
  (try first|exact⟨rfl,trivial⟩|exact⟨trivial,trivial⟩)
 simp only[bne_eq_false_iff_eq]at h4
 rw[if_neg (fun h=>h h4)]at hE
 refine wS ?_
 have k67:=c72 b.last 0 13
 rcases hI:Yw b.last 0 13 with _|_
 ·rw[hI]at k67 hE
  simp only[Bool.not_false,Bool.true_or,if_true]at hE
  subst hE
  refine Zey (k67) ?_
  refine vS ?_
  refine Chk.mk (by simp[QP,QN,QO,Cn.p]) ?_
  refine Br.isF (by rfl) ?_
  refine wS ?_
  refine Br.isT (by rfl) ?_
  (cbv;(try simp only[nc]at*);(try refine Chk.mk (Qa) ?_))
  (try first|exact⟨rfl,trivial⟩|exact⟨trivial,trivial⟩)
 ·have hlast:0≤b.last∧b.last≤13:=by simpa [Yw]using hI
  rw[hI]at k67 hE
  simp only[Bool.not_true,Bool.false_or]at hE
  refine Zey (k67) ?_
  refine wS ?_
  refine Br.isT (by rfl) ?_
  refine wS ?_
  refine Zey (c72 b.night 0 (b.last+1)) ?_
  refine wS ?_
  refine⟨fun hb'=>?_,fun hb'=>?_⟩
  ·have hb':Yw b.night 0 (b.last+1)=false:=by simpa using hb'
   rw[if_pos (by simp[hb'])]at hE
   subst hE
   (cbv;(try simp only[nc]at*);(try refine Chk.mk (Qa) ?_))
   (try first|exact⟨rfl,trivial⟩|exact⟨trivial,trivial⟩)
  ·have hb':Yw b.night 0 (b.last+1)=true:=by simpa using hb'
   rw[if_neg (by simp[hb'])]at hE
   subst hE
   (cbv;(try simp only[nc]at*);(try refine Chk.mk (Qa) ?_))
   (try first|exact⟨rfl,trivial⟩|exact⟨trivial,trivial⟩)
end Go.Proofs.YtjgpiclllehgmaaGreat.Vm
namespace Go.Proofs.YtjgpiclllehgmaaGreat.Vm
open Go Go.Proofs Sp
set_option maxRecDepth 100000
set_option maxHeartbeats 1600000
end Go.Proofs.YtjgpiclllehgmaaGreat.Vm
namespace Go.Proofs.YtjgpiclllehgmaaGreat.Vm
attribute [local irreducible] Dn
open Go Go.Proofs Sp
set_option maxRecDepth 100000
set_option maxHeartbeats 1600000
theorem Zs2 {f:FuncId} {xs ys:List AV} {h:List Zh} {Post Q:AV→List Zh→Prop} {B:Prop} (H:SC (fun _=>Tryz.prog) f ys [] Q) (k:B) (t:SC (fun _=>Tryz.prog) f ys [] Q→HdW B→SC (fun _=>Tryz.prog) f xs h Post:=by intro hH hW;refine ZW hH (by first|rfl|(simp only[Ze,Zd,Za hnt];rfl)) fun r h₂ hp=>?_;(try simp only[Ze,Zd,Za hnt]at hp);obtain⟨rfl,rfl⟩:=hp;exact hW.out):SC (fun _=>Tryz.prog) f xs h Post:=t H ⟨k⟩
theorem Zvr (b:XD) (day:Int):SC (fun _=>Tryz.prog) 168 [Zd b,.int .i64 fun _=>day] [] fun v h=>v=lst 3 encTrain default (Qy b day)∧h=[]:=by
 refine QT Tryz.func168 (body:=Zm Tryz.f168) rfl (by decide+kernel) ?_
 unfold Zd Qy
 refine wS ?_
 refine⟨fun hb=>?_,fun hb=>?_⟩
 ·simp only[decide_eq_true_eq]at hb
  rw[if_pos hb]
  (cbv;(try simp only[nc]at*);(try refine Chk.mk (Qa) ?_))
  (try first|exact⟨rfl,trivial⟩|exact⟨trivial,trivial⟩)
 ·simp only[decide_eq_false_iff_not]at hb
  rw[if_neg hb]
  (cbv;(try simp only[nc]at*);(try refine Chk.mk (Qa) ?_))
  (try first|exact⟨rfl,trivial⟩|exact⟨trivial,trivial⟩)
theorem Zvp (t:Train) (day:Int) (hd:0≤day∧day≤1000000) (ht:0≤t.days∧t.days≤1000000):SC (fun _=>Tryz.prog) 170 [.agg (encTrain t),.int .i64 fun _=>day] [] fun v h=>v= .bool (fun _=>Zbe t day)∧h=[]:=by
 refine QT Tryz.func170 (body:=Zm Tryz.f170) rfl (by decide+kernel) ?_
 have e:=(Zri day 7).1 hd.1
 refine vS ?_
 rw[e]
 refine Chk.mk (Qa) ?_
 refine vS ?_
 refine⟨?_,trivial⟩
 congr 1;funext _
 rw[Nat.min_eq_left (show(day%7).toNat≤IntKind.i64.bits by show _≤64;omega),Int.fdiv_eq_ediv_of_nonneg _ (Int.le_of_lt (Int.pow_pos (by omega)))]
 have hq:0≤t.days/2^(day%7).toNat:=Int.ediv_nonneg ht.1 (Int.le_of_lt (Int.pow_pos (by omega)))
 have hle:t.days/2^(day%7).toNat≤t.days:=Int.ediv_le_self _ ht.1
 unfold Zbe
 generalize t.days/2^(day%7).toNat=q at*
 rw[Zla q hq (by omega),ZaT]
theorem Zvq (l:List Train) (n:Int) (hl:l.length≤1000000):SC (fun _=>Tryz.prog) 169 [lst 3 encTrain default l,.int .i64 fun _=>n] [] fun v h=>v= .int .i64 (fun _=>place l n)∧h=[]:=by
 obtain⟨nt,hnt⟩:=Zu
 unfold place
 generalize hE:Zl (fun t:Train=>decide (t.number=n)) 0 l=E
 rw[Za hnt]
 refine QT Tryz.func169 (body:=Zm Tryz.f169) rfl (by decide+kernel) ?_
 refine wS ?_
 refine ZP false false [] [0,1,5] [] (fun(i:Nat)=>[(5,.int .i64 fun _=>(i:Int))]) (fun _=>[]) (fun i=>i≤l.length∧Zl (fun t:Train=>decide (t.number=n)) i (l.drop i)=E) (fun i=>l.length-i+0) 0 ⟨Nat.zero_le _,by simpa using hE⟩ ?_ ?_
 ·exact ZK
 rintro i ⟨hi,hp⟩
 refine wS ?_
 refine⟨fun hb=>?_,fun hb=>?_⟩
 ·simp only[decide_eq_true_eq]at hb
  rw[Qo (d:=default) hnt (l:=l) (i:=i) (by omega),Zl]at hp
  refine wS ?_
  simp only[ZaT]
  refine⟨fun h1=>?_,fun h1=>?_⟩
  ·rw[if_pos h1]at hp
   subst hp
   (cbv;(try simp only[nc]at*);(try refine Chk.mk (Qa) ?_))
   (try first|exact⟨rfl,trivial⟩|exact⟨trivial,trivial⟩)
  ·rw[if_neg (by rw[h1];exact Bool.false_ne_true)]at hp
   refine wS ?_
   refine⟨i+1,⟨by omega,by rw[←hp];rfl⟩,by show l.length-(i+1)+0<l.length-i+0;omega,?_⟩
   exact ZK
 ·simp only[decide_eq_false_iff_not]at hb
  rw[List.drop_eq_nil_of_le (by omega),Zl]at hp
  subst hp
  (cbv;(try simp only[nc]at*);(try refine Chk.mk (Qa) ?_))
  (try first|exact⟨rfl,trivial⟩|exact⟨trivial,trivial⟩)
theorem ZhL:∀(l:List Chg) (fr a r t:Int),(∀p∈QF fr a l,p.fr<Xj∧r-p.ahd<Xj)→t<Xj→QR (QF fr a l) r t<Xj
 |[],fr,a,r,t,h,ht=>by
  have:=h ⟨fr,Xj,a⟩ (by simp[QF])
  simp only[QF,QR]at*
  rw[if_pos (by omega)]
  omega
 |c::l,fr,a,r,t,h,ht=>by
  unfold QF at h⊢
  split
  ·rename_i hc
   rw[if_pos hc]at h
   unfold QR
   split
   ·have:=h ⟨fr,c.at_,a⟩ (List.mem_cons_self ..)
    simp only at this⊢
    omega
   ·exact ZhL l _ _ _ _ (fun p hp=>h p (List.mem_cons_of_mem _ hp)) ht
  ·rename_i hc
   rw[if_neg hc]at h
   exact ZhL l _ _ _ _ h ht
theorem Zk1:∀(l:List Pc) (r t:Int),0≤t→0≤QR l r t
 |[],_,_,_=>by unfold QR Xj;omega
 |p::l,r,t,h=>by
  unfold QR
  split
  ·omega
  ·exact Zk1 l r t h
theorem ZiN {z:Zone} (hz:Zw z=0) {r t:Int} (hr:r≤1000000) (ht:0≤t∧t<Xj):0≤QR (ZR z) r t∧QR (ZR z) r t<Xj:=by
 refine⟨Zk1 _ _ _ ht.1,ZhL _ _ _ _ _ (fun p hp=>?_) ht.2⟩
 have:=(Zdl hz).2 p hp
 unfold Xj
 omega
theorem Zvo (b:XD) (t:Train) (day:Int) (hb':∀z∈b.zones,Zw z=0) (ht:∀s∈t.stops,(0≤s.zone∧s.zone<b.zones.length)∧(0≤s.arrive∧s.arrive≤10000)∧0≤s.depart∧s.depart≤10000) (hlen:2≤t.stops.length∧t.stops.length≤1000) (hd:0≤day∧day≤100):
  SC (fun _=>Tryz.prog) 171 [Zd b,.agg (encTrain t),.int .i64 fun _=>day] [] fun v h=>v=lst 3 QV default (calls b.zones t day)∧h=[]:=by
 obtain⟨nt,hnt⟩:=Zu
 refine SC.less (ZsT false false [] Tryz.func171 (body:=Zm Tryz.f171) rfl (by decide+kernel) ?_)
 rw[Zi8 hnt]
 rw[show AV.agg (encTrain t)= .agg [.int .i64 fun _=>t.number,.int .i64 fun _=>t.days,.isl 4 (fun _=>(t.stops.length:Int)) (fun e=>QK (nt Stop default t.stops (e ()))) .none] by unfold encTrain;rw[Za hnt]]
 refine wS ?_
 refine ZP false false [] [2,3,4,7,8,9] [.tok 3 fun _=>0] (fun(⟨i,now,out⟩:Nat×Int×List Sp.Call)=>[(7,.isl 3 (fun _=>(out.length:Int)) (fun e=>QV (nt Sp.Call default out (e ()))) (.own 2)),(8,.int .i64 fun _=>now),(9,.int .i64 fun _=>(i:Int))])
  (fun⟨i,now,out⟩=>[(2,.tok 3 fun _=>(out.length:Int))])
  (fun⟨i,now,out⟩=>(i≤t.stops.length∧out.length=i∧calls b.zones t day=out++Qd b.zones day t.stops.length i now (t.stops.drop i))∧0≤now∧now<Xj) (fun i=>t.stops.length-i.1+0) (0,0,[]) ⟨⟨Nat.zero_le _,rfl,rfl⟩,by decide,by decide⟩ ?_ ?_
 ·(refine To.of [(3,false)] ?_;cbv;(try simp only[nc]);(repeat' (first|exact trivial|exact ZH.refl _|exact ZN.refl _|refine⟨?_,?_⟩|refine ZN.cells ?_|refine ZH.agg ?_|refine ZH.tup ?_));(all_goals (first|exact Yv|skip)))
 rintro⟨i,now,out⟩ ⟨⟨hi,ho,hp⟩,hn⟩
 have hgz:∀k:Nat,k<t.stops.length→Zw (nt Zone default b.zones (nt Stop default t.stops (k:Int)).zone)=0:=fun k hk=>hb' _ (by
  have:=ht _ (QY (d:=default) hnt (l:=t.stops) (i:=k) hk)
  rw[hnt,List.getD_eq_getElem?_getD,List.getElem?_eq_getElem (by omega)];exact List.getElem_mem _)
 have hgd:∀z:Int,b.zones.getD z.toNat default=nt Zone default b.zones z:=fun z=>by rw[hnt]
 refine wS ?_
 refine⟨fun hb=>?_,fun hb=>?_⟩
 ·simp only[decide_eq_true_eq]at hb
  have hil:i<t.stops.length:=by omega
  have hs:=ht _ (QY (d:=default) hnt (l:=t.stops) (i:=i) hil)
  have hz:=hgz i hil
  rw[Qo (d:=default) hnt hil,Qd]at hp
  simp only[hgd]at hp
  refine wS ?_
  generalize nt Stop default t.stops (i:Int)=s at*
  generalize hZ:nt Zone default b.zones s.zone=z at*
  have ka:=fun n hn=>Zun z (1440*day+s.arrive) n hz (by omega) hn
  have kd:=fun n hn=>Zun z (1440*day+s.depart) n hz (by omega) hn
  have fa:=fun n hn=>ZiN (t:=n) hz (show 1440*day+s.arrive≤1000000 by omega) hn
  have fd:=fun n hn=>ZiN (t:=n) hz (show 1440*day+s.depart≤1000000 by omega) hn
  generalize hL:ZR z=L at*
  rcases Nat.eq_zero_or_pos i with h0|h0
  ·subst h0
   rw[if_pos rfl,if_pos (by omega)]at hp
   refine Br.isF (by simp) ?_
   refine wS ?_
   refine Br.isT (by simp;omega) ?_
   refine vS ?_
   simp only[hZ]
   refine Chk.mk (Qa) ?_
   refine Zs2 (kd now hn) ?_
   have fd:=fd now hn
   try dsimp only at hp
   generalize QR L (1440*day+s.depart) now=d at*
   refine wS ?_
   refine Br.isT (by simp) ?_
   refine wS ?_
   refine⟨(1,d,out++[⟨s.station,d,d⟩]),⟨⟨by omega,by simp only[List.length_append,List.length_cons,List.length_nil];omega,by rw[hp];simp⟩,fd⟩,by show t.stops.length-1+0<t.stops.length-0+0;omega,?_⟩
   exact ZK
  ·rw[if_neg (by omega)]at hp
   refine Br.isT (by simp;omega) ?_
   refine vS ?_
   simp only[hZ]
   refine Chk.mk (Qa) ?_
   refine Zs2 (ka now hn) ?_
   have fa:=fa now hn
   try dsimp only at hp
   generalize QR L (1440*day+s.arrive) now=a at*
   refine wS ?_
   refine⟨fun h1=>?_,fun h1=>?_⟩
   ·simp only[decide_eq_true_eq]at h1
    rw[if_pos (by omega)]at hp
    refine vS ?_
    simp only[hZ]
    refine Chk.mk (Qa) ?_
    refine Zs2 (kd a fa) ?_
    have fd:=fd a fa
    generalize QR L (1440*day+s.depart) a=d at*
    refine wS ?_
    refine Br.isF (by simp;omega) ?_
    refine wS ?_
    refine⟨(i+1,d,out++[⟨s.station,a,d⟩]),⟨⟨by omega,by simp only[List.length_append,List.length_cons,List.length_nil];omega,by rw[hp];simp⟩,fd⟩,by show t.stops.length-(i+1)+0<t.stops.length-i+0;omega,?_⟩
    exact ZK
   ·simp only[decide_eq_false_iff_not]at h1
    rw[if_neg (by omega)]at hp
    refine wS ?_
    refine Br.isF (by simp;omega) ?_
    refine wS ?_
    refine⟨(i+1,a,out++[⟨s.station,a,a⟩]),⟨⟨by omega,by simp only[List.length_append,List.length_cons,List.length_nil];omega,by rw[hp];simp⟩,fa⟩,by show t.stops.length-(i+1)+0<t.stops.length-i+0;omega,?_⟩
    exact ZK
 ·simp only[decide_eq_false_iff_not]at hb
  rw[List.drop_eq_nil_of_le (by omega),Qd,List.append_nil]at hp
  rw[hp]
  refine wS ?_
  refine⟨lst 3 QV default out,[],?_,rfl,rfl⟩
  simp only[Za hnt]
  exact ZK
end Go.Proofs.YtjgpiclllehgmaaGreat.Vm
namespace Go.Proofs.YtjgpiclllehgmaaGreat.Vm
attribute [local irreducible] Dn
open Go Go.Proofs Sp
set_option maxRecDepth 100000
set_option maxHeartbeats 1600000
theorem Zmb {f:FuncId} {xs ys:List AV} {h:List Zh} {Post Q:AV→List Zh→Prop} {B:Prop} (H:SC (fun _=>Tryz.prog) f ys [] Q) (k:B) (t:SC (fun _=>Tryz.prog) f ys [] Q→HdW B→SC (fun _=>Tryz.prog) f xs h Post:=by intro hH hW;refine ZW hH (by first|rfl|(simp only[Ze,Zd,Za hnt];rfl)) fun r h₂ hp=>?_;(try simp only[Ze,Zd,Za hnt]at hp);obtain⟨rfl,rfl⟩:=hp;exact hW.out):SC (fun _=>Tryz.prog) f xs h Post:=t H ⟨k⟩
theorem ZlE (l:List Train) (n:Int):place l n=-1∨0≤place l n∧place l n<l.length:=by
 have:=Q7 (q:=fun t:Train=>decide (t.number=n)) (l:=l) (i:=0) (by omega)
 rcases Nat.eq_zero_or_pos l.length with h|h
 ·rw[List.eq_nil_of_length_eq_zero h];exact .inl rfl
 ·unfold place;omega
theorem Zvs (b:XD) (n day:Int) (hf:YH b):SC (fun _=>Tryz.prog) 128 [Zd b,.int .i64 fun _=>n,.int .i64 fun _=>day] [] fun v h=>v= .tup [lst 3 QV default (JO b n day).1,.int .i64 fun _=>(JO b n day).2]∧h=[]:=by
 obtain⟨nt,hnt⟩:=Zu
 refine SC.less (QT Tryz.func128 (body:=Zm Tryz.f128) rfl (by decide+kernel) ?_)
 unfold Zd JO
 simp only[Za hnt]
 refine wS ?_
 refine Zmb (c25 b hf) ?_
 have hok0:=fun h=>ZbZ (b:=b) h
 generalize Yu b=e at*
 refine vS ?_
 refine⟨fun hb=>?_,fun hb=>?_⟩
 ·simp only[bne_iff_ne,ne_eq]at hb
  rw[if_pos hb]
  refine wS ?_
  refine⟨_,[],?_,rfl,rfl⟩
  exact ZK
 simp only[bne_eq_false_iff_eq]at hb
 have hok:=hok0 hb
 subst hb
 rw[if_neg (fun h=>h rfl)]
 refine wS ?_
 refine Zmb (c72 day 0 b.last) ?_
 refine vS ?_
 refine⟨fun hb=>?_,fun hb=>?_⟩
 ·rw[if_pos hb]
  refine wS ?_
  refine⟨_,[],?_,rfl,rfl⟩
  exact ZK
 rw[if_neg (by rw[hb];exact Bool.false_ne_true)]
 have hday:=JY (by simpa using hb:Yw day 0 b.last=true)
 have hlast:=hok.last
 have htab:=ZeP hok day
 refine wS ?_
 refine Zmb (Zvr b day) ?_
 have hpl:=ZlE (Qy b day) n
 generalize Qy b day=l at*
 refine wS ?_
 refine Zmb (Zvq l n (by omega)) ?_
 generalize place l n=p at*
 refine vS ?_
 refine⟨fun hb=>?_,fun hb=>?_⟩
 ·simp only[decide_eq_true_eq]at hb
  rw[if_pos hb]
  refine wS ?_
  refine⟨_,[],?_,rfl,rfl⟩
  exact ZK
 simp only[decide_eq_false_iff_not]at hb
 rw[if_neg hb]
 obtain⟨k,rfl⟩:∃k:Nat,p=k:=⟨p.toNat,by omega⟩
 refine wS ?_
 have hTk:=htab.2 _ (QY (d:=default) hnt (l:=l) (i:=k) (by omega))
 have hgk:l.getD (k:Int).toNat default=nt Train default l k:=by rw[hnt]
 rw[hgk]
 have hdays:=hTk.days
 refine Zmb (Zvp (nt Train default l k) day (by omega) (by omega)) ?_
 refine vS ?_
 refine⟨fun hb=>?_,fun hb=>?_⟩
 ·rw[if_pos hb]
  refine wS ?_
  refine⟨_,[],?_,rfl,rfl⟩
  exact ZK
 rw[if_neg (by rw[hb];exact Bool.false_ne_true)]
 refine wS ?_
 have hlen:=hTk.len
 refine Zmb (Zvo b (nt Train default l k) day hok.zones (fun s hs=>by obtain⟨_,h1,h2,h3⟩:=hTk.stops s hs;omega) (by omega) (by omega)) ?_
 generalize calls b.zones (nt Train default l k) day=C at*
 refine wS ?_
 refine⟨_,[],?_,rfl,rfl⟩
 (try simp only[ZaN hnt])
 exact ZK
end Go.Proofs.YtjgpiclllehgmaaGreat.Vm
namespace Go.Proofs.YtjgpiclllehgmaaGreat.Sp
def QL (b:XD) (d:Qe):List Call×Bool:=if Xi (JO b d.number d.day).1≠0 then([],false)else((JO b d.number d.day).1,decide ((JO b d.number d.day).2=0))
end Go.Proofs.YtjgpiclllehgmaaGreat.Sp
namespace Go.Proofs.YtjgpiclllehgmaaGreat.Vm
attribute [local irreducible] Dn
open Go Go.Proofs Sp
set_option maxRecDepth 100000
set_option maxHeartbeats 4000000
theorem Zs0 (b:XD) (d:Sp.Qe) (hf:YH b):SC (fun _=>Tryz.prog) 75 [Zd b,.agg (Zi d)] [] fun v h=>v= .tup [lst 3 QV default (QL b d).1,.bool fun _=>(QL b d).2]∧h=[]:=by
 obtain⟨nt,hnt⟩:=Zu
 have k:=Zvs b d.number d.day hf
 have hlen:=(Zhk b d.number d.day).1
 have hE:QL b d=if Xi (JO b d.number d.day).1≠0 then([],false)else((JO b d.number d.day).1,decide ((JO b d.number d.day).2=0)):=rfl
 generalize QL b d=E at*
 generalize JO b d.number d.day=r at*
 obtain⟨C,er⟩:=r
 unfold Zd Zi at*
 simp only[Za hnt]at*
 refine SC.less (QT Tryz.func75 (body:=Zm Tryz.f75) rfl (by decide+kernel) ?_)
 refine wS ?_
 refine ZW (k) (by first|rfl|(simp only[Ze,Zd,Za hnt];rfl)) fun r h₂ hp=>?_
 (try simp only[Ze,Zd,Za hnt]at hp)
 obtain⟨rfl,rfl⟩:=hp
 try dsimp only at hE hlen
 refine wS ?_
 refine JL fun Q hQ=>?_
 refine ZP false false [] [6,7,8] [] (fun(j:Nat)=>[(8,.int .i64 fun _=>((j+1:Nat):Int))]) (fun _=>[]) (fun j=>Xi C=Zr (Jg C) (j+1) (C.length-(j+1))) (fun j=>C.length-(j+1)+0) 0 rfl ?_ ?_
 ·exact ZK
 rintro j hpk
 refine wS ?_
 refine⟨fun hb=>?_,fun hb=>?_⟩
 ·simp only[decide_eq_true_eq]at hb
  rw[Xd (by omega)]at hpk
  have hoa:Jg C (j+1)=if(nt Sp.Call default C ((j+1:Nat):Int)).arrive≤(nt Sp.Call default C (((j+1:Nat):Int)-1)).depart then 5 else 0:=by
   unfold Jg
   rw[XT hnt,XT hnt,show((j+1-1:Nat):Int)=((j+1:Nat):Int)-1 by omega]
  refine wS ?_
  refine⟨fun hb'=>?_,fun hb'=>?_⟩
  ·simp only[decide_eq_true_eq]at hb'
   rw[if_pos (by omega)]at hoa
   rw[hoa,if_pos (by decide)]at hpk
   rw[if_pos (by rw[hpk];decide)]at hE
   subst hE
   refine wS ?_
   refine hQ _ _ _ ?_
   refine wS ?_
   refine⟨_,[],?_,rfl,rfl⟩
   exact ZK
  ·simp only[decide_eq_false_iff_not]at hb'
   rw[if_neg (by omega)]at hoa
   rw[hoa,if_neg (fun h=>h rfl)]at hpk
   refine wS ?_
   refine⟨j+1,hpk,by show C.length-(j+1+1)+0<C.length-(j+1)+0;omega,?_⟩
   exact ZK
 ·simp only[decide_eq_false_iff_not]at hb
  rw[Xt (by omega)]at hpk
  rw[if_neg (fun h=>h hpk)]at hE
  subst hE
  refine wS ?_
  refine hQ _ _ _ ?_
  refine wS ?_
  refine⟨_,[],?_,rfl,rfl⟩
  exact ZK
theorem Zuh (b:XD) (d:Sp.Qe) (hf:YH b) (hn:(QL b d).2=false):SC (fun _=>Tryz.prog) 75 [Zd b,.agg (Zi d)] [] fun v h=>v= .tup [.undef,.bool fun _=>false]∧h=[]:=by
 refine SC.less (SC.mono (Zs0 b d hf) fun r h' hr=>?_)
 obtain⟨rfl,rfl⟩:=hr
 rw[hn]
 generalize (QL b d).1=C
 refine⟨.tup [.undef,.bool fun _=>false],[],?_,rfl,rfl⟩
 exact ZK
end Go.Proofs.YtjgpiclllehgmaaGreat.Vm
namespace Go.Proofs.YtjgpiclllehgmaaGreat.Vm
open Sp
theorem ZaP {f:Nat→Int}:∀ {k i:Nat},(∀j,i≤j→j<i+k→f j=0)→Zr f i k=0
 |0,_,_=>rfl
 |k+1,i,h=>by
  unfold Zr
  rw[if_neg (fun hne=>hne (h i (Nat.le_refl _) (by omega)))]
  exact ZaP fun j h1 h2=>h j (by omega) (by omega)
theorem Zfw {n a b:Int} (h1:a≤n) (h2:n≤b):Yw n a b=true:=by simp[Yw,h1,h2]
theorem Zcr {n a b:Int} (h1:a≤n) (h2:n≤b):Qu n a b=false:=by unfold Qu;rw[Zfw h1 h2];rfl
theorem ZoZ {n a b:Int} (h1:a≤n) (h2:n≤b):ZL n a b=0:=by
 unfold ZL
 rw[if_neg (by omega),if_neg (by omega)]
theorem Zmt {k:Int} {z:Zone} (h:Zpe k z) (hk:k≤3):Zw z=0:=by
 have hb:=h.base
 have hl:=h.len
 unfold Zw
 rw[if_neg (by simp[Yw];omega),if_neg (by omega)]
 have key:∀(l:List Chg) (p:Option Int),(∀c∈l,0≤c.at_∧c.at_≤43200∧Zpr c.by_)→l.Pairwise (fun a b=>a.at_<b.at_)→(∀a,p=some a→∀c∈l,a<c.at_)→YP p l=0:=by
  intro l
  induction l with
  |nil=>intro p _ _ _;exact Zcv p
  |cons c l ih=>
   intro p h1 h2 h3
   obtain⟨b1,b2,b3⟩:=h1 c (List.mem_cons_self ..)
   have hle:leP p c.at_=false:=by
    cases p with
    |none=>rfl
    |some a=>have:=h3 a rfl c (List.mem_cons_self ..);simp[leP];omega
   rw[Ys,if_neg (by simp[Yw];omega),hle]
   unfold Zpr at b3
   have h4:(!Yw c.by_ (-180) 180||decide (c.by_=0))=false:=by
    have g1:Yw c.by_ (-180) 180=true:=by simp[Yw];omega
    have g2:decide (c.by_=0)=false:=by simp;omega
    rw[g1,g2];rfl
   rw[h4]
   simp only[Bool.false_eq_true,if_false]
   rw[List.pairwise_cons]at h2
   exact ih _ (fun x hx=>h1 x (List.mem_cons_of_mem _ hx)) h2.2 fun a e x hx=>by cases e;exact h2.1 x hx
 exact key _ none (fun c hc=>by
  have h1:=h.at_ c hc
  have:0<z.chs.length:=List.length_pos_of_mem hc
  exact⟨h1.1,by omega,h.by_ c hc⟩) h.asc fun a e=>by cases e
theorem Zfv {α:Type} {q:α→Bool} {d:α}:∀ {l:List α} {i:Nat} {k:Int},i<l.length→q (l.getD i d)=true→(∀j,j<i→q (l.getD j d)=false)→Zl q k l=k+i
 |[],i,k,h,_,_=>by simp at h
 |a::l,i,k,h,hi,hj=>by
  unfold Zl
  cases i with
  |zero=>
   rw[show q a=true from hi,if_pos rfl]
   simp
  |succ i=>
   rw[show q a=false from hj 0 (by omega),if_neg Bool.false_ne_true,Zfv (d:=d) (i:=i) (by simpa using h) hi fun j h'=>hj (j+1) (by omega)]
   omega
theorem Zoo {α:Type} {d:α} {l:List α} {i:Nat} (h:i<l.length):l.getD i d∈l:=by rw[List.getD_eq_getElem?_getD,List.getElem?_eq_getElem h];exact List.getElem_mem _
theorem Zoi {α:Type} {d:α} {r:α→α→Prop} {l:List α} (h:l.Pairwise r) {i j:Nat} (hij:i<j) (hj:j<l.length):r (l.getD i d) (l.getD j d):=by
 have:=List.pairwise_iff_getElem.1 h i j (by omega) hj hij
 rw[List.getD_eq_getElem?_getD,List.getD_eq_getElem?_getD,List.getElem?_eq_getElem (by omega),List.getElem?_eq_getElem hj]
 exact this
structure DL (n:Int) (l:List Train):Prop where
 all:∀(k:Nat),k<l.length→∃st:Nat,2≤st∧st≤10∧Zjo st (n-k) (l.getD k default)
theorem DL.snoc {n:Int} {l:List Train} {t:Train} {st:Nat} (h:DL n l) (h1:2≤st∧st≤10) (ht:Zjo st (n-l.length) t):DL n (l++[t]):=⟨fun k hk=>by
 simp only[List.length_append,List.length_cons,List.length_nil]at hk
 by_cases h2:k<l.length
 ·rw[List.getD_eq_getElem?_getD,List.getElem?_append_left h2,←List.getD_eq_getElem?_getD]
  exact h.all k h2
 ·have hk:k=l.length:=by omega
  subst hk
  have e:(l++[t]).getD l.length default=t:=by simp[List.getD_eq_getElem?_getD]
  rw[e]
  exact⟨st,h1.1,h1.2,ht⟩⟩
def Zq (z:Zone) (old:List Train):XD:=⟨[z],old,[],1,0⟩
theorem ZqV {st:Nat} {number:Int} {t:Train} (hst:st≤10) (h:Zg0 1 st number t):YF 1 t.stops=0:=by
 refine ZaP fun j _ hj=>?_
 have hj:j<t.stops.length:=by omega
 obtain⟨h1,h2,h3,h4,h5⟩:=h.stop _ (Zoo (d:=default) hj)
 unfold Q0 YQ
 rw[Zfw h1.1 (by omega)]
 have hany:(t.stops.take j).any (fun x=>decide (x.station=(t.stops.getD j default).station))=false:=by
  rw[List.any_eq_false]
  intro x hx
  obtain⟨i,hi,rfl⟩:=List.mem_iff_getElem.1 hx
  have hi':i<j:=by simp at hi;omega
  have:=Zoi (d:=default) h.nodup hi' hj
  rw[List.getD_eq_getElem?_getD,List.getElem?_eq_getElem (show i<t.stops.length by omega)]at this
  simpa using this
 rw[hany,Zfw h2.1 (by omega),Zfw h3 (by omega),Zfw (by omega:(0:Int)≤_) h5]
 have hd:decide ((t.stops.getD j default).depart<(t.stops.getD j default).arrive)=false:=decide_eq_false (by omega)
 rw[hd]
 simp
theorem Zek {n:Int} {l:List Train} (h:DL n l) {i:Nat} (hi:i<l.length):(l.getD i default).number=n-i:=by
 obtain⟨st,_,_,ht⟩:=h.all i hi
 exact ht.made.number
theorem ZhS {z:Zone} {n:Int} {l:List Train} (hz:Zw z=0) (h:DL n l) (hn:n=l.length) (hl:l.length≤4):Yu (Zq z l)=0:=by
 have h1:Qc 1 l=0:=by
  unfold Qc
  rw[ZoZ (show(0:Int)≤l.length by omega) (by omega),if_neg (fun h=>h rfl)]
  refine ZaP fun j _ hj=>?_
  have hj:j<l.length:=by omega
  obtain⟨st,_,hst,ht⟩:=h.all j hj
  have hlen:=ht.made.len
  unfold QG
  rw[Zfw (by rw[Zek h hj];omega) (by rw[Zek h hj];omega)]
  have hany:(l.take j).any (fun x=>decide (x.number=(l.getD j default).number))=false:=by
   rw[List.any_eq_false]
   intro x hx
   obtain⟨i,hi,rfl⟩:=List.mem_iff_getElem.1 hx
   have hi':i<j:=by simp at hi;omega
   have hx:=Zek h (show i<l.length by omega)
   rw[List.getD_eq_getElem?_getD,List.getElem?_eq_getElem (show i<l.length by omega)]at hx
   rw[Zek h hj,List.getElem_take]
   have hx:l[i].number=n-i:=hx
   rw[hx]
   simp
   omega
  rw[hany,Zfw ht.made.days.1 ht.made.days.2,ZoZ (by omega) (by omega)]
  simp only[Bool.not_true,Bool.false_eq_true,if_false,ne_eq,not_true_eq_false]
  exact ZqV hst ht.made
 unfold Yu Zq
 simp only[List.length_cons,List.length_nil]
 rw[show Qc ((0+1:Nat):Int) l=0 from h1]
 rw[ZaP (f:=fun i=>Zw ([z].getD i default)) (k:=0+1) (i:=0) (fun j _ hj=>by
  have:j=0:=by omega
  subst this
  exact hz)]
 rfl
theorem ZkO {z:Zone} {n:Int} {l:List Train} (hc:Yu (Zq z l)=0) (h:DL n l) {j:Nat} (hj:j<l.length):JO (Zq z l) (l.getD j default).number 0=(Sp.calls [z] (l.getD j default) 0,0):=by
 obtain⟨st,_,hst,ht⟩:=h.all j hj
 have hp:place l (l.getD j default).number=j:=by
  unfold place
  rw[Zfv (d:=default) hj (by simp) fun i hi=>by
   rw[Zek h hj,Zek h (show i<l.length by omega)]
   simp
   omega]
  omega
 unfold JO
 rw[if_neg (fun hne=>hne hc)]
 show(if(!Yw 0 0 0)=true then _ else _)=_
 rw[if_neg (by decide)]
 show(if place l (l.getD j default).number<0 then _ else if(!Zbe (l.getD (place l (l.getD j default).number).toNat default) 0)=true then _ else(Sp.calls [z] (l.getD (place l (l.getD j default).number).toNat default) 0,0))=_
 rw[hp,if_neg (by omega),Int.toNat_natCast]
 have:Zbe (l.getD j default) 0=true:=by
  unfold Zbe
  rw[ht.days]
  decide
 rw[this]
 rfl
theorem Zc0 (zs:List Zone) (day:Int) (many:Nat):∀(l:List Stop) (i:Nat) (now:Int),(Qd zs day many i now l).map (·.station)=l.map (·.station)
 |[],_,_=>rfl
 |s::r,i,now=>by
  unfold Qd
  split
  ·simp[Zc0 zs day many r]
  ·simp[Zc0 zs day many r]
structure Zjl (r:List Sp.Call):Prop where
 len:2≤r.length∧r.length≤4
 st:r.Pairwise fun a b=>a.station≠b.station
 asc:Xi r=0
theorem Zn8 {z:Zone} {st:Nat} {number:Int} {t:Train} (h:Zjo st number t) (ho:Xi (Sp.calls [z] t 0)=0):Zjl (Sp.calls [z] t 0):=by
 have hl:(Sp.calls [z] t 0).length=t.stops.length:=XQ _ _ _ _ _ _
 refine⟨by rw[hl];exact⟨h.made.len.1,h.made.len.2.1⟩,?_,ho⟩
 have e:(Sp.calls [z] t 0).map (·.station)=t.stops.map (·.station):=Zc0 _ _ _ _ _ _
 have h1:(t.stops.map (·.station)).Pairwise (· ≠·):=List.pairwise_map.2 h.made.nodup
 rw[←e]at h1
 exact List.pairwise_map.1 h1
def eAt (many i:Nat) (s:Stop):Sp.Call:=if i=0 then⟨s.station,if i+1<many then s.depart else 0,if i+1<many then s.depart else 0⟩else⟨s.station,s.arrive,if i+1<many then s.depart else s.arrive⟩
def eGo (many:Nat):Nat→List Stop→List Sp.Call
 |_,[]=>[]
 |i,s::r=>eAt many i s::eGo many (i+1) r
theorem ZoE {r now:Int} (h1:0≤r∧r≤10000) (h2:0≤now∧now≤r):QR (ZR ⟨0,[]⟩) r now=r:=by
 show(if max 0 (max now (r-0))<Xj then max 0 (max now (r-0))else Xj)=r
 unfold Xj
 rw[if_pos (by omega)]
 omega
theorem ZoG {many:Nat}:∀(l:List Stop) (i:Nat) (now:Int),(∀s∈l,s.zone=0∧0≤s.arrive∧s.arrive≤s.depart∧s.depart≤5000)→(∀k,k+1<l.length→(l.getD k default).depart<(l.getD (k+1) default).arrive)→
  (0≤now∧∀s∈l.head?,if i=0 then now=0 else now<s.arrive)→Qd [⟨0,[]⟩] 0 many i now l=eGo many i l
 |[],_,_,_,_,_=>rfl
 |s::r,i,now,hs,ha,hn=>by
  obtain⟨z0,a0,a1,a2⟩:=hs s (List.mem_cons_self ..)
  have hn1:=hn.1
  have hn2:=hn.2 s (by simp)
  have hz:([⟨0,[]⟩]:List Zone).getD s.zone.toNat default=⟨0,[]⟩:=by rw[z0];rfl
  have hnext:∀d:Int,0≤d→d≤s.depart→0≤d∧∀s'∈r.head?,if i+1=0 then d=0 else d<s'.arrive:=fun d h1 h2=>⟨h1,fun s' hs'=>by
   rw[if_neg (by omega)]
   cases r with
   |nil=>cases hs'
   |cons x r=>
    have:x=s':=by simpa using hs'
    subst this
    have:=ha 0 (by simp)
    exact Int.lt_of_le_of_lt h2 this⟩
  have har:∀k,k+1<r.length→(r.getD k default).depart<(r.getD (k+1) default).arrive:=fun k hk=>ha (k+1) (by simpa using hk)
  have hsr:∀s∈r,s.zone=0∧0≤s.arrive∧s.arrive≤s.depart∧s.depart≤5000:=fun x hx=>hs x (List.mem_cons_of_mem _ hx)
  unfold Qd eGo eAt
  rw[hz]
  by_cases h0:i=0
  ·rw[if_pos h0]at hn2
   subst hn2
   simp only[if_pos h0]
   have e:QR (ZR ⟨0,[]⟩) (1440*0+s.depart) 0=s.depart:=by rw[show(1440:Int)*0+s.depart=s.depart by omega];exact ZoE (by omega) (by omega)
   rw[e]
   rw[ZoG r (i+1) _ hsr har (hnext _ (by split<;>omega) (by split<;>omega))]
  ·rw[if_neg h0]at hn2
   simp only[if_neg h0]
   have e:QR (ZR ⟨0,[]⟩) (1440*0+s.arrive) now=s.arrive:=by rw[show(1440:Int)*0+s.arrive=s.arrive by omega];exact ZoE (by omega) (by omega)
   have e2:QR (ZR ⟨0,[]⟩) (1440*0+s.depart) s.arrive=s.depart:=by rw[show(1440:Int)*0+s.depart=s.depart by omega];exact ZoE (by omega) (by omega)
   rw[e,e2]
   rw[ZoG r (i+1) _ hsr har (hnext _ (by split<;>omega) (by split<;>omega))]
theorem ZhQ {many:Nat}:∀(l:List Stop) (i k:Nat),k<l.length→(eGo many i l).getD k default=eAt many (i+k) (l.getD k default)
 |[],_,k,h=>by simp at h
 |s::r,i,0,_=>rfl
 |s::r,i,k+1,h=>by
  have:=ZhQ (many:=many) r (i+1) k (by simpa using h)
  rw[show i+1+k=i+(k+1) by omega]at this
  exact this
theorem ZjI {st:Nat} {number:Int} {t:Train} (h:Zjo st number t):Xi (Sp.calls [⟨0,[]⟩] t 0)=0:=by
 have e:Sp.calls [⟨0,[]⟩] t 0=eGo t.stops.length 0 t.stops:=ZoG _ _ _ (fun s hs=>by
  have:=h.made.stop s hs
  have:=h.late s hs
  omega) h.asc ⟨Int.le_refl _,fun s hs=>by rw[if_pos rfl]⟩
 have hl:(Sp.calls [⟨0,[]⟩] t 0).length=t.stops.length:=XQ _ _ _ _ _ _
 unfold Xi
 rw[hl,e]
 refine ZaP fun k hk1 hk2=>?_
 have hlen:=h.made.len
 unfold Jg
 rw[ZhQ _ _ _ (by omega),ZhQ _ _ _ (by omega)]
 have ha:=h.asc (k-1) (by omega)
 rw[show k-1+1=k by omega]at ha
 have hs:=h.made.stop _ (Zoo (d:=default) (show k-1<t.stops.length by omega))
 have h1:(eAt t.stops.length (0+k) (t.stops.getD k default)).arrive=(t.stops.getD k default).arrive:=by unfold eAt;rw[if_neg (by omega)]
 have h2:(eAt t.stops.length (0+(k-1)) (t.stops.getD (k-1) default)).depart≤(t.stops.getD (k-1) default).depart:=by
  unfold eAt
  split
  ·show(if _ then _ else(0:Int))≤_
   split<;>omega
  ·show(if _ then _ else _)≤_
   split<;>omega
 rw[h1,if_neg (by omega)]
theorem Zhc {r:List Sp.Call} (hp:r.Pairwise fun a b=>a.station≠b.station) {f i:Nat} (hf:f≤i) (hi:i<r.length):Zt r f (r.getD i default).station=i:=by
 unfold Zt
 rw[show(max 0 (f:Int))=f by omega,Int.toNat_natCast]
 have hg:∀j,(r.drop f).getD j default=r.getD (f+j) default:=fun j=>by simp[List.getD_eq_getElem?_getD,List.getElem?_drop]
 rw[Zfv (d:=default) (i:=i-f) (by rw[List.length_drop];omega) (by rw[hg,show f+(i-f)=i by omega];simp) fun j hj=>by
  rw[hg]
  have:=Zoi (d:=default) hp (show f+j<i by omega) hi
  simpa using this]
 omega
theorem Zcp {c:List (List Sp.Call)} {f:Int} (h:0≤f∧f<c.length):Sp.Zj c f∈c:=by
 unfold Sp.Zj
 exact Zoo (by omega)
theorem Zpu {c:List (List Sp.Call)} (hc:∀r∈c,Zjl r) {w:Sp.Qk} {before:List Sp.Qk} {i k:Nat} (hf:0≤w.feeder∧w.feeder<c.length) (ht:0≤w.train∧w.train<c.length) (hne:w.feeder≠w.train) (hi:1≤i∧i<(Sp.Zj c w.feeder).length) (hk:k+1<(Sp.Zj c w.train).length)
  (hs:w.station=((Sp.Zj c w.feeder).getD i default).station) (hs2:((Sp.Zj c w.train).getD k default).station=w.station) (ha:((Sp.Zj c w.feeder).getD i default).arrive≤((Sp.Zj c w.train).getD k default).depart) (hm:0≤w.minutes∧w.minutes≤60)
  (hn:before.any (fun x=>decide (x.feeder=w.feeder∧x.train=w.train∧x.station=w.station))=false):Qq c w before=0:=by
 have h1:ZE (Sp.Zj c w.feeder) w.station=i:=by rw[hs];exact Zhc (hc _ (Zcp hf)).st hi.1 hi.2
 have h2:Zt (Sp.Zj c w.train) 0 w.station=k:=by rw[←hs2];exact Zhc (hc _ (Zcp ht)).st (Nat.zero_le _) (by omega)
 have h3:ZD (Sp.Zj c w.train) w.station=k:=by unfold ZD;rw[h2,if_pos (by omega)]
 unfold Qq
 rw[Zcr hf.1 (by omega),Zcr ht.1 (by omega),if_neg (by decide),if_neg hne]
 show(if ZE (Sp.Zj c w.feeder) w.station<0∨ZD (Sp.Zj c w.train) w.station<0 then(3:Int)else if Qu w.minutes 0 60=true then 1 else if((Sp.Zj c w.train).getD (ZD (Sp.Zj c w.train) w.station).toNat default).depart<((Sp.Zj c w.feeder).getD (ZE (Sp.Zj c w.feeder) w.station).toNat default).arrive then 5 else if before.any _=true then 4 else 0)=0
 rw[h1,h3,if_neg (by omega),Zcr hm.1 hm.2,if_neg Bool.false_ne_true,Int.toNat_natCast,Int.toNat_natCast,if_neg (by omega),hn,if_neg Bool.false_ne_true]
theorem ZoT {c:List (List Sp.Call)} {d:Sp.Qn} {before:List Sp.Qn} (hr:0≤d.run∧d.run<c.length) (hl:0≤d.leg∧d.leg+2≤(Sp.Zj c d.run).length) (hb:1≤d.by_.length∧d.by_.length≤3) (hv:∀k,k<d.by_.length→0≤d.by_.getD k 0∧d.by_.getD k 0≤240)
  (ha:∀k,k+1<d.by_.length→d.by_.getD k 0<d.by_.getD (k+1) 0) (hn:before.any (fun x=>decide (x.run=d.run∧x.leg=d.leg))=false):QD c d before=0:=by
 unfold QD
 rw[Zcr hr.1 (by omega)]
 show(if(false||Qu d.leg 0 (((Sp.Zj c d.run).length:Int)-2))=true then(3:Int)else _)=0
 rw[Zcr hl.1 (by omega),if_neg (by decide),if_neg (by omega),if_neg (by omega)]
 have h0:Zr (Zgk d.by_) 0 d.by_.length=0:=ZaP fun k _ hk=>by
  have hk:k<d.by_.length:=by omega
  unfold Zgk
  rw[Zcr (hv k hk).1 (hv k hk).2,if_neg Bool.false_ne_true,if_neg]
  rintro⟨h1,h2⟩
  have:=ha (k-1) (by omega)
  rw[show k-1+1=k by omega]at this
  omega
 rw[h0,if_neg (fun h=>h rfl),hn,if_neg Bool.false_ne_true]
structure LOk {α:Type} [Inhabited α] (e:α→List α→Int) (l:List α):Prop where
 ok:∀i,i<l.length→e (l.getD i default) (l.take i)=0
theorem LOk.nil {α:Type} [Inhabited α] {e:α→List α→Int}:LOk e []:=⟨fun i h=>by simp at h⟩
theorem LOk.snoc {α:Type} [Inhabited α] {e:α→List α→Int} {l:List α} {a:α} (h:LOk e l) (ha:e a l=0):LOk e (l++[a]):=⟨fun i hi=>by
 simp only[List.length_append,List.length_cons,List.length_nil]at hi
 by_cases h2:i<l.length
 ·rw[List.getD_eq_getElem?_getD,List.getElem?_append_left h2,←List.getD_eq_getElem?_getD,List.take_append_of_le_length (by omega)]
  exact h.ok i h2
 ·have hk:i=l.length:=by omega
  subst hk
  rw[List.take_left]
  have e:(l++[a]).getD l.length default=a:=by simp[List.getD_eq_getElem?_getD]
  rw[e]
  exact ha⟩
theorem Zo8 {t:Zc} (h1:Yu t.book=0) (h2:Q2 t=0) (h3:t.waits.length≤4) (h4:LOk (Qq (callsOf t)) t.waits) (h5:t.delays.length≤6) (h6:LOk (QD (callsOf t)) t.delays):Zo t=0:=by
 unfold Zo
 rw[if_neg (fun h=>h h1),if_neg (fun h=>h h2),if_neg (by omega),ZaP (fun j _ hj=>h4.ok j (by omega)),if_neg (fun h=>h rfl),if_neg (by omega)]
 exact ZaP fun j _ hj=>h6.ok j (by omega)
end Go.Proofs.YtjgpiclllehgmaaGreat.Vm
namespace Go.Proofs.YtjgpiclllehgmaaGreat.Sp
open Vm
theorem ZbD {t:Zc} (h:Zo t=0):Sp.Yu t.book=0∧Q2 t=0∧t.waits.length≤4∧LOk (Qq (callsOf t)) t.waits∧t.delays.length≤6∧LOk (QD (callsOf t)) t.delays:=by
 unfold Zo at h
 split at h
 ·exact absurd h (by assumption)
 split at h
 ·exact absurd h (by assumption)
 rename_i h0 h1
 split at h
 ·cases h
 split at h
 ·exact absurd h (by assumption)
 rename_i h2 h3
 split at h
 ·cases h
 rename_i h4
 exact⟨Decidable.of_not_not h0,Decidable.of_not_not h1,by omega,⟨fun i hi=>Z2 (Decidable.of_not_not h3) i (Nat.zero_le _) (by omega)⟩,by omega,⟨fun i hi=>Z2 h i (Nat.zero_le _) (by omega)⟩⟩
structure Zrg (t:Zc) (d:Nat):Prop where
 run:0≤(t.delays.getD d default).run∧(t.delays.getD d default).run<(callsOf t).length
 leg:0≤(t.delays.getD d default).leg∧(t.delays.getD d default).leg+2≤(Zj (callsOf t) (t.delays.getD d default).run).length
 many:1≤(t.delays.getD d default).by_.length∧(t.delays.getD d default).by_.length≤3
 asc:∀k,k+1<(t.delays.getD d default).by_.length→(t.delays.getD d default).by_.getD k 0<(t.delays.getD d default).by_.getD (k+1) 0
 one:∀j,j<d→¬((t.delays.getD j default).run=(t.delays.getD d default).run∧(t.delays.getD j default).leg=(t.delays.getD d default).leg)
theorem Zl5 {t:Zc} (h:Zo t=0):∀d,d<t.delays.length→QD (callsOf t) (t.delays.getD d default) (t.delays.take d)=0:=by
 unfold Zo at h
 split at h
 ·exact absurd h (by assumption)
 split at h
 ·exact absurd h (by assumption)
 split at h
 ·cases h
 split at h
 ·exact absurd h (by assumption)
 split at h
 ·cases h
 exact fun d hd=>Z2 h d (Nat.zero_le _) (by omega)
theorem ZoU {t:Zc} (h:Zo t=0) {d:Nat} (hd:d<t.delays.length):Zrg t d:=by
 have h5:=Zl5 h d hd
 generalize hD:t.delays.getD d default=D at h5
 unfold QD at h5
 split at h5
 ·cases h5
 rename_i g1
 split at h5
 ·cases h5
 split at h5
 ·cases h5
 split at h5
 ·exact absurd h5 (by assumption)
 rename_i g2 g3 g4
 split at h5
 ·cases h5
 rename_i g5
 have b1:Qu D.run 0 ((callsOf t).length-1)=false:=by cases hq:Qu D.run 0 ((callsOf t).length-1)with|false=>rfl|true=>exact absurd (by rw[hq];rfl) g1
 have b2:Qu D.leg 0 (((callsOf t).getD D.run.toNat []).length-2)=false:=by cases hq:Qu D.leg 0 (((callsOf t).getD D.run.toNat []).length-2)with|false=>rfl|true=>exact absurd (by rw[hq,Bool.or_true]) g1
 have b1:=QJ b1
 have b2:=QJ b2
 have hby:=Z2 (Decidable.of_not_not g4)
 refine⟨by rw[hD];omega,by rw[hD];unfold Zj;omega,by rw[hD];omega,fun k hk=>?_,fun j hj hq=>?_⟩
 ·rw[hD]at hk⊢
  have h6:=hby (k+1) (Nat.zero_le _) (by omega)
  unfold Zgk at h6
  split at h6
  ·cases h6
  split at h6
  ·cases h6
  rename_i g6
  rw[show k+1-1=k from rfl]at g6
  have:=fun h=>g6 ⟨Nat.succ_pos k,h⟩
  omega
 ·refine g5 ?_
  rw[List.any_eq_true]
  refine⟨t.delays.getD j default,?_,by rw[hD]at hq;exact decide_eq_true hq⟩
  rw[List.mem_iff_getElem?]
  refine⟨j,?_⟩
  rw[List.getElem?_take,if_pos hj,List.getD_eq_getElem?_getD,List.getElem?_eq_getElem (by omega)]
  rfl
theorem Q1 (t:Zc):(callsOf t).length=t.runs.length:=by unfold callsOf;rw[List.length_map]
theorem Zpv {c:List (List Call)} {w:Qk} {p:List Qk} (h5:Qq c w p=0):(0≤w.feeder∧w.feeder<c.length)∧(0≤w.train∧w.train<c.length):=by
 unfold Qq at h5
 split at h5
 ·cases h5
 rename_i g1
 have b1:Qu w.feeder 0 (c.length-1)=false:=by cases hq:Qu w.feeder 0 (c.length-1)with|false=>rfl|true=>exact absurd (by rw[hq];rfl) g1
 have b2:Qu w.train 0 (c.length-1)=false:=by cases hq:Qu w.train 0 (c.length-1)with|false=>rfl|true=>exact absurd (by rw[hq,Bool.or_true]) g1
 have b1:=QJ b1
 have b2:=QJ b2
 omega
theorem LOk.mem {α:Type} [Inhabited α] {e:α→List α→Int} {l:List α} (h:LOk e l) {a:α} (ha:a∈l):∃p,e a p=0:=by
 obtain⟨i,hi,rfl⟩:=List.mem_iff_getElem.1 ha
 refine⟨l.take i,?_⟩
 have:=h.ok i hi
 rw[List.getD_eq_getElem?_getD,List.getElem?_eq_getElem hi]at this
 exact this
theorem Zlf {t:Zc} (he:Zo t=0):∀w∈t.waits,(0≤w.feeder∧w.feeder<t.runs.length)∧(0≤w.train∧w.train<t.runs.length):=fun w hw=>by
 obtain⟨p,hp⟩:=LOk.mem (ZbD he).2.2.2.1 hw
 have:=Zpv hp
 rw[Q1]at this
 exact this
end Go.Proofs.YtjgpiclllehgmaaGreat.Sp
namespace Go.Proofs.YtjgpiclllehgmaaGreat.Sp
open Vm
theorem LOk.map {α β:Type} [Inhabited α] [Inhabited β] {e:α→List α→Int} {e':β→List β→Int} {f:α→β} {l:List α} (h:LOk e l) (hm:∀a∈l,∀p,(∀b∈p,b∈l)→e a p=0→e' (f a) (p.map f)=0):LOk e' (l.map f):=⟨fun i hi=>by
 rw[List.length_map]at hi
 have h1:=h.ok i hi
 rw[List.getD_eq_getElem?_getD,List.getElem?_eq_getElem hi]at h1
 rw[List.getD_eq_getElem?_getD,List.getElem?_map,List.getElem?_eq_getElem hi,←List.map_take]
 exact hm _ (List.getElem_mem hi) _ (fun b hb=>List.mem_of_mem_take hb) h1⟩
end Go.Proofs.YtjgpiclllehgmaaGreat.Sp
namespace Go.Proofs.YtjgpiclllehgmaaGreat.Sp
open Vm
theorem Zdx {α:Type} {q:α→Bool} {d:α}:∀ {l:List α} {i:Int},0≤i→0≤Zl q i l→q (l.getD (Zl q i l-i).toNat d)=true
 |[],i,_,h=>by unfold Zl at h;omega
 |a::l,i,h0,h=>by
  unfold Zl at h⊢
  split
  ·rename_i hq
   rw[show(i-i).toNat=0 by omega]
   exact hq
  ·rename_i hq
   rw[if_neg hq]at h
   have ih:=Zdx (d:=d) (l:=l) (i:=i+1) (by omega) h
   have:=(Q7 (q:=q) (l:=l) (i:=i+1) (by omega)).2
   rw[show(Zl q (i+1) l-i).toNat=(Zl q (i+1) l-(i+1)).toNat+1 by omega]
   exact ih
theorem ZnT {l:List Call} {st:Int} (h:0≤Zt l 0 st):(l.getD (Zt l 0 st).toNat default).station=st:=by
 have e:Zt l 0 st=Zl (fun c=>decide (c.station=st)) 0 l:=by
  unfold Zt
  rw[show max 0 (0:Int)=0 from rfl,show(0:Int).toNat=0 from rfl,List.drop_zero]
 rw[e]at h⊢
 have:=Zdx (q:=fun c:Call=>decide (c.station=st)) (d:=default) (l:=l) (i:=0) (Int.le_refl _) h
 rw[Int.sub_zero]at this
 exact of_decide_eq_true this
theorem ZfG {p:Nat→Bool}:∀n,QZ p n=0↔∀i,i<n→p i=false
 |0=>⟨fun _ i h=>by omega,fun _=>rfl⟩
 |n+1=>by
  have ih:=ZfG (p:=p) n
  have hpos:∀n,0≤QZ p n:=fun n=>by
   induction n with
   |zero=>exact Int.le_refl _
   |succ n ih=>unfold QZ;split<;>omega
  unfold QZ
  constructor
  ·intro h i hi
   split at h
   ·have:=hpos n;omega
   ·rename_i hp
    by_cases e:i=n
    ·subst e;simpa using hp
    ·exact ih.1 h i (by omega)
  ·intro h
   rw[if_neg (by rw[h n (by omega)];exact Bool.false_ne_true)]
   exact ih.2 fun i hi=>h i (by omega)
theorem Zjy {t:Zc} {f r st:Int}:Jw t f r st=1↔∀i,i<Z1 t→Yn t f r st i=true:=by
 unfold Jw ZcD
 have h:=ZfG (p:=fun i=> !Yn t f r st i) (Z1 t)
 constructor
 ·intro h1
  split at h1
  ·rename_i h2
   intro i hi
   have:=h.1 h2 i hi
   simpa using this
  ·split at h1<;>omega
 ·intro h1
  rw[if_pos (h.2 fun i hi=>by rw[h1 i hi];rfl)]
end Go.Proofs.YtjgpiclllehgmaaGreat.Sp
namespace Go.Proofs.YtjgpiclllehgmaaGreat.Sp
open Vm
theorem Zcj {t:Zc} (hf:ZF t) (hd:t.delays=[]) (hl:∀r:Int,0≤r→r<(callsOf t).length→(Zs (callsOf t) r (((Zj (callsOf t) r).length:Int)-1)).arrive=(Zs (callsOf t) r (((Zj (callsOf t) r).length:Int)-1)).depart∧(Zs (callsOf t) r 0).arrive=(Zs (callsOf t) r 0).depart)
  (x:List Int):∀(n:Nat) (r a:Int),StopIn (callsOf t) r a→(Zs (callsOf t) r a).depart<n→(ZT t x r a).comes=(Zs (callsOf t) r a).arrive∧(ZT t x r a).goes=(Zs (callsOf t) r a).depart
 |0,r,a,hs,h=>by have:=hf.nn r a hs;omega
 |n+1,r,a,hs,h=>by
  have hnn:=hf.nn r a hs
  have hby:∀r leg,Zgj t x r leg=0:=fun r leg=>by unfold Zgj;rw[hd];rfl
  have hc:∀r' a',StopIn (callsOf t) r' a'→0<a'→(Zs (callsOf t) r' a').arrive≤(Zs (callsOf t) r a).depart→XB t x (goes t x) r' a'=(Zs (callsOf t) r' a').arrive:=fun r' a' hs1 ha1 hle=>by
   have h1:=hf.asc r' a' hs1 ha1
   unfold XB goes
   rw[hby,(Zcj hf hd hl x n r' (a'-1) (hs1.prev ha1) (by omega)).2]
   omega
  have hlr:=hl r hs.1 hs.2.1
  have hfold:∀(l:List Qk) (q:Int),(∀w∈l,w∈t.waits)→a≠((Zj (callsOf t) r).length:Int)-1→q=(Zs (callsOf t) r a).depart→l.foldl (ZaZ (callsOf t) (XB t x (goes t x)) r (Zs (callsOf t) r a)) q=(Zs (callsOf t) r a).depart:=fun l=>by
   induction l with
   |nil=>exact fun q _ _ h=>h
   |cons w l ih=>
    intro q hm hne hq
    rw[List.foldl_cons]
    refine ih _ (fun v hv=>hm v (List.mem_cons_of_mem _ hv)) hne ?_
    unfold ZaZ
    split
    ·exact hq
    rename_i hg
    have hq1:w.train=r:=Decidable.byContradiction fun he=>hg (.inl he)
    have hq2:w.station=(Zs (callsOf t) r a).station:=Decidable.byContradiction fun he=>hg (.inr he)
    have hwm:=hm w (List.mem_cons_self ..)
    have hw2:=hf.w w hwm
    have hle:=hw2.2.2.2.2.2 a (by rw[hq1];exact hs) (by rw[hq1];exact hne) (by rw[hq1];exact hq2.symm)
    rw[hq1]at hle
    rw[hc _ _ (YO hf hwm) (by omega) hle]
    split<;>omega
  rw[Zfx hf x hs]
  unfold ZaO ZhK Ze5 Zeg
  by_cases ha:0<a
  ·simp only[if_pos ha,if_neg (show¬(a=0) by omega)]
   rw[hc r a hs ha hnn.2.1]
   refine⟨rfl,?_⟩
   by_cases he:a=((Zj (callsOf t) r).length:Int)-1
   ·rw[if_pos he,if_pos he,he]
    exact hlr.1
   ·rw[if_neg he,if_neg he]
    exact hfold _ _ (fun _ h=>h) he (by omega)
  ·have h0:a=0:=by have:=hs.2.2.1;omega
   simp only[if_neg ha,if_pos h0]
   by_cases he:a=((Zj (callsOf t) r).length:Int)-1
   ·exfalso
    have hr:=hf.calls.row (Zj (callsOf t) r) (by
     unfold Zj
     have:r.toNat<(callsOf t).length:=by have:=hs.2.1;have:=hs.1;omega
     rw[List.getD_eq_getElem?_getD,List.getElem?_eq_getElem this]
     exact List.getElem_mem _)
    omega
   ·rw[if_neg he,if_neg he]
    have hz:=hfold t.waits _ (fun _ h=>h) he (show max (Zs (callsOf t) r a).depart 0=_ by omega)
    rw[hz]
    refine⟨?_,rfl⟩
    rw[h0]
    exact hlr.2.symm
end Go.Proofs.YtjgpiclllehgmaaGreat.Sp
namespace Go.Proofs.YtjgpiclllehgmaaGreat.Vm
open Sp
def Qr (b:XD) (j:Nat):Sp.Qe:=⟨(b.old.getD j default).number,0⟩
structure RL (b:XD) (i:Nat) (runs:List Sp.Qe) (rows:List (List Sp.Call)):Prop where
 len:rows.length=runs.length
 le:runs.length≤i
 row:∀k,k<runs.length→∃j,j<i∧j<b.old.length∧runs.getD k default=Qr b j∧QL b (Qr b j)=(rows.getD k [],true)
 pw:runs.Pairwise fun a c=>a≠c
 some:∀j,j<i→(QL b (Qr b j)).2=true→0<runs.length
theorem RL.nil {b:XD}:RL b 0 [] []:=⟨rfl,Nat.le_refl _,fun k h=>by simp at h,.nil,fun j h=>by omega⟩
theorem RL.skip {b:XD} {i:Nat} {runs:List Sp.Qe} {rows:List (List Sp.Call)} (h:RL b i runs rows) (hc:(QL b (Qr b i)).2=false):RL b (i+1) runs rows:=
 ⟨h.len,by have:=h.le;omega,fun k hk=>by
  obtain⟨j,h1,h2⟩:=h.row k hk
  exact⟨j,by omega,h2⟩,h.pw,fun j hj hs=>by
  by_cases e:j=i
  ·subst e;rw[hc]at hs;cases hs
  ·exact h.some j (by omega) hs⟩
theorem ZdA {α:Type} {d:α} {l:List α} {a:α} {k:Nat} (h:k<l.length):(l++[a]).getD k d=l.getD k d:=by rw[List.getD_eq_getElem?_getD,List.getElem?_append_left h,←List.getD_eq_getElem?_getD]
theorem ZdB {α:Type} {d:α} {l:List α} {a:α}:(l++[a]).getD l.length d=a:=by simp[List.getD_eq_getElem?_getD]
theorem RL.snoc {b:XD} {n:Int} {i:Nat} {runs:List Sp.Qe} {rows:List (List Sp.Call)} {C:List Sp.Call} (hd:DL n b.old) (h:RL b i runs rows) (hi:i<b.old.length) (hc:QL b (Qr b i)=(C,true)):RL b (i+1) (runs++[Qr b i]) (rows++[C]):=by
 have hl:=h.len
 refine⟨by simp[hl],by have:=h.le;simp;omega,fun k hk=>?_,?_,fun j hj hs=>by simp⟩
 ·simp only[List.length_append,List.length_cons,List.length_nil]at hk
  by_cases hk2:k<runs.length
  ·obtain⟨j,h1,h2,h3,h4⟩:=h.row k hk2
   exact⟨j,by omega,h2,by rw[ZdA hk2];exact h3,by rw[ZdA (by omega)];exact h4⟩
  ·have hk3:k=runs.length:=by omega
   subst hk3
   refine⟨i,by omega,hi,ZdB,?_⟩
   rw[←hl,ZdB]
   exact hc
 ·refine List.pairwise_append.2 ⟨h.pw,List.pairwise_singleton _ _,fun c hc e he=>?_⟩
  simp only[List.mem_singleton]at he
  subst he
  obtain⟨k,hk,rfl⟩:=List.mem_iff_getElem.1 hc
  obtain⟨j,h1,h2,h3,_⟩:=h.row k hk
  rw[List.getD_eq_getElem?_getD,List.getElem?_eq_getElem hk]at h3
  have h3:runs[k]=Qr b j:=h3
  rw[h3]
  intro e
  have e:=congrArg Sp.Qe.number e
  have e:(b.old.getD j default).number=(b.old.getD i default).number:=e
  rw[Zek hd h2,Zek hd hi]at e
  omega
structure RJ (b:XD) (runs:List Sp.Qe) (rows:List (List Sp.Call)):Prop where
 len:rows.length=runs.length
 pos:1≤runs.length∧runs.length≤4
 check:Yu b=0
 row:∀r∈rows,Zjl r
 calls:∀w d,callsOf ⟨b,runs,w,d⟩=rows
 err:∀w d,Q2 ⟨b,runs,w,d⟩=0
 from_:∀k,k<runs.length→∃j,j<b.old.length∧runs.getD k default=Qr b j
theorem ZdK {b:XD} {d:Sp.Qe} {C:List Sp.Call} (h:QL b d=(C,true)):Xi (JO b d.number d.day).1=0∧(JO b d.number d.day).1=C∧(JO b d.number d.day).2=0:=by
 unfold QL at h
 split at h
 ·cases h
 ·rename_i h0
  simp only[Prod.mk.injEq,decide_eq_true_eq]at h
  exact⟨by omega,h⟩
theorem RL.ok {z:Zone} {n:Int} {i:Nat} {old:List Train} {runs:List Sp.Qe} {rows:List (List Sp.Call)} (hz:Zw z=0) (hd:DL n old) (hn:n=old.length) (hl:old.length≤4) (h:RL (Zq z old) i runs rows) (hi:i≤4) (hp:0<runs.length):RJ (Zq z old) runs rows:=by
 have hc:=ZhS hz hd hn hl
 have hle:=h.le
 refine⟨h.len,by omega,hc,fun r hr=>?_,fun w d=>?_,fun w d=>?_,fun k hk=>by
  obtain⟨j,h1,h2,h3,h4⟩:=h.row k hk
  exact⟨j,h2,h3⟩⟩
 ·obtain⟨k,hk,rfl⟩:=List.mem_iff_getElem.1 hr
  obtain⟨j,h1,h2,h3,h4⟩:=h.row k (by rw[←h.len];exact hk)
  obtain⟨g1,g2,g3⟩:=ZdK h4
  rw[List.getD_eq_getElem?_getD,List.getElem?_eq_getElem hk]at g2
  have g2:(JO (Zq z old) (Qr (Zq z old) j).number (Qr (Zq z old) j).day).1=rows[k]:=g2
  rw[←g2]
  have e:=ZkO hc hd (j:=j) h2
  have e:JO (Zq z old) (Qr (Zq z old) j).number (Qr (Zq z old) j).day=_:=e
  rw[e]at g1⊢
  obtain⟨st,_,_,ht⟩:=hd.all j h2
  exact Zn8 ht g1
 ·refine List.ext_getElem (by show(List.map _ runs).length=_;rw[List.length_map,h.len]) fun k h1 h2=>?_
  have hk:k<runs.length:=by rw[←h.len];exact h2
  have e0:∀(f:Sp.Qe→List Sp.Call) (h1:k<(runs.map f).length),(runs.map f)[k]'h1=f runs[k]:=fun f h1=>List.getElem_map _
  refine(e0 _ h1).trans ?_
  obtain⟨j,g1,g2,g3,g4⟩:=h.row k hk
  rw[List.getD_eq_getElem?_getD,List.getElem?_eq_getElem hk]at g3
  have g3:runs[k]=Qr (Zq z old) j:=g3
  rw[List.getD_eq_getElem?_getD,List.getElem?_eq_getElem h2]at g4
  have g5:=(ZdK g4).2.1
  rw[g3]
  exact g5
 ·unfold Q2
  show(if runs.length=0 then(7:Int)else if 4<runs.length then 6 else _)=0
  rw[if_neg (by omega),if_neg (by omega)]
  refine ZaP fun k _ hk=>?_
  have hk:k<runs.length:=by have hk:k<0+runs.length:=hk;omega
  obtain⟨j,g1,g2,g3,g4⟩:=h.row k hk
  obtain⟨e1,e2,e3⟩:=ZdK g4
  rw[←g3]at e1 e2 e3
  unfold Zaz
  show(if(JO (Zq z old) (runs.getD k default).number (runs.getD k default).day).2≠0 then _ else if Xi (JO (Zq z old) (runs.getD k default).number (runs.getD k default).day).1≠0 then(5:Int)else if(runs.take k).any (fun x=>decide (x=runs.getD k default))then 4 else 0)=0
  rw[if_neg (fun hne=>hne e3),if_neg (fun hne=>hne e1),if_neg]
  rw[Bool.not_eq_true,List.any_eq_false]
  intro x hx
  obtain⟨q,hq,rfl⟩:=List.mem_iff_getElem.1 hx
  have hq':q<k:=by simp at hq;omega
  have:=Zoi (d:=default) h.pw hq' hk
  rw[List.getD_eq_getElem?_getD,List.getElem?_eq_getElem (show q<runs.length by omega)]at this
  rw[List.getElem_take]
  simpa using this
structure JD (t:Zc):Prop where
 begin:Zo t=0
 row:∀r∈callsOf t,Zjl r
 book:∃z old n,t.book=Zq z old∧Zw z=0∧DL n old
 from_:∀k,k<t.runs.length→∃j,j<t.book.old.length∧t.runs.getD k default=Qr t.book j
theorem RL.one {n:Int} {old:List Train} (hc:Yu (Zq ⟨0,[]⟩ old)=0) (hd:DL n old) (hl:0<old.length):QL (Zq ⟨0,[]⟩ old) (Qr (Zq ⟨0,[]⟩ old) 0)=((QL (Zq ⟨0,[]⟩ old) (Qr (Zq ⟨0,[]⟩ old) 0)).1,true):=by
 have e:JO (Zq ⟨0,[]⟩ old) (Qr (Zq ⟨0,[]⟩ old) 0).number (Qr (Zq ⟨0,[]⟩ old) 0).day=_:=ZkO hc hd (j:=0) hl
 obtain⟨st,_,_,ht⟩:=hd.all 0 hl
 have h0:=ZjI ht
 unfold QL
 rw[e]
 rw[if_neg (fun hne=>hne h0)]
 rfl
end Go.Proofs.YtjgpiclllehgmaaGreat.Vm
namespace Go.Proofs.YtjgpiclllehgmaaGreat.Sp
open Vm
def Zau (a:List Stop) (c:List Call) (n:Nat):Bool:=decide (a.length=c.length∧∀j,j<n→(a.getD j default).station=(c.getD j default).station)
def JT (l:List Train) (number:Int) (c:List Call):Bool:=match l with
 |[]=>false
 |x::r=>if x.number=number then Zau x.stops c c.length else JT r number c
theorem Zn1 {a:List Stop} {c:List Call} (h:a.map (·.station)=c.map (·.station)) (n:Nat):Zau a c n=true:=by
 unfold Zau
 refine decide_eq_true ⟨by simpa using congrArg List.length h,fun j _=>?_⟩
 have h1:=congrArg (fun l=>l[j]?) h
 simp only[List.getElem?_map]at h1
 rw[List.getD_eq_getElem?_getD,List.getD_eq_getElem?_getD]
 cases ha:a[j]? <;>cases hc:c[j]? <;>rw[ha,hc]at h1<;>simp at h1
 ·rfl
 ·exact h1
theorem Zql {a:List Stop} {c:List Call} {m n:Nat} (hmn:m≤n) (h:Zau a c m=false):Zau a c n=false:=by
 unfold Zau at*
 rw[decide_eq_false_iff_not]at*
 exact fun hn=>h ⟨hn.1,fun j hj=>hn.2 j (by omega)⟩
theorem Zls {a:List Stop} {c:List Call} {m:Nat} (h:Zau a c m=true):Zau a c (m+1)=decide ((a.getD m default).station=(c.getD m default).station):=by
 unfold Zau at*
 have h:=of_decide_eq_true h
 by_cases e:(a.getD m default).station=(c.getD m default).station
 ·rw[decide_eq_true e]
  refine decide_eq_true ⟨h.1,fun j hj=>?_⟩
  by_cases hjm:j=m
  ·subst hjm;exact e
  ·exact h.2 j (by omega)
 ·rw[decide_eq_false e,decide_eq_false_iff_not]
  exact fun hn=>e (hn.2 m (by omega))
theorem Zlr {a:List Stop} {c:List Call}:Zau a c 0=decide (a.length=c.length):=by
 unfold Zau
 exact decide_eq_decide.2 ⟨fun h=>h.1,fun h=>⟨h,fun j hj=>by omega⟩⟩
theorem Zn2 {a:List Stop} {c:List Call} {m:Nat} (h:Zau a c m=true):a.length=c.length:=by
 unfold Zau at h
 exact(of_decide_eq_true h).1
theorem Zgr {number:Int} {c:List Call}:∀ {l:List Train} {i:Int},0≤i→0≤Zl (fun t:Train=>decide (t.number=number)) i l→
  (l.getD (Zl (fun t:Train=>decide (t.number=number)) i l-i).toNat default).stops.map (·.station)=c.map (·.station)→JT l number c=true
 |[],i,_,h,_=>by simp[Zl]at h
 |x::r,i,h0,h,he=>by
  unfold JT
  unfold Zl at h he
  by_cases hn:x.number=number
  ·rw[if_pos hn]
   rw[if_pos (by simpa using hn),show(i-i).toNat=0 by omega]at he
   exact Zn1 he _
  ·rw[if_neg hn]
   rw[if_neg (by simpa using hn)]at h he
   have:=(Q7 (q:=fun t:Train=>decide (t.number=number)) (l:=r) (i:=i+1) (by omega)).2
   refine Zgr (i:=i+1) (by omega) h ?_
   rw[show(Zl (fun t:Train=>decide (t.number=number)) (i+1) r-i).toNat=(Zl (fun t:Train=>decide (t.number=number)) (i+1) r-(i+1)).toNat+1 by omega]at he
   exact he
theorem Zn4 {b:XD} {n d:Int} (h:(JO b n d).2=0):(JO b n d).1=calls b.zones ((Qy b d).getD (place (Qy b d) n).toNat default) d∧0≤place (Qy b d) n:=by
 have h':=h
 unfold JO at h'⊢
 split at h'
 ·rename_i g;exact absurd h' g
 split at h'
 ·cases h'
 split at h'
 ·cases h'
 split at h'
 ·cases h'
 rename_i g1 g2 g3 g4
 rw[if_neg g1,if_neg g2,if_neg g3,if_neg g4]
 exact⟨rfl,by omega⟩
theorem Zi5 {zs:List Zone} {day:Int} {many:Nat} {now:Int}:∀l:List Stop,((Qd zs day many 0 now l).getD 0 default).arrive=((Qd zs day many 0 now l).getD 0 default).depart
 |[]=>rfl
 |s::r=>by unfold Qd;rfl
theorem ZfO {zs:List Zone} {day:Int} {many:Nat}:∀(l:List Stop) (i:Nat) (now:Int),i+l.length=many→((Qd zs day many i now l).getD (l.length-1) default).arrive=((Qd zs day many i now l).getD (l.length-1) default).depart
 |[],_,_,_=>rfl
 |[s],i,now,h=>by
  have hn:¬i+1<many:=by simp at h;omega
  unfold Qd
  by_cases h0:i=0
  ·rw[if_pos h0];dsimp only;rw[if_neg hn];rfl
  ·rw[if_neg h0];dsimp only;rw[if_neg hn];rfl
 |s::q::r,i,now,h=>by
  have ih:=fun now=>ZfO (zs:=zs) (day:=day) (many:=many) (q::r) (i+1) now (by simp at h⊢;omega)
  have e:∀x:Call,∀now,((x::Qd zs day many (i+1) now (q::r)).getD ((s::q::r).length-1) default)=(Qd zs day many (i+1) now (q::r)).getD ((q::r).length-1) default:=fun x now=>rfl
  unfold Qd
  by_cases h0:i=0
  ·rw[if_pos h0]
   dsimp only
   rw[e]
   exact ih _
  ·rw[if_neg h0]
   dsimp only
   rw[e]
   exact ih _
theorem Zgv {t:Zc} (he:Zo t=0) {k:Nat} (hk:k<t.runs.length):(JO t.book (t.runs.getD k default).number (t.runs.getD k default).day).2=0:=by
 have h:=(ZbD he).2.1
 unfold Q2 at h
 split at h
 ·cases h
 split at h
 ·cases h
 have h2:=Z2 h k (Nat.zero_le _) (by omega)
 unfold Zaz at h2
 split at h2
 ·rename_i g;exact absurd h2 g
 ·rename_i g;exact Decidable.of_not_not g
theorem Zn9 {t:Zc} {k:Nat} (hk:k<t.runs.length):(callsOf t).getD k []=(JO t.book (t.runs.getD k default).number (t.runs.getD k default).day).1:=by
 unfold callsOf
 rw[List.getD_eq_getElem?_getD,List.getElem?_map,List.getElem?_eq_getElem hk,List.getD_eq_getElem?_getD,List.getElem?_eq_getElem hk]
 rfl
structure Zuq (t:Zc) (i:Nat):Prop where
 run:JO t.book (t.runs.getD i default).number (t.runs.getD i default).day=((callsOf t).getD i [],0)
 len:2≤((callsOf t).getD i []).length∧((callsOf t).getD i []).length≤4
 asc:∀k,0<k→k<((callsOf t).getD i []).length→(((callsOf t).getD i []).getD (k-1) default).depart<(((callsOf t).getD i []).getD k default).arrive∧(((callsOf t).getD i []).getD k default).arrive≤(((callsOf t).getD i []).getD k default).depart
 ends:(((callsOf t).getD i []).getD 0 default).arrive=(((callsOf t).getD i []).getD 0 default).depart∧(((callsOf t).getD i []).getD (((callsOf t).getD i []).length-1) default).arrive=(((callsOf t).getD i []).getD (((callsOf t).getD i []).length-1) default).depart
theorem Zn7 {t:Zc} (he:Zo t=0) {i:Nat} (hi:i<t.runs.length):Zuq t i:=by
 have hw:=XV he
 have hr:=Zgv he hi
 have hrow:=Zn9 hi
 have hlen:=hw.calls.row ((callsOf t).getD i []) (Zoo (by rw[Q1];exact hi))
 have hs:∀k:Nat,k<((callsOf t).getD i []).length→StopIn (callsOf t) (i:Int) (k:Int):=fun k hk=>⟨by omega,by rw[Q1];omega,by omega,by unfold Zj;rw[Int.toNat_natCast];omega⟩
 refine⟨by rw[hrow,←hr],hlen,fun k h0 hk=>?_,?_⟩
 ·have h1:=hw.asc _ _ (hs k hk) (by omega)
  have h2:=(hw.nn _ _ (hs k hk)).2.1
  unfold Zs Zj at h1 h2
  rw[Int.toNat_natCast,Int.toNat_natCast,show((k:Int)-1).toNat=k-1 by omega]at h1
  rw[Int.toNat_natCast,Int.toNat_natCast]at h2
  exact⟨h1,h2⟩
 ·have h2:=(Zn4 hr).1
  rw[←hrow]at h2
  rw[h2]
  have hl:(Sp.calls t.book.zones ((Qy t.book (t.runs.getD i default).day).getD (place (Qy t.book (t.runs.getD i default).day) (t.runs.getD i default).number).toNat default) (t.runs.getD i default).day).length=((Qy t.book (t.runs.getD i default).day).getD (place (Qy t.book (t.runs.getD i default).day) (t.runs.getD i default).number).toNat default).stops.length:=XQ _ _ _ _ _ _
  rw[hl]
  unfold Sp.calls
  exact⟨Zi5 _,ZfO _ _ _ (by omega)⟩
theorem ZlB {t:Zc} (hm:JD t) {i:Nat} (hi:i<t.runs.length):JT t.book.old (t.runs.getD i default).number ((callsOf t).getD i [])=true:=by
 have hr:=Zgv hm.begin hi
 have h2:=Zn4 hr
 rw[←Zn9 hi]at h2
 obtain⟨j,_,hj⟩:=hm.from_ i hi
 obtain⟨z,old,n,hb,_,_⟩:=hm.book
 have ht:Qy t.book (t.runs.getD i default).day=t.book.old:=by
  rw[hj,hb]
  rfl
 rw[ht]at h2
 refine Zgr (i:=0) (Int.le_refl _) h2.2 ?_
 rw[h2.1,Int.sub_zero]
 exact(Zc0 _ _ _ _ _ _).symm
theorem Zl7 {l:List Call} {st:Int} (h:1≤ZE l st):(l.getD (ZE l st).toNat default).station=st:=by
 have e:ZE l st=Zl (fun c=>decide (c.station=st)) 1 (l.drop 1):=by
  unfold ZE Zt
  rw[show max 0 (1:Int)=1 from rfl,show(1:Int).toNat=1 from rfl]
 rw[e]at h⊢
 have h2:=Zdx (q:=fun c:Call=>decide (c.station=st)) (d:=default) (l:=l.drop 1) (i:=1) (by omega) (by omega)
 rw[List.getD_eq_getElem?_getD,List.getElem?_drop,show 1+(Zl (fun c:Call=>decide (c.station=st)) 1 (l.drop 1)-1).toNat=(Zl (fun c:Call=>decide (c.station=st)) 1 (l.drop 1)).toNat by omega,←List.getD_eq_getElem?_getD]at h2
 exact of_decide_eq_true h2
theorem ZjA {l:List Call} (hp:l.Pairwise fun a b=>a.station≠b.station) {st:Int} (h:1≤ZE l st):Zt l 0 st=ZE l st:=by
 have h1:=Zl7 h
 have hlt:=(Yy l 1 st).1
 have e:=Zhc hp (f:=0) (i:=(ZE l st).toNat) (Nat.zero_le _) (by unfold ZE at*;omega)
 rw[h1]at e
 rw[show((0:Nat):Int)=0 from rfl]at e
 omega
theorem Zln {l:List Call} {st:Int} (h:0≤ZD l st):Zt l 0 st=ZD l st∧ZD l st<(l.length:Int)-1:=by
 unfold ZD at*
 split at h
 ·rw[if_pos (by assumption)];exact⟨rfl,by assumption⟩
 ·omega
structure Zs9 (t:Zc) (w:Qk):Prop where
 runs:(0≤w.feeder∧w.feeder<t.runs.length)∧(0≤w.train∧w.train<t.runs.length)
 a:Zt (Zj (callsOf t) w.feeder) 0 w.station=ZE (Zj (callsOf t) w.feeder) w.station
 b:Zt (Zj (callsOf t) w.train) 0 w.station=ZD (Zj (callsOf t) w.train) w.station
 ca:1≤ZE (Zj (callsOf t) w.feeder) w.station∧ZE (Zj (callsOf t) w.feeder) w.station<(Zj (callsOf t) w.feeder).length
 gb:0≤ZD (Zj (callsOf t) w.train) w.station∧ZD (Zj (callsOf t) w.train) w.station<((Zj (callsOf t) w.train).length:Int)-1
 le:(Zs (callsOf t) w.feeder (ZE (Zj (callsOf t) w.feeder) w.station)).arrive≤(Zs (callsOf t) w.train (ZD (Zj (callsOf t) w.train) w.station)).depart
theorem Zg7 {t:Zc} (hm:JD t) {w:Qk} (hw:w∈t.waits):Zs9 t w:=by
 have he:=hm.begin
 have hf:=XV he
 have hwf:=hf.w w hw
 obtain⟨k,hk,rfl⟩:=List.mem_iff_getElem.1 hw
 have hc:=Zk7 he (w:=(k:Int)) ⟨by omega,by omega⟩
 have hwa:QB t (k:Int)=t.waits[k]:=by
  unfold QB
  rw[Int.toNat_natCast,List.getD_eq_getElem?_getD,List.getElem?_eq_getElem hk];rfl
 rw[hwa]at hc
 generalize t.waits[k]=w at*
 have hr:=Zlf he w hw
 have hg:=Zln hc.2.2.2.1
 have hp:=(hm.row _ (Zcp (c:=callsOf t) (f:=w.feeder) ⟨hr.1.1,by rw[Q1];exact hr.1.2⟩)).st
 refine⟨hr,ZjA hp hwf.2.2.1,hg.1,⟨hwf.2.2.1,hc.1.2.2.2⟩,⟨hc.2.2.2.1,hg.2⟩,hwf.2.2.2.2.2 _ hc.2 (by omega) ?_⟩
 have h0:=ZnT (l:=Zj (callsOf t) w.train) (st:=w.station) (by rw[hg.1];exact hc.2.2.2.1)
 rw[hg.1]at h0
 exact h0
theorem JV {t:Zc} (he:Zo t=0) (hd:t.delays=[]) (x:List Int) {r a:Int} (hs:StopIn (callsOf t) r a):(ZT t x r a).comes=(Zs (callsOf t) r a).arrive∧(ZT t x r a).goes=(Zs (callsOf t) r a).depart:=by
 refine Zcj (XV he) hd (fun r h0 h1=>?_) x ((Zs (callsOf t) r a).depart.toNat+1) r a hs (by omega)
 rw[Q1]at h1
 have h:=Zn7 he (i:=r.toNat) (by omega)
 have h2:=h.ends
 have hl:=h.len
 unfold Zs Zj
 rw[show(((List.getD (callsOf t) r.toNat []).length:Int)-1).toNat=(List.getD (callsOf t) r.toNat []).length-1 by omega]
 exact⟨h2.2,h2.1⟩
theorem ZlG {t:Zc} (hd:t.delays=[]):Z1 t=1:=by unfold Z1;rw[hd];rfl
theorem Zmx (f:Nat→Int):Zdf f 1=⟨f 0,f 0,true⟩:=rfl
theorem Zf3 {t:Zc} (he:Zo t=0) (hd:t.delays=[]) {r:Int} (h0:0≤r) (h1:r<t.runs.length):JA t r=(Zj (callsOf t) r).map (fun c=>⟨c.arrive,c.arrive⟩)∧Zbs t r=(Zj (callsOf t) r).map (fun c=>⟨c.depart,c.depart⟩):=by
 have key:∀a:Nat,a<(Zj (callsOf t) r).length→ZcH t r (2*a)=⟨((Zj (callsOf t) r).getD a default).arrive,((Zj (callsOf t) r).getD a default).arrive⟩∧ZcH t r (2*a+1)=⟨((Zj (callsOf t) r).getD a default).depart,((Zj (callsOf t) r).getD a default).depart⟩:=fun a ha=>by
  have hs:StopIn (callsOf t) r (a:Int):=⟨h0,by rw[Q1];exact h1,by omega,by omega⟩
  have hp:=JV he hd (Zk t 0) hs
  unfold Zs at hp
  rw[Int.toNat_natCast]at hp
  unfold ZcH
  rw[ZlG hd,Zmx,Zmx]
  unfold J5
  rw[if_pos (by omega),if_neg (by omega),show 2*a/2=a by omega,show(2*a+1)/2=a by omega,hp.1,hp.2]
  exact⟨rfl,rfl⟩
 unfold JA Zbs
 refine⟨List.ext_getElem (by simp) fun k g1 g2=>?_,List.ext_getElem (by simp) fun k g1 g2=>?_⟩
 ·simp only[List.length_map,List.length_range]at g1
  rw[List.getElem_map,List.getElem_map,List.getElem_range,(key k g1).1,List.getD_eq_getElem?_getD,List.getElem?_eq_getElem g1];rfl
 ·simp only[List.length_map,List.length_range]at g1
  rw[List.getElem_map,List.getElem_map,List.getElem_range,(key k g1).2,List.getD_eq_getElem?_getD,List.getElem?_eq_getElem g1];rfl
theorem ZhJ {t:Zc} (hm:JD t) (hd:t.delays=[]) {w:Qk} (hw:w∈t.waits):Jw t w.feeder w.train w.station=1:=by
 rw[Zjy]
 intro i _
 have h:=Zg7 hm hw
 have h1:=JV hm.begin hd (Zk t i) (r:=w.feeder) (a:=ZE (Zj (callsOf t) w.feeder) w.station) ⟨h.runs.1.1,by rw[Q1];exact h.runs.1.2,by have:=h.ca.1;omega,h.ca.2⟩
 have h2:=JV hm.begin hd (Zk t i) (r:=w.train) (a:=ZD (Zj (callsOf t) w.train) w.station) ⟨h.runs.2.1,by rw[Q1];exact h.runs.2.2,h.gb.1,by have:=h.gb.2;omega⟩
 unfold Yn
 rw[h1.1,h2.2]
 exact decide_eq_true h.le
theorem Zlg {t:Zc} (hm:JD t) {w:Qk} (hw:w∈t.waits):J4 t w.feeder w.train w.station:=by
 have h:=Zg7 hm hw
 exact⟨⟨h.runs.1.1,by rw[Q1];exact h.runs.1.2,by have:=h.ca.1;omega,h.ca.2⟩,⟨h.runs.2.1,by rw[Q1];exact h.runs.2.2,h.gb.1,by have:=h.gb.2;omega⟩⟩
end Go.Proofs.YtjgpiclllehgmaaGreat.Sp
namespace Go.Proofs.YtjgpiclllehgmaaGreat.Vm
open Go Go.Proofs
theorem ZtR (kp rs:Bool) (cs:List Nat) {x:Code} {Q:Ex→List AV→List Zh→Prop} {s:List AV} {h:List Zh} {α β:Type} (L:List Nat) (ex:List Zh) (ch:α×β→List (Nat×AV)) (hc:α×β→List (Nat×Zh)) (inv:α×β→Prop) (μ:α×β→Nat) (i:α×β)
  (hi:inv i) (hto:To (Vm.keep L s) h (Y1 (Vm.keep L s) (ch i)) (X1 (h++ex) (hc i)))
  (step:∀a b,inv (a,b)→Dn (tbX kp rs cs) (fun _=>Tryz.prog) (Zex L (fun i=>Y1 (Vm.keep L s) (ch i)) (fun i=>X1 (h++ex) (hc i)) inv μ (a,b) (h++ex).length Q) 100 .none [.code x] (Y1 (Vm.keep L s) (ch (a,b))) (X1 (h++ex) (hc (a,b))) []):LP false (fun _=>Tryz.prog) x Q s h:=
 ZP kp rs cs L ex ch hc inv μ i hi hto fun⟨a,b⟩ h=>step a b h
end Go.Proofs.YtjgpiclllehgmaaGreat.Vm
namespace Go.Proofs.YtjgpiclllehgmaaGreat.Vm
attribute [local irreducible] Dn
open Go Go.Proofs Sp
set_option maxRecDepth 100000
set_option maxHeartbeats 4000000
def Qp (l:List Int):List AV:=[lst 1 X7 0 l]
def Zju (c:List (List Sp.Call)) (ws:List Sp.Qk) (lt:List (List Int)):AV:=.agg [lst 1 Zb [] c,lst 4 Q8 default ws,lst 1 Qp [] lt]
theorem Zlm (l:List Sp.Call) (st:Int):Zt l 0 st=Zl (fun c=>decide (c.station=st)) 0 l:=by
 unfold Zt
 rw[show max 0 (0:Int)=0 from rfl,show(0:Int).toNat=0 from rfl,List.drop_zero]
theorem Zvf (c:List (List Sp.Call)) (ws:List Sp.Qk) (lt:List (List Int)) (r st:Int) (hr:0≤r∧r<c.length) (hl:(Sp.Zj c r).length≤1000000):SC (fun _=>Tryz.prog) 49 [Zju c ws lt,.int .i64 fun _=>r,.int .i64 fun _=>st] [] fun v h=>v= .int .i64 (fun _=>Zt (Sp.Zj c r) 0 st)∧h=[]:=by
 obtain⟨nt,hnt⟩:=Zu
 rw[Zlm]
 rw[Xh hnt]at hl⊢
 unfold Zju
 simp only[Za hnt,Zb,Qp]
 refine SC.less (QT Tryz.func49 (body:=Zm Tryz.f49) rfl (by decide+kernel) ?_)
 refine wS ?_
 refine ZP false false [] [1,2,3,7] [] (fun(i:Nat)=>[(7,.int .i64 fun _=>i)]) (fun _=>[]) (fun i=>i≤(nt (List Sp.Call) [] c r).length∧Zl (fun c=>decide (c.station=st)) 0 (nt (List Sp.Call) [] c r)=Zl (fun c=>decide (c.station=st)) i ((nt (List Sp.Call) [] c r).drop i)) (fun i=>(nt (List Sp.Call) [] c r).length-i+0) 0 ⟨Nat.zero_le _,by simp⟩ ?_ ?_
 ·exact ZK
 intro i hq
 have hi:=hq.1
 have hp:=hq.2
 clear hq
 refine wS ?_
 refine⟨fun hb=>?_,fun hb=>?_⟩
 ·simp only[decide_eq_true_eq]at hb
  have hd:=Qo (d:=default) hnt (l:=nt (List Sp.Call) [] c r) (i:=i) (by omega)
  rw[hd,Zl]at hp
  refine wS ?_
  refine⟨fun hb'=>?_,fun hb'=>?_⟩
  ·have hb':=eq_of_beq hb'
   rw[if_pos (by simpa using hb')]at hp
   rw[hp]
   refine wS ?_
   refine⟨_,_,?_,rfl,rfl⟩
   exact ZK
  ·have hb':=ne_of_beq_false hb'
   rw[if_neg (by simpa using hb')]at hp
   refine wS ?_
   refine⟨i+1,⟨by omega,hp⟩,by show(nt (List Sp.Call) [] c r).length-(i+1)+0<(nt (List Sp.Call) [] c r).length-i+0;omega,?_⟩
   exact ZK
 ·simp only[decide_eq_false_iff_not]at hb
  have hi2:i=(nt (List Sp.Call) [] c r).length:=by omega
  rw[hi2,List.drop_length,Zl]at hp
  rw[hp]
  refine wS ?_
  refine⟨_,_,?_,rfl,rfl⟩
  exact ZK
theorem Zlk {nt:(α:Type)→α→List α→Int→α} (hnt:∀(α:Type) (d:α) (l:List α) (i:Int),nt α d l i=l.getD i.toNat d) (t:Train):encTrain t=[.int .i64 fun _=>t.number,.int .i64 fun _=>t.days,.isl 4 (fun _=>(t.stops.length:Int)) (fun e=>QK (nt Stop default t.stops (e ()))) .none]:=by
 unfold encTrain
 rw[Za hnt]
theorem Zu9 (ts:List Train) (number:Int) (c:List Sp.Call) (ht:ts.length≤1000000) (hs:∀t∈ts,t.stops.length≤1000000) (hc:c.length≤1000000):SC (fun _=>Tryz.prog) 94 [lst 3 encTrain default ts,.int .i64 fun _=>number,lst 3 QV default c] [] fun v h=>v= .bool (fun _=>JT ts number c)∧h=[]:=by
 obtain⟨nt,hnt⟩:=Zu
 generalize hE:JT ts number c=E
 simp only[Za hnt,Zlk hnt]
 refine SC.less (QT Tryz.func94 (body:=Zm Tryz.f94) rfl (by decide+kernel) ?_)
 refine wS ?_
 refine ZP false false [] [0,1,2,7] [] (fun(i:Nat)=>[(7,.int .i64 fun _=>i)]) (fun _=>[]) (fun i=>i≤ts.length∧JT (ts.drop i) number c=E) (fun i=>ts.length-i+0) 0 ⟨Nat.zero_le _,hE⟩ ?_ ?_
 ·exact ZK
 intro i hq
 have hi:=hq.1
 have hp:=hq.2
 clear hq
 refine wS ?_
 refine⟨fun hb=>?_,fun hb=>?_⟩
 ·simp only[decide_eq_true_eq]at hb
  have hd:=Qo (d:=default) hnt (l:=ts) (i:=i) (by omega)
  have hst:=hs _ (QY (d:=default) hnt (l:=ts) (i:=i) (by omega))
  rw[hd,JT]at hp
  refine wS ?_
  refine⟨fun hn=>?_,fun hn=>?_⟩
  ·have hn:(nt Train default ts i).number≠number:=by simpa only[bne_iff_ne]using hn
   rw[if_neg hn]at hp
   refine wS ?_
   refine⟨i+1,⟨by omega,hp⟩,by show ts.length-(i+1)+0<ts.length-i+0;omega,?_⟩
   exact ZK
  ·have hn:(nt Train default ts i).number=number:=by simpa only[bne_eq_false_iff_eq]using hn
   rw[if_pos hn]at hp
   subst hp
   have hz:Zau (nt Train default ts i).stops c 0=decide (((nt Train default ts i).stops.length:Int)=(c.length:Int)):=by
    rw[Zlr]
    exact decide_eq_decide.2 (by omega)
   have hup:=fun(m:Nat) (h:m≤c.length) (h2:Zau (nt Train default ts i).stops c m=false)=>Zql h h2
   have hln:=fun(m:Nat) (h2:Zau (nt Train default ts i).stops c m=true)=>Zn2 h2
   have hs2:∀m:Nat,Zau (nt Train default ts i).stops c m=true→Zau (nt Train default ts i).stops c (m+1)=((nt Stop default (nt Train default ts i).stops (m:Int)).station==(nt Sp.Call default c (m:Int)).station):=fun m h2=>by
    rw[Zls h2,XT hnt default c m,XT hnt default (nt Train default ts i).stops m]
    rfl
   generalize Zau (nt Train default ts i).stops c=SE at*
   refine wS ?_
   refine ZtR false false [] [0,2,7,8,9] [] (fun(⟨k,b⟩:Nat×Bool)=>[(8,.bool fun _=>b),(9,.int .i64 fun _=>k)]) (fun _=>[]) (fun⟨k,b⟩=>k≤c.length∧b=SE k) (fun q=>c.length-q.1+0) (0,SE 0) ⟨Nat.zero_le _,rfl⟩ ?_ ?_
   ·refine toR ?_
    refine .bool ?_
    rw[hz]
    rfl
   intro k b hq
   have hk:k≤c.length:=hq.1
   have hbq:b=SE k:=hq.2
   clear hq
   refine wS ?_
   cases b
   case false=>
    have h2:=hup k hk hbq.symm
    refine Br.isF rfl ?_
    refine wS ?_
    refine⟨_,_,?_,rfl,rfl⟩
    refine toR ?_
    exact .bool h2.symm
   have hln:=hln k hbq.symm
   have hs2:=hs2 k hbq.symm
   refine⟨fun h2=>?_,fun h2=>?_⟩
   ·have h2:(k:Int)<(c.length:Int):=of_decide_eq_true h2
    refine wS ?_
    refine⟨(k+1,SE (k+1)),⟨by omega,rfl⟩,by show c.length-(k+1)+0<c.length-k+0;omega,?_⟩
    refine toR ?_
    exact .bool hs2.symm
   ·have h2:¬(k:Int)<(c.length:Int):=of_decide_eq_false h2
    have hke:k=c.length:=by omega
    subst hke
    refine wS ?_
    refine⟨_,_,?_,rfl,rfl⟩
    refine toR ?_
    exact .bool hbq
 ·simp only[decide_eq_false_iff_not]at hb
  rw[List.drop_eq_nil_of_le (by omega),JT]at hp
  subst hp
  refine wS ?_
  refine⟨_,_,?_,rfl,rfl⟩
  exact ZK
end Go.Proofs.YtjgpiclllehgmaaGreat.Vm
namespace Go.Proofs.YtjgpiclllehgmaaGreat.Vm
open Go Go.Proofs Go.Proofs.YtjgpiclllehgmaaGreat.Conc1
section
variable {P:Program} {G:Nat→Nat→Nat→Prop} {R:RC} {h:List Zh}
theorem ZqP (H:HR G R h) {E:Operand→AV} {ρ:Operand→Value} {t:TypeId} {n:Nat} {ps:Array (Nat×Operand)} {s:Nat} {m:Unit→Int} {f:(Unit→Int)→List AV} {tk:Tk} (hE:∀p∈ps.toList,VR R (E p.2) (ρ p.2)) (hv:XH P E t n ps.toList=some (.isl s m f tk)):
  ∃u R',(Instr.buildSlice t n (ps.map fun(i,x)=>(i,ρ x))).run P R.w= .ok u R'.w∧HR G R' (h++[.gar s m f])∧Xe R h R' (h++[.gar s m f])∧R.le R'∧VR R' (.gsl h.length m) u:=by
 unfold XH at hv
 split at hv
 case h_2=>cases hv
 rename_i T hT
 split at hv
 case h_2=>cases hv
 rename_i e s' eb hk
 split at hv
 case isFalse=>cases hv
 rename_i hcd
 simp only[Bool.and_eq_true]at hcd
 obtain⟨⟨hzo,hln⟩,hbig⟩:=hcd
 have hln:=Zz hln
 have hbig:=Xc hbig
 obtain⟨j,hu,hj,hs,_⟩:=Y0 hT hk
 obtain⟨j',z,hj',hz,hzs,hjs,_⟩:=JH hzo
 rw[hj]at hj'
 cases hj'
 split at hv
 case h_2=>
  unfold ZhH at hv
  split at hv
  case h_2=>cases hv
  split at hv
  case isFalse=>cases hv
  cases hv
 rename_i rows hr
 unfold Zfu at hv
 simp only[Option.some.injEq,AV.isl.injEq]at hv
 obtain⟨rfl,rfl,rfl,_⟩:=hv
 obtain⟨arr,a1,a2,a3,a4,a5⟩:=ZdF (R:=R) (ρ:=ρ) ps.toList 0 rows ((Array.range (n*s')).map fun k=>(if n*s'=0 then #[]else z.cells)[k%(if n*s'=0 then #[]else z.cells).size]!) hr (by simp[hln]) hE
 have hrl:rows.length=n:=by rw[a3,Array.length_toList];rw[Array.length_toList]at hln;exact hln
 have hsz:arr.size=n*s':=by rw[a2];simp
 obtain⟨R',hw,H',hx,hle,hm,hhw,hhv⟩:=H.garFresh s' (fun _=>(rows.length:Int)) (fun e=>rows.getD (e ()).toNat (rows.headD [])) n (by show(rows.length:Int)=n;rw[hrl]) arr e hsz (fun R' hle i hi=>by
  have hri:rows[i]? =some rows[i]:=List.getElem?_eq_getElem (by omega)
  have er:rows.getD (i:Int).toNat (rows.headD [])=rows[i]:=by rw[Int.toNat_natCast,List.getD_eq_getElem?_getD,hri];rfl
  show(rows.getD (i:Int).toNat (rows.headD [])).length=s'∧∀j c,(rows.getD (i:Int).toNat (rows.headD []))[j]? =some c→_
  rw[er]
  refine⟨(a5 i _ hri).1,fun j c hj=>?_⟩
  have:=(a5 i _ hri).2 j c hj
  rw[Nat.zero_add]at this
  exact this.mono hle.ok hle.keep hle.keepM)
 refine⟨.slice (some ⟨R.w.heap.size,0,none⟩) n n,R',?_,H',hx,hle,?_⟩
 ·have hpm:(ps.map fun(i,x)=>(i,ρ x)).toList=ps.toList.map fun p=>(p.1,ρ p.2):=by simp
  unfold Instr.buildSlice
  simp only[Sem.run_bind,Zx hu,Result.andThen_ok,Z7 hj,hs,hpm]
  rw[if_neg (by omega)]
  rw[hw]
  by_cases hns:n*s'=0
  ·simp only[if_pos hns]at a1⊢
   simp only[Sem.run_bind,Sem.run_pure,Result.andThen_ok]
   rw[a1]
   rfl
  ·simp only[if_neg hns]at a1⊢
   simp only[Sem.run_bind,Sem.run_pure,Result.andThen_ok,zeroValue,Q3 hj,hz]
   rw[a1]
   rfl
 ·rw[H.len]
  exact .gsl _ _ _ _ _ (by omega) (by rw[hhw];exact Int.le_refl _) (fun _=>hhv.symm) ⟨by show(rows.length:Int)=n;rw[hrl],.inr ⟨_,_,rfl⟩⟩
end
def ZoI (T:Tb) (o:Oper) (E:Operand→AV) (h:List Zh):Option (AV×List Zh×Cd):=match o.op,o.guard with
 |.buildSlice t n ps,none=>(match XR T (fun x=>strip (E x)) t n ps.toList with
  |some (.isl s m f _)=>some (.gsl h.length m,h++[.gar s m f],gdC E o.op.operands.toList)
  |_=>none)
 |_,_=>none
def Zeo (T:Tb) (p:Unit→Program) (d:Nat) (ops:Array Oper):List Oper→List AV→List Zh→Cd→(List AV→List Zh→Cd→Prop)→Prop
 |[],s,h,c,K=>K s h c
 |o::r,s,h,c,K=>(match o.dst with
  |some e=>if ZC e d then(match ZoI T o (ev s) h with
   |some (v,h',c')=>Zeo T p d ops r (putO s o.dst v) h' (c++c') K
   |none=>False)else Wop T p ops o (ev s) h c fun v h c=>Zeo T p d ops r (putO s o.dst v) h c K
  |none=>Wop T p ops o (ev s) h c fun v h c=>Zeo T p d ops r (putO s o.dst v) h c K)
section
variable {T:Tb} {p:Unit→Program} {R₀:RC} {h₀:List Zh}
theorem ZoH (hT:T.Of (p ())) {ops:Array Oper} {i:Nat} {o:Oper} (ho:ops[i]? =some o) {E:Operand→AV} {h h':List Zh} {v:AV} {c:Cd} (hv:ZoI T o E h=some (v,h',c)) (hc:ZO c):Zc9 (p ()) R₀ h₀ ops i o E h fun v' h''=>v'=v∧h''=h':=by
 unfold ZoI at hv
 split at hv
 case h_2=>cases hv
 rename_i t n ps hop hg
 split at hv
 case h_2=>cases hv
 rename_i s m f tk hb
 have hb':=Jd hT hb
 simp only[Option.some.injEq,Prod.mk.injEq]at hv
 obtain⟨rfl,rfl,rfl⟩:=hv
 intro R t' hi hE b ds k cs rest
 have hEs:∀x∈o.op.operands,VR R (strip (E x)) (Qv t' x):=fun x hx=>(hE x (List.mem_append_left _ (Array.mem_toList_iff.2 hx))).strip (ZeG hc x (Array.mem_toList_iff.2 hx))
 obtain⟨u,R',h1,h2,h3,h4,h5⟩:=ZqP (ρ:=Qv t') hi.hr (fun q hq=>hEs q.2 (by
  rw[hop]
  simp only[Op.operands]
  rw[←Array.mem_toList_iff]
  simp only[Array.toList_map]
  exact List.mem_map.2 ⟨q,hq,rfl⟩)) hb'
 refine⟨_,_,R',u,⟨rfl,rfl⟩,hi.step h2 h3 h4,h3,h4,h5,.one (J7 (nv:=.value u) ho (by simp[Region.wanted,hg]) (fun c e=>by rw[hop]at e;cases e) ?_ ?_ (.inl rfl))⟩
 ·unfold execOp
  simp only[hop]
  exact Zf (fun _=>Za2) fun _ _=>Zn
 ·unfold execOp
  simp only[hop]
  rw[Sem.run_bind,h1]
  rfl
theorem Zjg (hT:T.Of (p ())) {d:Nat} {ops:Array Oper} {K:List AV→List Zh→Cd→Prop} (hK:∀s h c,K s h c→ZO c):∀(l:List Oper) (j:Nat) (s:List AV) (h:List Zh) (c:Cd),(∀m,m<l.length→ops[j+m]? =l[m]?)→Zeo T p d ops l s h c K→
  ZO c∧ZaW (p ()) R₀ h₀ ops (List.range' j l.length) s h fun s h=>∃c,K s h c
 |[],j,s,h,c,_,hW=>⟨hK _ _ _ hW,fun R t hi hs b ds k cs=>⟨s,h,R,t,⟨_,hW⟩,hi,Xe.refl _ _,RC.le.refl _,hs,.one YI⟩⟩
 |o::r,j,s,h,c,hl,hW=>by
  have ho:ops[j]? =some o:=by simpa using hl 0 (by simp)
  have ih:=fun s h c=>Zjg hT (d:=d) hK r (j+1) s h c (fun m hm=>by have:=hl (m+1) (by simpa using hm);rw[show j+1+m=j+(m+1) by omega];simpa using this)
  have key:∀(Q:AV→List Zh→Prop),Zc9 (p ()) R₀ h₀ ops j o (Vm.ev s) h Q→(∀v h',Q v h'→∃c',Zeo T p d ops r (putO s o.dst v) h' c' K)→ZaW (p ()) R₀ h₀ ops (List.range' j (o::r).length) s h fun s h=>∃c,K s h c:=fun Q h2 hq R t hi hs b ds k cs=>by
   obtain⟨v,h',R',u,hQ,a1,a2,a3,a4,a5⟩:=h2 R t hi (hs.eok ops o) b ds k cs (List.range' (j+1) r.length)
   obtain⟨c',hk⟩:=hq v h' hQ
   obtain⟨s'',h'',R'',t'',b1,b2,b3,b4,b5,b6⟩:=(ih _ _ _ hk).2 R' _ a1 ((hs.mono a3).putO a4 o.dst) b ds k cs
   exact⟨s'',h'',R'',t'',b1,b2,a2.trans b3,a3.trans b4,b5,a5.trans (XZ a3 b6)⟩
  have other:(Wop T p ops o (Vm.ev s) h c fun v h c=>Zeo T p d ops r (putO s o.dst v) h c K)→ZO c∧ZaW (p ()) R₀ h₀ ops (List.range' j (o::r).length) s h fun s h=>∃c,K s h c:=fun hW=>by
   obtain⟨h1,h2⟩:=Zh3 hT (R₀:=R₀) (h₀:=h₀) ho (fun v h c hk=>(ih _ _ _ hk).1) hW
   exact⟨h1,key _ h2 fun v h' hq=>hq⟩
  unfold Zeo at hW
  split at hW
  ·split at hW
   ·split at hW
    case h_2=>exact hW.elim
    rename_i v h' c' hv
    have hcc:=(ih _ _ _ hW).1
    exact⟨(ZX hcc).1,key _ (ZoH hT ho hv (ZX hcc).2) fun v' h'' hq=>by
     obtain⟨rfl,rfl⟩:=hq
     exact⟨_,hW⟩⟩
   ·exact other hW
  ·exact other hW
theorem hpX {nb:Nat} {K:Ex→List AV→List Zh→Cd→Prop} {id:Nat} {ops:Array Oper} {k:List Item} {s:List AV} {h:List Zh} (hT:T.Of (p ())) (d:Nat) (hW:Zeo T p d ops ops.toList s h [] fun s h c=>Chk c (HP false nb p k K s h)):HP false nb p (.code (.region id ops false)::k) K s h:=
 ⟨fun hK R₀ h₀ hnb=>by
  obtain⟨_,h2⟩:=Zjg (R₀:=R₀) (h₀:=h₀) hT (fun s h c (hk:Chk c _)=>hk.c) ops.toList 0 s h [] (fun m hm=>by simp) hW
  have h3:ZaW (p ()) R₀ h₀ ops (List.range ops.size) s h fun s h=>∃c,Chk c (HP false nb p k K s h):=by
   rw[List.range_eq_range']
   simpa using h2
  exact CI.then (CI.region h3 fun s h hk=>⟨rfl,hk⟩) fun s h ⟨c,hk⟩=>hk.g.run hK R₀ h₀ hnb⟩
end
end Go.Proofs.YtjgpiclllehgmaaGreat.Vm
namespace Go.Proofs.YtjgpiclllehgmaaGreat.Vm
open Go Go.Proofs
theorem To.freeze {s:List AV} {h:List Zh} {id sz:Nat} {n:Unit→Int} {f:(Unit→Int)→List AV} (hid:h[id]? =some (.gar sz n f)):To s h s (h.set id (.fro sz n f)):=fun G R t H hs=>by
 have hlt:=(List.getElem?_eq_some_iff.1 hid).1
 let R':RC:={R with ok:=fun b o k=>b<R.w.heap.size∧G b o k∧Zf1 R (h.set id (.fro sz n f)) b o k}
 have hget:∀ {j x},(h.set id (.fro sz n f))[j]? =some x→(j=id∧x= .fro sz n f)∨(j≠id∧h[j]? =some x):=fun {j x} hx=>by
  rw[List.getElem?_set]at hx
  split at hx
  ·rename_i e
   simp only[Option.some.injEq]at hx
   exact .inl ⟨e.symm,hx.symm⟩
  ·rename_i e
   exact .inr ⟨fun e'=>e e'.symm,hx⟩
 have hok:∀b o k,R.ok b o k→R'.ok b o k:=fun b o k hk=>by
  obtain⟨h1,h2,h3⟩:=(H.okd _ _ _).1 hk
  refine⟨h1,h2,fun j x hx=>?_⟩
  rcases hget hx with⟨rfl,rfl⟩|⟨hne,hx⟩
  ·exact fun h=>h
  ·exact h3 j x hx
 have hle:R.le R':=⟨Nat.le_refl _,fun _ _=>rfl,fun _ _=>⟨Int.le_refl _,fun _=>rfl⟩,fun _ _=>.refl _,hok,fun _ _ _ _ _ _=>rfl,fun _ _ _ _ h=>h,rfl⟩
 have hph:∀ {j x b},(h.set id (.fro sz n f))[j]? =some x→ZJ R' j x b→j≠id∧h[j]? =some x∧ZJ R j x b:=fun {j x b} hx hp=>by
  rcases hget hx with⟨rfl,rfl⟩|⟨hne,hx⟩
  ·exact hp.elim
  ·exact⟨hne,hx,(ZJ.congr (R:=R) rfl rfl).1 hp⟩
 refine⟨R',rfl,⟨?_,fun _ _ _=>Iff.rfl,fun j x hx=>?_,fun i j bi bj b hij hi hj hp hp'=>?_,H.cl,H.fresh,fun j x b hx hk hp o k=>?_,H.n0m⟩,⟨rfl,rfl,rfl,rfl,Nat.le_refl _,Nat.le_refl _,fun _ _=>rfl,hok,fun _ _ _ _ _ _=>rfl,fun _ _ _=>rfl,fun j x b hx hp=>?_⟩,hle,hs.mono hle⟩
 ·rw[List.length_set];exact H.len
 ·rcases hget hx with⟨rfl,rfl⟩|⟨hne,hx⟩
  ·obtain⟨e1,e2⟩:=H.blk _ _ hid
   refine⟨e1,?_⟩
   rcases e2 with⟨h0,a0,h1⟩|⟨b,o,len,cap,arr,ty,a1,a2,a3,a4,a5,a6⟩
   ·show PR R'.w R'.ok _ (R.hv _)
    rw[h1]
    cases a0 with
    |none=>exact .isl0 _ _ _ _ h0 rfl
    |some a0=>exact .islE _ _ _ _ a0 h0 (.inl rfl)
   ·show PR R'.w R'.ok _ (R.hv _)
    rw[a3]
    rcases Nat.eq_zero_or_pos cap with hc0|hc0
    ·rw[hc0,show len=0 by omega]
     exact .islE _ _ _ _ ⟨b,o,none⟩ (by omega) (.inl rfl)
    have hmul:len*sz≤cap*sz:=Nat.mul_le_mul_right _ a2
    have hb:ZJ R j (.gar sz n f) b:=⟨_,_,_,a3,hc0,rfl⟩
    refine .isl _ _ _ _ b o len cap (fun i j=>arr.getD (o+i*sz+j) undef) a1 a2 (.inl rfl) (fun h=>by cases h) (fun i hi=>(a6 i hi).1) (fun i j c hi hj=>?_) (fun i j c hi hj=>?_) ?_
    ·have hjs:j<sz:=by rw[←(a6 i hi).1];exact(List.getElem?_eq_some_iff.1 hj).1
     have:(i+1)*sz≤len*sz:=Nat.mul_le_mul_right _ hi
     rw[Nat.succ_mul]at this
     exact Qb (w:=R.w) a4 (by omega)
    ·exact((a6 i hi).2 j c hj).mono hok (fun _ _ _ _ _ _=>rfl) fun _ _ _ _ h=>h
    ·refine⟨H.phys_lt hid hb,H.tokG _ _ _ hid rfl hb _ _,fun i x hx=>?_⟩
     rcases hget hx with⟨rfl,rfl⟩|⟨hne,hx⟩
     ·exact fun h=>h
     ·exact ZaU fun hp=>H.dis _ _ _ _ b (fun e=>hne e.symm) hid hx hb hp
  ·exact(H.blk j x hx).mono hle rfl rfl rfl rfl (fun _ _=>rfl)
 ·obtain⟨_,hx,hp⟩:=hph hi hp
  obtain⟨_,hx',hp'⟩:=hph hj hp'
  exact H.dis i j bi bj b hij hx hx' hp hp'
 ·obtain⟨_,hx,hp⟩:=hph hx hp
  exact H.tokG j x b hx hk hp o k
 ·obtain⟨_,hx,hp⟩:=hph hx hp
  exact .inr ⟨j,x,hx,hp,.inl rfl⟩
theorem To.froze {s:List AV} {h:List Zh} {id sz:Nat} {n:Unit→Int} {f:(Unit→Int)→List AV} (hid:h[id]? =some (.gar sz n f)):To s h (s.map (rsv (h.set id (.fro sz n f)))) (h.set id (.fro sz n f)):=fun G R t H hs=>by
 obtain⟨R',a1,a2,a3,a4,a5⟩:=To.freeze (s:=s) hid G R t H hs
 have:=SL.rsv a2 a5 {tb with rs:=true}
 exact⟨R',a1,a2,a3,a4,this⟩
end Go.Proofs.YtjgpiclllehgmaaGreat.Vm
namespace Go.Proofs.YtjgpiclllehgmaaGreat.Vm
open Go Go.Proofs Sp
def Y7 (r r':List AV):Prop:=r'.length=r.length∧∀(j:Nat) (c':AV),r'[j]? =some c'→∃c,r[j]? =some c∧∀w ok v,PR w ok c v→PR w ok c' v
theorem Y7.two {a b b':AV} (h:∀w ok v,PR w ok b v→PR w ok b' v):Y7 [a,b] [a,b']:=⟨rfl,fun j c hj=>by
 match j with
 |0=>simp only[List.getElem?_cons_zero,Option.some.injEq]at hj;subst hj;exact⟨_,rfl,fun _ _ _ h=>h⟩
 |1=>simp only[List.getElem?_cons_succ,List.getElem?_cons_zero,Option.some.injEq]at hj;subst hj;exact⟨_,rfl,h⟩
 |j+2=>simp at hj⟩
theorem PR.elems {w:World} {ok:Nat→Nat→Nat→Prop} {s:Nat} {m m':Unit→Int} {f f':(Unit→Int)→List AV} {v:Value} (hm:m ()=m' ()) (hf:∀i:Nat,(i:Int)<m ()→Y7 (f fun _=>(i:Int)) (f' fun _=>(i:Int))) (hv:PR w ok (.isl s m f .none) v):PR w ok (.isl s m' f' .none) v:=by
 cases hv with
 |isl0 _ _ _ _ hz h1=>exact .isl0 _ _ _ _ (by omega) rfl
 |islE _ _ _ _ a hz h1=>exact .islE _ _ _ _ a (by omega) (.inl rfl)
 |isl _ _ _ _ b o len cap us hn hc h1 he hl h2 h3 h4=>
  refine .isl _ _ _ _ b o len cap us (by omega) hc (.inl rfl) (fun e=>by cases e) (fun i hi=>?_) (fun i j c hi hj=>?_) (fun i j c hi hj=>?_) h4
  ·rw[(hf i (by omega)).1];exact hl i hi
  ·obtain⟨c0,g1,_⟩:=(hf i (by omega)).2 j c hj
   exact h2 i j c0 hi g1
  ·obtain⟨c0,g1,g2⟩:=(hf i (by omega)).2 j c hj
   exact g2 _ _ _ (h3 i j c0 hi g1)
theorem Y7.three {a b c c':AV} (h:∀w ok v,PR w ok c v→PR w ok c' v):Y7 [a,b,c] [a,b,c']:=⟨rfl,fun j d hj=>by
 match j with
 |0=>simp only[List.getElem?_cons_zero,Option.some.injEq]at hj;subst hj;exact⟨_,rfl,fun _ _ _ h=>h⟩
 |1=>simp only[List.getElem?_cons_succ,List.getElem?_cons_zero,Option.some.injEq]at hj;subst hj;exact⟨_,rfl,fun _ _ _ h=>h⟩
 |2=>simp only[List.getElem?_cons_succ,List.getElem?_cons_zero,Option.some.injEq]at hj;subst hj;exact⟨_,rfl,h⟩
 |j+3=>simp at hj⟩
theorem ZH.elems {n k s:Nat} {m m':Unit→Int} {f f':(Unit→Int)→List AV} {tk:Tk} (hm:m ()=m' ()) (hf:∀i:Nat,(i:Int)<m ()→Y7 (f fun _=>(i:Int)) (f' fun _=>(i:Int))):ZH n k (.isl s m f tk) (.isl s m' f' .none):=⟨fun R v _ hv=>.pure _ _ (hv.isl_inv.elems hm hf)⟩
theorem Zj2 {nt:(α:Type)→α→List α→Int→α} (hnt:∀(α:Type) (d:α) (l:List α) (i:Int),nt α d l i=l.getD i.toNat d) {α:Type} {n k sz:Nat} (enc:α→List AV) (d:α) (l:List α) (rows:List (List AV)) (hl:rows.length=l.length) (hr:∀i,i<l.length→Y7 (rows.getD i (rows.headD [])) (enc (l.getD i d))):
  ZH n k (.isl sz (fun _=>(rows.length:Int)) (fun e=>rows.getD (e ()).toNat (rows.headD [])) .exact) (.isl sz (fun _=>(l.length:Int)) (fun e=>enc (nt α d l (e ()))) .none):=
 .elems (by simp[hl]) fun i hi=>by
  have hi:i<l.length:=by have:(i:Int)<(rows.length:Int):=hi;omega
  simp only[hnt,Int.toNat_natCast]
  exact hr i hi
end Go.Proofs.YtjgpiclllehgmaaGreat.Vm
