/- Contracts: the reference's stretches. -/
import Derived.Test.YtjgpiclllehgmaaB3
import Derived.Test.YtjgpiclllehgmaaB1
import Derived.Test.YtjgpiclllehgmaaB2
import Derived.Test.YtjgpiclllehgmaaB0
set_option linter.all false
namespace Go.Proofs.Ytjgpiclllehgmaa.Vm
attribute [local irreducible] Dn
open Go Go.Proofs Sp
set_option maxRecDepth 100000
set_option maxHeartbeats 1600000
def cl (p:Pc):Pc:=if p.bef=Xd then⟨p.fr,-1,p.ahd⟩else p
def Zne (z:Zone):List Pc:=(ZP z).map cl
def X0 (a:Int) (l:List Chg):Int:=l.foldl (fun a c=>a+c.by_) a
theorem Zov:∀(l1 l2:List Chg) (a k:Int),(∀c∈l1,c.at_≤k)→af a (l1++l2) k=af (X0 a l1) l2 k
 |[],_,_,_,_=>rfl
 |c::r,l2,a,k,h=>by
  have e:af a (c::r++l2) k=if c.at_≤k then af (a+c.by_) (r++l2) k else a:=rfl
  rw[e,if_pos (h c (List.mem_cons_self ..)),Zov r l2 _ _ (fun x hx=>h x (List.mem_cons_of_mem _ hx))]
  rfl
theorem Zjw (a:Int) (l:List Chg) (c:Chg):X0 a (l++[c])=X0 a l+c.by_:=by unfold X0;rw[List.foldl_append];rfl
structure Zap (z:Zone) (i:Nat) (f:Int) (out:List Pc):Prop where
 le:i≤z.chs.length
 eq:Zne z=out++(QD f (X0 z.base (z.chs.take i)) (z.chs.drop i)).map cl
 lo:∀c∈z.chs.take i,c.at_≤f
 fr:0≤f∧f≤43200
 asc:Asc (if i=0 then f else f+1) (z.chs.drop i)
 zero:i=0→f=0
 len:out.length≤i
theorem Zle {z:Zone} (h:Zt z=0):Zap z 0 0 []:=by
 obtain⟨ha,hb,hl,h1,h2⟩:=ZbE h
 exact⟨Nat.zero_le _,rfl,by simp,by omega,by simpa using ha,fun _=>rfl,by simp⟩
theorem Zap.ahd {z:Zone} {i:Nat} {f:Int} {out:List Pc} (h:Zap z i f out) (hn:∀c∈(z.chs.drop i).head?,f<c.at_):af z.base z.chs f=X0 z.base (z.chs.take i):=by
 have e:z.chs=z.chs.take i++z.chs.drop i:=(List.take_append_drop ..).symm
 rw[e,Zov _ _ _ _ h.lo,←e]
 cases hd:z.chs.drop i with
 |nil=>rfl
 |cons c r=>
  rw[hd]at hn
  have hc:=hn c rfl
  unfold af
  rw[if_neg (by omega)]
theorem Zap.step {z:Zone} {i:Nat} {f:Int} {out:List Pc} {c:Chg} (hz:Zt z=0) (h:Zap z i f out) (hi:i<z.chs.length) (hc:z.chs.drop i=c::z.chs.drop (i+1)) (ht:z.chs.take (i+1)=z.chs.take i++[c]):
  (c.at_=0→Zap z (i+1) c.at_ out)∧(c.at_≠0→af z.base z.chs f=X0 z.base (z.chs.take i)∧Zap z (i+1) c.at_ (out++[⟨f,c.at_,X0 z.base (z.chs.take i)⟩])):=by
 obtain⟨ha,hb,hl,h1,h2⟩:=ZbE hz
 have hcm:c∈z.chs:=List.mem_of_mem_drop (i:=i) (by rw[hc];exact List.mem_cons_self ..)
 have hcb:=hb c hcm
 have hasc:=h.asc
 rw[hc]at hasc
 obtain⟨hlo,hrest⟩:=hasc
 have hfr:=h.fr
 have hle:f≤c.at_:=by split at hlo<;>omega
 have hsum:X0 z.base (z.chs.take (i+1))=X0 z.base (z.chs.take i)+c.by_:=by rw[ht,Zjw]
 have hlo2:∀x∈z.chs.take (i+1),x.at_≤c.at_:=fun x hx=>by
  rw[ht]at hx
  rcases List.mem_append.1 hx with hx|hx
  ·have:=h.lo x hx;omega
  ·simp at hx;rw[hx];exact Int.le_refl _
 have hasc2:Asc (if i+1=0 then c.at_ else c.at_+1) (z.chs.drop (i+1)):=by rw[if_neg (by omega)];exact hrest
 have heq:=h.eq
 rw[hc]at heq
 have hlen:=h.len
 refine⟨fun h0=>?_,fun h0=>?_⟩
 ·have hf0:f=0:=by omega
  refine⟨hi,?_,hlo2,by omega,hasc2,fun h=>by omega,by omega⟩
  rw[heq,hsum]
  congr 1
  have e:QD f (X0 z.base (z.chs.take i)) (c::z.chs.drop (i+1))=QD c.at_ (X0 z.base (z.chs.take i)+c.by_) (z.chs.drop (i+1)):=if_neg (by omega)
  rw[e]
 ·have hlt:f<c.at_:=by
   by_cases hi0:i=0
   ·have:=h.zero hi0;omega
   ·rw[if_neg hi0]at hlo;omega
  refine⟨h.ahd (by rw[hc];intro x hx;simp at hx;rw[←hx];exact hlt),hi,?_,hlo2,by omega,hasc2,fun h=>by omega,by simp;omega⟩
  have e:QD f (X0 z.base (z.chs.take i)) (c::z.chs.drop (i+1))=⟨f,c.at_,X0 z.base (z.chs.take i)⟩::QD c.at_ (X0 z.base (z.chs.take i)+c.by_) (z.chs.drop (i+1)):=if_pos hlt
  have e2:cl ⟨f,c.at_,X0 z.base (z.chs.take i)⟩=⟨f,c.at_,X0 z.base (z.chs.take i)⟩:=if_neg (by unfold Xd;show¬c.at_=_;omega)
  rw[heq,e,List.map_cons,e2,hsum,List.append_assoc]
  rfl
theorem Zap.last {z:Zone} {f:Int} {out:List Pc} (h:Zap z z.chs.length f out):af z.base z.chs f=X0 z.base z.chs∧Zne z=out++[⟨f,-1,X0 z.base z.chs⟩]:=by
 have h1:=h.ahd (by rw[List.drop_length];intro c hc;cases hc)
 have h2:=h.eq
 rw[List.take_length]at h1 h2
 rw[List.drop_length]at h2
 exact⟨h1,h2⟩
theorem ZuQ (z:Zone) (hz:Zt z=0):SC (fun _=>Try.prog) 91 [Ze z] [] fun v h=>v=lst 3 Zed default (Zne z)∧h=[]:=by
 obtain⟨nt,hnt⟩:=Zr
 obtain⟨ha,hb,hl,h1,h2⟩:=ZbE hz
 have k97:=fun t=>c97 z t hz
 have hst:=Zle hz
 generalize hS:Zne z=S at*
 refine SC.less (Q2 Try.func91 (body:=Zk Try.f91) rfl (by decide+kernel) ?_)
 unfold Ze at*
 simp only[Za hnt]at*
 refine wS ?_
 refine ZT false false [] [1,3,4,5] [.tok 3 fun _=>0] (fun(⟨i,f,out⟩:Nat×Int×List Pc)=>[(3,.isl 3 (fun _=>(out.length:Int)) (fun e=>Zed (nt Pc default out (e ()))) (.own 1)),(4,.int .i64 fun _=>f),(5,.int .i64 fun _=>(i:Int))])
  (fun⟨i,f,out⟩=>[(1,.tok 3 fun _=>(out.length:Int))]) (fun⟨i,f,out⟩=>Zap z i f out∨(i=z.chs.length+1∧out=S)) (fun i=>z.chs.length+1-i.1+0) (0,0,[]) (.inl hst) ?_ ?_
 ·(refine To.of [(3,false)] ?_;cbv;(try simp only[nc]);(repeat' (first|exact trivial|exact ZB.refl _|exact ZJ.refl _|refine⟨?_,?_⟩|refine ZJ.cells ?_|refine ZB.agg ?_|refine ZB.tup ?_));(all_goals (first|exact X3|skip)))
 rintro⟨i,f,out⟩ hp
 have hp:Zap z i f out∨(i=z.chs.length+1∧out=S):=hp
 have hol:out.length≤100∨out=S:=by
  rcases hp with h|⟨_,h⟩
  ·have:=h.len;have:=h.le;omega
  ·exact .inr h
 refine wS ?_
 refine⟨fun hb1=>?_,fun hb1=>?_⟩
 ·simp only[decide_eq_true_eq]at hb1
  have hs:Zap z i f out:=by
   rcases hp with h|⟨h,_⟩
   ·exact h
   ·omega
  have hle:=hs.le
  have hlen:=hs.len
  have k97:=k97 f
  refine wS ?_
  refine⟨fun hb2=>?_,fun hb2=>?_⟩
  ·simp only[decide_eq_true_eq]at hb2
   have hil:i<z.chs.length:=by omega
   have hst2:=hs.step hz hil (Qt (d:=default) hnt hil) (ZaF (d:=default) hnt hil)
   generalize hc:nt Chg default z.chs (i:Int)=c at*
   refine vS ?_
   simp only[hc]
   refine Chk.mk (Z7) ?_
   refine⟨fun hb3=>?_,fun hb3=>?_⟩
   ·have h0:c.at_≠0:=by simpa using hb3
    obtain⟨g1,g2⟩:=hst2.2 h0
    rw[g1]at k97
    generalize X0 z.base (z.chs.take i)=A at*
    refine wS ?_
    refine ZU (k97) (by first|rfl|(simp only[Ze,Za hnt];rfl)) fun r h₂ hp=>?_
    (try simp only[Ze,Za hnt]at hp)
    obtain⟨rfl,rfl⟩:=hp
    refine wS ?_
    refine⟨(i+1,c.at_,out++[⟨f,c.at_,A⟩]),.inl g2,by show z.chs.length+1-(i+1)+0<z.chs.length+1-i+0;omega,?_⟩
    exact ZL
   ·have h0:c.at_=0:=by simpa using hb3
    have g2:=hst2.1 h0
    refine wS ?_
    refine⟨(i+1,c.at_,out),.inl g2,by show z.chs.length+1-(i+1)+0<z.chs.length+1-i+0;omega,?_⟩
    exact ZL
  ·simp only[decide_eq_false_iff_not]at hb2
   have hie:i=z.chs.length:=by omega
   obtain⟨g1,g2⟩:=(hie▸hs:Zap z z.chs.length f out).last
   rw[g1]at k97
   rw[hS]at g2
   generalize X0 z.base z.chs=A at*
   refine wS ?_
   refine Br.isT rfl ?_
   refine wS ?_
   refine ZU (k97) (by first|rfl|(simp only[Ze,Za hnt];rfl)) fun r h₂ hp=>?_
   (try simp only[Ze,Za hnt]at hp)
   obtain⟨rfl,rfl⟩:=hp
   refine wS ?_
   refine⟨(i+1,-1,out++[⟨f,-1,A⟩]),.inr ⟨by rw[hie],g2.symm⟩,by show z.chs.length+1-(i+1)+0<z.chs.length+1-i+0;omega,?_⟩
   exact ZL
 ·simp only[decide_eq_false_iff_not]at hb1
  have ho:out=S:=by
   rcases hp with h|⟨_,h⟩
   ·have:=h.le;omega
   ·exact h
  rw[←ho]
  refine wS ?_
  refine⟨_,[],?_,rfl,rfl⟩
  exact ZL
end Go.Proofs.Ytjgpiclllehgmaa.Vm
namespace Go.Proofs.Ytjgpiclllehgmaa.Vm
attribute [local irreducible] Dn
open Go Go.Proofs Sp
set_option maxRecDepth 100000
set_option maxHeartbeats 1600000
theorem Ztm {nt:(α:Type)→α→List α→Int→α} (hnt:∀(α:Type) (d:α) (l:List α) (i:Int),nt α d l i=l.getD i.toNat d) {l:List Pc} {i:Nat} (hi:i<l.length):nt Pc default (l.map cl) (i:Int)=cl (nt Pc default l (i:Int)):=by
 rw[hnt,hnt]
 simp[List.getD_eq_getElem?_getD,hi]
theorem Ztn (p:Pc):(cl p).fr=p.fr:=by unfold cl;split<;>rfl
theorem Zr2 (p:Pc):(cl p).ahd=p.ahd:=by unfold cl;split<;>rfl
theorem Ze8:∀(l:List Chg) (fr a:Int),(∀c∈l,c.at_≤43200)→∀i,i<(QD fr a l).length→(((QD fr a l).getD i default).bef=Xd↔i+1=(QD fr a l).length)
 |[],fr,a,_,i,hi=>by
  have e:QD fr a []=[⟨fr,Xd,a⟩]:=rfl
  rw[e]at hi⊢
  have:i=0:=by simpa using hi
  subst this
  simp
 |c::r,fr,a,h,i,hi=>by
  have hc:=h c (List.mem_cons_self ..)
  have ih:=Ze8 r c.at_ (a+c.by_) (fun x hx=>h x (List.mem_cons_of_mem _ hx))
  have hl:=(Zae r c.at_ (a+c.by_)).1
  by_cases hlt:fr<c.at_
  ·have e:QD fr a (c::r)=⟨fr,c.at_,a⟩::QD c.at_ (a+c.by_) r:=if_pos hlt
   rw[e]at hi⊢
   cases i with
   |zero=>
    simp only[List.getD_cons_zero,List.length_cons]
    unfold Xd
    constructor<;>intro h<;>omega
   |succ i=>
    simp only[List.getD_cons_succ,List.length_cons]
    rw[ih i (by simpa using hi)]
    omega
  ·have e:QD fr a (c::r)=QD c.at_ (a+c.by_) r:=if_neg hlt
   rw[e]at hi⊢
   exact ih i hi
theorem ZtE (z:Zone) (r a:Int) (hz:Zt z=0) (hr:-1000000≤r∧r≤1000000) (ha:0≤a∧a<Xd):SC (fun _=>Try.prog) 81 [Ze z,.int .i64 fun _=>r,.int .i64 fun _=>a] [] fun v h=>v= .int .i64 (fun _=>QO (ZP z) r a)∧h=[]:=by
 obtain⟨nt,hnt⟩:=Zr
 have k2:=ZuQ z hz
 obtain⟨k4,k5⟩:=Zdd hz
 have hop:=Ze8 z.chs 0 z.base (fun c hc=>((ZbE hz).2.1 c hc).2.1)
 have hl1:=(Zae z.chs 0 z.base).1
 change∀i,i<(ZP z).length→(((ZP z).getD i default).bef=Xd↔i+1=(ZP z).length)at hop
 change 1≤(ZP z).length at hl1
 unfold Xd at*
 refine Q2 Try.func81 (body:=Zk Try.f81) rfl (by decide+kernel) ?_
 unfold Ze at*
 simp only[Za hnt]at*
 unfold Zne at k2
 generalize ZP z=L at*
 have hLl:(L.map cl).length=L.length:=List.length_map ..
 generalize hW:QO L r a=W at*
 refine wS ?_
 refine ZU (k2) (by first|rfl|(simp only[Ze,Za hnt];rfl)) fun r h₂ hp=>?_
 (try simp only[Ze,Za hnt]at hp)
 obtain⟨rfl,rfl⟩:=hp
 refine wS ?_
 refine ZT false false [] [1,2,7,8] [] (fun(i:Nat)=>[(8,.int .i64 fun _=>(i:Int))]) (fun _=>[]) (fun i=>i<L.length∧QO (L.drop i) r a=W) (fun i=>L.length-i+0) 0 ⟨by omega,by simpa using hW⟩ ?_ ?_
 ·exact ZL
 intro i hpp
 have hi:i<L.length:=hpp.1
 have hp:QO (L.drop i) r a=W:=hpp.2
 clear hpp
 have hq:=k5 _ (QQ (d:=default) hnt (l:=L) (i:=i) hi)
 have hopi:=hop i hi
 have e1:L.getD i default=nt Pc default L (i:Int):=by rw[hnt];rfl
 rw[e1]at hopi
 rw[Qt (d:=default) hnt hi,QO]at hp
 have hcl:=Ztm hnt (l:=L) hi
 generalize nt Pc default L (i:Int)=p at*
 have hah:=Zr2 p
 have hfr:=Ztn p
 have hbe:(cl p).bef=if p.bef=1099511627776 then-1 else p.bef:=by
  unfold cl Xd
  split<;>rfl
 generalize cl p=q at*
 have hmx:(if(if q.fr<a then a else q.fr)<r-q.ahd then r-q.ahd else(if q.fr<a then a else q.fr))=max p.fr (max a (r-p.ahd)):=by
  rw[hfr,hah]
  split<;>split<;>omega
 have hmb:0≤max p.fr (max a (r-p.ahd))∧max p.fr (max a (r-p.ahd))<1099511627776:=by omega
 refine vS ?_
 simp only[hcl]
 refine Chk.mk (Z7) ?_
 simp only[hmx]
 generalize max p.fr (max a (r-p.ahd))=M at*
 refine⟨fun hb2=>?_,fun hb2=>?_⟩
 ·have hc:M<p.bef:=by
   by_cases h:p.bef=1099511627776
   ·omega
   ·rw[if_neg h]at hbe
    rw[hbe,decide_eq_false (by omega)]at hb2
    simpa using hb2
  rw[if_pos hc]at hp
  rw[←hp]
  (cbv;(try simp only[nc]at*);(try refine Chk.mk (Z7) ?_))
  (try first|exact⟨rfl,trivial⟩|exact⟨trivial,trivial⟩)
 ·have hc:¬M<p.bef:=by
   intro h'
   by_cases h:p.bef=1099511627776
   ·rw[if_pos h]at hbe
    rw[hbe]at hb2
    simp at hb2
   ·rw[if_neg h]at hbe
    rw[hbe,decide_eq_false (by omega),decide_eq_true h']at hb2
    cases hb2
  rw[if_neg hc]at hp
  have hi2:i+1<L.length:=by
   rcases Nat.lt_or_ge (i+1) L.length with h|h
   ·exact h
   ·have:=hopi.2 (by omega);omega
  refine wS ?_
  refine⟨i+1,⟨hi2,hp⟩,by show L.length-(i+1)+0<L.length-i+0;omega,?_⟩
  exact ZL
end Go.Proofs.Ytjgpiclllehgmaa.Vm
namespace Go.Proofs.Ytjgpiclllehgmaa.Vm
attribute [local irreducible] Dn
open Go Go.Proofs Sp
set_option maxRecDepth 100000
set_option maxHeartbeats 1600000
theorem Zeu {f:FuncId} {xs ys:List AV} {h:List Zh} {Post Q:AV→List Zh→Prop} {B:Prop} (H:SC (fun _=>Try.prog) f ys [] Q) (k:B) (t:SC (fun _=>Try.prog) f ys [] Q→HdW B→SC (fun _=>Try.prog) f xs h Post:=by intro hH hW;refine ZU hH (by first|rfl|(simp only[Ze,Zc,Za hnt];rfl)) fun r h₂ hp=>?_;(try simp only[Ze,Zc,Za hnt]at hp);obtain⟨rfl,rfl⟩:=hp;exact hW.out):SC (fun _=>Try.prog) f xs h Post:=t H ⟨k⟩
theorem Zjd {α:Type} [Inhabited α] {nt:(α:Type)→α→List α→Int→α} (hnt:∀(α:Type) (d:α) (l:List α) (i:Int),nt α d l i=l.getD i.toNat d) {q:α→Bool} {l:List α} {k:Nat} (hk:k<l.length):(l.take (k+1)).any q=((l.take k).any q||q (nt α default l (k:Int))):=by
 rw[ZaF (d:=default) hnt hk,List.any_append]
 simp
theorem Zi6 {nt:(α:Type)→α→List α→Int→α} (hnt:∀(α:Type) (d:α) (l:List α) (i:Int),nt α d l i=l.getD i.toNat d) (b:XB):Zc b= .agg [.isl 2 (fun _=>(b.zones.length:Int)) (fun e=>encZone (nt Zone default b.zones (e ()))) .none,.isl 3 (fun _=>(b.old.length:Int)) (fun e=>encTrain (nt Train default b.old (e ()))) .none,.isl 3 (fun _=>(b.new.length:Int)) (fun e=>encTrain (nt Train default b.new (e ()))) .none,.int .i64 fun _=>b.night,.int .i64 fun _=>b.last]:=by
 unfold Zc;simp only[Za hnt]
theorem ZuP (b:XB) (l:List Stop) (hz:b.zones.length≤1000000) (hl:l.length≤1000000):SC (fun _=>Try.prog) 90 [Zc b,lst 4 QT default l] [] fun v h=>v= .int .i64 (fun _=>if ZH l.length 2 4≠0 then ZH l.length 2 4 else YE b.zones.length l)∧h=[]:=by
 obtain⟨nt,hnt⟩:=Zr
 generalize hE:(if ZH l.length 2 4≠0 then ZH l.length 2 4 else YE b.zones.length l)=E
 unfold Zc
 simp only[Za hnt]
 refine Q2 Try.func90 (body:=Zk Try.f90) rfl (by decide+kernel) ?_
 refine wS ?_
 refine⟨fun h1=>?_,fun h1=>?_⟩
 ·simp only[decide_eq_true_eq]at h1
  rw[show ZH l.length 2 4=7 by unfold ZH;rw[if_pos (by omega)],if_pos (by decide)]at hE
  subst hE
  (cbv;(try simp only[nc]at*);(try refine Chk.mk (Z7) ?_))
  (try first|exact⟨rfl,trivial⟩|exact⟨trivial,trivial⟩)
 simp only[decide_eq_false_iff_not]at h1
 refine wS ?_
 refine⟨fun h2=>?_,fun h2=>?_⟩
 ·simp only[decide_eq_true_eq]at h2
  rw[show ZH l.length 2 4=6 by unfold ZH;rw[if_neg (by omega),if_pos (by omega)],if_pos (by decide)]at hE
  subst hE
  (cbv;(try simp only[nc]at*);(try refine Chk.mk (Z7) ?_))
  (try first|exact⟨rfl,trivial⟩|exact⟨trivial,trivial⟩)
 simp only[decide_eq_false_iff_not]at h2
 rw[show ZH l.length 2 4=0 by unfold ZH;rw[if_neg (by omega),if_neg (by omega)],if_neg (by decide)]at hE
 refine wS ?_
 refine ZT false false [] [1,2,5] [] (fun(i:Nat)=>[(5,.int .i64 fun _=>(i:Int))]) (fun _=>[]) (fun i=>i≤l.length∧Zp (QV b.zones.length l) i (l.length-i)=E) (fun i=>l.length-i+0) 0 ⟨Nat.zero_le _,by simpa [YE]using hE⟩ ?_ ?_
 ·exact ZL
 rintro i ⟨hi,hp⟩
 refine wS ?_
 refine⟨fun hb=>?_,fun hb=>?_⟩
 ·simp only[decide_eq_true_eq]at hb
  obtain⟨q,hq⟩:∃q,l.length-i=q+1:=⟨l.length-i-1,by omega⟩
  rw[hq,Zp]at hp
  have hsp:QV b.zones.length l i=YR (l.take i) (nt Stop default l i) (decide (0<i)&&decide ((i:Int)<l.length-1)) b.zones.length:=by unfold QV;rw[hnt];rfl
  rw[hsp]at hp
  unfold YR at hp
  refine wS ?_
  generalize nt Stop default l i=s at*
  refine Zeu (c72 s.station 0 9) ?_
  refine vS ?_
  refine⟨fun h3=>?_,fun h3=>?_⟩
  ·simp only[if_pos h3]at hp
   rw[if_pos (by decide)]at hp
   subst hp
   (cbv;(try simp only[nc]at*);(try refine Chk.mk (Z7) ?_))
   (try first|exact⟨rfl,trivial⟩|exact⟨trivial,trivial⟩)
  simp only[if_neg (show¬(!Yx s.station 0 9)=true by rw[h3];exact Bool.false_ne_true)]at hp
  refine wS ?_
  refine Za3 fun Q hQ=>?_
  refine ZT false false [] [1,2,5,6,7] [] (fun(k:Nat)=>[(7,.int .i64 fun _=>(k:Int))]) (fun _=>[]) (fun k=>k≤i∧(l.take k).any (fun x=>decide (x.station=s.station))=false) (fun k=>i-k+0) 0 ⟨Nat.zero_le _,by simp⟩ ?_ ?_
  ·exact ZL
  rintro k ⟨hk,hp2⟩
  refine wS ?_
  refine⟨fun hb=>?_,fun hb=>?_⟩
  ·simp only[decide_eq_true_eq]at hb
   have hkl:k<l.length:=by omega
   have hat:=Zjd hnt (q:=fun x:Stop=>decide (x.station=s.station)) hkl
   rw[hp2,Bool.false_or]at hat
   refine wS ?_
   simp only[ZaU]
   refine⟨fun h4=>?_,fun h4=>?_⟩
   ·rw[h4]at hat
    have:(l.take i).any (fun x=>decide (x.station=s.station))=true:=by
     rw[List.any_eq_true]at hat⊢
     obtain⟨x,hx,h⟩:=hat
     exact⟨x,List.Sublist.subset (List.take_sublist_take_left (by omega)) hx,h⟩
    simp only[if_pos this]at hp
    rw[if_pos (by decide)]at hp
    subst hp
    refine wS ?_
    refine hQ _ _ _ ?_
    (cbv;(try simp only[nc]at*);(try refine Chk.mk (Z7) ?_))
    (try first|exact⟨rfl,trivial⟩|exact⟨trivial,trivial⟩)
   ·rw[h4]at hat
    refine wS ?_
    refine⟨k+1,⟨by omega,hat⟩,by show i-(k+1)+0<i-k+0;omega,?_⟩
    exact ZL
  ·simp only[decide_eq_false_iff_not]at hb
   obtain rfl:k=i:=by omega
   simp only[hp2,Bool.false_eq_true,if_false]at hp
   refine wS ?_
   refine hQ _ _ _ ?_
   clear hQ
   refine wS ?_
   refine Zeu (c72 s.zone 0 ((b.zones.length:Int)-1)) ?_
   refine vS ?_
   refine⟨fun h5=>?_,fun h5=>?_⟩
   ·simp only[if_pos h5]at hp
    rw[if_pos (by decide)]at hp
    subst hp
    (cbv;(try simp only[nc]at*);(try refine Chk.mk (Z7) ?_))
    (try first|exact⟨rfl,trivial⟩|exact⟨trivial,trivial⟩)
   simp only[if_neg (show¬(!Yx s.zone 0 ((b.zones.length:Int)-1))=true by rw[h5];exact Bool.false_ne_true)]at hp
   refine wS ?_
   refine Zeu (c72 s.arrive 0 4319) ?_
   refine wS ?_
   refine⟨fun h6=>?_,fun h6=>?_⟩
   ·have h6:Yx s.arrive 0 4319=true:=by simpa using h6
    refine wS ?_
    refine Zeu (c72 s.depart 0 4319) ?_
    refine wS ?_
    refine⟨fun h7=>?_,fun h7=>?_⟩
    ·have h7:Yx s.depart 0 4319=false:=by simpa [h6]using h7
     simp only[h6,h7,Bool.not_false,Bool.not_true,Bool.false_or,if_true]at hp
     rw[if_pos (by decide)]at hp
     subst hp
     (cbv;(try simp only[nc]at*);(try refine Chk.mk (Z7) ?_))
     (try first|exact⟨rfl,trivial⟩|exact⟨trivial,trivial⟩)
    ·have h7:Yx s.depart 0 4319=true:=by simpa [h6]using h7
     simp only[h6,h7,Bool.not_true,Bool.false_or,Bool.false_eq_true,if_false]at hp
     have he:(decide (0<k)&&decide ((k:Int)<l.length-1)&&decide (s.depart<s.arrive))=(bif bif decide (0<(k:Int))then decide ((k:Int)<(l.length:Int)-1)else false then decide (s.depart<s.arrive)else false):=by
      rw[show decide (0<k)=decide (0<(k:Int))from by rw[Bool.eq_iff_iff];simp]
      cases decide (0<(k:Int))<;>cases decide ((k:Int)<(l.length:Int)-1)<;>rfl
     rw[he]at hp
     refine wS ?_
     refine⟨fun h8=>?_,fun h8=>?_⟩
     ·rw[if_pos h8,if_pos (by decide)]at hp
      subst hp
      (cbv;(try simp only[nc]at*);(try refine Chk.mk (Z7) ?_))
      (try first|exact⟨rfl,trivial⟩|exact⟨trivial,trivial⟩)
     ·simp only[h8,Bool.false_eq_true,if_false,ne_eq,not_true_eq_false]at hp
      refine wS ?_
      refine⟨k+1,⟨by omega,by rw[←hp];congr 1;omega⟩,by show l.length-(k+1)+0<l.length-k+0;omega,?_⟩
      exact ZL
   ·have h6:Yx s.arrive 0 4319=false:=by simpa using h6
    simp only[h6,Bool.not_false,Bool.true_or,if_true]at hp
    rw[if_pos (by decide)]at hp
    subst hp
    refine wS ?_
    refine Br.isT (by rfl) ?_
    (cbv;(try simp only[nc]at*);(try refine Chk.mk (Z7) ?_))
    (try first|exact⟨rfl,trivial⟩|exact⟨trivial,trivial⟩)
 ·simp only[decide_eq_false_iff_not]at hb
  rw[show l.length-i=0 by omega,Zp]at hp
  subst hp
  (cbv;(try simp only[nc]at*);(try refine Chk.mk (Z7) ?_))
  (try first|exact⟨rfl,trivial⟩|exact⟨trivial,trivial⟩)
theorem c71 (b:XB) (l:List Train) (hz:b.zones.length≤1000000) (hl:l.length≤1000000) (hs:∀t∈l,t.stops.length≤1000000):SC (fun _=>Try.prog) 80 [Zc b,lst 3 encTrain default l] [] fun v h=>v= .int .i64 (fun _=>Qd b.zones.length l)∧h=[]:=by
 obtain⟨nt,hnt⟩:=Zr
 unfold Qd
 generalize hE:(if ZH l.length 0 4≠0 then ZH l.length 0 4 else Zp (QF b.zones.length l) 0 l.length)=E
 unfold Zc
 simp only[Za hnt]
 refine Q2 Try.func80 (body:=Zk Try.f80) rfl (by decide+kernel) ?_
 refine wS ?_
 refine⟨fun h2=>?_,fun h2=>?_⟩
 ·simp only[decide_eq_true_eq]at h2
  rw[show ZH l.length 0 4=6 by unfold ZH;rw[if_neg (by omega),if_pos (by omega)],if_pos (by decide)]at hE
  subst hE
  (cbv;(try simp only[nc]at*);(try refine Chk.mk (Z7) ?_))
  (try first|exact⟨rfl,trivial⟩|exact⟨trivial,trivial⟩)
 simp only[decide_eq_false_iff_not]at h2
 rw[show ZH l.length 0 4=0 by unfold ZH;rw[if_neg (by omega),if_neg (by omega)],if_neg (by decide)]at hE
 refine wS ?_
 refine ZT false false [] [1,2,5] [] (fun(i:Nat)=>[(5,.int .i64 fun _=>(i:Int))]) (fun _=>[]) (fun i=>i≤l.length∧Zp (QF b.zones.length l) i (l.length-i)=E) (fun i=>l.length-i+0) 0 ⟨Nat.zero_le _,by simpa using hE⟩ ?_ ?_
 ·exact ZL
 rintro i ⟨hi,hp⟩
 refine wS ?_
 refine⟨fun hb=>?_,fun hb=>?_⟩
 ·simp only[decide_eq_true_eq]at hb
  have hil:i<l.length:=by omega
  obtain⟨q,hq⟩:∃q,l.length-i=q+1:=⟨l.length-i-1,by omega⟩
  rw[hq,Zp]at hp
  have hst:=hs _ (QQ (d:=default) hnt (l:=l) (i:=i) hil)
  have hct:QF b.zones.length l i=if !Yx (nt Train default l i).number 1 999 then 1 else if(l.take i).any (fun x=>decide (x.number=(nt Train default l i).number))then 4 else if !Yx (nt Train default l i).days 1 127 then 1
   else if ZH (nt Train default l i).stops.length 2 4≠0 then ZH (nt Train default l i).stops.length 2 4 else YE b.zones.length (nt Train default l i).stops:=by unfold QF;rw[hnt];rfl
  refine wS ?_
  refine Zeu (c72 (nt Train default l i).number 1 999) ?_
  refine vS ?_
  refine⟨fun h3=>?_,fun h3=>?_⟩
  ·rw[if_pos h3]at hct
   rw[hct,if_pos (by decide)]at hp
   subst hp
   (cbv;(try simp only[nc]at*);(try refine Chk.mk (Z7) ?_))
   (try first|exact⟨rfl,trivial⟩|exact⟨trivial,trivial⟩)
  rw[if_neg (by rw[h3];exact Bool.false_ne_true)]at hct
  refine wS ?_
  refine Za3 fun Q hQ=>?_
  refine ZT false false [] [1,2,5,6] [] (fun(k:Nat)=>[(6,.int .i64 fun _=>(k:Int))]) (fun _=>[]) (fun k=>k≤i∧(l.take k).any (fun x=>decide (x.number=(nt Train default l i).number))=false) (fun k=>i-k+0) 0 ⟨Nat.zero_le _,by simp⟩ ?_ ?_
  ·exact ZL
  rintro k ⟨hk,hp2⟩
  refine wS ?_
  refine⟨fun hb=>?_,fun hb=>?_⟩
  ·simp only[decide_eq_true_eq]at hb
   have hkl:k<l.length:=by omega
   have hat:=Zjd hnt (q:=fun x:Train=>decide (x.number=(nt Train default l i).number)) hkl
   rw[hp2,Bool.false_or]at hat
   refine wS ?_
   simp only[ZaU]
   refine⟨fun h4=>?_,fun h4=>?_⟩
   ·rw[h4]at hat
    have:(l.take i).any (fun x=>decide (x.number=(nt Train default l i).number))=true:=by
     rw[List.any_eq_true]at hat⊢
     obtain⟨x,hx,h⟩:=hat
     exact⟨x,List.Sublist.subset (List.take_sublist_take_left (by omega)) hx,h⟩
    rw[if_pos this]at hct
    rw[hct,if_pos (by decide)]at hp
    subst hp
    refine wS ?_
    refine hQ _ _ _ ?_
    (cbv;(try simp only[nc]at*);(try refine Chk.mk (Z7) ?_))
    (try first|exact⟨rfl,trivial⟩|exact⟨trivial,trivial⟩)
   ·rw[h4]at hat
    refine wS ?_
    refine⟨k+1,⟨by omega,hat⟩,by show i-(k+1)+0<i-k+0;omega,?_⟩
    exact ZL
  ·simp only[decide_eq_false_iff_not]at hb
   obtain rfl:k=i:=by omega
   rw[hp2,if_neg (by exact Bool.false_ne_true)]at hct
   refine wS ?_
   refine hQ _ _ _ ?_
   clear hQ
   refine wS ?_
   refine Zeu (c72 (nt Train default l (k:Int)).days 1 127) ?_
   refine vS ?_
   refine⟨fun h3=>?_,fun h3=>?_⟩
   ·rw[if_pos h3]at hct
    rw[hct,if_pos (by decide)]at hp
    subst hp
    (cbv;(try simp only[nc]at*);(try refine Chk.mk (Z7) ?_))
    (try first|exact⟨rfl,trivial⟩|exact⟨trivial,trivial⟩)
   rw[if_neg (by rw[h3];exact Bool.false_ne_true)]at hct
   refine wS ?_
   have k110:=ZuP b (nt Train default l (k:Int)).stops hz hst
   rw[Zi6 hnt]at k110
   refine ZU k110 rfl fun r h₂ hp=>?_
   obtain⟨rfl,rfl⟩:=hp
   rw[←hct]
   generalize QF b.zones.length l k=e at*
   refine vS ?_
   refine⟨fun h5=>?_,fun h5=>?_⟩
   ·simp only[bne_iff_ne,ne_eq]at h5
    rw[if_pos h5]at hp
    subst hp
    (cbv;(try simp only[nc]at*);(try refine Chk.mk (Z7) ?_))
    (try first|exact⟨rfl,trivial⟩|exact⟨trivial,trivial⟩)
   ·simp only[bne_eq_false_iff_eq]at h5
    rw[if_neg (fun h=>h h5)]at hp
    refine wS ?_
    refine⟨k+1,⟨by omega,by rw[←hp];congr 1;omega⟩,by show l.length-(k+1)+0<l.length-k+0;omega,?_⟩
    exact ZL
 ·simp only[decide_eq_false_iff_not]at hb
  rw[show l.length-i=0 by omega,Zp]at hp
  subst hp
  (cbv;(try simp only[nc]at*);(try refine Chk.mk (Z7) ?_))
  (try first|exact⟨rfl,trivial⟩|exact⟨trivial,trivial⟩)
theorem c25 (b:XB) (hb:Yd b):SC (fun _=>Try.prog) 56 [Zc b] [] fun v h=>v= .int .i64 (fun _=>Yw b)∧h=[]:=by
 obtain⟨nt,hnt⟩:=Zr
 have hz:=hb.zones
 have hc:=hb.chs
 unfold Yw
 generalize hE:(if ZH b.zones.length 1 3≠0 then _ else _:Int)=E
 have k1:=c71 b b.old hz hb.old hb.stops.1
 have k2:=c71 b b.new hz hb.new hb.stops.2
 unfold Zc at k1 k2⊢
 simp only[Za hnt]at k1 k2⊢
 refine Q2 Try.func56 (body:=Zk Try.f56) rfl (by decide+kernel) ?_
 refine wS ?_
 refine⟨fun h1=>?_,fun h1=>?_⟩
 ·have h1:b.zones.length=0:=by simpa using h1
  rw[show ZH b.zones.length 1 3=7 by unfold ZH;rw[if_pos (by omega)],if_pos (by decide)]at hE
  subst hE
  (cbv;(try simp only[nc]at*);(try refine Chk.mk (Z7) ?_))
  (try first|exact⟨rfl,trivial⟩|exact⟨trivial,trivial⟩)
 have h1:¬b.zones.length=0:=by simpa using h1
 refine wS ?_
 refine⟨fun h2=>?_,fun h2=>?_⟩
 ·simp only[decide_eq_true_eq]at h2
  rw[show ZH b.zones.length 1 3=6 by unfold ZH;rw[if_neg (by omega),if_pos (by omega)],if_pos (by decide)]at hE
  subst hE
  (cbv;(try simp only[nc]at*);(try refine Chk.mk (Z7) ?_))
  (try first|exact⟨rfl,trivial⟩|exact⟨trivial,trivial⟩)
 simp only[decide_eq_false_iff_not]at h2
 rw[show ZH b.zones.length 1 3=0 by unfold ZH;rw[if_neg (by omega),if_neg (by omega)],if_neg (by decide)]at hE
 generalize hF:Zp (fun i=>Zt (b.zones.getD i default)) 0 b.zones.length=F at*
 refine wS ?_
 refine Za3 fun Q hQ=>?_
 refine ZT false false [] [1,3] [] (fun(i:Nat)=>[(3,.int .i64 fun _=>(i:Int))]) (fun _=>[]) (fun i=>i≤b.zones.length∧Zp (fun i=>Zt (b.zones.getD i default)) i (b.zones.length-i)=F) (fun i=>b.zones.length-i+0) 0 ⟨Nat.zero_le _,by simpa using hF⟩ ?_ ?_
 ·exact ZL
 rintro i ⟨hi,hp⟩
 refine wS ?_
 refine⟨fun hb=>?_,fun hb=>?_⟩
 ·simp only[decide_eq_true_eq]at hb
  obtain⟨q,hq⟩:∃q,b.zones.length-i=q+1:=⟨b.zones.length-i-1,by omega⟩
  rw[hq,Zp]at hp
  have hch:=hc _ (QQ (d:=default) hnt (l:=b.zones) (i:=i) (by omega))
  have hzn:b.zones.getD i default=nt Zone default b.zones i:=by rw[hnt];rfl
  rw[hzn]at hp
  refine wS ?_
  generalize nt Zone default b.zones i=z at*
  refine Zeu (c70 z hch) ?_
  generalize Zt z=e at*
  refine vS ?_
  refine⟨fun h3=>?_,fun h3=>?_⟩
  ·simp only[bne_iff_ne,ne_eq]at h3
   rw[if_pos h3]at hp
   subst hp
   rw[if_pos h3]at hE
   subst hE
   refine wS ?_
   refine hQ _ _ _ ?_
   (cbv;(try simp only[nc]at*);(try refine Chk.mk (Z7) ?_))
   (try first|exact⟨rfl,trivial⟩|exact⟨trivial,trivial⟩)
  ·simp only[bne_eq_false_iff_eq]at h3
   rw[if_neg (fun h=>h h3)]at hp
   refine wS ?_
   refine⟨i+1,⟨by omega,by rw[←hp];congr 1;omega⟩,by show b.zones.length-(i+1)+0<b.zones.length-i+0;omega,?_⟩
   exact ZL
 simp only[decide_eq_false_iff_not]at hb
 rw[show b.zones.length-i=0 by omega,Zp]at hp
 subst hp
 rw[if_neg (fun h=>h rfl)]at hE
 refine wS ?_
 refine hQ _ _ _ ?_
 clear hQ
 generalize Qd b.zones.length b.old=e1 at*
 generalize Qd b.zones.length b.new=e2 at*
 refine wS ?_
 refine Zeu (k1) ?_
 refine wS ?_
 refine⟨fun h3=>?_,fun h3=>?_⟩
 ·simp only[bne_iff_ne,ne_eq]at h3
  rw[if_pos h3]at hE
  subst hE
  (cbv;(try simp only[nc]at*);(try refine Chk.mk (Z7) ?_))
  (try first|exact⟨rfl,trivial⟩|exact⟨trivial,trivial⟩)
 simp only[bne_eq_false_iff_eq]at h3
 rw[if_neg (fun h=>h h3)]at hE
 refine wS ?_
 refine Zeu (k2) ?_
 refine wS ?_
 refine⟨fun h4=>?_,fun h4=>?_⟩
 ·simp only[bne_iff_ne,ne_eq]at h4
  rw[if_pos h4]at hE
  subst hE
  (cbv;(try simp only[nc]at*);(try refine Chk.mk (Z7) ?_))
  (try first|exact⟨rfl,trivial⟩|exact⟨trivial,trivial⟩)
 simp only[bne_eq_false_iff_eq]at h4
 rw[if_neg (fun h=>h h4)]at hE
 refine wS ?_
 have k67:=c72 b.last 0 13
 rcases hI:Yx b.last 0 13 with _|_
 ·rw[hI]at k67 hE
  simp only[Bool.not_false,Bool.true_or,if_true]at hE
  subst hE
  refine Zeu (k67) ?_
  refine vS ?_
  refine Chk.mk (by simp[Xg,Xe,Xf,Cn.p]) ?_
  refine Br.isF (by rfl) ?_
  refine wS ?_
  refine Br.isT (by rfl) ?_
  (cbv;(try simp only[nc]at*);(try refine Chk.mk (Z7) ?_))
  (try first|exact⟨rfl,trivial⟩|exact⟨trivial,trivial⟩)
 ·have hlast:0≤b.last∧b.last≤13:=by simpa [Yx]using hI
  rw[hI]at k67 hE
  simp only[Bool.not_true,Bool.false_or]at hE
  refine Zeu (k67) ?_
  refine wS ?_
  refine Br.isT (by rfl) ?_
  refine wS ?_
  refine Zeu (c72 b.night 0 (b.last+1)) ?_
  refine wS ?_
  refine⟨fun hb'=>?_,fun hb'=>?_⟩
  ·have hb':Yx b.night 0 (b.last+1)=false:=by simpa using hb'
   rw[if_pos (by simp[hb'])]at hE
   subst hE
   (cbv;(try simp only[nc]at*);(try refine Chk.mk (Z7) ?_))
   (try first|exact⟨rfl,trivial⟩|exact⟨trivial,trivial⟩)
  ·have hb':Yx b.night 0 (b.last+1)=true:=by simpa using hb'
   rw[if_neg (by simp[hb'])]at hE
   subst hE
   (cbv;(try simp only[nc]at*);(try refine Chk.mk (Z7) ?_))
   (try first|exact⟨rfl,trivial⟩|exact⟨trivial,trivial⟩)
end Go.Proofs.Ytjgpiclllehgmaa.Vm
namespace Go.Proofs.Ytjgpiclllehgmaa.Vm
open Go Go.Proofs Sp
set_option maxRecDepth 100000
set_option maxHeartbeats 1600000
end Go.Proofs.Ytjgpiclllehgmaa.Vm
namespace Go.Proofs.Ytjgpiclllehgmaa.Vm
attribute [local irreducible] Dn
open Go Go.Proofs Sp
set_option maxRecDepth 100000
set_option maxHeartbeats 1600000
theorem Zsb {f:FuncId} {xs ys:List AV} {h:List Zh} {Post Q:AV→List Zh→Prop} {B:Prop} (H:SC (fun _=>Try.prog) f ys [] Q) (k:B) (t:SC (fun _=>Try.prog) f ys [] Q→HdW B→SC (fun _=>Try.prog) f xs h Post:=by intro hH hW;refine ZU hH (by first|rfl|(simp only[Ze,Zc,Za hnt];rfl)) fun r h₂ hp=>?_;(try simp only[Ze,Zc,Za hnt]at hp);obtain⟨rfl,rfl⟩:=hp;exact hW.out):SC (fun _=>Try.prog) f xs h Post:=t H ⟨k⟩
theorem ZuI (b:XB) (day:Int):SC (fun _=>Try.prog) 58 [Zc b,.int .i64 fun _=>day] [] fun v h=>v=lst 3 encTrain default (Q8 b day)∧h=[]:=by
 refine Q2 Try.func58 (body:=Zk Try.f58) rfl (by decide+kernel) ?_
 unfold Zc Q8
 refine wS ?_
 refine⟨fun hb=>?_,fun hb=>?_⟩
 ·simp only[decide_eq_true_eq]at hb
  rw[if_pos hb]
  (cbv;(try simp only[nc]at*);(try refine Chk.mk (Z7) ?_))
  (try first|exact⟨rfl,trivial⟩|exact⟨trivial,trivial⟩)
 ·simp only[decide_eq_false_iff_not]at hb
  rw[if_neg hb]
  (cbv;(try simp only[nc]at*);(try refine Chk.mk (Z7) ?_))
  (try first|exact⟨rfl,trivial⟩|exact⟨trivial,trivial⟩)
theorem ZuG (t:Train) (day:Int) (hd:0≤day∧day≤1000000) (ht:0≤t.days∧t.days≤1000000):SC (fun _=>Try.prog) 60 [.agg (encTrain t),.int .i64 fun _=>day] [] fun v h=>v= .bool (fun _=>Zbh t day)∧h=[]:=by
 refine Q2 Try.func60 (body:=Zk Try.f60) rfl (by decide+kernel) ?_
 have e:=(ZqL day 7).1 hd.1
 refine vS ?_
 rw[e]
 refine Chk.mk (Z7) ?_
 refine vS ?_
 refine⟨?_,trivial⟩
 congr 1;funext _
 rw[Nat.min_eq_left (show(day%7).toNat≤IntKind.i64.bits by show _≤64;omega),Int.fdiv_eq_ediv_of_nonneg _ (Int.le_of_lt (Int.pow_pos (by omega)))]
 have hq:0≤t.days/2^(day%7).toNat:=Int.ediv_nonneg ht.1 (Int.le_of_lt (Int.pow_pos (by omega)))
 have hle:t.days/2^(day%7).toNat≤t.days:=Int.ediv_le_self _ ht.1
 unfold Zbh
 generalize t.days/2^(day%7).toNat=q at*
 rw[Zk6 q hq (by omega),ZaU]
theorem ZuH (l:List Train) (n:Int) (hl:l.length≤1000000):SC (fun _=>Try.prog) 59 [lst 3 encTrain default l,.int .i64 fun _=>n] [] fun v h=>v= .int .i64 (fun _=>place l n)∧h=[]:=by
 obtain⟨nt,hnt⟩:=Zr
 unfold place
 generalize hE:Zv (fun t:Train=>decide (t.number=n)) 0 l=E
 rw[Za hnt]
 refine Q2 Try.func59 (body:=Zk Try.f59) rfl (by decide+kernel) ?_
 refine wS ?_
 refine ZT false false [] [0,1,5] [] (fun(i:Nat)=>[(5,.int .i64 fun _=>(i:Int))]) (fun _=>[]) (fun i=>i≤l.length∧Zv (fun t:Train=>decide (t.number=n)) i (l.drop i)=E) (fun i=>l.length-i+0) 0 ⟨Nat.zero_le _,by simpa using hE⟩ ?_ ?_
 ·exact ZL
 rintro i ⟨hi,hp⟩
 refine wS ?_
 refine⟨fun hb=>?_,fun hb=>?_⟩
 ·simp only[decide_eq_true_eq]at hb
  rw[Qt (d:=default) hnt (l:=l) (i:=i) (by omega),Zv]at hp
  refine wS ?_
  simp only[ZaU]
  refine⟨fun h1=>?_,fun h1=>?_⟩
  ·rw[if_pos h1]at hp
   subst hp
   (cbv;(try simp only[nc]at*);(try refine Chk.mk (Z7) ?_))
   (try first|exact⟨rfl,trivial⟩|exact⟨trivial,trivial⟩)
  ·rw[if_neg (by rw[h1];exact Bool.false_ne_true)]at hp
   refine wS ?_
   refine⟨i+1,⟨by omega,by rw[←hp];rfl⟩,by show l.length-(i+1)+0<l.length-i+0;omega,?_⟩
   exact ZL
 ·simp only[decide_eq_false_iff_not]at hb
  rw[List.drop_eq_nil_of_le (by omega),Zv]at hp
  subst hp
  (cbv;(try simp only[nc]at*);(try refine Chk.mk (Z7) ?_))
  (try first|exact⟨rfl,trivial⟩|exact⟨trivial,trivial⟩)
theorem ZhJ:∀(l:List Chg) (fr a r t:Int),(∀p∈QD fr a l,p.fr<Xd∧r-p.ahd<Xd)→t<Xd→QO (QD fr a l) r t<Xd
 |[],fr,a,r,t,h,ht=>by
  have:=h ⟨fr,Xd,a⟩ (by simp[QD])
  simp only[QD,QO]at*
  rw[if_pos (by omega)]
  omega
 |c::l,fr,a,r,t,h,ht=>by
  unfold QD at h⊢
  split
  ·rename_i hc
   rw[if_pos hc]at h
   unfold QO
   split
   ·have:=h ⟨fr,c.at_,a⟩ (List.mem_cons_self ..)
    simp only at this⊢
    omega
   ·exact ZhJ l _ _ _ _ (fun p hp=>h p (List.mem_cons_of_mem _ hp)) ht
  ·rename_i hc
   rw[if_neg hc]at h
   exact ZhJ l _ _ _ _ h ht
theorem ZkY:∀(l:List Pc) (r t:Int),0≤t→0≤QO l r t
 |[],_,_,_=>by unfold QO Xd;omega
 |p::l,r,t,h=>by
  unfold QO
  split
  ·omega
  ·exact ZkY l r t h
theorem ZiM {z:Zone} (hz:Zt z=0) {r t:Int} (hr:r≤1000000) (ht:0≤t∧t<Xd):0≤QO (ZP z) r t∧QO (ZP z) r t<Xd:=by
 refine⟨ZkY _ _ _ ht.1,ZhJ _ _ _ _ _ (fun p hp=>?_) ht.2⟩
 have:=(Zdd hz).2 p hp
 unfold Xd
 omega
theorem ZuF (b:XB) (t:Train) (day:Int) (hb':∀z∈b.zones,Zt z=0) (ht:∀s∈t.stops,(0≤s.zone∧s.zone<b.zones.length)∧(0≤s.arrive∧s.arrive≤10000)∧0≤s.depart∧s.depart≤10000) (hlen:2≤t.stops.length∧t.stops.length≤1000) (hd:0≤day∧day≤100):
  SC (fun _=>Try.prog) 61 [Zc b,.agg (encTrain t),.int .i64 fun _=>day] [] fun v h=>v=lst 3 Xy default (calls b.zones t day)∧h=[]:=by
 obtain⟨nt,hnt⟩:=Zr
 refine SC.less (Zkj false false [] Try.func61 (body:=Zk Try.f61) rfl (by decide+kernel) ?_)
 rw[Zi6 hnt]
 rw[show AV.agg (encTrain t)= .agg [.int .i64 fun _=>t.number,.int .i64 fun _=>t.days,.isl 4 (fun _=>(t.stops.length:Int)) (fun e=>QT (nt Stop default t.stops (e ()))) .none] by unfold encTrain;rw[Za hnt]]
 refine wS ?_
 refine ZT false false [] [2,3,4,7,8,9] [.tok 3 fun _=>0] (fun(⟨i,now,out⟩:Nat×Int×List Sp.Call)=>[(7,.isl 3 (fun _=>(out.length:Int)) (fun e=>Xy (nt Sp.Call default out (e ()))) (.own 2)),(8,.int .i64 fun _=>now),(9,.int .i64 fun _=>(i:Int))])
  (fun⟨i,now,out⟩=>[(2,.tok 3 fun _=>(out.length:Int))])
  (fun⟨i,now,out⟩=>(i≤t.stops.length∧out.length=i∧calls b.zones t day=out++QK b.zones day t.stops.length i now (t.stops.drop i))∧0≤now∧now<Xd) (fun i=>t.stops.length-i.1+0) (0,0,[]) ⟨⟨Nat.zero_le _,rfl,rfl⟩,by decide,by decide⟩ ?_ ?_
 ·(refine To.of [(3,false)] ?_;cbv;(try simp only[nc]);(repeat' (first|exact trivial|exact ZB.refl _|exact ZJ.refl _|refine⟨?_,?_⟩|refine ZJ.cells ?_|refine ZB.agg ?_|refine ZB.tup ?_));(all_goals (first|exact X3|skip)))
 rintro⟨i,now,out⟩ ⟨⟨hi,ho,hp⟩,hn⟩
 have hgz:∀k:Nat,k<t.stops.length→Zt (nt Zone default b.zones (nt Stop default t.stops (k:Int)).zone)=0:=fun k hk=>hb' _ (by
  have:=ht _ (QQ (d:=default) hnt (l:=t.stops) (i:=k) hk)
  rw[hnt,List.getD_eq_getElem?_getD,List.getElem?_eq_getElem (by omega)];exact List.getElem_mem _)
 have hgd:∀z:Int,b.zones.getD z.toNat default=nt Zone default b.zones z:=fun z=>by rw[hnt]
 refine wS ?_
 refine⟨fun hb=>?_,fun hb=>?_⟩
 ·simp only[decide_eq_true_eq]at hb
  have hil:i<t.stops.length:=by omega
  have hs:=ht _ (QQ (d:=default) hnt (l:=t.stops) (i:=i) hil)
  have hz:=hgz i hil
  rw[Qt (d:=default) hnt hil,QK]at hp
  simp only[hgd]at hp
  refine wS ?_
  generalize nt Stop default t.stops (i:Int)=s at*
  generalize hZ:nt Zone default b.zones s.zone=z at*
  have ka:=fun n hn=>ZtE z (1440*day+s.arrive) n hz (by omega) hn
  have kd:=fun n hn=>ZtE z (1440*day+s.depart) n hz (by omega) hn
  have fa:=fun n hn=>ZiM (t:=n) hz (show 1440*day+s.arrive≤1000000 by omega) hn
  have fd:=fun n hn=>ZiM (t:=n) hz (show 1440*day+s.depart≤1000000 by omega) hn
  generalize hL:ZP z=L at*
  rcases Nat.eq_zero_or_pos i with h0|h0
  ·subst h0
   rw[if_pos rfl,if_pos (by omega)]at hp
   refine Br.isF (by simp) ?_
   refine wS ?_
   refine Br.isT (by simp;omega) ?_
   refine vS ?_
   simp only[hZ]
   refine Chk.mk (Z7) ?_
   refine Zsb (kd now hn) ?_
   have fd:=fd now hn
   try dsimp only at hp
   generalize QO L (1440*day+s.depart) now=d at*
   refine wS ?_
   refine Br.isT (by simp) ?_
   refine wS ?_
   refine⟨(1,d,out++[⟨s.station,d,d⟩]),⟨⟨by omega,by simp only[List.length_append,List.length_cons,List.length_nil];omega,by rw[hp];simp⟩,fd⟩,by show t.stops.length-1+0<t.stops.length-0+0;omega,?_⟩
   exact ZL
  ·rw[if_neg (by omega)]at hp
   refine Br.isT (by simp;omega) ?_
   refine vS ?_
   simp only[hZ]
   refine Chk.mk (Z7) ?_
   refine Zsb (ka now hn) ?_
   have fa:=fa now hn
   try dsimp only at hp
   generalize QO L (1440*day+s.arrive) now=a at*
   refine wS ?_
   refine⟨fun h1=>?_,fun h1=>?_⟩
   ·simp only[decide_eq_true_eq]at h1
    rw[if_pos (by omega)]at hp
    refine vS ?_
    simp only[hZ]
    refine Chk.mk (Z7) ?_
    refine Zsb (kd a fa) ?_
    have fd:=fd a fa
    generalize QO L (1440*day+s.depart) a=d at*
    refine wS ?_
    refine Br.isF (by simp;omega) ?_
    refine wS ?_
    refine⟨(i+1,d,out++[⟨s.station,a,d⟩]),⟨⟨by omega,by simp only[List.length_append,List.length_cons,List.length_nil];omega,by rw[hp];simp⟩,fd⟩,by show t.stops.length-(i+1)+0<t.stops.length-i+0;omega,?_⟩
    exact ZL
   ·simp only[decide_eq_false_iff_not]at h1
    rw[if_neg (by omega)]at hp
    refine wS ?_
    refine Br.isF (by simp;omega) ?_
    refine wS ?_
    refine⟨(i+1,a,out++[⟨s.station,a,a⟩]),⟨⟨by omega,by simp only[List.length_append,List.length_cons,List.length_nil];omega,by rw[hp];simp⟩,fa⟩,by show t.stops.length-(i+1)+0<t.stops.length-i+0;omega,?_⟩
    exact ZL
 ·simp only[decide_eq_false_iff_not]at hb
  rw[List.drop_eq_nil_of_le (by omega),QK,List.append_nil]at hp
  rw[hp]
  refine wS ?_
  refine⟨lst 3 Xy default out,[],?_,rfl,rfl⟩
  simp only[Za hnt]
  exact ZL
end Go.Proofs.Ytjgpiclllehgmaa.Vm
namespace Go.Proofs.Ytjgpiclllehgmaa.Vm
attribute [local irreducible] Dn
open Go Go.Proofs Sp
set_option maxRecDepth 100000
set_option maxHeartbeats 1600000
theorem Zl3 {f:FuncId} {xs ys:List AV} {h:List Zh} {Post Q:AV→List Zh→Prop} {B:Prop} (H:SC (fun _=>Try.prog) f ys [] Q) (k:B) (t:SC (fun _=>Try.prog) f ys [] Q→HdW B→SC (fun _=>Try.prog) f xs h Post:=by intro hH hW;refine ZU hH (by first|rfl|(simp only[Ze,Zc,Za hnt];rfl)) fun r h₂ hp=>?_;(try simp only[Ze,Zc,Za hnt]at hp);obtain⟨rfl,rfl⟩:=hp;exact hW.out):SC (fun _=>Try.prog) f xs h Post:=t H ⟨k⟩
theorem Zlt (l:List Train) (n:Int):place l n=-1∨0≤place l n∧place l n<l.length:=by
 have:=XO (q:=fun t:Train=>decide (t.number=n)) (l:=l) (i:=0) (by omega)
 rcases Nat.eq_zero_or_pos l.length with h|h
 ·rw[List.eq_nil_of_length_eq_zero h];exact .inl rfl
 ·unfold place;omega
theorem ZuJ (b:XB) (n day:Int) (hf:Yd b):SC (fun _=>Try.prog) 36 [Zc b,.int .i64 fun _=>n,.int .i64 fun _=>day] [] fun v h=>v= .tup [lst 3 Xy default (Run b n day).1,.int .i64 fun _=>(Run b n day).2]∧h=[]:=by
 obtain⟨nt,hnt⟩:=Zr
 refine SC.less (Q2 Try.func36 (body:=Zk Try.f36) rfl (by decide+kernel) ?_)
 unfold Zc Run
 simp only[Za hnt]
 refine wS ?_
 refine Zl3 (c25 b hf) ?_
 have hok0:=fun h=>ZbV (b:=b) h
 generalize Yw b=e at*
 refine vS ?_
 refine⟨fun hb=>?_,fun hb=>?_⟩
 ·simp only[bne_iff_ne,ne_eq]at hb
  rw[if_pos hb]
  refine wS ?_
  refine⟨_,[],?_,rfl,rfl⟩
  exact ZL
 simp only[bne_eq_false_iff_eq]at hb
 have hok:=hok0 hb
 subst hb
 rw[if_neg (fun h=>h rfl)]
 refine wS ?_
 refine Zl3 (c72 day 0 b.last) ?_
 refine vS ?_
 refine⟨fun hb=>?_,fun hb=>?_⟩
 ·rw[if_pos hb]
  refine wS ?_
  refine⟨_,[],?_,rfl,rfl⟩
  exact ZL
 rw[if_neg (by rw[hb];exact Bool.false_ne_true)]
 have hday:=J0 (by simpa using hb:Yx day 0 b.last=true)
 have hlast:=hok.last
 have htab:=ZeP hok day
 refine wS ?_
 refine Zl3 (ZuI b day) ?_
 have hpl:=Zlt (Q8 b day) n
 generalize Q8 b day=l at*
 refine wS ?_
 refine Zl3 (ZuH l n (by omega)) ?_
 generalize place l n=p at*
 refine vS ?_
 refine⟨fun hb=>?_,fun hb=>?_⟩
 ·simp only[decide_eq_true_eq]at hb
  rw[if_pos hb]
  refine wS ?_
  refine⟨_,[],?_,rfl,rfl⟩
  exact ZL
 simp only[decide_eq_false_iff_not]at hb
 rw[if_neg hb]
 obtain⟨k,rfl⟩:∃k:Nat,p=k:=⟨p.toNat,by omega⟩
 refine wS ?_
 have hTk:=htab.2 _ (QQ (d:=default) hnt (l:=l) (i:=k) (by omega))
 have hgk:l.getD (k:Int).toNat default=nt Train default l k:=by rw[hnt]
 rw[hgk]
 have hdays:=hTk.days
 refine Zl3 (ZuG (nt Train default l k) day (by omega) (by omega)) ?_
 refine vS ?_
 refine⟨fun hb=>?_,fun hb=>?_⟩
 ·rw[if_pos hb]
  refine wS ?_
  refine⟨_,[],?_,rfl,rfl⟩
  exact ZL
 rw[if_neg (by rw[hb];exact Bool.false_ne_true)]
 refine wS ?_
 have hlen:=hTk.len
 refine Zl3 (ZuF b (nt Train default l k) day hok.zones (fun s hs=>by obtain⟨_,h1,h2,h3⟩:=hTk.stops s hs;omega) (by omega) (by omega)) ?_
 generalize calls b.zones (nt Train default l k) day=C at*
 refine wS ?_
 refine⟨_,[],?_,rfl,rfl⟩
 (try simp only[Jm hnt])
 exact ZL
end Go.Proofs.Ytjgpiclllehgmaa.Vm
namespace Go.Proofs.Ytjgpiclllehgmaa.Sp
def QJ (b:XB) (d:ZO):List Call×Bool:=if QY (Run b d.number d.day).1≠0 then([],false)else((Run b d.number d.day).1,decide ((Run b d.number d.day).2=0))
end Go.Proofs.Ytjgpiclllehgmaa.Sp
namespace Go.Proofs.Ytjgpiclllehgmaa.Vm
attribute [local irreducible] Dn
open Go Go.Proofs Sp
set_option maxRecDepth 100000
set_option maxHeartbeats 4000000
theorem Zr7 (b:XB) (d:Sp.ZO) (hf:Yd b):SC (fun _=>Try.prog) 18 [Zc b,.agg (Zi d)] [] fun v h=>v= .tup [lst 3 Xy default (QJ b d).1,.bool fun _=>(QJ b d).2]∧h=[]:=by
 obtain⟨nt,hnt⟩:=Zr
 have k:=ZuJ b d.number d.day hf
 have hlen:=(Zhj b d.number d.day).1
 have hE:QJ b d=if QY (Run b d.number d.day).1≠0 then([],false)else((Run b d.number d.day).1,decide ((Run b d.number d.day).2=0)):=rfl
 generalize QJ b d=E at*
 generalize Run b d.number d.day=r at*
 obtain⟨C,er⟩:=r
 unfold Zc Zi at*
 simp only[Za hnt]at*
 refine SC.less (Q2 Try.func18 (body:=Zk Try.f18) rfl (by decide+kernel) ?_)
 refine wS ?_
 refine ZU (k) (by first|rfl|(simp only[Ze,Zc,Za hnt];rfl)) fun r h₂ hp=>?_
 (try simp only[Ze,Zc,Za hnt]at hp)
 obtain⟨rfl,rfl⟩:=hp
 try dsimp only at hE hlen
 refine wS ?_
 refine Za3 fun Q hQ=>?_
 refine ZT false false [] [6,7,8] [] (fun(j:Nat)=>[(8,.int .i64 fun _=>((j+1:Nat):Int))]) (fun _=>[]) (fun j=>QY C=Zp (Jj C) (j+1) (C.length-(j+1))) (fun j=>C.length-(j+1)+0) 0 rfl ?_ ?_
 ·exact ZL
 rintro j hpk
 refine wS ?_
 refine⟨fun hb=>?_,fun hb=>?_⟩
 ·simp only[decide_eq_true_eq]at hb
  rw[Q7 (by omega)]at hpk
  have hoa:Jj C (j+1)=if(nt Sp.Call default C ((j+1:Nat):Int)).arrive≤(nt Sp.Call default C (((j+1:Nat):Int)-1)).depart then 5 else 0:=by
   unfold Jj
   rw[Jg hnt,Jg hnt,show((j+1-1:Nat):Int)=((j+1:Nat):Int)-1 by omega]
  refine wS ?_
  refine⟨fun hb'=>?_,fun hb'=>?_⟩
  ·simp only[decide_eq_true_eq]at hb'
   rw[if_pos (by omega)]at hoa
   rw[hoa,if_pos (by decide)]at hpk
   rw[if_pos (by rw[hpk];decide)]at hE
   subst hE
   refine wS ?_
   refine hQ _ _ _ ?_
   refine wS ?_
   refine⟨_,[],?_,rfl,rfl⟩
   exact ZL
  ·simp only[decide_eq_false_iff_not]at hb'
   rw[if_neg (by omega)]at hoa
   rw[hoa,if_neg (fun h=>h rfl)]at hpk
   refine wS ?_
   refine⟨j+1,hpk,by show C.length-(j+1+1)+0<C.length-(j+1)+0;omega,?_⟩
   exact ZL
 ·simp only[decide_eq_false_iff_not]at hb
  rw[Xp (by omega)]at hpk
  rw[if_neg (fun h=>h hpk)]at hE
  subst hE
  refine wS ?_
  refine hQ _ _ _ ?_
  refine wS ?_
  refine⟨_,[],?_,rfl,rfl⟩
  exact ZL
theorem Zty (b:XB) (d:Sp.ZO) (hf:Yd b) (hn:(QJ b d).2=false):SC (fun _=>Try.prog) 18 [Zc b,.agg (Zi d)] [] fun v h=>v= .tup [.undef,.bool fun _=>false]∧h=[]:=by
 refine SC.less (SC.mono (Zr7 b d hf) fun r h' hr=>?_)
 obtain⟨rfl,rfl⟩:=hr
 rw[hn]
 generalize (QJ b d).1=C
 refine⟨.tup [.undef,.bool fun _=>false],[],?_,rfl,rfl⟩
 exact ZL
end Go.Proofs.Ytjgpiclllehgmaa.Vm
namespace Go.Proofs.Ytjgpiclllehgmaa.Vm
open Sp
theorem J4 {f:Nat→Int}:∀ {k i:Nat},(∀j,i≤j→j<i+k→f j=0)→Zp f i k=0
 |0,_,_=>rfl
 |k+1,i,h=>by
  unfold Zp
  rw[if_neg (fun hne=>hne (h i (Nat.le_refl _) (by omega)))]
  exact J4 fun j h1 h2=>h j (by omega) (by omega)
theorem Zfw {n a b:Int} (h1:a≤n) (h2:n≤b):Yx n a b=true:=by simp[Yx,h1,h2]
theorem YL {n a b:Int} (h1:a≤n) (h2:n≤b):Qu n a b=false:=by unfold Qu;rw[Zfw h1 h2];rfl
theorem Zoi {n a b:Int} (h1:a≤n) (h2:n≤b):ZH n a b=0:=by
 unfold ZH
 rw[if_neg (by omega),if_neg (by omega)]
theorem Zml {k:Int} {z:Zone} (h:Zow k z) (hk:k≤3):Zt z=0:=by
 have hb:=h.base
 have hl:=h.len
 unfold Zt
 rw[if_neg (by simp[Yx];omega),if_neg (by omega)]
 have key:∀(l:List Chg) (p:Option Int),(∀c∈l,0≤c.at_∧c.at_≤43200∧ZoK c.by_)→l.Pairwise (fun a b=>a.at_<b.at_)→(∀a,p=some a→∀c∈l,a<c.at_)→YQ p l=0:=by
  intro l
  induction l with
  |nil=>intro p _ _ _;exact Zcq p
  |cons c l ih=>
   intro p h1 h2 h3
   obtain⟨b1,b2,b3⟩:=h1 c (List.mem_cons_self ..)
   have hle:leP p c.at_=false:=by
    cases p with
    |none=>rfl
    |some a=>have:=h3 a rfl c (List.mem_cons_self ..);simp[leP];omega
   rw[Yt,if_neg (by simp[Yx];omega),hle]
   unfold ZoK at b3
   have h4:(!Yx c.by_ (-180) 180||decide (c.by_=0))=false:=by
    have g1:Yx c.by_ (-180) 180=true:=by simp[Yx];omega
    have g2:decide (c.by_=0)=false:=by simp;omega
    rw[g1,g2];rfl
   rw[h4]
   simp only[Bool.false_eq_true,if_false]
   rw[List.pairwise_cons]at h2
   exact ih _ (fun x hx=>h1 x (List.mem_cons_of_mem _ hx)) h2.2 fun a e x hx=>by cases e;exact h2.1 x hx
 exact key _ none (fun c hc=>by
  have h1:=h.at_ c hc
  have:0<z.chs.length:=List.length_pos_of_mem hc
  exact⟨h1.1,by omega,h.by_ c hc⟩) h.asc fun a e=>by cases e
theorem Zfv {α:Type} {q:α→Bool} {d:α}:∀ {l:List α} {i:Nat} {k:Int},i<l.length→q (l.getD i d)=true→(∀j,j<i→q (l.getD j d)=false)→Zv q k l=k+i
 |[],i,k,h,_,_=>by simp at h
 |a::l,i,k,h,hi,hj=>by
  unfold Zv
  cases i with
  |zero=>
   rw[show q a=true from hi,if_pos rfl]
   simp
  |succ i=>
   rw[show q a=false from hj 0 (by omega),if_neg Bool.false_ne_true,Zfv (d:=d) (i:=i) (by simpa using h) hi fun j h'=>hj (j+1) (by omega)]
   omega
theorem Zp8 {α:Type} {d:α} {l:List α} {i:Nat} (h:i<l.length):l.getD i d∈l:=by rw[List.getD_eq_getElem?_getD,List.getElem?_eq_getElem h];exact List.getElem_mem _
theorem ZnC {α:Type} {d:α} {r:α→α→Prop} {l:List α} (h:l.Pairwise r) {i j:Nat} (hij:i<j) (hj:j<l.length):r (l.getD i d) (l.getD j d):=by
 have:=List.pairwise_iff_getElem.1 h i j (by omega) hj hij
 rw[List.getD_eq_getElem?_getD,List.getD_eq_getElem?_getD,List.getElem?_eq_getElem (by omega),List.getElem?_eq_getElem hj]
 exact this
structure DL (n:Int) (l:List Train):Prop where
 all:∀(k:Nat),k<l.length→∃st:Nat,2≤st∧st≤10∧Zjn st (n-k) (l.getD k default)
theorem DL.snoc {n:Int} {l:List Train} {t:Train} {st:Nat} (h:DL n l) (h1:2≤st∧st≤10) (ht:Zjn st (n-l.length) t):DL n (l++[t]):=⟨fun k hk=>by
 simp only[List.length_append,List.length_cons,List.length_nil]at hk
 by_cases h2:k<l.length
 ·rw[List.getD_eq_getElem?_getD,List.getElem?_append_left h2,←List.getD_eq_getElem?_getD]
  exact h.all k h2
 ·have hk:k=l.length:=by omega
  subst hk
  have e:(l++[t]).getD l.length default=t:=by simp[List.getD_eq_getElem?_getD]
  rw[e]
  exact⟨st,h1.1,h1.2,ht⟩⟩
def Zo (z:Zone) (old:List Train):XB:=⟨[z],old,[],1,0⟩
theorem Zqq {st:Nat} {number:Int} {t:Train} (hst:st≤10) (h:Zg0 1 st number t):YE 1 t.stops=0:=by
 refine J4 fun j _ hj=>?_
 have hj:j<t.stops.length:=by omega
 obtain⟨h1,h2,h3,h4,h5⟩:=h.stop _ (Zp8 (d:=default) hj)
 unfold QV YR
 rw[Zfw h1.1 (by omega)]
 have hany:(t.stops.take j).any (fun x=>decide (x.station=(t.stops.getD j default).station))=false:=by
  rw[List.any_eq_false]
  intro x hx
  obtain⟨i,hi,rfl⟩:=List.mem_iff_getElem.1 hx
  have hi':i<j:=by simp at hi;omega
  have:=ZnC (d:=default) h.nodup hi' hj
  rw[List.getD_eq_getElem?_getD,List.getElem?_eq_getElem (show i<t.stops.length by omega)]at this
  simpa using this
 rw[hany,Zfw h2.1 (by omega),Zfw h3 (by omega),Zfw (by omega:(0:Int)≤_) h5]
 have hd:decide ((t.stops.getD j default).depart<(t.stops.getD j default).arrive)=false:=decide_eq_false (by omega)
 rw[hd]
 simp
theorem Zee {n:Int} {l:List Train} (h:DL n l) {i:Nat} (hi:i<l.length):(l.getD i default).number=n-i:=by
 obtain⟨st,_,_,ht⟩:=h.all i hi
 exact ht.made.number
theorem ZhQ {z:Zone} {n:Int} {l:List Train} (hz:Zt z=0) (h:DL n l) (hn:n=l.length) (hl:l.length≤4):Yw (Zo z l)=0:=by
 have h1:Qd 1 l=0:=by
  unfold Qd
  rw[Zoi (show(0:Int)≤l.length by omega) (by omega),if_neg (fun h=>h rfl)]
  refine J4 fun j _ hj=>?_
  have hj:j<l.length:=by omega
  obtain⟨st,_,hst,ht⟩:=h.all j hj
  have hlen:=ht.made.len
  unfold QF
  rw[Zfw (by rw[Zee h hj];omega) (by rw[Zee h hj];omega)]
  have hany:(l.take j).any (fun x=>decide (x.number=(l.getD j default).number))=false:=by
   rw[List.any_eq_false]
   intro x hx
   obtain⟨i,hi,rfl⟩:=List.mem_iff_getElem.1 hx
   have hi':i<j:=by simp at hi;omega
   have hx:=Zee h (show i<l.length by omega)
   rw[List.getD_eq_getElem?_getD,List.getElem?_eq_getElem (show i<l.length by omega)]at hx
   rw[Zee h hj,List.getElem_take]
   have hx:l[i].number=n-i:=hx
   rw[hx]
   simp
   omega
  rw[hany,Zfw ht.made.days.1 ht.made.days.2,Zoi (by omega) (by omega)]
  simp only[Bool.not_true,Bool.false_eq_true,if_false,ne_eq,not_true_eq_false]
  exact Zqq hst ht.made
 unfold Yw Zo
 simp only[List.length_cons,List.length_nil]
 rw[show Qd ((0+1:Nat):Int) l=0 from h1]
 rw[J4 (f:=fun i=>Zt ([z].getD i default)) (k:=0+1) (i:=0) (fun j _ hj=>by
  have:j=0:=by omega
  subst this
  exact hz)]
 rfl
theorem ZkJ {z:Zone} {n:Int} {l:List Train} (hc:Yw (Zo z l)=0) (h:DL n l) {j:Nat} (hj:j<l.length):Run (Zo z l) (l.getD j default).number 0=(Sp.calls [z] (l.getD j default) 0,0):=by
 obtain⟨st,_,hst,ht⟩:=h.all j hj
 have hp:place l (l.getD j default).number=j:=by
  unfold place
  rw[Zfv (d:=default) hj (by simp) fun i hi=>by
   rw[Zee h hj,Zee h (show i<l.length by omega)]
   simp
   omega]
  omega
 unfold Run
 rw[if_neg (fun hne=>hne hc)]
 show(if(!Yx 0 0 0)=true then _ else _)=_
 rw[if_neg (by decide)]
 show(if place l (l.getD j default).number<0 then _ else if(!Zbh (l.getD (place l (l.getD j default).number).toNat default) 0)=true then _ else(Sp.calls [z] (l.getD (place l (l.getD j default).number).toNat default) 0,0))=_
 rw[hp,if_neg (by omega),Int.toNat_natCast]
 have:Zbh (l.getD j default) 0=true:=by
  unfold Zbh
  rw[ht.days]
  decide
 rw[this]
 rfl
theorem ZfN (zs:List Zone) (day:Int) (many:Nat):∀(l:List Stop) (i:Nat) (now:Int),(QK zs day many i now l).map (·.station)=l.map (·.station)
 |[],_,_=>rfl
 |s::r,i,now=>by
  unfold QK
  split
  ·simp[ZfN zs day many r]
  ·simp[ZfN zs day many r]
structure Zjk (r:List Sp.Call):Prop where
 len:2≤r.length∧r.length≤4
 st:r.Pairwise fun a b=>a.station≠b.station
 asc:QY r=0
theorem Znq {z:Zone} {st:Nat} {number:Int} {t:Train} (h:Zjn st number t) (ho:QY (Sp.calls [z] t 0)=0):Zjk (Sp.calls [z] t 0):=by
 have hl:(Sp.calls [z] t 0).length=t.stops.length:=YG _ _ _ _ _ _
 refine⟨by rw[hl];exact⟨h.made.len.1,h.made.len.2.1⟩,?_,ho⟩
 have e:(Sp.calls [z] t 0).map (·.station)=t.stops.map (·.station):=ZfN _ _ _ _ _ _
 have h1:(t.stops.map (·.station)).Pairwise (· ≠·):=List.pairwise_map.2 h.made.nodup
 rw[←e]at h1
 exact List.pairwise_map.1 h1
def eAt (many i:Nat) (s:Stop):Sp.Call:=if i=0 then⟨s.station,if i+1<many then s.depart else 0,if i+1<many then s.depart else 0⟩else⟨s.station,s.arrive,if i+1<many then s.depart else s.arrive⟩
def eGo (many:Nat):Nat→List Stop→List Sp.Call
 |_,[]=>[]
 |i,s::r=>eAt many i s::eGo many (i+1) r
theorem ZnX {r now:Int} (h1:0≤r∧r≤10000) (h2:0≤now∧now≤r):QO (ZP ⟨0,[]⟩) r now=r:=by
 show(if max 0 (max now (r-0))<Xd then max 0 (max now (r-0))else Xd)=r
 unfold Xd
 rw[if_pos (by omega)]
 omega
theorem ZnZ {many:Nat}:∀(l:List Stop) (i:Nat) (now:Int),(∀s∈l,s.zone=0∧0≤s.arrive∧s.arrive≤s.depart∧s.depart≤5000)→(∀k,k+1<l.length→(l.getD k default).depart<(l.getD (k+1) default).arrive)→
  (0≤now∧∀s∈l.head?,if i=0 then now=0 else now<s.arrive)→QK [⟨0,[]⟩] 0 many i now l=eGo many i l
 |[],_,_,_,_,_=>rfl
 |s::r,i,now,hs,ha,hn=>by
  obtain⟨z0,a0,a1,a2⟩:=hs s (List.mem_cons_self ..)
  have hn1:=hn.1
  have hn2:=hn.2 s (by simp)
  have hz:([⟨0,[]⟩]:List Zone).getD s.zone.toNat default=⟨0,[]⟩:=by rw[z0];rfl
  have hnext:∀d:Int,0≤d→d≤s.depart→0≤d∧∀s'∈r.head?,if i+1=0 then d=0 else d<s'.arrive:=fun d h1 h2=>⟨h1,fun s' hs'=>by
   rw[if_neg (by omega)]
   cases r with
   |nil=>cases hs'
   |cons x r=>
    have:x=s':=by simpa using hs'
    subst this
    have:=ha 0 (by simp)
    exact Int.lt_of_le_of_lt h2 this⟩
  have har:∀k,k+1<r.length→(r.getD k default).depart<(r.getD (k+1) default).arrive:=fun k hk=>ha (k+1) (by simpa using hk)
  have hsr:∀s∈r,s.zone=0∧0≤s.arrive∧s.arrive≤s.depart∧s.depart≤5000:=fun x hx=>hs x (List.mem_cons_of_mem _ hx)
  unfold QK eGo eAt
  rw[hz]
  by_cases h0:i=0
  ·rw[if_pos h0]at hn2
   subst hn2
   simp only[if_pos h0]
   have e:QO (ZP ⟨0,[]⟩) (1440*0+s.depart) 0=s.depart:=by rw[show(1440:Int)*0+s.depart=s.depart by omega];exact ZnX (by omega) (by omega)
   rw[e]
   rw[ZnZ r (i+1) _ hsr har (hnext _ (by split<;>omega) (by split<;>omega))]
  ·rw[if_neg h0]at hn2
   simp only[if_neg h0]
   have e:QO (ZP ⟨0,[]⟩) (1440*0+s.arrive) now=s.arrive:=by rw[show(1440:Int)*0+s.arrive=s.arrive by omega];exact ZnX (by omega) (by omega)
   have e2:QO (ZP ⟨0,[]⟩) (1440*0+s.depart) s.arrive=s.depart:=by rw[show(1440:Int)*0+s.depart=s.depart by omega];exact ZnX (by omega) (by omega)
   rw[e,e2]
   rw[ZnZ r (i+1) _ hsr har (hnext _ (by split<;>omega) (by split<;>omega))]
theorem ZhO {many:Nat}:∀(l:List Stop) (i k:Nat),k<l.length→(eGo many i l).getD k default=eAt many (i+k) (l.getD k default)
 |[],_,k,h=>by simp at h
 |s::r,i,0,_=>rfl
 |s::r,i,k+1,h=>by
  have:=ZhO (many:=many) r (i+1) k (by simpa using h)
  rw[show i+1+k=i+(k+1) by omega]at this
  exact this
theorem ZjF {st:Nat} {number:Int} {t:Train} (h:Zjn st number t):QY (Sp.calls [⟨0,[]⟩] t 0)=0:=by
 have e:Sp.calls [⟨0,[]⟩] t 0=eGo t.stops.length 0 t.stops:=ZnZ _ _ _ (fun s hs=>by
  have:=h.made.stop s hs
  have:=h.late s hs
  omega) h.asc ⟨Int.le_refl _,fun s hs=>by rw[if_pos rfl]⟩
 have hl:(Sp.calls [⟨0,[]⟩] t 0).length=t.stops.length:=YG _ _ _ _ _ _
 unfold QY
 rw[hl,e]
 refine J4 fun k hk1 hk2=>?_
 have hlen:=h.made.len
 unfold Jj
 rw[ZhO _ _ _ (by omega),ZhO _ _ _ (by omega)]
 have ha:=h.asc (k-1) (by omega)
 rw[show k-1+1=k by omega]at ha
 have hs:=h.made.stop _ (Zp8 (d:=default) (show k-1<t.stops.length by omega))
 have h1:(eAt t.stops.length (0+k) (t.stops.getD k default)).arrive=(t.stops.getD k default).arrive:=by unfold eAt;rw[if_neg (by omega)]
 have h2:(eAt t.stops.length (0+(k-1)) (t.stops.getD (k-1) default)).depart≤(t.stops.getD (k-1) default).depart:=by
  unfold eAt
  split
  ·show(if _ then _ else(0:Int))≤_
   split<;>omega
  ·show(if _ then _ else _)≤_
   split<;>omega
 rw[h1,if_neg (by omega)]
theorem ZkC {r:List Sp.Call} (hp:r.Pairwise fun a b=>a.station≠b.station) {f i:Nat} (hf:f≤i) (hi:i<r.length):ZM r f (r.getD i default).station=i:=by
 unfold ZM
 rw[show(max 0 (f:Int))=f by omega,Int.toNat_natCast]
 have hg:∀j,(r.drop f).getD j default=r.getD (f+j) default:=fun j=>by simp[List.getD_eq_getElem?_getD,List.getElem?_drop]
 rw[Zfv (d:=default) (i:=i-f) (by rw[List.length_drop];omega) (by rw[hg,show f+(i-f)=i by omega];simp) fun j hj=>by
  rw[hg]
  have:=ZnC (d:=default) hp (show f+j<i by omega) hi
  simpa using this]
 omega
theorem Zck {c:List (List Sp.Call)} {f:Int} (h:0≤f∧f<c.length):Sp.Zm c f∈c:=by
 unfold Sp.Zm
 exact Zp8 (by omega)
theorem ZoO {c:List (List Sp.Call)} (hc:∀r∈c,Zjk r) {w:Sp.Qj} {before:List Sp.Qj} {i k:Nat} (hf:0≤w.feeder∧w.feeder<c.length) (ht:0≤w.train∧w.train<c.length) (hne:w.feeder≠w.train) (hi:1≤i∧i<(Sp.Zm c w.feeder).length) (hk:k+1<(Sp.Zm c w.train).length)
  (hs:w.station=((Sp.Zm c w.feeder).getD i default).station) (hs2:((Sp.Zm c w.train).getD k default).station=w.station) (ha:((Sp.Zm c w.feeder).getD i default).arrive≤((Sp.Zm c w.train).getD k default).depart) (hm:0≤w.minutes∧w.minutes≤60)
  (hn:before.any (fun x=>decide (x.feeder=w.feeder∧x.train=w.train∧x.station=w.station))=false):Qo c w before=0:=by
 have h1:ZV (Sp.Zm c w.feeder) w.station=i:=by rw[hs];exact ZkC (hc _ (Zck hf)).st hi.1 hi.2
 have h2:ZM (Sp.Zm c w.train) 0 w.station=k:=by rw[←hs2];exact ZkC (hc _ (Zck ht)).st (Nat.zero_le _) (by omega)
 have h3:ZY (Sp.Zm c w.train) w.station=k:=by unfold ZY;rw[h2,if_pos (by omega)]
 unfold Qo
 rw[YL hf.1 (by omega),YL ht.1 (by omega),if_neg (by decide),if_neg hne]
 show(if ZV (Sp.Zm c w.feeder) w.station<0∨ZY (Sp.Zm c w.train) w.station<0 then(3:Int)else if Qu w.minutes 0 60=true then 1 else if((Sp.Zm c w.train).getD (ZY (Sp.Zm c w.train) w.station).toNat default).depart<((Sp.Zm c w.feeder).getD (ZV (Sp.Zm c w.feeder) w.station).toNat default).arrive then 5 else if before.any _=true then 4 else 0)=0
 rw[h1,h3,if_neg (by omega),YL hm.1 hm.2,if_neg Bool.false_ne_true,Int.toNat_natCast,Int.toNat_natCast,if_neg (by omega),hn,if_neg Bool.false_ne_true]
theorem Zoc {c:List (List Sp.Call)} {d:Sp.ZK} {before:List Sp.ZK} (hr:0≤d.run∧d.run<c.length) (hl:0≤d.leg∧d.leg+2≤(Sp.Zm c d.run).length) (hb:1≤d.by_.length∧d.by_.length≤3) (hv:∀k,k<d.by_.length→0≤d.by_.getD k 0∧d.by_.getD k 0≤240)
  (ha:∀k,k+1<d.by_.length→d.by_.getD k 0<d.by_.getD (k+1) 0) (hn:before.any (fun x=>decide (x.run=d.run∧x.leg=d.leg))=false):Qn c d before=0:=by
 unfold Qn
 rw[YL hr.1 (by omega)]
 show(if(false||Qu d.leg 0 (((Sp.Zm c d.run).length:Int)-2))=true then(3:Int)else _)=0
 rw[YL hl.1 (by omega),if_neg (by decide),if_neg (by omega),if_neg (by omega)]
 have h0:Zp (Zew d.by_) 0 d.by_.length=0:=J4 fun k _ hk=>by
  have hk:k<d.by_.length:=by omega
  unfold Zew
  rw[YL (hv k hk).1 (hv k hk).2,if_neg Bool.false_ne_true,if_neg]
  rintro⟨h1,h2⟩
  have:=ha (k-1) (by omega)
  rw[show k-1+1=k by omega]at this
  omega
 rw[h0,if_neg (fun h=>h rfl),hn,if_neg Bool.false_ne_true]
structure LOk {α:Type} [Inhabited α] (e:α→List α→Int) (l:List α):Prop where
 ok:∀i,i<l.length→e (l.getD i default) (l.take i)=0
theorem LOk.nil {α:Type} [Inhabited α] {e:α→List α→Int}:LOk e []:=⟨fun i h=>by simp at h⟩
theorem LOk.snoc {α:Type} [Inhabited α] {e:α→List α→Int} {l:List α} {a:α} (h:LOk e l) (ha:e a l=0):LOk e (l++[a]):=⟨fun i hi=>by
 simp only[List.length_append,List.length_cons,List.length_nil]at hi
 by_cases h2:i<l.length
 ·rw[List.getD_eq_getElem?_getD,List.getElem?_append_left h2,←List.getD_eq_getElem?_getD,List.take_append_of_le_length (by omega)]
  exact h.ok i h2
 ·have hk:i=l.length:=by omega
  subst hk
  rw[List.take_left]
  have e:(l++[a]).getD l.length default=a:=by simp[List.getD_eq_getElem?_getD]
  rw[e]
  exact ha⟩
theorem Zi7 {t:Zd} (h1:Yw t.book=0) (h2:QH t=0) (h3:t.waits.length≤4) (h4:LOk (Qo (callsOf t)) t.waits) (h5:t.delays.length≤6) (h6:LOk (Qn (callsOf t)) t.delays):Zn t=0:=by
 unfold Zn
 rw[if_neg (fun h=>h h1),if_neg (fun h=>h h2),if_neg (by omega),J4 (fun j _ hj=>h4.ok j (by omega)),if_neg (fun h=>h rfl),if_neg (by omega)]
 exact J4 fun j _ hj=>h6.ok j (by omega)
end Go.Proofs.Ytjgpiclllehgmaa.Vm
namespace Go.Proofs.Ytjgpiclllehgmaa.Sp
open Vm
theorem ZbC {t:Zd} (h:Zn t=0):Sp.Yw t.book=0∧QH t=0∧t.waits.length≤4∧LOk (Qo (callsOf t)) t.waits∧t.delays.length≤6∧LOk (Qn (callsOf t)) t.delays:=by
 unfold Zn at h
 split at h
 ·exact absurd h (by assumption)
 split at h
 ·exact absurd h (by assumption)
 rename_i h0 h1
 split at h
 ·cases h
 split at h
 ·exact absurd h (by assumption)
 rename_i h2 h3
 split at h
 ·cases h
 rename_i h4
 exact⟨Decidable.of_not_not h0,Decidable.of_not_not h1,by omega,⟨fun i hi=>Z3 (Decidable.of_not_not h3) i (Nat.zero_le _) (by omega)⟩,by omega,⟨fun i hi=>Z3 h i (Nat.zero_le _) (by omega)⟩⟩
structure ZqJ (t:Zd) (d:Nat):Prop where
 run:0≤(t.delays.getD d default).run∧(t.delays.getD d default).run<(callsOf t).length
 leg:0≤(t.delays.getD d default).leg∧(t.delays.getD d default).leg+2≤(Zm (callsOf t) (t.delays.getD d default).run).length
 many:1≤(t.delays.getD d default).by_.length∧(t.delays.getD d default).by_.length≤3
 asc:∀k,k+1<(t.delays.getD d default).by_.length→(t.delays.getD d default).by_.getD k 0<(t.delays.getD d default).by_.getD (k+1) 0
 one:∀j,j<d→¬((t.delays.getD j default).run=(t.delays.getD d default).run∧(t.delays.getD j default).leg=(t.delays.getD d default).leg)
theorem ZlZ {t:Zd} (h:Zn t=0):∀d,d<t.delays.length→Qn (callsOf t) (t.delays.getD d default) (t.delays.take d)=0:=by
 unfold Zn at h
 split at h
 ·exact absurd h (by assumption)
 split at h
 ·exact absurd h (by assumption)
 split at h
 ·cases h
 split at h
 ·exact absurd h (by assumption)
 split at h
 ·cases h
 exact fun d hd=>Z3 h d (Nat.zero_le _) (by omega)
theorem Zod {t:Zd} (h:Zn t=0) {d:Nat} (hd:d<t.delays.length):ZqJ t d:=by
 have h5:=ZlZ h d hd
 generalize hD:t.delays.getD d default=D at h5
 unfold Qn at h5
 split at h5
 ·cases h5
 rename_i g1
 split at h5
 ·cases h5
 split at h5
 ·cases h5
 split at h5
 ·exact absurd h5 (by assumption)
 rename_i g2 g3 g4
 split at h5
 ·cases h5
 rename_i g5
 have b1:Qu D.run 0 ((callsOf t).length-1)=false:=by cases hq:Qu D.run 0 ((callsOf t).length-1)with|false=>rfl|true=>exact absurd (by rw[hq];rfl) g1
 have b2:Qu D.leg 0 (((callsOf t).getD D.run.toNat []).length-2)=false:=by cases hq:Qu D.leg 0 (((callsOf t).getD D.run.toNat []).length-2)with|false=>rfl|true=>exact absurd (by rw[hq,Bool.or_true]) g1
 have b1:=QE b1
 have b2:=QE b2
 have hby:=Z3 (Decidable.of_not_not g4)
 refine⟨by rw[hD];omega,by rw[hD];unfold Zm;omega,by rw[hD];omega,fun k hk=>?_,fun j hj hq=>?_⟩
 ·rw[hD]at hk⊢
  have h6:=hby (k+1) (Nat.zero_le _) (by omega)
  unfold Zew at h6
  split at h6
  ·cases h6
  split at h6
  ·cases h6
  rename_i g6
  rw[show k+1-1=k from rfl]at g6
  have:=fun h=>g6 ⟨Nat.succ_pos k,h⟩
  omega
 ·refine g5 ?_
  rw[List.any_eq_true]
  refine⟨t.delays.getD j default,?_,by rw[hD]at hq;exact decide_eq_true hq⟩
  rw[List.mem_iff_getElem?]
  refine⟨j,?_⟩
  rw[List.getElem?_take,if_pos hj,List.getD_eq_getElem?_getD,List.getElem?_eq_getElem (by omega)]
  rfl
theorem Yu (t:Zd):(callsOf t).length=t.runs.length:=by unfold callsOf;rw[List.length_map]
theorem Zg7 {c:List (List Call)} {w:Qj} {p:List Qj} (h5:Qo c w p=0):(0≤w.feeder∧w.feeder<c.length)∧(0≤w.train∧w.train<c.length):=by
 unfold Qo at h5
 split at h5
 ·cases h5
 rename_i g1
 have b1:Qu w.feeder 0 (c.length-1)=false:=by cases hq:Qu w.feeder 0 (c.length-1)with|false=>rfl|true=>exact absurd (by rw[hq];rfl) g1
 have b2:Qu w.train 0 (c.length-1)=false:=by cases hq:Qu w.train 0 (c.length-1)with|false=>rfl|true=>exact absurd (by rw[hq,Bool.or_true]) g1
 have b1:=QE b1
 have b2:=QE b2
 omega
theorem LOk.mem {α:Type} [Inhabited α] {e:α→List α→Int} {l:List α} (h:LOk e l) {a:α} (ha:a∈l):∃p,e a p=0:=by
 obtain⟨i,hi,rfl⟩:=List.mem_iff_getElem.1 ha
 refine⟨l.take i,?_⟩
 have:=h.ok i hi
 rw[List.getD_eq_getElem?_getD,List.getElem?_eq_getElem hi]at this
 exact this
theorem ZfF {t:Zd} (he:Zn t=0):∀d∈t.delays,0≤d.run∧d.run<t.runs.length:=fun d hd=>by
 obtain⟨i,hi,rfl⟩:=List.mem_iff_getElem.1 hd
 have:=(Zod he hi).run
 rw[List.getD_eq_getElem?_getD,List.getElem?_eq_getElem hi,Yu]at this
 exact this
theorem Zgo {t:Zd} (he:Zn t=0):∀w∈t.waits,(0≤w.feeder∧w.feeder<t.runs.length)∧(0≤w.train∧w.train<t.runs.length):=fun w hw=>by
 obtain⟨p,hp⟩:=LOk.mem (ZbC he).2.2.2.1 hw
 have:=Zg7 hp
 rw[Yu]at this
 exact this
end Go.Proofs.Ytjgpiclllehgmaa.Sp
namespace Go.Proofs.Ytjgpiclllehgmaa.Sp
open Vm
theorem Zny:∀ {n:Nat} {f:Nat→Nat},(∀i,i<n→f i<n)→(∀i j,i<n→j<n→f i=f j→i=j)→∀j,j<n→∃i,i<n∧f i=j
 |0,_,_,_,j,hj=>by omega
 |n+1,f,hb,hi,j,hj=>by
  have ih:=Zny (n:=n) (f:=fun i=>if f i=n then f n else f i) (fun i h=>by
   show(if f i=n then f n else f i)<n
   have h1:=hb i (by omega)
   have h2:=hb n (by omega)
   split
   ·have:f n≠n:=fun e=>by have:=hi i n (by omega) (by omega) (by omega);omega
    omega
   ·omega) (fun i k h1 h2 e=>by
   have e:(if f i=n then f n else f i)=if f k=n then f n else f k:=e
   split at e<;>split at e
   ·exact hi i k (by omega) (by omega) (by omega)
   ·have:=hi n k (by omega) (by omega) e;omega
   ·have:=hi i n (by omega) (by omega) e;omega
   ·exact hi i k (by omega) (by omega) e)
  by_cases h1:j=f n
  ·exact⟨n,by omega,h1.symm⟩
  by_cases h2:j<n
  ·obtain⟨i,h3,h4⟩:=ih j h2
   have h4:(if f i=n then f n else f i)=j:=h4
   split at h4
   ·exact absurd h4.symm h1
   ·exact⟨i,by omega,h4⟩
  ·have hm:f n<n:=by have:=hb n (by omega);omega
   obtain⟨i,h3,h4⟩:=ih (f n) hm
   have h4:(if f i=n then f n else f i)=f n:=h4
   split at h4
   ·exact⟨i,by omega,by omega⟩
   ·have:=hi i n (by omega) (by omega) h4;omega
def sg (o:List Int) (r:Int):Int:=o.getD r.toNat 0
def Zem (o:List Int) (w:Qj):Qj:=⟨sg o w.feeder,sg o w.train,w.station,w.minutes⟩
def ZaC (o:List Int) (d:ZK):ZK:=⟨sg o d.run,d.leg,d.by_⟩
def QM (t:Zd) (o:List Int) (R:List ZO):Zd:=⟨t.book,R,t.waits.map (Zem o),t.delays.map (ZaC o)⟩
structure Per (t:Zd) (o:List Int) (R:List ZO):Prop where
 dealt:ZfZ t.runs.length o
 len:R.length=t.runs.length
 at_:∀i,i<t.runs.length→R.getD (o.getD i 0).toNat default=t.runs.getD i default
theorem ZeU {t:Zd} {o:List Int} {R:List ZO} (h:Per t o R) {r:Int} (h0:0≤r) (h1:r<t.runs.length):0≤sg o r∧sg o r<t.runs.length:=by
 have:=h.dealt.bd r.toNat (by omega)
 exact this
theorem Zc8 {t:Zd} {o:List Int} {R:List ZO} (h:Per t o R) {r s:Int} (h0:0≤r) (h1:r<t.runs.length) (h2:0≤s) (h3:s<t.runs.length):sg o r=sg o s↔r=s:=by
 constructor
 ·intro e
  have:=h.dealt.inj r.toNat s.toNat (by omega) (by omega) e
  omega
 ·rintro rfl;rfl
theorem ZkQ {t:Zd} {o:List Int} {R:List ZO} (h:Per t o R):(callsOf (QM t o R)).length=(callsOf t).length:=by
 rw[Yu,Yu];exact h.len
theorem Znp {t:Zd} {r:Nat} (hr:r<t.runs.length):(callsOf t).getD r []=XD t (t.runs.getD r default):=by
 unfold callsOf
 rw[List.getD_eq_getElem?_getD,List.getElem?_map,List.getD_eq_getElem?_getD,List.getElem?_eq_getElem hr]
 rfl
theorem ZcH {t:Zd} {o:List Int} {R:List ZO} (h:Per t o R) {r:Int} (h0:0≤r) (h1:r<t.runs.length):Zm (callsOf (QM t o R)) (sg o r)=Zm (callsOf t) r:=by
 have hb:=ZeU h h0 h1
 unfold Zm
 rw[Znp (t:=QM t o R) (by show(sg o r).toNat<R.length;rw[h.len];omega),Znp (by omega)]
 show XD t (R.getD (sg o r).toNat default)=_
 rw[show R.getD (sg o r).toNat default=_ from h.at_ r.toNat (by omega)]
theorem LOk.map {α β:Type} [Inhabited α] [Inhabited β] {e:α→List α→Int} {e':β→List β→Int} {f:α→β} {l:List α} (h:LOk e l) (hm:∀a∈l,∀p,(∀b∈p,b∈l)→e a p=0→e' (f a) (p.map f)=0):LOk e' (l.map f):=⟨fun i hi=>by
 rw[List.length_map]at hi
 have h1:=h.ok i hi
 rw[List.getD_eq_getElem?_getD,List.getElem?_eq_getElem hi]at h1
 rw[List.getD_eq_getElem?_getD,List.getElem?_map,List.getElem?_eq_getElem hi,←List.map_take]
 exact hm _ (List.getElem_mem hi) _ (fun b hb=>List.mem_of_mem_take hb) h1⟩
theorem J6 {α β:Type} {f:α→β} {q:β→Bool} {p:α→Bool}:∀(l:List α),(∀a∈l,q (f a)=p a)→(l.map f).any q=l.any p
 |[],_=>rfl
 |a::l,h=>by
  rw[List.map_cons,List.any_cons,List.any_cons,h a (List.mem_cons_self ..),J6 l fun b hb=>h b (List.mem_cons_of_mem _ hb)]
theorem ZnA {t:Zd} {o:List Int} {R:List ZO} (h:Per t o R) (hr:QH t=0):QH (QM t o R)=0:=by
 unfold QH at hr⊢
 have hl:(QM t o R).runs.length=t.runs.length:=h.len
 rw[hl]
 split at hr
 ·cases hr
 split at hr
 ·cases hr
 rename_i h0 h4
 rw[if_neg h0,if_neg h4]
 have hall:=Z3 hr
 have hf:∀i,i<t.runs.length→(Run t.book (t.runs.getD i default).number (t.runs.getD i default).day).2=0∧QY (XD t (t.runs.getD i default))=0∧(t.runs.take i).any (fun x=>decide (x=t.runs.getD i default))=false:=fun i hi=>by
  have h3:=hall i (Nat.zero_le _) (by omega)
  unfold JW at h3
  split at h3
  ·exact absurd h3 (by assumption)
  rename_i g1
  split at h3
  ·cases h3
  rename_i g2
  split at h3
  ·cases h3
  rename_i g3
  exact⟨Decidable.of_not_not g1,Decidable.of_not_not g2,Bool.eq_false_iff.2 g3⟩
 have hne:∀i j,i<j→j<t.runs.length→t.runs.getD i default≠t.runs.getD j default:=fun i j hij hj e=>by
  have h3:=(hf j hj).2.2
  rw[List.any_eq_false]at h3
  refine h3 (t.runs.getD i default) ?_ (decide_eq_true e)
  rw[List.mem_iff_getElem?]
  exact⟨i,by rw[List.getElem?_take,if_pos hij,List.getD_eq_getElem?_getD,List.getElem?_eq_getElem (by omega)];rfl⟩
 have hsurj:=Zny (n:=t.runs.length) (f:=fun i=>(o.getD i 0).toNat) (fun i hi=>by have:=h.dealt.bd i hi;show(o.getD i 0).toNat<_;omega) fun i j hi hj e=>by
  have e:(o.getD i 0).toNat=(o.getD j 0).toNat:=e
  have:=h.dealt.bd i hi
  have:=h.dealt.bd j hj
  exact h.dealt.inj i j hi hj (by omega)
 refine J4 fun k _ hk=>?_
 obtain⟨i,hi,hik⟩:=hsurj k (by omega)
 have hik:(o.getD i 0).toNat=k:=hik
 have hat:=h.at_ i hi
 rw[hik]at hat
 have e0:(QM t o R).runs.getD k default=t.runs.getD i default:=hat
 have e1:XD (QM t o R) (t.runs.getD i default)=XD t (t.runs.getD i default):=rfl
 have e2:(QM t o R).book=t.book:=rfl
 have hfi:=hf i hi
 unfold JW
 rw[e0,e1,e2,if_neg (fun hn=>hn hfi.1),if_neg (fun hn=>hn hfi.2.1),if_neg]
 rw[Bool.not_eq_true,List.any_eq_false]
 intro x hx
 obtain⟨q,hq,rfl⟩:=List.mem_iff_getElem.1 hx
 have hq':q<k∧q<R.length:=by rw[List.length_take]at hq;exact⟨by omega,by have:(QM t o R).runs.length=R.length:=rfl;omega⟩
 obtain⟨j,hj,hjq⟩:=hsurj q (by omega)
 have hjq:(o.getD j 0).toNat=q:=hjq
 have hat2:=h.at_ j hj
 rw[hjq]at hat2
 rw[List.getElem_take]
 have e3:(QM t o R).runs[q]'(show q<R.length from hq'.2)=t.runs.getD j default:=by
  rw[←hat2,List.getD_eq_getElem?_getD,List.getElem?_eq_getElem hq'.2]
  rfl
 intro he
 have he:t.runs.getD j default=t.runs.getD i default:=e3.symm.trans (of_decide_eq_true he)
 rcases Nat.lt_trichotomy i j with g|g|g
 ·exact hne i j g hj he.symm
 ·subst g;omega
 ·exact hne j i g hi he
theorem Zgx {t:Zd} {o:List Int} {R:List ZO} (h:Per t o R) (he:Zn t=0):Zn (QM t o R)=0:=by
 obtain⟨h1,h2,h3,h4,h5,h6⟩:=ZbC he
 have hcl:=Yu t
 have hpl:=ZkQ h
 refine Zi7 h1 (ZnA h h2) (by show(t.waits.map _).length≤4;rw[List.length_map];exact h3) (LOk.map h4 fun w hw p hp hz=>?_) (by show(t.delays.map _).length≤6;rw[List.length_map];exact h5) (LOk.map h6 fun d hd p hp hz=>?_)
 ·have hi:=Zg7 hz
  rw[hcl]at hi
  have s1:=ZeU h hi.1.1 hi.1.2
  have s2:=ZeU h hi.2.1 hi.2.2
  have r1:(callsOf (QM t o R)).getD (sg o w.feeder).toNat []=(callsOf t).getD w.feeder.toNat []:=ZcH h hi.1.1 hi.1.2
  have r2:(callsOf (QM t o R)).getD (sg o w.train).toNat []=(callsOf t).getD w.train.toNat []:=ZcH h hi.2.1 hi.2.2
  have ha:(p.map (Zem o)).any (fun x=>decide (x.feeder=sg o w.feeder∧x.train=sg o w.train∧x.station=w.station))=p.any (fun x=>decide (x.feeder=w.feeder∧x.train=w.train∧x.station=w.station)):=J6 p fun b hb=>by
   obtain⟨pb,hpb⟩:=LOk.mem h4 (hp b hb)
   have hbi:=Zg7 hpb
   rw[hcl]at hbi
   rw[decide_eq_decide]
   show sg o b.feeder=_∧sg o b.train=_∧b.station=_↔_
   rw[Zc8 h hbi.1.1 hbi.1.2 hi.1.1 hi.1.2,Zc8 h hbi.2.1 hbi.2.2 hi.2.1 hi.2.2]
  rw[←hz]
  unfold Qo
  show(if(Qu (sg o w.feeder) 0 ((callsOf (QM t o R)).length-1)||Qu (sg o w.train) 0 ((callsOf (QM t o R)).length-1))=true then(3:Int)else if sg o w.feeder=sg o w.train then 4 else if ZV ((callsOf (QM t o R)).getD (sg o w.feeder).toNat []) w.station<0∨ZY ((callsOf (QM t o R)).getD (sg o w.train).toNat []) w.station<0 then 3 else if Qu w.minutes 0 60=true then 1 else if(((callsOf (QM t o R)).getD (sg o w.train).toNat []).getD (ZY ((callsOf (QM t o R)).getD (sg o w.train).toNat []) w.station).toNat default).depart<(((callsOf (QM t o R)).getD (sg o w.feeder).toNat []).getD (ZV ((callsOf (QM t o R)).getD (sg o w.feeder).toNat []) w.station).toNat default).arrive then 5 else if(p.map (Zem o)).any (fun x=>decide (x.feeder=sg o w.feeder∧x.train=sg o w.train∧x.station=w.station))=true then 4 else 0)=_
  rw[r1,r2,ha,hpl,YL s1.1 (by omega),YL s2.1 (by omega),YL hi.1.1 (by omega),YL hi.2.1 (by omega)]
  have hiff:=Zc8 h hi.1.1 hi.1.2 hi.2.1 hi.2.2
  simp only[hiff]
 ·have hi:0≤d.run∧d.run<t.runs.length:=by
   have g1:=hz
   unfold Qn at g1
   split at g1
   ·cases g1
   rename_i g0
   have b1:Qu d.run 0 ((callsOf t).length-1)=false:=by cases hq:Qu d.run 0 ((callsOf t).length-1)with|false=>rfl|true=>exact absurd (by rw[hq];rfl) g0
   have b1:=QE b1
   omega
  have s1:=ZeU h hi.1 hi.2
  have r1:(callsOf (QM t o R)).getD (sg o d.run).toNat []=(callsOf t).getD d.run.toNat []:=ZcH h hi.1 hi.2
  have ha:(p.map (ZaC o)).any (fun x=>decide (x.run=sg o d.run∧x.leg=d.leg))=p.any (fun x=>decide (x.run=d.run∧x.leg=d.leg)):=J6 p fun b hb=>by
   obtain⟨pb,hpb⟩:=LOk.mem h6 (hp b hb)
   have hbi:0≤b.run∧b.run<t.runs.length:=by
    have g1:=hpb
    unfold Qn at g1
    split at g1
    ·cases g1
    rename_i g0
    have b1:Qu b.run 0 ((callsOf t).length-1)=false:=by cases hq:Qu b.run 0 ((callsOf t).length-1)with|false=>rfl|true=>exact absurd (by rw[hq];rfl) g0
    have b1:=QE b1
    omega
   rw[decide_eq_decide]
   show sg o b.run=_∧b.leg=_↔_
   rw[Zc8 h hbi.1 hbi.2 hi.1 hi.2]
  rw[←hz]
  unfold Qn
  show(if(Qu (sg o d.run) 0 ((callsOf (QM t o R)).length-1)||Qu d.leg 0 ((((callsOf (QM t o R)).getD (sg o d.run).toNat []).length:Int)-2))=true then(3:Int)else if d.by_.length=0 then 7 else if 3<d.by_.length then 6 else if Zp (Zew d.by_) 0 d.by_.length≠0 then Zp (Zew d.by_) 0 d.by_.length else if(p.map (ZaC o)).any (fun x=>decide (x.run=sg o d.run∧x.leg=d.leg))=true then 4 else 0)=_
  rw[r1,ha,hpl,YL s1.1 (by omega),YL hi.1 (by omega)]
theorem ZnB {t:Zd} {o:List Int} {R:List ZO} (h:Per t o R) {x:List Int} {r leg:Int} (h0:0≤r) (h1:r<t.runs.length):∀(l:List ZK) (i:Nat),(∀d∈l,0≤d.run∧d.run<t.runs.length)→Zev x (sg o r) leg i (l.map (ZaC o))=Zev x r leg i l
 |[],_,_=>rfl
 |d::l,i,hl=>by
  have hd:=hl d (List.mem_cons_self ..)
  rw[List.map_cons]
  unfold Zev
  have e:((ZaC o d).run=sg o r∧(ZaC o d).leg=leg)↔(d.run=r∧d.leg=leg):=by
   show sg o d.run=sg o r∧d.leg=leg↔_
   rw[Zc8 h hd.1 hd.2 h0 h1]
  rw[ZnB h h0 h1 l (i+1) fun d hd=>hl d (List.mem_cons_of_mem _ hd)]
  simp only[e]
  rfl
theorem Zgw {t:Zd} {o:List Int} {R:List ZO} (h:Per t o R) (he:Zn t=0) (x:List Int):∀(n:Nat) (r a:Int),StopIn (callsOf t) r a→(Zw (callsOf t) r a).depart<n→ZS (QM t o R) x (sg o r) a=ZS t x r a
 |0,r,a,hs,hn=>by have:=(XX he).nn r a hs;omega
 |n+1,r,a,hs,hn=>by
  have hf:=XX he
  have hf':=XX (Zgx h he)
  have hcl:=Yu t
  have hpl:=ZkQ h
  have hrow:∀r:Int,0≤r→r<t.runs.length→Zm (callsOf (QM t o R)) (sg o r)=Zm (callsOf t) r:=fun r h0 h1=>ZcH h h0 h1
  have hcall:∀r a:Int,0≤r→r<t.runs.length→Zw (callsOf (QM t o R)) (sg o r) a=Zw (callsOf t) r a:=fun r a h0 h1=>by unfold Zw;rw[hrow r h0 h1]
  have hby:∀r leg:Int,0≤r→r<t.runs.length→Zgj (QM t o R) x (sg o r) leg=Zgj t x r leg:=fun r leg h0 h1=>ZnB h h0 h1 t.delays 0 (ZfF he)
  have hin:∀ {r a},StopIn (callsOf t) r a→0≤r∧r<t.runs.length:=fun hs=>⟨hs.1,by rw[←hcl];exact hs.2.1⟩
  have hr:=hin hs
  have hb:=ZeU h hr.1 hr.2
  have hs':StopIn (callsOf (QM t o R)) (sg o r) a:=⟨hb.1,by rw[hpl,hcl];exact hb.2,hs.2.2.1,by rw[hrow r hr.1 hr.2];exact hs.2.2.2⟩
  rw[ZcQ hf x hs,ZcQ hf' x hs']
  have hnn:=hf.nn r a hs
  have hc:∀r' a',StopIn (callsOf t) r' a'→0<a'→(Zw (callsOf t) r' a').arrive≤(Zw (callsOf t) r a).depart→QI (QM t o R) x (goes (QM t o R) x) (sg o r') a'=QI t x (goes t x) r' a':=fun r' a' hs1 ha1 hle=>by
   have hr':=hin hs1
   have h1:=hf.asc r' a' hs1 ha1
   unfold QI goes
   rw[hcall r' a' hr'.1 hr'.2,hcall r' (a'-1) hr'.1 hr'.2,hby r' (a'-1) hr'.1 hr'.2,Zgw h he x n r' (a'-1) (hs1.prev ha1) (by omega)]
  have e1:(if 0<a then QI (QM t o R) x (goes (QM t o R) x) (sg o r) a else 0)=(if 0<a then QI t x (goes t x) r a else 0):=by
   split
   ·exact hc r a hs (by assumption) hnn.2.1
   ·rfl
  have e2:∀q,Zce (QM t o R) (QI (QM t o R) x (goes (QM t o R) x)) (sg o r) a q=Zce t (QI t x (goes t x)) r a q:=fun q=>by
   unfold Zce
   rw[hrow r hr.1 hr.2,hcall r a hr.1 hr.2]
   split
   ·rfl
   rename_i hl
   show List.foldl _ q (t.waits.map (Zem o))=_
   rw[List.foldl_map]
   refine JQ _ _ fun w hw b=>?_
   have hwr:=Zgo he w hw
   unfold Zbc
   have hq:((Zem o w).train≠sg o r∨(Zem o w).station≠(Zw (callsOf t) r a).station)↔(w.train≠r∨w.station≠(Zw (callsOf t) r a).station):=by
    show sg o w.train≠sg o r∨w.station≠_↔_
    rw[ne_eq,Zc8 h hwr.2.1 hwr.2.2 hr.1 hr.2]
   simp only[hq]
   split
   ·rfl
   rename_i hq
   have hq1:w.train=r:=Decidable.byContradiction fun he=>hq (.inl he)
   have hq2:w.station=(Zw (callsOf t) r a).station:=Decidable.byContradiction fun he=>hq (.inr he)
   have hw2:=hf.w w hw
   have hcm:=hc _ _ (YP hf hw) (by omega) (by subst hq1;exact hw2.2.2.2.2.2 a hs hl hq2.symm)
   show(if QI _ x _ (sg o w.feeder) (ZV (Zm (callsOf (QM t o R)) (sg o w.feeder)) w.station)≤_+w.minutes then max b (QI _ x _ (sg o w.feeder) (ZV (Zm (callsOf (QM t o R)) (sg o w.feeder)) w.station))else b)=_
   rw[hrow _ hwr.1.1 hwr.1.2,hcm]
  unfold ZaQ ZhI
  rw[e1]
  have e3:∀q,Zcl (callsOf (QM t o R)) (sg o r) a q=Zcl (callsOf t) r a q:=fun q=>by
   unfold Zcl
   rw[hrow r hr.1 hr.2,hcall r a hr.1 hr.2]
  simp only[e2,e3]
theorem Zgv (o:List Int) (l:List ZK) (m:Nat):lenAt (l.map (ZaC o)) m=lenAt l m:=by
 unfold lenAt
 rw[List.getD_eq_getElem?_getD,List.getElem?_map,List.getD_eq_getElem?_getD]
 cases l[m]? <;>rfl
theorem Zit (o:List Int) (l:List ZK):∀m,XE (l.map (ZaC o)) m=XE l m
 |0=>rfl
 |m+1=>by unfold XE;rw[Zit o l m,Zgv]
theorem ZkR (o:List Int) (l:List ZK):∀m n,XA (l.map (ZaC o)) m n=XA l m n
 |0,_=>rfl
 |m+1,n=>by unfold XA;rw[ZkR o l m,Zgv]
theorem Zlu {t:Zd} {o:List Int} {R:List ZO} (h:Per t o R) (he:Zn t=0) {r:Int} (h0:0≤r) (h1:r<t.runs.length):Je (QM t o R) (sg o r)=Je t r∧Za4 (QM t o R) (sg o r)=Za4 t r:=by
 have hm:Z6 (QM t o R)=Z6 t:=by
  unfold Z6
  show XE (t.delays.map (ZaC o)) (t.delays.map (ZaC o)).length=_
  rw[List.length_map,Zit]
 have ht:∀n,Zj (QM t o R) n=Zj t n:=fun n=>by
  unfold Zj
  show XA (t.delays.map (ZaC o)) (t.delays.map (ZaC o)).length n=_
  rw[List.length_map,ZkR]
 have hv:∀k,k/2<(Zm (callsOf t) r).length→∀i,Y1 (QM t o R) (sg o r) k i=Y1 t r k i:=fun k hk i=>by
  have hs:StopIn (callsOf t) r ((k/2:Nat):Int):=⟨h0,by rw[Yu];exact h1,by omega,by omega⟩
  unfold Y1
  rw[ht,Zgw h he _ ((Zw (callsOf t) r ((k/2:Nat):Int)).depart.toNat+1) r _ hs (by omega)]
 have hw:∀k,k/2<(Zm (callsOf t) r).length→∀n,Zcx (Y1 (QM t o R) (sg o r) k) n=Zcx (Y1 t r k) n:=fun k hk n=>by
  have:Y1 (QM t o R) (sg o r) k=Y1 t r k:=funext fun i=>hv k hk i
  rw[this]
 unfold Je Za4
 rw[ZcH h h0 h1]
 constructor
 ·refine List.map_congr_left fun a ha=>?_
  have:=List.mem_range.1 ha
  unfold ZdV
  rw[hm,hw _ (by omega)]
 ·refine List.map_congr_left fun a ha=>?_
  have:=List.mem_range.1 ha
  unfold ZdV
  rw[hm,hw _ (by omega)]
end Go.Proofs.Ytjgpiclllehgmaa.Sp
namespace Go.Proofs.Ytjgpiclllehgmaa.Vm
open Go Go.Proofs Sp
def X8 (r r':List AV):Prop:=r'.length=r.length∧∀(j:Nat) (c':AV),r'[j]? =some c'→∃c,r[j]? =some c∧∀w ok v,PR w ok c v→PR w ok c' v
theorem X8.refl (r:List AV):X8 r r:=⟨rfl,fun j c h=>⟨c,h,fun _ _ _ h=>h⟩⟩
theorem X8.two {a b b':AV} (h:∀w ok v,PR w ok b v→PR w ok b' v):X8 [a,b] [a,b']:=⟨rfl,fun j c hj=>by
 match j with
 |0=>simp only[List.getElem?_cons_zero,Option.some.injEq]at hj;subst hj;exact⟨_,rfl,fun _ _ _ h=>h⟩
 |1=>simp only[List.getElem?_cons_succ,List.getElem?_cons_zero,Option.some.injEq]at hj;subst hj;exact⟨_,rfl,h⟩
 |j+2=>simp at hj⟩
theorem PR.elems {w:World} {ok:Nat→Nat→Nat→Prop} {s:Nat} {m m':Unit→Int} {f f':(Unit→Int)→List AV} {v:Value} (hm:m ()=m' ()) (hf:∀i:Nat,(i:Int)<m ()→X8 (f fun _=>(i:Int)) (f' fun _=>(i:Int))) (hv:PR w ok (.isl s m f .none) v):PR w ok (.isl s m' f' .none) v:=by
 cases hv with
 |isl0 _ _ _ _ hz h1=>exact .isl0 _ _ _ _ (by omega) (fun id e=>by cases e)
 |islE _ _ _ _ a hz h1=>exact .islE _ _ _ _ a (by omega) (.inl rfl)
 |isl _ _ _ _ b o len cap us hn hc h1 he hl h2 h3 h4=>
  refine .isl _ _ _ _ b o len cap us (by omega) hc (.inl rfl) (fun e=>by cases e) (fun i hi=>?_) (fun i j c hi hj=>?_) (fun i j c hi hj=>?_) h4
  ·rw[(hf i (by omega)).1];exact hl i hi
  ·obtain⟨c0,g1,_⟩:=(hf i (by omega)).2 j c hj
   exact h2 i j c0 hi g1
  ·obtain⟨c0,g1,g2⟩:=(hf i (by omega)).2 j c hj
   exact g2 _ _ _ (h3 i j c0 hi g1)
theorem ZB.elemsO {n k s id:Nat} {m m':Unit→Int} {f f':(Unit→Int)→List AV} (hm:m ()=m' ()) (hf:∀i:Nat,(i:Int)<m ()→X8 (f fun _=>(i:Int)) (f' fun _=>(i:Int))):ZB n k (.isl s m f (.own id)) (.isl s m' f' (.own id)):=⟨fun R v _ hv=>by
 cases hv with
 |pure _ _ hp=>
  cases hp with
  |isl0 _ _ _ _ hz h1=>exact absurd rfl (h1 id)
  |islE _ _ _ _ _ _ h1=>rcases h1 with h|h<;>cases h
  |isl _ _ _ _ b o len cap us hn hc h1=>rcases h1 with h|h<;>cases h
 |own _ _ _ id _ h1 h2 h3 h4=>exact .own _ _ _ id v h1 (h2.elems hm hf) (by omega) (fun e=>h4 (by omega))⟩
theorem X8.three {a b c c':AV} (h:∀w ok v,PR w ok c v→PR w ok c' v):X8 [a,b,c] [a,b,c']:=⟨rfl,fun j d hj=>by
 match j with
 |0=>simp only[List.getElem?_cons_zero,Option.some.injEq]at hj;subst hj;exact⟨_,rfl,fun _ _ _ h=>h⟩
 |1=>simp only[List.getElem?_cons_succ,List.getElem?_cons_zero,Option.some.injEq]at hj;subst hj;exact⟨_,rfl,fun _ _ _ h=>h⟩
 |2=>simp only[List.getElem?_cons_succ,List.getElem?_cons_zero,Option.some.injEq]at hj;subst hj;exact⟨_,rfl,h⟩
 |j+3=>simp at hj⟩
theorem ZB.snocO {nt:(α:Type)→α→List α→Int→α} (hnt:∀(α:Type) (d:α) (l:List α) (i:Int),nt α d l i=l.getD i.toNat d) {α:Type} {n k s id:Nat} {enc:α→List AV} {d x:α} {l:List α} {n0 m m':Unit→Int} {g:(Unit→Int)→List AV} (h0:n0 ()=(l.length:Int)) (hm:m ()=(l.length:Int)+1) (hm':m' ()=(l.length:Int)+1) (hg:X8 (g (fun _=>0)) (enc x)):
  ZB n k (.isl s m (Qy n0 (fun e=>enc (nt α d l (e ()))) g) (.own id)) (.isl s m' (fun e=>enc (nt α d (l++[x]) (e ()))) (.own id)):=.elemsO (by omega) fun i hi=>by
 have hi:i<l.length+1:=by omega
 by_cases h:i<l.length
 ·rw[Xb h0 h]
  simp only[hnt,Int.toNat_natCast,List.getD_eq_getElem?_getD,List.getElem?_append_left h]
  exact .refl _
 ·obtain rfl:i=l.length:=by omega
  rw[QW h0 (Nat.le_refl _)]
  simpa [hnt]using hg
theorem Zp4 {w:World} {ok:Nat→Nat→Nat→Prop} {s:Nat} {m m' n0:Unit→Int} {f0 f f':(Unit→Int)→List AV} {v:Value} (h0:n0 ()=0) (hm:m ()=m' ()) (hf:∀i:Nat,(i:Int)<m ()→f (fun _=>(i:Int))=f' (fun _=>(i:Int))) (h:PR w ok (.isl s m (Qy n0 f0 f) .none) v):PR w ok (.isl s m' f' .none) v:=
 h.elems hm fun i hi=>by
  rw[QW (len:=0) h0 (Nat.zero_le _),Nat.sub_zero,←hf i hi]
  exact .refl _
theorem ZB.elems {n k s:Nat} {m m':Unit→Int} {f f':(Unit→Int)→List AV} {tk:Tk} (hm:m ()=m' ()) (hf:∀i:Nat,(i:Int)<m ()→X8 (f fun _=>(i:Int)) (f' fun _=>(i:Int))):ZB n k (.isl s m f tk) (.isl s m' f' .none):=⟨fun R v _ hv=>.pure _ _ (hv.isl_inv.elems hm hf)⟩
theorem Zj0 {nt:(α:Type)→α→List α→Int→α} (hnt:∀(α:Type) (d:α) (l:List α) (i:Int),nt α d l i=l.getD i.toNat d) {α:Type} {n k sz:Nat} (enc:α→List AV) (d:α) (l:List α) (rows:List (List AV)) (hl:rows.length=l.length) (hr:∀i,i<l.length→X8 (rows.getD i (rows.headD [])) (enc (l.getD i d))):
  ZB n k (.isl sz (fun _=>(rows.length:Int)) (fun e=>rows.getD (e ()).toNat (rows.headD [])) .exact) (.isl sz (fun _=>(l.length:Int)) (fun e=>enc (nt α d l (e ()))) .none):=
 .elems (by simp[hl]) fun i hi=>by
  have hi:i<l.length:=by have:(i:Int)<(rows.length:Int):=hi;omega
  simp only[hnt,Int.toNat_natCast]
  exact hr i hi
end Go.Proofs.Ytjgpiclllehgmaa.Vm
namespace Go.Proofs.Ytjgpiclllehgmaa.Vm
attribute [local irreducible] Dn
open Go Go.Proofs Sp
set_option maxRecDepth 100000
set_option maxHeartbeats 1600000
theorem Zsc {f:FuncId} {xs ys:List AV} {h:List Zh} {Post Q:AV→List Zh→Prop} {B:Prop} (H:SC (fun _=>Try.prog) f ys [] Q) (k:B) (t:SC (fun _=>Try.prog) f ys [] Q→HdW B→SC (fun _=>Try.prog) f xs h Post:=by intro hH hW;refine ZU hH (by first|rfl|(simp only[Ze,Zc,Za hnt];rfl)) fun r h₂ hp=>?_;(try simp only[Ze,Zc,Za hnt]at hp);obtain⟨rfl,rfl⟩:=hp;exact hW.out):SC (fun _=>Try.prog) f xs h Post:=t H ⟨k⟩
theorem ZuE (z:Zone) (hlen:z.chs.length≤1000000):SC (fun _=>Try.prog) 54 [Ze z] [] fun v h=>v=Ze z∧h=[]:=by
 obtain⟨nt,hnt⟩:=Zr
 refine SC.less (Zkj false false [] Try.func54 (body:=Zk Try.f54) rfl (by decide+kernel) ?_)
 unfold Ze
 simp only[Za hnt,Jm hnt]
 refine wS ?_
 refine⟨_,_,?_,rfl,rfl⟩
 refine toR ?_
 ·refine .isl (by simp) fun i hi=>?_
  show(if((i:Nat):Int)<(([]:List Chg).length:Int)then _ else _)=_
  rw[if_neg (by simp)]
  simp
theorem c69 (l:List Train) (hl:l.length≤1000000) (hs:∀t∈l,t.stops.length≤1000000):SC (fun _=>Try.prog) 55 [lst 3 encTrain default l] [] fun v h=>v=lst 3 encTrain default l∧h=[]:=by
 obtain⟨nt,hnt⟩:=Zr
 refine SC.less (Zkj false false [] Try.func55 (body:=Zk Try.f55) rfl (by decide+kernel) ?_)
 simp only[Za hnt]
 refine wS ?_
 refine ZT false false [] [0,3,4] [.tok 3 fun _=>0] (fun(i:Nat)=>[(3,.isl 3 (fun _=>((l.take i).length:Int)) (fun e=>encTrain (nt Train default (l.take i) (e ()))) (.own 0)),(4,.int .i64 fun _=>(i:Int))])
  (fun i=>[(0,.tok 3 fun _=>((l.take i).length:Int))]) (fun i=>i≤l.length) (fun i=>l.length-i+0) 0 (Nat.zero_le _) ?_ ?_
 ·(refine To.of [(3,false)] ?_;cbv;(try simp only[nc]);(repeat' (first|exact trivial|exact ZB.refl _|exact ZJ.refl _|refine⟨?_,?_⟩|refine ZJ.cells ?_|refine ZB.agg ?_|refine ZB.tup ?_));(all_goals (first|exact X3|skip)))
 intro i hi
 refine wS ?_
 refine⟨fun hb=>?_,fun hb=>?_⟩
 ·simp only[decide_eq_true_eq]at hb
  have hst:=hs _ (QQ (d:=default) hnt (l:=l) (i:=i) (by omega))
  have htk:=ZaF (d:=default) hnt (l:=l) (i:=i) (by omega)
  have hti:(l.take i).length=i:=by rw[List.length_take];omega
  refine vS ?_
  generalize nt Train default l (i:Int)=t at*
  have hul:(t.stops.length:Int)≤1000000:=by omega
  have hul0:((0:Nat):Int)+(t.stops.length:Int)≤1000000:=by omega
  refine Chk.mk (Z7) ?_
  refine⟨i+1,by omega,by omega,?_⟩
  rw[htk]
  refine toR ?_
  ·refine .snocO hnt rfl rfl (by simp) (.three fun w ok v h=>?_)
   rw[Za hnt]
   exact Zp4 rfl (by simp) (fun j hj=>by rw[Jm hnt];rfl) h
 ·obtain rfl:i=l.length:=by simp only[decide_eq_false_iff_not]at hb;omega
  rw[List.take_length]
  refine wS ?_
  refine⟨_,[],?_,rfl,rfl⟩
  exact ZL
theorem c23 (b:XB) (hf:Yd b):SC (fun _=>Try.prog) 33 [Zc b] [] fun v h=>v=Zc b∧h=[]:=by
 obtain⟨nt,hnt⟩:=Zr
 have k1:=c69 b.old hf.old hf.stops.1
 have k2:=c69 b.new hf.new hf.stops.2
 have hz:=hf.zones
 have hc:=hf.chs
 refine SC.less (Zkj false false [] Try.func33 (body:=Zk Try.f33) rfl (by decide+kernel) ?_)
 unfold Zc at*
 simp only[Za hnt]at*
 refine wS ?_
 refine ZT false false [] [1,2,3,4] [.tok 2 fun _=>0] (fun(i:Nat)=>[(4,.int .i64 fun _=>(i:Int))])
  (fun i=>[(0,.cells [.isl 2 (fun _=>((b.zones.take i).length:Int)) (fun e=>encZone (nt Zone default (b.zones.take i) (e ()))) (.own 2),.isl 3 (fun _=>(b.old.length:Int)) (fun e=>encTrain (nt Train default b.old (e ()))) .none,.isl 3 (fun _=>(b.new.length:Int)) (fun e=>encTrain (nt Train default b.new (e ()))) .none,.int .i64 fun _=>b.night,.int .i64 fun _=>b.last]),(2,.tok 2 fun _=>((b.zones.take i).length:Int))]) (fun i=>i≤b.zones.length) (fun i=>b.zones.length-i+0) 0 (Nat.zero_le _) ?_ ?_
 ·(refine To.of [(2,false)] ?_;cbv;(try simp only[nc]);(repeat' (first|exact trivial|exact ZB.refl _|exact ZJ.refl _|refine⟨?_,?_⟩|refine ZJ.cells ?_|refine ZB.agg ?_|refine ZB.tup ?_));(all_goals (first|exact X3|skip)))
 intro i hi
 refine wS ?_
 refine⟨fun hb=>?_,fun hb=>?_⟩
 ·simp only[decide_eq_true_eq]at hb
  have hch:=hc _ (QQ (d:=default) hnt (l:=b.zones) (i:=i) (by omega))
  have htk:=ZaF (d:=default) hnt (l:=b.zones) (i:=i) (by omega)
  have hti:(b.zones.take i).length=i:=by rw[List.length_take];omega
  refine vS ?_
  generalize nt Zone default b.zones (i:Int)=z at*
  refine Chk.mk (Z7) ?_
  refine Zsc (ZuE z hch) ?_
  refine wS ?_
  refine⟨i+1,by omega,by omega,?_⟩
  rw[htk]
  exact ZL
 ·obtain rfl:i=b.zones.length:=by simp only[decide_eq_false_iff_not]at hb;omega
  rw[List.take_length]
  refine wS ?_
  refine Zsc (k1) ?_
  refine wS ?_
  refine Zsc (k2) ?_
  refine wS ?_
  refine⟨_,[],?_,rfl,rfl⟩
  exact ZL
theorem Zut (l:List Int) (hl:l.length≤1000000):SC (fun _=>Try.prog) 34 [lst 1 XV 0 l] [] fun v h=>v=lst 1 XV 0 l∧h=[]:=by
 obtain⟨nt,hnt⟩:=Zr
 refine SC.less (Zkj false false [] Try.func34 (body:=Zk Try.f34) rfl (by decide+kernel) ?_)
 simp only[Za hnt]
 refine wS ?_
 refine⟨_,_,?_,rfl,rfl⟩
 refine toR ?_
 ·refine .isl (by simp) fun i hi=>?_
  show(if((i:Nat):Int)<(([]:List Int).length:Int)then _ else _)=_
  rw[if_neg (by simp)]
  simp
end Go.Proofs.Ytjgpiclllehgmaa.Vm
namespace Go.Proofs.Ytjgpiclllehgmaa.Vm
attribute [local irreducible] Dn
open Go Go.Proofs Sp
set_option maxRecDepth 100000
set_option maxHeartbeats 4000000
theorem ZuB {nt:(α:Type)→α→List α→Int→α} (hnt:∀(α:Type) (d:α) (l:List α) (i:Int),nt α d l i=l.getD i.toNat d) (t:Zd) (hf:Xz t):SC (fun _=>Try.prog) 11 [Zg t] [] fun v h=>
  v= .agg [lst 2 encZone default t.book.zones,lst 3 encTrain default t.book.old,lst 3 encTrain default t.book.new,.int .i64 fun _=>t.book.night,.int .i64 fun _=>t.book.last,.gsl 0 (fun _=>(t.runs.length:Int)),.gsl 1 (fun _=>(t.waits.length:Int)),.gsl 2 (fun _=>(t.delays.length:Int))]∧
  h=[.gar 2 (fun _=>(t.runs.length:Int)) (fun e=>Zi (nt Sp.ZO default t.runs (e ()))),.gar 4 (fun _=>(t.waits.length:Int)) (fun e=>Qp (nt Sp.Qj default t.waits (e ()))),.gar 3 (fun _=>(t.delays.length:Int)) (fun e=>Zx (nt Sp.ZK default t.delays (e ())))]:=by
 have k23:=c23 t.book hf.book
 have hb:=hf.bys
 have hrl:=hf.runs
 have hwl:=hf.waits
 have hdl:=hf.delays
 refine SC.less (Zt7 false [] [2,3,4] Try.func11 (body:=Zk Try.f11) rfl (by decide+kernel) ?_)
 unfold Zg Zc at*
 simp only[Za hnt]at*
 refine wS ?_
 refine ZU (k23) (by first|rfl|(simp only[Ze,Zc,Zg,Zb,Zi,Za hnt];rfl)) fun r h₂ hp=>?_
 (try simp only[Ze,Zc,Zg,Zb,Zi,Za hnt]at hp)
 obtain⟨rfl,rfl⟩:=hp
 refine wS ?_
 refine ZT true false [] [1,2,3,4] [.gar 3 (fun _=>0) (fun e=>Zx (nt Sp.ZK default [] (e ())))] (fun(i:Nat)=>[(4,.int .i64 fun _=>(i:Int))])
  (fun i=>[(0,.cells [.isl 2 (fun _=>(t.book.zones.length:Int)) (fun e=>encZone (nt Zone default t.book.zones (e ()))) .none,.isl 3 (fun _=>(t.book.old.length:Int)) (fun e=>encTrain (nt Train default t.book.old (e ()))) .none,.isl 3 (fun _=>(t.book.new.length:Int)) (fun e=>encTrain (nt Train default t.book.new (e ()))) .none,.int .i64 fun _=>t.book.night,.int .i64 fun _=>t.book.last,.gsl 2 (fun _=>(t.runs.length:Int)),.gsl 3 (fun _=>(t.waits.length:Int)),.gsl 4 (fun _=>((t.delays.take i).length:Int))]),(2,.gar 2 (fun _=>(t.runs.length:Int)) (fun e=>Zi (nt Sp.ZO default t.runs (e ())))),(3,.gar 4 (fun _=>(t.waits.length:Int)) (fun e=>Qp (nt Sp.Qj default t.waits (e ())))),(4,.gar 3 (fun _=>((t.delays.take i).length:Int)) (fun e=>Zx (nt Sp.ZK default (t.delays.take i) (e ()))))])
  (fun i=>i≤t.delays.length) (fun i=>t.delays.length-i+0) 0 (Nat.zero_le _) ?_ ?_
 ·(refine To.of [(3,true)] ?_;cbv;(try simp only[nc]);(repeat' (first|exact trivial|exact ZB.refl _|exact ZJ.refl _|refine⟨?_,?_⟩|refine ZJ.cells ?_|refine ZB.agg ?_|refine ZB.tup ?_));(all_goals (first|exact X3|skip)))
  ·exact .gar (by simp) fun i hi=>by rw[QW (len:=0) rfl (Nat.zero_le _)];rfl
  ·exact .gar (by simp) fun i hi=>by rw[QW (len:=0) rfl (Nat.zero_le _)];rfl
  ·exact .gar rfl (fun i hi=>absurd hi (by show¬((i:Int)<0);omega))
 intro i hi
 have hi:i≤t.delays.length:=hi
 refine wS ?_
 refine⟨fun h1=>?_,fun h1=>?_⟩
 ·simp only[decide_eq_true_eq]at h1
  have hby:=hb _ (QQ (d:=default) hnt (l:=t.delays) (i:=i) (by omega))
  have htk:=ZaF (d:=default) hnt (l:=t.delays) (i:=i) (by omega)
  have hti:(t.delays.take i).length=i:=by rw[List.length_take];omega
  refine wS ?_
  have k378:=Zut (nt Sp.ZK default t.delays (i:Int)).by_ hby
  refine ZU (k378) (by first|rfl|(simp only[Ze,Zc,Zg,Zb,Zi,Za hnt];rfl)) fun r h₂ hp=>?_
  (try simp only[Ze,Zc,Zg,Zb,Zi,Za hnt]at hp)
  obtain⟨rfl,rfl⟩:=hp
  refine wS ?_
  refine⟨i+1,by show i+1≤_;omega,by show t.delays.length-(i+1)+0<t.delays.length-i+0;omega,?_⟩
  rw[htk]
  refine toR ?_
  exact .snoc hnt rfl (by simp) (by unfold Zx;rw[Za hnt];rfl)
 ·obtain rfl:i=t.delays.length:=by simp only[decide_eq_false_iff_not]at h1;omega
  rw[List.take_length]
  refine wS ?_
  refine⟨_,_,?_,rfl,rfl⟩
  exact ZL
end Go.Proofs.Ytjgpiclllehgmaa.Vm
namespace Go.Proofs.Ytjgpiclllehgmaa.Vm
open Sp
def Qq (b:XB) (j:Nat):Sp.ZO:=⟨(b.old.getD j default).number,0⟩
structure RL (b:XB) (i:Nat) (runs:List Sp.ZO) (rows:List (List Sp.Call)):Prop where
 len:rows.length=runs.length
 le:runs.length≤i
 row:∀k,k<runs.length→∃j,j<i∧j<b.old.length∧runs.getD k default=Qq b j∧QJ b (Qq b j)=(rows.getD k [],true)
 pw:runs.Pairwise fun a c=>a≠c
 some:∀j,j<i→(QJ b (Qq b j)).2=true→0<runs.length
theorem RL.nil {b:XB}:RL b 0 [] []:=⟨rfl,Nat.le_refl _,fun k h=>by simp at h,.nil,fun j h=>by omega⟩
theorem RL.skip {b:XB} {i:Nat} {runs:List Sp.ZO} {rows:List (List Sp.Call)} (h:RL b i runs rows) (hc:(QJ b (Qq b i)).2=false):RL b (i+1) runs rows:=
 ⟨h.len,by have:=h.le;omega,fun k hk=>by
  obtain⟨j,h1,h2⟩:=h.row k hk
  exact⟨j,by omega,h2⟩,h.pw,fun j hj hs=>by
  by_cases e:j=i
  ·subst e;rw[hc]at hs;cases hs
  ·exact h.some j (by omega) hs⟩
theorem Zdr {α:Type} {d:α} {l:List α} {a:α} {k:Nat} (h:k<l.length):(l++[a]).getD k d=l.getD k d:=by rw[List.getD_eq_getElem?_getD,List.getElem?_append_left h,←List.getD_eq_getElem?_getD]
theorem Zds {α:Type} {d:α} {l:List α} {a:α}:(l++[a]).getD l.length d=a:=by simp[List.getD_eq_getElem?_getD]
theorem RL.snoc {b:XB} {n:Int} {i:Nat} {runs:List Sp.ZO} {rows:List (List Sp.Call)} {C:List Sp.Call} (hd:DL n b.old) (h:RL b i runs rows) (hi:i<b.old.length) (hc:QJ b (Qq b i)=(C,true)):RL b (i+1) (runs++[Qq b i]) (rows++[C]):=by
 have hl:=h.len
 refine⟨by simp[hl],by have:=h.le;simp;omega,fun k hk=>?_,?_,fun j hj hs=>by simp⟩
 ·simp only[List.length_append,List.length_cons,List.length_nil]at hk
  by_cases hk2:k<runs.length
  ·obtain⟨j,h1,h2,h3,h4⟩:=h.row k hk2
   exact⟨j,by omega,h2,by rw[Zdr hk2];exact h3,by rw[Zdr (by omega)];exact h4⟩
  ·have hk3:k=runs.length:=by omega
   subst hk3
   refine⟨i,by omega,hi,Zds,?_⟩
   rw[←hl,Zds]
   exact hc
 ·refine List.pairwise_append.2 ⟨h.pw,List.pairwise_singleton _ _,fun c hc e he=>?_⟩
  simp only[List.mem_singleton]at he
  subst he
  obtain⟨k,hk,rfl⟩:=List.mem_iff_getElem.1 hc
  obtain⟨j,h1,h2,h3,_⟩:=h.row k hk
  rw[List.getD_eq_getElem?_getD,List.getElem?_eq_getElem hk]at h3
  have h3:runs[k]=Qq b j:=h3
  rw[h3]
  intro e
  have e:=congrArg Sp.ZO.number e
  have e:(b.old.getD j default).number=(b.old.getD i default).number:=e
  rw[Zee hd h2,Zee hd hi]at e
  omega
structure RJ (b:XB) (runs:List Sp.ZO) (rows:List (List Sp.Call)):Prop where
 len:rows.length=runs.length
 pos:1≤runs.length∧runs.length≤4
 check:Yw b=0
 row:∀r∈rows,Zjk r
 calls:∀w d,callsOf ⟨b,runs,w,d⟩=rows
 err:∀w d,QH ⟨b,runs,w,d⟩=0
 from_:∀k,k<runs.length→∃j,j<b.old.length∧runs.getD k default=Qq b j
theorem ZdB {b:XB} {d:Sp.ZO} {C:List Sp.Call} (h:QJ b d=(C,true)):QY (Run b d.number d.day).1=0∧(Run b d.number d.day).1=C∧(Run b d.number d.day).2=0:=by
 unfold QJ at h
 split at h
 ·cases h
 ·rename_i h0
  simp only[Prod.mk.injEq,decide_eq_true_eq]at h
  exact⟨by omega,h⟩
theorem RL.ok {z:Zone} {n:Int} {i:Nat} {old:List Train} {runs:List Sp.ZO} {rows:List (List Sp.Call)} (hz:Zt z=0) (hd:DL n old) (hn:n=old.length) (hl:old.length≤4) (h:RL (Zo z old) i runs rows) (hi:i≤4) (hp:0<runs.length):RJ (Zo z old) runs rows:=by
 have hc:=ZhQ hz hd hn hl
 have hle:=h.le
 refine⟨h.len,by omega,hc,fun r hr=>?_,fun w d=>?_,fun w d=>?_,fun k hk=>by
  obtain⟨j,h1,h2,h3,h4⟩:=h.row k hk
  exact⟨j,h2,h3⟩⟩
 ·obtain⟨k,hk,rfl⟩:=List.mem_iff_getElem.1 hr
  obtain⟨j,h1,h2,h3,h4⟩:=h.row k (by rw[←h.len];exact hk)
  obtain⟨g1,g2,g3⟩:=ZdB h4
  rw[List.getD_eq_getElem?_getD,List.getElem?_eq_getElem hk]at g2
  have g2:(Run (Zo z old) (Qq (Zo z old) j).number (Qq (Zo z old) j).day).1=rows[k]:=g2
  rw[←g2]
  have e:=ZkJ hc hd (j:=j) h2
  have e:Run (Zo z old) (Qq (Zo z old) j).number (Qq (Zo z old) j).day=_:=e
  rw[e]at g1⊢
  obtain⟨st,_,_,ht⟩:=hd.all j h2
  exact Znq ht g1
 ·refine List.ext_getElem (by show(List.map _ runs).length=_;rw[List.length_map,h.len]) fun k h1 h2=>?_
  have hk:k<runs.length:=by rw[←h.len];exact h2
  have e0:∀(f:Sp.ZO→List Sp.Call) (h1:k<(runs.map f).length),(runs.map f)[k]'h1=f runs[k]:=fun f h1=>List.getElem_map _
  refine(e0 _ h1).trans ?_
  obtain⟨j,g1,g2,g3,g4⟩:=h.row k hk
  rw[List.getD_eq_getElem?_getD,List.getElem?_eq_getElem hk]at g3
  have g3:runs[k]=Qq (Zo z old) j:=g3
  rw[List.getD_eq_getElem?_getD,List.getElem?_eq_getElem h2]at g4
  have g5:=(ZdB g4).2.1
  rw[g3]
  exact g5
 ·unfold QH
  show(if runs.length=0 then(7:Int)else if 4<runs.length then 6 else _)=0
  rw[if_neg (by omega),if_neg (by omega)]
  refine J4 fun k _ hk=>?_
  have hk:k<runs.length:=by have hk:k<0+runs.length:=hk;omega
  obtain⟨j,g1,g2,g3,g4⟩:=h.row k hk
  obtain⟨e1,e2,e3⟩:=ZdB g4
  rw[←g3]at e1 e2 e3
  unfold JW
  show(if(Run (Zo z old) (runs.getD k default).number (runs.getD k default).day).2≠0 then _ else if QY (Run (Zo z old) (runs.getD k default).number (runs.getD k default).day).1≠0 then(5:Int)else if(runs.take k).any (fun x=>decide (x=runs.getD k default))then 4 else 0)=0
  rw[if_neg (fun hne=>hne e3),if_neg (fun hne=>hne e1),if_neg]
  rw[Bool.not_eq_true,List.any_eq_false]
  intro x hx
  obtain⟨q,hq,rfl⟩:=List.mem_iff_getElem.1 hx
  have hq':q<k:=by simp at hq;omega
  have:=ZnC (d:=default) h.pw hq' hk
  rw[List.getD_eq_getElem?_getD,List.getElem?_eq_getElem (show q<runs.length by omega)]at this
  rw[List.getElem_take]
  simpa using this
structure Zoz (t:Zd):Prop where
 begin:Zn t=0
 row:∀r∈callsOf t,Zjk r
 book:∃z old n,t.book=Zo z old∧Zt z=0∧DL n old
 from_:∀k,k<t.runs.length→∃j,j<t.book.old.length∧t.runs.getD k default=Qq t.book j
theorem RL.one {n:Int} {old:List Train} (hc:Yw (Zo ⟨0,[]⟩ old)=0) (hd:DL n old) (hl:0<old.length):QJ (Zo ⟨0,[]⟩ old) (Qq (Zo ⟨0,[]⟩ old) 0)=((QJ (Zo ⟨0,[]⟩ old) (Qq (Zo ⟨0,[]⟩ old) 0)).1,true):=by
 have e:Run (Zo ⟨0,[]⟩ old) (Qq (Zo ⟨0,[]⟩ old) 0).number (Qq (Zo ⟨0,[]⟩ old) 0).day=_:=ZkJ hc hd (j:=0) hl
 obtain⟨st,_,_,ht⟩:=hd.all 0 hl
 have h0:=ZjF ht
 unfold QJ
 rw[e]
 rw[if_neg (fun hne=>hne h0)]
 rfl
end Go.Proofs.Ytjgpiclllehgmaa.Vm
namespace Go.Proofs.Ytjgpiclllehgmaa.Vm
open Go Go.Proofs Go.Proofs.Ytjgpiclllehgmaa.Conc1
section
variable {P:Program} {G:Nat→Nat→Nat→Prop} {R:RC} {h:List Zh}
theorem Zqk (H:HR G R h) {E:Operand→AV} {ρ:Operand→Value} {t:TypeId} {n:Nat} {ps:Array (Nat×Operand)} {s:Nat} {m:Unit→Int} {f:(Unit→Int)→List AV} {tk:Tk} (hE:∀p∈ps.toList,VR R (E p.2) (ρ p.2)) (hv:XI P E t n ps.toList=some (.isl s m f tk)):
  ∃u R',(Instr.buildSlice t n (ps.map fun(i,x)=>(i,ρ x))).run P R.w= .ok u R'.w∧HR G R' (h++[.gar s m f])∧Q9 R h R' (h++[.gar s m f])∧R.le R'∧VR R' (.gsl h.length m) u:=by
 unfold XI at hv
 split at hv
 case h_2=>cases hv
 rename_i T hT
 split at hv
 case h_2=>cases hv
 rename_i e s' eb hk
 split at hv
 case isFalse=>cases hv
 rename_i hcd
 simp only[Bool.and_eq_true]at hcd
 obtain⟨⟨hzo,hln⟩,hbig⟩:=hcd
 have hln:=Zy hln
 have hbig:=Q6 hbig
 obtain⟨j,hu,hj,hs,_⟩:=Y2 hT hk
 obtain⟨j',z,hj',hz,hzs,hjs,_⟩:=JJ hzo
 rw[hj]at hj'
 cases hj'
 split at hv
 case h_2=>
  unfold ZhG at hv
  split at hv
  case h_2=>cases hv
  split at hv
  case isFalse=>cases hv
  cases hv
 rename_i rows hr
 unfold Zfu at hv
 simp only[Option.some.injEq,AV.isl.injEq]at hv
 obtain⟨rfl,rfl,rfl,_⟩:=hv
 obtain⟨arr,a1,a2,a3,a4,a5⟩:=Zdw (R:=R) (ρ:=ρ) ps.toList 0 rows ((Array.range (n*s')).map fun k=>(if n*s'=0 then #[]else z.cells)[k%(if n*s'=0 then #[]else z.cells).size]!) hr (by simp[hln]) hE
 have hrl:rows.length=n:=by rw[a3,Array.length_toList];rw[Array.length_toList]at hln;exact hln
 have hsz:arr.size=n*s':=by rw[a2];simp
 obtain⟨R',hw,H',hx,hle,hm,hhw,hhv⟩:=H.garFresh s' (fun _=>(rows.length:Int)) (fun e=>rows.getD (e ()).toNat (rows.headD [])) n (by show(rows.length:Int)=n;rw[hrl]) arr e hsz (fun R' hle i hi=>by
  have hri:rows[i]? =some rows[i]:=List.getElem?_eq_getElem (by omega)
  have er:rows.getD (i:Int).toNat (rows.headD [])=rows[i]:=by rw[Int.toNat_natCast,List.getD_eq_getElem?_getD,hri];rfl
  show(rows.getD (i:Int).toNat (rows.headD [])).length=s'∧∀j c,(rows.getD (i:Int).toNat (rows.headD []))[j]? =some c→_
  rw[er]
  refine⟨(a5 i _ hri).1,fun j c hj=>?_⟩
  have:=(a5 i _ hri).2 j c hj
  rw[Nat.zero_add]at this
  exact this.mono hle.ok hle.keep hle.keepM)
 refine⟨.slice (some ⟨R.w.heap.size,0,none⟩) n n,R',?_,H',hx,hle,?_⟩
 ·have hpm:(ps.map fun(i,x)=>(i,ρ x)).toList=ps.toList.map fun p=>(p.1,ρ p.2):=by simp
  unfold Instr.buildSlice
  simp only[Sem.run_bind,Zu hu,Result.andThen_ok,Z9 hj,hs,hpm]
  rw[if_neg (by omega)]
  rw[hw]
  by_cases hns:n*s'=0
  ·simp only[if_pos hns]at a1⊢
   simp only[Sem.run_bind,Sem.run_pure,Result.andThen_ok]
   rw[a1]
   rfl
  ·simp only[if_neg hns]at a1⊢
   simp only[Sem.run_bind,Sem.run_pure,Result.andThen_ok,zeroValue,QX hj,hz]
   rw[a1]
   rfl
 ·rw[H.len]
  exact .gsl _ _ _ _ _ (by omega) (by rw[hhw];exact Int.le_refl _) (fun _=>hhv.symm) ⟨by show(rows.length:Int)=n;rw[hrl],.inr ⟨_,_,rfl⟩⟩
end
def Zn1 (T:Tb) (o:Oper) (E:Operand→AV) (h:List Zh):Option (AV×List Zh×Cd):=match o.op,o.guard with
 |.buildSlice t n ps,none=>(match XT T (fun x=>strip (E x)) t n ps.toList with
  |some (.isl s m f _)=>some (.gsl h.length m,h++[.gar s m f],gdC E o.op.operands.toList)
  |_=>none)
 |_,_=>none
def Zei (T:Tb) (p:Unit→Program) (d:Nat) (ops:Array Oper):List Oper→List AV→List Zh→Cd→(List AV→List Zh→Cd→Prop)→Prop
 |[],s,h,c,K=>K s h c
 |o::r,s,h,c,K=>(match o.dst with
  |some e=>if ZD e d then(match Zn1 T o (ev s) h with
   |some (v,h',c')=>Zei T p d ops r (putO s o.dst v) h' (c++c') K
   |none=>False)else Wop T p ops o (ev s) h c fun v h c=>Zei T p d ops r (putO s o.dst v) h c K
  |none=>Wop T p ops o (ev s) h c fun v h c=>Zei T p d ops r (putO s o.dst v) h c K)
section
variable {T:Tb} {p:Unit→Program} {R₀:RC} {h₀:List Zh}
theorem Zn0 (hT:T.Of (p ())) {ops:Array Oper} {i:Nat} {o:Oper} (ho:ops[i]? =some o) {E:Operand→AV} {h h':List Zh} {v:AV} {c:Cd} (hv:Zn1 T o E h=some (v,h',c)) (hc:ZN c):Zc3 (p ()) R₀ h₀ ops i o E h fun v' h''=>v'=v∧h''=h':=by
 unfold Zn1 at hv
 split at hv
 case h_2=>cases hv
 rename_i t n ps hop hg
 split at hv
 case h_2=>cases hv
 rename_i s m f tk hb
 have hb':=Jf hT hb
 simp only[Option.some.injEq,Prod.mk.injEq]at hv
 obtain⟨rfl,rfl,rfl⟩:=hv
 intro R t' hi hE b ds k cs rest
 have hEs:∀x∈o.op.operands,VR R (strip (E x)) (Qv t' x):=fun x hx=>(hE x (List.mem_append_left _ (Array.mem_toList_iff.2 hx))).strip (ZeG hc x (Array.mem_toList_iff.2 hx))
 obtain⟨u,R',h1,h2,h3,h4,h5⟩:=Zqk (ρ:=Qv t') hi.hr (fun q hq=>hEs q.2 (by
  rw[hop]
  simp only[Op.operands]
  rw[←Array.mem_toList_iff]
  simp only[Array.toList_map]
  exact List.mem_map.2 ⟨q,hq,rfl⟩)) hb'
 refine⟨_,_,R',u,⟨rfl,rfl⟩,hi.step h2 h3 h4,h3,h4,h5,.one (J8 (nv:=.value u) ho (by simp[Region.wanted,hg]) (fun c e=>by rw[hop]at e;cases e) ?_ ?_ (.inl rfl))⟩
 ·unfold execOp
  simp only[hop]
  exact Zf (fun _=>Za2) fun _ _=>Zl
 ·unfold execOp
  simp only[hop]
  rw[Sem.run_bind,h1]
  rfl
theorem Zjf (hT:T.Of (p ())) {d:Nat} {ops:Array Oper} {K:List AV→List Zh→Cd→Prop} (hK:∀s h c,K s h c→ZN c):∀(l:List Oper) (j:Nat) (s:List AV) (h:List Zh) (c:Cd),(∀m,m<l.length→ops[j+m]? =l[m]?)→Zei T p d ops l s h c K→
  ZN c∧ZaX (p ()) R₀ h₀ ops (List.range' j l.length) s h fun s h=>∃c,K s h c
 |[],j,s,h,c,_,hW=>⟨hK _ _ _ hW,fun R t hi hs b ds k cs=>⟨s,h,R,t,⟨_,hW⟩,hi,Q9.refl _ _,RC.le.refl _,hs,.one YI⟩⟩
 |o::r,j,s,h,c,hl,hW=>by
  have ho:ops[j]? =some o:=by simpa using hl 0 (by simp)
  have ih:=fun s h c=>Zjf hT (d:=d) hK r (j+1) s h c (fun m hm=>by have:=hl (m+1) (by simpa using hm);rw[show j+1+m=j+(m+1) by omega];simpa using this)
  have key:∀(Q:AV→List Zh→Prop),Zc3 (p ()) R₀ h₀ ops j o (Vm.ev s) h Q→(∀v h',Q v h'→∃c',Zei T p d ops r (putO s o.dst v) h' c' K)→ZaX (p ()) R₀ h₀ ops (List.range' j (o::r).length) s h fun s h=>∃c,K s h c:=fun Q h2 hq R t hi hs b ds k cs=>by
   obtain⟨v,h',R',u,hQ,a1,a2,a3,a4,a5⟩:=h2 R t hi (hs.eok ops o) b ds k cs (List.range' (j+1) r.length)
   obtain⟨c',hk⟩:=hq v h' hQ
   obtain⟨s'',h'',R'',t'',b1,b2,b3,b4,b5,b6⟩:=(ih _ _ _ hk).2 R' _ a1 ((hs.mono a3).putO a4 o.dst) b ds k cs
   exact⟨s'',h'',R'',t'',b1,b2,a2.trans b3,a3.trans b4,b5,a5.trans (X1 a3 b6)⟩
  have other:(Wop T p ops o (Vm.ev s) h c fun v h c=>Zei T p d ops r (putO s o.dst v) h c K)→ZN c∧ZaX (p ()) R₀ h₀ ops (List.range' j (o::r).length) s h fun s h=>∃c,K s h c:=fun hW=>by
   obtain⟨h1,h2⟩:=Zh1 hT (R₀:=R₀) (h₀:=h₀) ho (fun v h c hk=>(ih _ _ _ hk).1) hW
   exact⟨h1,key _ h2 fun v h' hq=>hq⟩
  unfold Zei at hW
  split at hW
  ·split at hW
   ·split at hW
    case h_2=>exact hW.elim
    rename_i v h' c' hv
    have hcc:=(ih _ _ _ hW).1
    exact⟨(ZZ hcc).1,key _ (Zn0 hT ho hv (ZZ hcc).2) fun v' h'' hq=>by
     obtain⟨rfl,rfl⟩:=hq
     exact⟨_,hW⟩⟩
   ·exact other hW
  ·exact other hW
theorem hpX {nb:Nat} {K:Ex→List AV→List Zh→Cd→Prop} {id:Nat} {ops:Array Oper} {k:List Item} {s:List AV} {h:List Zh} (hT:T.Of (p ())) (d:Nat) (hW:Zei T p d ops ops.toList s h [] fun s h c=>Chk c (HP false nb p k K s h)):HP false nb p (.code (.region id ops false)::k) K s h:=
 ⟨fun hK R₀ h₀ hnb=>by
  obtain⟨_,h2⟩:=Zjf (R₀:=R₀) (h₀:=h₀) hT (fun s h c (hk:Chk c _)=>hk.c) ops.toList 0 s h [] (fun m hm=>by simp) hW
  have h3:ZaX (p ()) R₀ h₀ ops (List.range ops.size) s h fun s h=>∃c,Chk c (HP false nb p k K s h):=by
   rw[List.range_eq_range']
   simpa using h2
  exact CI.then (CI.region h3 fun s h hk=>⟨rfl,hk⟩) fun s h ⟨c,hk⟩=>hk.g.run hK R₀ h₀ hnb⟩
end
end Go.Proofs.Ytjgpiclllehgmaa.Vm
namespace Go.Proofs.Ytjgpiclllehgmaa.Vm
open Go Go.Proofs
theorem To.freeze {s:List AV} {h:List Zh} {id sz:Nat} {n:Unit→Int} {f:(Unit→Int)→List AV} (hid:h[id]? =some (.gar sz n f)):To s h s (h.set id (.fro sz n f)):=fun G R t H hs=>by
 have hlt:=(List.getElem?_eq_some_iff.1 hid).1
 let R':RC:={R with ok:=fun b o k=>b<R.w.heap.size∧G b o k∧Zf1 R (h.set id (.fro sz n f)) b o k}
 have hget:∀ {j x},(h.set id (.fro sz n f))[j]? =some x→(j=id∧x= .fro sz n f)∨(j≠id∧h[j]? =some x):=fun {j x} hx=>by
  rw[List.getElem?_set]at hx
  split at hx
  ·rename_i e
   simp only[Option.some.injEq]at hx
   exact .inl ⟨e.symm,hx.symm⟩
  ·rename_i e
   exact .inr ⟨fun e'=>e e'.symm,hx⟩
 have hok:∀b o k,R.ok b o k→R'.ok b o k:=fun b o k hk=>by
  obtain⟨h1,h2,h3⟩:=(H.okd _ _ _).1 hk
  refine⟨h1,h2,fun j x hx=>?_⟩
  rcases hget hx with⟨rfl,rfl⟩|⟨hne,hx⟩
  ·exact fun h=>h
  ·exact h3 j x hx
 have hle:R.le R':=⟨Nat.le_refl _,fun _ _=>rfl,fun _ _=>⟨Int.le_refl _,fun _=>rfl⟩,fun _ _=>.refl _,hok,fun _ _ _ _ _ _=>rfl,fun _ _ _ _ h=>h,rfl⟩
 have hph:∀ {j x b},(h.set id (.fro sz n f))[j]? =some x→ZG R' j x b→j≠id∧h[j]? =some x∧ZG R j x b:=fun {j x b} hx hp=>by
  rcases hget hx with⟨rfl,rfl⟩|⟨hne,hx⟩
  ·exact hp.elim
  ·exact⟨hne,hx,(ZG.congr (R:=R) rfl rfl).1 hp⟩
 refine⟨R',rfl,⟨?_,fun _ _ _=>Iff.rfl,fun j x hx=>?_,fun i j bi bj b hij hi hj hp hp'=>?_,H.cl,H.fresh,fun j x b hx hk hp o k=>?_,H.n0m⟩,⟨rfl,rfl,rfl,rfl,Nat.le_refl _,Nat.le_refl _,fun _ _=>rfl,hok,fun _ _ _ _ _ _=>rfl,fun _ _ _=>rfl,fun j x b hx hp=>?_⟩,hle,hs.mono hle⟩
 ·rw[List.length_set];exact H.len
 ·rcases hget hx with⟨rfl,rfl⟩|⟨hne,hx⟩
  ·obtain⟨e1,e2⟩:=H.blk _ _ hid
   refine⟨e1,?_⟩
   rcases e2 with⟨h0,a0,h1⟩|⟨b,o,len,cap,arr,ty,a1,a2,a3,a4,a5,a6⟩
   ·show PR R'.w R'.ok _ (R.hv _)
    rw[h1]
    cases a0 with
    |none=>exact .isl0 _ _ _ _ h0 (fun _ h=>by cases h)
    |some a0=>exact .islE _ _ _ _ a0 h0 (.inl rfl)
   ·show PR R'.w R'.ok _ (R.hv _)
    rw[a3]
    rcases Nat.eq_zero_or_pos cap with hc0|hc0
    ·rw[hc0,show len=0 by omega]
     exact .islE _ _ _ _ ⟨b,o,none⟩ (by omega) (.inl rfl)
    have hmul:len*sz≤cap*sz:=Nat.mul_le_mul_right _ a2
    have hb:ZG R j (.gar sz n f) b:=⟨_,_,_,a3,hc0,rfl⟩
    refine .isl _ _ _ _ b o len cap (fun i j=>arr.getD (o+i*sz+j) undef) a1 a2 (.inl rfl) (fun h=>by cases h) (fun i hi=>(a6 i hi).1) (fun i j c hi hj=>?_) (fun i j c hi hj=>?_) ?_
    ·have hjs:j<sz:=by rw[←(a6 i hi).1];exact(List.getElem?_eq_some_iff.1 hj).1
     have:(i+1)*sz≤len*sz:=Nat.mul_le_mul_right _ hi
     rw[Nat.succ_mul]at this
     exact Qc (w:=R.w) a4 (by omega)
    ·exact((a6 i hi).2 j c hj).mono hok (fun _ _ _ _ _ _=>rfl) fun _ _ _ _ h=>h
    ·refine⟨H.phys_lt hid hb,H.tokG _ _ _ hid rfl hb _ _,fun i x hx=>?_⟩
     rcases hget hx with⟨rfl,rfl⟩|⟨hne,hx⟩
     ·exact fun h=>h
     ·exact ZaV fun hp=>H.dis _ _ _ _ b (fun e=>hne e.symm) hid hx hb hp
  ·exact(H.blk j x hx).mono hle rfl rfl rfl rfl (fun _ _=>rfl)
 ·obtain⟨_,hx,hp⟩:=hph hi hp
  obtain⟨_,hx',hp'⟩:=hph hj hp'
  exact H.dis i j bi bj b hij hx hx' hp hp'
 ·obtain⟨_,hx,hp⟩:=hph hx hp
  exact H.tokG j x b hx hk hp o k
 ·obtain⟨_,hx,hp⟩:=hph hx hp
  exact .inr ⟨j,x,hx,hp,.inl rfl⟩
theorem To.froze {s:List AV} {h:List Zh} {id sz:Nat} {n:Unit→Int} {f:(Unit→Int)→List AV} (hid:h[id]? =some (.gar sz n f)):To s h (s.map (rsv (h.set id (.fro sz n f)))) (h.set id (.fro sz n f)):=fun G R t H hs=>by
 obtain⟨R',a1,a2,a3,a4,a5⟩:=To.freeze (s:=s) hid G R t H hs
 have:=SL.rsv a2 a5 {tb with rs:=true}
 exact⟨R',a1,a2,a3,a4,this⟩
end Go.Proofs.Ytjgpiclllehgmaa.Vm
