/- Contracts: the reference's zones: checks, and by how much a clock is ahead. -/
import Derived.Test.YtjgpiclllehgmaaB3
import Derived.Test.YtjgpiclllehgmaaB1
import Derived.Test.YtjgpiclllehgmaaB2
import Derived.Test.YtjgpiclllehgmaaB0
set_option linter.all false
namespace Go.Proofs.Ytjgpiclllehgmaa.Vm
open Go Go.Proofs Sp
set_option maxRecDepth 100000
set_option maxHeartbeats 1600000
theorem c72 (n a b:Int):SC (fun _=>Try.prog) 57 [.int .i64 fun _=>n,.int .i64 fun _=>a,.int .i64 fun _=>b] [] fun r h=>r= .bool (fun _=>inB n a b)∧h=[]:=by
 refine con Try.func57 (body:=Zal Try.f57) rfl (by decide+kernel) ?_
 cbv
 try simp only[nc]at*
 refine⟨by simp[Zct,Zcs,ZcK,Zcr,Cn.p],?_,trivial⟩
 congr 1;funext _;unfold inB;cases decide (a≤n)<;>rfl
theorem c70 (z:Zone) (hlen:z.chs.length≤1000000):SC (fun _=>Try.prog) 79 [Zae z] [] fun v h=>v= .int .i64 (fun _=>Zao z)∧h=[]:=by
 obtain⟨nt,hnt⟩:=Zat
 unfold Zae Zao
 rw[Zaa hnt]
 refine con Try.func79 (body:=Zal Try.f79) rfl (by decide+kernel) ?_
 (cbv;(try simp only[nc]at*);(try refine Chk.mk (okc) ?_))
 refine Za3 (c72 z.base (-720) 720) (by first|rfl|(simp only[Zae,Zaa hnt];rfl)) fun r h₂ hp=>?_
 (try simp only[Zae,Zaa hnt]at hp)
 obtain⟨rfl,rfl⟩:=hp
 (cbv;(try simp only[nc]at*);(try refine Chk.mk (okc) ?_))
 refine⟨fun h1=>?_,fun h1=>?_⟩
 ·rw[if_pos h1]
  (cbv;(try simp only[nc]at*);(try refine Chk.mk (okc) ?_))
  (try first|exact⟨rfl,trivial⟩|exact⟨trivial,trivial⟩)
 rw[if_neg (by rw[h1];exact Bool.false_ne_true)]
 refine⟨fun h2=>?_,fun h2=>?_⟩
 ·simp only[decide_eq_true_eq]at h2
  rw[if_pos (by omega)]
  (cbv;(try simp only[nc]at*);(try refine Chk.mk (okc) ?_))
  (try first|exact⟨rfl,trivial⟩|exact⟨trivial,trivial⟩)
 simp only[decide_eq_false_iff_not]at h2
 rw[if_neg (by omega)]
 generalize hC:ZdR none z.chs=C at*
 (cbv;(try simp only[nc]at*);(try refine Chk.mk (okc) ?_))
 refine Za2 false false [] [1,3] [] (fun(i:Nat)=>[(3,.int .i64 fun _=>(i:Int))]) (fun _=>[]) (fun i=>i≤z.chs.length∧ZdR (if i=0 then none else some (nt Chg default z.chs ((i:Int)-1)).at_) (z.chs.drop i)=C) (fun i=>z.chs.length-i+0) 0 ⟨Nat.zero_le _,by simpa using hC⟩ ?_ ?_
 ·(refine To.of [] ?_;cbv;(try simp only[nc]);(repeat' (first|exact trivial|exact WkN.refl _|exact WkB.refl _|refine⟨?_,?_⟩|refine WkB.cells ?_|refine WkN.agg ?_|refine WkN.tup ?_));(all_goals (first|exact okt|skip)))
 rintro i ⟨hi,hp⟩
 (cbv;(try simp only[nc]at*);(try refine Chk.mk (okc) ?_))
 refine⟨fun hb=>?_,fun hb=>?_⟩
 ·simp only[decide_eq_true_eq]at hb
  have hil:i<z.chs.length:=by omega
  rw[Zbh (d:=default) hnt hil,ZcJ]at hp
  have hnx:(if i+1=0 then none else some (nt Chg default z.chs (((i+1:Nat):Int)-1)).at_)=some (nt Chg default z.chs (i:Int)).at_:=by
   rw[if_neg (by omega)];congr 3;omega
  generalize hc:nt Chg default z.chs (i:Int)=c at*
  have hlow:(bif decide (0<(i:Int))then decide (c.at_≤(nt Chg default z.chs ((i:Int)-1)).at_)else false)=leP (if i=0 then none else some (nt Chg default z.chs ((i:Int)-1)).at_) c.at_:=by
   by_cases h0:i=0
   ·subst h0;rfl
   ·rw[if_neg h0,decide_eq_true (show 0<(i:Int) by omega)];rfl
  rw[←hlow]at hp
  have k1:=c72 c.at_ 0 43200
  have k2:=c72 c.by_ (-180) 180
  generalize inB c.at_ 0 43200=b1 at*
  generalize inB c.by_ (-180) 180=b2 at*
  (cbv;try simp only[nc]at*)
  simp only[hc]
  refine Chk.mk (okc) ?_
  refine Za3 (k1) (by first|rfl|(simp only[Zae,Zaa hnt];rfl)) fun r h₂ hp=>?_
  (try simp only[Zae,Zaa hnt]at hp)
  obtain⟨rfl,rfl⟩:=hp
  (cbv;(try simp only[nc]at*);(try refine Chk.mk (okc) ?_))
  refine⟨fun h3=>?_,fun h3=>?_⟩
  ·rw[if_pos h3]at hp
   rw[←hp]
   (cbv;(try simp only[nc]at*);(try refine Chk.mk (okc) ?_))
   (try first|exact⟨rfl,trivial⟩|exact⟨trivial,trivial⟩)
  rw[if_neg (by rw[h3];exact Bool.false_ne_true)]at hp
  (cbv;(try simp only[nc]at*);(try refine Chk.mk (okc) ?_))
  refine⟨fun h4=>?_,fun h4=>?_⟩
  ·rw[if_pos h4]at hp
   rw[←hp]
   (cbv;(try simp only[nc]at*);(try refine Chk.mk (okc) ?_))
   (try first|exact⟨rfl,trivial⟩|exact⟨trivial,trivial⟩)
  rw[if_neg (by rw[h4];exact Bool.false_ne_true)]at hp
  (cbv;(try simp only[nc]at*);(try refine Chk.mk (okc) ?_))
  refine Za3 (k2) (by first|rfl|(simp only[Zae,Zaa hnt];rfl)) fun r h₂ hp=>?_
  (try simp only[Zae,Zaa hnt]at hp)
  obtain⟨rfl,rfl⟩:=hp
  (cbv;(try simp only[nc]at*);(try refine Chk.mk (okc) ?_))
  refine⟨fun h5=>?_,fun h5=>?_⟩
  ·have h5':(!b2||decide (c.by_=0))=true:=by
    cases b2
    ·rfl
    ·simpa using h5
   rw[if_pos h5']at hp
   rw[←hp]
   (cbv;(try simp only[nc]at*);(try refine Chk.mk (okc) ?_))
   (try first|exact⟨rfl,trivial⟩|exact⟨trivial,trivial⟩)
  ·have h5':¬(!b2||decide (c.by_=0))=true:=by
    cases b2
    ·simp at h5
    ·simpa using h5
   rw[if_neg h5']at hp
   (cbv;(try simp only[nc]at*);(try refine Chk.mk (okc) ?_))
   refine⟨i+1,⟨by omega,by rw[hnx];exact hp⟩,by show z.chs.length-(i+1)+0<z.chs.length-i+0;omega,?_⟩
   (refine To.of [] ?_;cbv;(try simp only[nc]);(repeat' (first|exact trivial|exact WkN.refl _|exact WkB.refl _|refine⟨?_,?_⟩|refine WkB.cells ?_|refine WkN.agg ?_|refine WkN.tup ?_));(all_goals (first|exact okt|skip)))
 ·have hie:z.chs.length≤i:=by simp only[decide_eq_false_iff_not]at hb;omega
  rw[List.drop_eq_nil_of_le hie,Zgs]at hp
  rw[←hp]
  (cbv;(try simp only[nc]at*);(try refine Chk.mk (okc) ?_))
  (try first|exact⟨rfl,trivial⟩|exact⟨trivial,trivial⟩)
end Go.Proofs.Ytjgpiclllehgmaa.Vm
namespace Go.Proofs.Ytjgpiclllehgmaa.Vm
attribute [local irreducible] Dn
open Go Go.Proofs Sp
set_option maxRecDepth 100000
set_option maxHeartbeats 1600000
def ZrX:Int→List Chg→Int→Int
 |a,[],_=>a
 |a,c::r,k=>ZrX (if c.at_≤k then a+c.by_ else a) r k
theorem ZoJ {k:Int}:∀ {l:List Chg} {a lo:Int},Asc lo l→k<lo→ZrX a l k=a
 |[],_,_,_,_=>rfl
 |c::r,a,lo,h,hk=>by
  unfold ZrX
  rw[if_neg (by have:=h.1;omega)]
  exact ZoJ h.2 (by have:=h.1;omega)
theorem ZoK {k:Int}:∀ {l:List Chg} {a lo:Int},Asc lo l→ZrX a l k=af a l k
 |[],_,_,_=>rfl
 |c::r,a,lo,h=>by
  unfold ZrX af
  by_cases hc:c.at_≤k
  ·rw[if_pos hc,if_pos hc];exact ZoK h.2
  ·rw[if_neg hc,if_neg hc];exact ZoJ h.2 (by omega)
theorem c97 (z:Zone) (t:Int) (hz:Zao z=0):SC (fun _=>Try.prog) 100 [Zae z,.int .i64 fun _=>t] [] fun v h=>v= .int .i64 (fun _=>af z.base z.chs t)∧h=[]:=by
 obtain⟨nt,hnt⟩:=Zat
 obtain⟨ha,hb,hl,h1,h2⟩:=ZgX hz
 rw[←ZoK (a:=z.base) (k:=t) ha]
 generalize hR:ZrX z.base z.chs t=R at*
 refine con Try.func100 (body:=Zal Try.f100) rfl (by decide+kernel) ?_
 unfold Zae
 simp only[Zaa hnt]
 refine wS ?_
 refine Za2 false false [] [1,2,5,6] [] (fun(⟨i,n⟩:Nat×Int)=>[(5,.int .i64 fun _=>n),(6,.int .i64 fun _=>(i:Int))]) (fun _=>[]) (fun⟨i,n⟩=>i≤z.chs.length∧(-720-180*(i:Int)≤n∧n≤720+180*(i:Int))∧ZrX n (z.chs.drop i) t=R) (fun i=>z.chs.length-i.1+0) (0,z.base) ⟨Nat.zero_le _,by simp;omega,by simpa using hR⟩ ?_ ?_
 ·exact toT
 rintro⟨i,n⟩ ⟨hi,hn,hp⟩
 have hi:i≤z.chs.length:=hi
 have hn:-720-180*(i:Int)≤n∧n≤720+180*(i:Int):=hn
 refine wS ?_
 refine⟨fun hb1=>?_,fun hb1=>?_⟩
 ·simp only[decide_eq_true_eq]at hb1
  have hil:i<z.chs.length:=by omega
  rw[Zbh (d:=default) hnt hil]at hp
  have hc:=hb _ (Zb4 (d:=default) hnt (l:=z.chs) (i:=i) hil)
  have hp:ZrX (if(nt Chg default z.chs (i:Int)).at_≤t then n+(nt Chg default z.chs (i:Int)).by_ else n) (z.chs.drop (i+1)) t=R:=hp
  generalize hx:nt Chg default z.chs (i:Int)=c at*
  refine vS ?_
  simp only[hx]
  refine Chk.mk (okc) ?_
  refine⟨fun h3=>?_,fun h3=>?_⟩
  ·rw[if_pos (by simpa using h3)]at hp
   refine vS ?_
   simp only[hx]
   refine Chk.mk (okc) ?_
   refine⟨(i+1,n+c.by_),⟨by show i+1≤z.chs.length;omega,by dsimp only;omega,hp⟩,by show z.chs.length-(i+1)+0<z.chs.length-i+0;omega,?_⟩
   exact toT
  ·rw[if_neg (by simpa using h3)]at hp
   refine wS ?_
   refine⟨(i+1,n),⟨by show i+1≤z.chs.length;omega,by dsimp only;omega,hp⟩,by show z.chs.length-(i+1)+0<z.chs.length-i+0;omega,?_⟩
   exact toT
 ·have hie:z.chs.length≤i:=by simp only[decide_eq_false_iff_not]at hb1;omega
  rw[List.drop_eq_nil_of_le hie]at hp
  have hp:n=R:=hp
  rw[←hp]
  (cbv;(try simp only[nc]at*);(try refine Chk.mk (okc) ?_))
  (try first|exact⟨rfl,trivial⟩|exact⟨trivial,trivial⟩)
end Go.Proofs.Ytjgpiclllehgmaa.Vm
namespace Go.Proofs.Ytjgpiclllehgmaa.Vm
attribute [local irreducible] Dn
open Go Go.Proofs Sp
set_option maxRecDepth 100000
set_option maxHeartbeats 1600000
def cl (p:Pc):Pc:=if p.bef=ZcA then⟨p.fr,-1,p.ahd⟩else p
def Zvg (z:Zone):List Pc:=(ZaL z).map cl
def ZdA (a:Int) (l:List Chg):Int:=l.foldl (fun a c=>a+c.by_) a
theorem Zsb:∀(l1 l2:List Chg) (a k:Int),(∀c∈l1,c.at_≤k)→af a (l1++l2) k=af (ZdA a l1) l2 k
 |[],_,_,_,_=>rfl
 |c::r,l2,a,k,h=>by
  have e:af a (c::r++l2) k=if c.at_≤k then af (a+c.by_) (r++l2) k else a:=rfl
  rw[e,if_pos (h c (List.mem_cons_self ..)),Zsb r l2 _ _ (fun x hx=>h x (List.mem_cons_of_mem _ hx))]
  rfl
theorem Zm0 (a:Int) (l:List Chg) (c:Chg):ZdA a (l++[c])=ZdA a l+c.by_:=by unfold ZdA;rw[List.foldl_append];rfl
structure ZgA (z:Zone) (i:Nat) (f:Int) (out:List Pc):Prop where
 le:i≤z.chs.length
 eq:Zvg z=out++(ZbU f (ZdA z.base (z.chs.take i)) (z.chs.drop i)).map cl
 lo:∀c∈z.chs.take i,c.at_≤f
 fr:0≤f∧f≤43200
 asc:Asc (if i=0 then f else f+1) (z.chs.drop i)
 zero:i=0→f=0
 len:out.length≤i
theorem Zoj {z:Zone} (h:Zao z=0):ZgA z 0 0 []:=by
 obtain⟨ha,hb,hl,h1,h2⟩:=ZgX h
 exact⟨Nat.zero_le _,rfl,by simp,by omega,by simpa using ha,fun _=>rfl,by simp⟩
theorem ZgA.ahd {z:Zone} {i:Nat} {f:Int} {out:List Pc} (h:ZgA z i f out) (hn:∀c∈(z.chs.drop i).head?,f<c.at_):af z.base z.chs f=ZdA z.base (z.chs.take i):=by
 have e:z.chs=z.chs.take i++z.chs.drop i:=(List.take_append_drop ..).symm
 rw[e,Zsb _ _ _ _ h.lo,←e]
 cases hd:z.chs.drop i with
 |nil=>rfl
 |cons c r=>
  rw[hd]at hn
  have hc:=hn c rfl
  unfold af
  rw[if_neg (by omega)]
theorem ZgA.step {z:Zone} {i:Nat} {f:Int} {out:List Pc} {c:Chg} (hz:Zao z=0) (h:ZgA z i f out) (hi:i<z.chs.length) (hc:z.chs.drop i=c::z.chs.drop (i+1)) (ht:z.chs.take (i+1)=z.chs.take i++[c]):
  (c.at_=0→ZgA z (i+1) c.at_ out)∧(c.at_≠0→af z.base z.chs f=ZdA z.base (z.chs.take i)∧ZgA z (i+1) c.at_ (out++[⟨f,c.at_,ZdA z.base (z.chs.take i)⟩])):=by
 obtain⟨ha,hb,hl,h1,h2⟩:=ZgX hz
 have hcm:c∈z.chs:=List.mem_of_mem_drop (i:=i) (by rw[hc];exact List.mem_cons_self ..)
 have hcb:=hb c hcm
 have hasc:=h.asc
 rw[hc]at hasc
 obtain⟨hlo,hrest⟩:=hasc
 have hfr:=h.fr
 have hle:f≤c.at_:=by split at hlo<;>omega
 have hsum:ZdA z.base (z.chs.take (i+1))=ZdA z.base (z.chs.take i)+c.by_:=by rw[ht,Zm0]
 have hlo2:∀x∈z.chs.take (i+1),x.at_≤c.at_:=fun x hx=>by
  rw[ht]at hx
  rcases List.mem_append.1 hx with hx|hx
  ·have:=h.lo x hx;omega
  ·simp at hx;rw[hx];exact Int.le_refl _
 have hasc2:Asc (if i+1=0 then c.at_ else c.at_+1) (z.chs.drop (i+1)):=by rw[if_neg (by omega)];exact hrest
 have heq:=h.eq
 rw[hc]at heq
 have hlen:=h.len
 refine⟨fun h0=>?_,fun h0=>?_⟩
 ·have hf0:f=0:=by omega
  refine⟨hi,?_,hlo2,by omega,hasc2,fun h=>by omega,by omega⟩
  rw[heq,hsum]
  congr 1
  have e:ZbU f (ZdA z.base (z.chs.take i)) (c::z.chs.drop (i+1))=ZbU c.at_ (ZdA z.base (z.chs.take i)+c.by_) (z.chs.drop (i+1)):=if_neg (by omega)
  rw[e]
 ·have hlt:f<c.at_:=by
   by_cases hi0:i=0
   ·have:=h.zero hi0;omega
   ·rw[if_neg hi0]at hlo;omega
  refine⟨h.ahd (by rw[hc];intro x hx;simp at hx;rw[←hx];exact hlt),hi,?_,hlo2,by omega,hasc2,fun h=>by omega,by simp;omega⟩
  have e:ZbU f (ZdA z.base (z.chs.take i)) (c::z.chs.drop (i+1))=⟨f,c.at_,ZdA z.base (z.chs.take i)⟩::ZbU c.at_ (ZdA z.base (z.chs.take i)+c.by_) (z.chs.drop (i+1)):=if_pos hlt
  have e2:cl ⟨f,c.at_,ZdA z.base (z.chs.take i)⟩=⟨f,c.at_,ZdA z.base (z.chs.take i)⟩:=if_neg (by unfold ZcA;show¬c.at_=_;omega)
  rw[heq,e,List.map_cons,e2,hsum,List.append_assoc]
  rfl
theorem ZgA.last {z:Zone} {f:Int} {out:List Pc} (h:ZgA z z.chs.length f out):af z.base z.chs f=ZdA z.base z.chs∧Zvg z=out++[⟨f,-1,ZdA z.base z.chs⟩]:=by
 have h1:=h.ahd (by rw[List.drop_length];intro c hc;cases hc)
 have h2:=h.eq
 rw[List.take_length]at h1 h2
 rw[List.drop_length]at h2
 exact⟨h1,h2⟩
theorem Zyv (z:Zone) (hz:Zao z=0):SC (fun _=>Try.prog) 91 [Zae z] [] fun v h=>v=lst 3 ZkW default (Zvg z)∧h=[]:=by
 obtain⟨nt,hnt⟩:=Zat
 obtain⟨ha,hb,hl,h1,h2⟩:=ZgX hz
 have k97:=fun t=>c97 z t hz
 have hst:=Zoj hz
 generalize hS:Zvg z=S at*
 refine SC.less (con Try.func91 (body:=Zal Try.f91) rfl (by decide+kernel) ?_)
 unfold Zae at*
 simp only[Zaa hnt]at*
 refine wS ?_
 refine Za2 false false [] [1,3,4,5] [.tok 3 fun _=>0] (fun(⟨i,f,out⟩:Nat×Int×List Pc)=>[(3,.isl 3 (fun _=>(out.length:Int)) (fun e=>ZkW (nt Pc default out (e ()))) (.own 1)),(4,.int .i64 fun _=>f),(5,.int .i64 fun _=>(i:Int))])
  (fun⟨i,f,out⟩=>[(1,.tok 3 fun _=>(out.length:Int))]) (fun⟨i,f,out⟩=>ZgA z i f out∨(i=z.chs.length+1∧out=S)) (fun i=>z.chs.length+1-i.1+0) (0,0,[]) (.inl hst) ?_ ?_
 ·(refine To.of [(3,false)] ?_;cbv;(try simp only[nc]);(repeat' (first|exact trivial|exact WkN.refl _|exact WkB.refl _|refine⟨?_,?_⟩|refine WkB.cells ?_|refine WkN.agg ?_|refine WkN.tup ?_));(all_goals (first|exact okt|skip)))
 rintro⟨i,f,out⟩ hp
 have hp:ZgA z i f out∨(i=z.chs.length+1∧out=S):=hp
 have hol:out.length≤100∨out=S:=by
  rcases hp with h|⟨_,h⟩
  ·have:=h.len;have:=h.le;omega
  ·exact .inr h
 refine wS ?_
 refine⟨fun hb1=>?_,fun hb1=>?_⟩
 ·simp only[decide_eq_true_eq]at hb1
  have hs:ZgA z i f out:=by
   rcases hp with h|⟨h,_⟩
   ·exact h
   ·omega
  have hle:=hs.le
  have hlen:=hs.len
  have k97:=k97 f
  refine wS ?_
  refine⟨fun hb2=>?_,fun hb2=>?_⟩
  ·simp only[decide_eq_true_eq]at hb2
   have hil:i<z.chs.length:=by omega
   have hst2:=hs.step hz hil (Zbh (d:=default) hnt hil) (Zjv (d:=default) hnt hil)
   generalize hc:nt Chg default z.chs (i:Int)=c at*
   refine vS ?_
   simp only[hc]
   refine Chk.mk (okc) ?_
   refine⟨fun hb3=>?_,fun hb3=>?_⟩
   ·have h0:c.at_≠0:=by simpa using hb3
    obtain⟨g1,g2⟩:=hst2.2 h0
    rw[g1]at k97
    generalize ZdA z.base (z.chs.take i)=A at*
    refine wS ?_
    refine Za3 (k97) (by first|rfl|(simp only[Zae,Zaa hnt];rfl)) fun r h₂ hp=>?_
    (try simp only[Zae,Zaa hnt]at hp)
    obtain⟨rfl,rfl⟩:=hp
    refine wS ?_
    refine⟨(i+1,c.at_,out++[⟨f,c.at_,A⟩]),.inl g2,by show z.chs.length+1-(i+1)+0<z.chs.length+1-i+0;omega,?_⟩
    exact toT
   ·have h0:c.at_=0:=by simpa using hb3
    have g2:=hst2.1 h0
    refine wS ?_
    refine⟨(i+1,c.at_,out),.inl g2,by show z.chs.length+1-(i+1)+0<z.chs.length+1-i+0;omega,?_⟩
    exact toT
  ·simp only[decide_eq_false_iff_not]at hb2
   have hie:i=z.chs.length:=by omega
   obtain⟨g1,g2⟩:=(hie▸hs:ZgA z z.chs.length f out).last
   rw[g1]at k97
   rw[hS]at g2
   generalize ZdA z.base z.chs=A at*
   refine wS ?_
   refine Br.isT rfl ?_
   refine wS ?_
   refine Za3 (k97) (by first|rfl|(simp only[Zae,Zaa hnt];rfl)) fun r h₂ hp=>?_
   (try simp only[Zae,Zaa hnt]at hp)
   obtain⟨rfl,rfl⟩:=hp
   refine wS ?_
   refine⟨(i+1,-1,out++[⟨f,-1,A⟩]),.inr ⟨by rw[hie],g2.symm⟩,by show z.chs.length+1-(i+1)+0<z.chs.length+1-i+0;omega,?_⟩
   exact toT
 ·simp only[decide_eq_false_iff_not]at hb1
  have ho:out=S:=by
   rcases hp with h|⟨_,h⟩
   ·have:=h.le;omega
   ·exact h
  rw[←ho]
  refine wS ?_
  refine⟨_,[],?_,rfl,rfl⟩
  exact toT
end Go.Proofs.Ytjgpiclllehgmaa.Vm
namespace Go.Proofs.Ytjgpiclllehgmaa.Vm
attribute [local irreducible] Dn
open Go Go.Proofs Sp
set_option maxRecDepth 100000
set_option maxHeartbeats 1600000
theorem Zwo {nt:(α:Type)→α→List α→Int→α} (hnt:∀(α:Type) (d:α) (l:List α) (i:Int),nt α d l i=l.getD i.toNat d) {l:List Pc} {i:Nat} (hi:i<l.length):nt Pc default (l.map cl) (i:Int)=cl (nt Pc default l (i:Int)):=by
 rw[hnt,hnt]
 simp[List.getD_eq_getElem?_getD,hi]
theorem Zwp (p:Pc):(cl p).fr=p.fr:=by unfold cl;split<;>rfl
theorem Zvz (p:Pc):(cl p).ahd=p.ahd:=by unfold cl;split<;>rfl
theorem ZiF:∀(l:List Chg) (fr a:Int),(∀c∈l,c.at_≤43200)→∀i,i<(ZbU fr a l).length→(((ZbU fr a l).getD i default).bef=ZcA↔i+1=(ZbU fr a l).length)
 |[],fr,a,_,i,hi=>by
  have e:ZbU fr a []=[⟨fr,ZcA,a⟩]:=rfl
  rw[e]at hi⊢
  have:i=0:=by simpa using hi
  subst this
  simp
 |c::r,fr,a,h,i,hi=>by
  have hc:=h c (List.mem_cons_self ..)
  have ih:=ZiF r c.at_ (a+c.by_) (fun x hx=>h x (List.mem_cons_of_mem _ hx))
  have hl:=(Zeq r c.at_ (a+c.by_)).1
  by_cases hlt:fr<c.at_
  ·have e:ZbU fr a (c::r)=⟨fr,c.at_,a⟩::ZbU c.at_ (a+c.by_) r:=if_pos hlt
   rw[e]at hi⊢
   cases i with
   |zero=>
    simp only[List.getD_cons_zero,List.length_cons]
    unfold ZcA
    constructor<;>intro h<;>omega
   |succ i=>
    simp only[List.getD_cons_succ,List.length_cons]
    rw[ih i (by simpa using hi)]
    omega
  ·have e:ZbU fr a (c::r)=ZbU c.at_ (a+c.by_) r:=if_neg hlt
   rw[e]at hi⊢
   exact ih i hi
theorem ZxI (z:Zone) (r a:Int) (hz:Zao z=0) (hr:-1000000≤r∧r≤1000000) (ha:0≤a∧a<ZcA):SC (fun _=>Try.prog) 81 [Zae z,.int .i64 fun _=>r,.int .i64 fun _=>a] [] fun v h=>v= .int .i64 (fun _=>Zc7 (ZaL z) r a)∧h=[]:=by
 obtain⟨nt,hnt⟩:=Zat
 have k2:=Zyv z hz
 obtain⟨k4,k5⟩:=Zhr hz
 have hop:=ZiF z.chs 0 z.base (fun c hc=>((ZgX hz).2.1 c hc).2.1)
 have hl1:=(Zeq z.chs 0 z.base).1
 change∀i,i<(ZaL z).length→(((ZaL z).getD i default).bef=ZcA↔i+1=(ZaL z).length)at hop
 change 1≤(ZaL z).length at hl1
 unfold ZcA at*
 refine con Try.func81 (body:=Zal Try.f81) rfl (by decide+kernel) ?_
 unfold Zae at*
 simp only[Zaa hnt]at*
 unfold Zvg at k2
 generalize ZaL z=L at*
 have hLl:(L.map cl).length=L.length:=List.length_map ..
 generalize hW:Zc7 L r a=W at*
 refine wS ?_
 refine Za3 (k2) (by first|rfl|(simp only[Zae,Zaa hnt];rfl)) fun r h₂ hp=>?_
 (try simp only[Zae,Zaa hnt]at hp)
 obtain⟨rfl,rfl⟩:=hp
 refine wS ?_
 refine Za2 false false [] [1,2,7,8] [] (fun(i:Nat)=>[(8,.int .i64 fun _=>(i:Int))]) (fun _=>[]) (fun i=>i<L.length∧Zc7 (L.drop i) r a=W) (fun i=>L.length-i+0) 0 ⟨by omega,by simpa using hW⟩ ?_ ?_
 ·exact toT
 intro i hpp
 have hi:i<L.length:=hpp.1
 have hp:Zc7 (L.drop i) r a=W:=hpp.2
 clear hpp
 have hq:=k5 _ (Zb4 (d:=default) hnt (l:=L) (i:=i) hi)
 have hopi:=hop i hi
 have e1:L.getD i default=nt Pc default L (i:Int):=by rw[hnt];rfl
 rw[e1]at hopi
 rw[Zbh (d:=default) hnt hi,Zc7]at hp
 have hcl:=Zwo hnt (l:=L) hi
 generalize nt Pc default L (i:Int)=p at*
 have hah:=Zvz p
 have hfr:=Zwp p
 have hbe:(cl p).bef=if p.bef=1099511627776 then-1 else p.bef:=by
  unfold cl ZcA
  split<;>rfl
 generalize cl p=q at*
 have hmx:(if(if q.fr<a then a else q.fr)<r-q.ahd then r-q.ahd else(if q.fr<a then a else q.fr))=max p.fr (max a (r-p.ahd)):=by
  rw[hfr,hah]
  split<;>split<;>omega
 have hmb:0≤max p.fr (max a (r-p.ahd))∧max p.fr (max a (r-p.ahd))<1099511627776:=by omega
 refine vS ?_
 simp only[hcl]
 refine Chk.mk (okc) ?_
 simp only[hmx]
 generalize max p.fr (max a (r-p.ahd))=M at*
 refine⟨fun hb2=>?_,fun hb2=>?_⟩
 ·have hc:M<p.bef:=by
   by_cases h:p.bef=1099511627776
   ·omega
   ·rw[if_neg h]at hbe
    rw[hbe,decide_eq_false (by omega)]at hb2
    simpa using hb2
  rw[if_pos hc]at hp
  rw[←hp]
  (cbv;(try simp only[nc]at*);(try refine Chk.mk (okc) ?_))
  (try first|exact⟨rfl,trivial⟩|exact⟨trivial,trivial⟩)
 ·have hc:¬M<p.bef:=by
   intro h'
   by_cases h:p.bef=1099511627776
   ·rw[if_pos h]at hbe
    rw[hbe]at hb2
    simp at hb2
   ·rw[if_neg h]at hbe
    rw[hbe,decide_eq_false (by omega),decide_eq_true h']at hb2
    cases hb2
  rw[if_neg hc]at hp
  have hi2:i+1<L.length:=by
   rcases Nat.lt_or_ge (i+1) L.length with h|h
   ·exact h
   ·have:=hopi.2 (by omega);omega
  refine wS ?_
  refine⟨i+1,⟨hi2,hp⟩,by show L.length-(i+1)+0<L.length-i+0;omega,?_⟩
  exact toT
end Go.Proofs.Ytjgpiclllehgmaa.Vm
namespace Go.Proofs.Ytjgpiclllehgmaa.Vm
attribute [local irreducible] Dn
open Go Go.Proofs Sp
set_option maxRecDepth 100000
set_option maxHeartbeats 1600000
theorem Zoc {f:FuncId} {xs ys:List AV} {h:List Blk} {Post Q:AV→List Blk→Prop} {B:Prop} (H:SC (fun _=>Try.prog) f ys [] Q) (k:B) (t:SC (fun _=>Try.prog) f ys [] Q→HdW B→SC (fun _=>Try.prog) f xs h Post:=by intro hH hW;refine Za3 hH (by first|rfl|(simp only[Zae,Zaf,Zaa hnt];rfl)) fun r h₂ hp=>?_;(try simp only[Zae,Zaf,Zaa hnt]at hp);obtain⟨rfl,rfl⟩:=hp;exact hW.out):SC (fun _=>Try.prog) f xs h Post:=t H ⟨k⟩
theorem ZmQ {α:Type} [Inhabited α] {nt:(α:Type)→α→List α→Int→α} (hnt:∀(α:Type) (d:α) (l:List α) (i:Int),nt α d l i=l.getD i.toNat d) {q:α→Bool} {l:List α} {k:Nat} (hk:k<l.length):(l.take (k+1)).any q=((l.take k).any q||q (nt α default l (k:Int))):=by
 rw[Zjv (d:=default) hnt hk,List.any_append]
 simp
theorem ZmN {nt:(α:Type)→α→List α→Int→α} (hnt:∀(α:Type) (d:α) (l:List α) (i:Int),nt α d l i=l.getD i.toNat d) (b:ZeJ):Zaf b= .agg [.isl 2 (fun _=>(b.zones.length:Int)) (fun e=>encZone (nt Zone default b.zones (e ()))) .none,.isl 3 (fun _=>(b.old.length:Int)) (fun e=>encTrain (nt Train default b.old (e ()))) .none,.isl 3 (fun _=>(b.new.length:Int)) (fun e=>encTrain (nt Train default b.new (e ()))) .none,.int .i64 fun _=>b.night,.int .i64 fun _=>b.last]:=by
 unfold Zaf;simp only[Zaa hnt]
theorem Zyt (b:ZeJ) (l:List Stop) (hz:b.zones.length≤1000000) (hl:l.length≤1000000):SC (fun _=>Try.prog) 90 [Zaf b,lst 4 ZbJ default l] [] fun v h=>v= .int .i64 (fun _=>if ZaA l.length 2 4≠0 then ZaA l.length 2 4 else Zc4 b.zones.length l)∧h=[]:=by
 obtain⟨nt,hnt⟩:=Zat
 generalize hE:(if ZaA l.length 2 4≠0 then ZaA l.length 2 4 else Zc4 b.zones.length l)=E
 unfold Zaf
 simp only[Zaa hnt]
 refine con Try.func90 (body:=Zal Try.f90) rfl (by decide+kernel) ?_
 refine wS ?_
 refine⟨fun h1=>?_,fun h1=>?_⟩
 ·simp only[decide_eq_true_eq]at h1
  rw[show ZaA l.length 2 4=7 by unfold ZaA;rw[if_pos (by omega)],if_pos (by decide)]at hE
  subst hE
  (cbv;(try simp only[nc]at*);(try refine Chk.mk (okc) ?_))
  (try first|exact⟨rfl,trivial⟩|exact⟨trivial,trivial⟩)
 simp only[decide_eq_false_iff_not]at h1
 refine wS ?_
 refine⟨fun h2=>?_,fun h2=>?_⟩
 ·simp only[decide_eq_true_eq]at h2
  rw[show ZaA l.length 2 4=6 by unfold ZaA;rw[if_neg (by omega),if_pos (by omega)],if_pos (by decide)]at hE
  subst hE
  (cbv;(try simp only[nc]at*);(try refine Chk.mk (okc) ?_))
  (try first|exact⟨rfl,trivial⟩|exact⟨trivial,trivial⟩)
 simp only[decide_eq_false_iff_not]at h2
 rw[show ZaA l.length 2 4=0 by unfold ZaA;rw[if_neg (by omega),if_neg (by omega)],if_neg (by decide)]at hE
 refine wS ?_
 refine Za2 false false [] [1,2,5] [] (fun(i:Nat)=>[(5,.int .i64 fun _=>(i:Int))]) (fun _=>[]) (fun i=>i≤l.length∧Zan (ZbC b.zones.length l) i (l.length-i)=E) (fun i=>l.length-i+0) 0 ⟨Nat.zero_le _,by simpa [Zc4]using hE⟩ ?_ ?_
 ·exact toT
 rintro i ⟨hi,hp⟩
 refine wS ?_
 refine⟨fun hb=>?_,fun hb=>?_⟩
 ·simp only[decide_eq_true_eq]at hb
  obtain⟨q,hq⟩:∃q,l.length-i=q+1:=⟨l.length-i-1,by omega⟩
  rw[hq,Zan]at hp
  have hsp:ZbC b.zones.length l i=Zdi (l.take i) (nt Stop default l i) (decide (0<i)&&decide ((i:Int)<l.length-1)) b.zones.length:=by unfold ZbC;rw[hnt];rfl
  rw[hsp]at hp
  unfold Zdi at hp
  refine wS ?_
  generalize nt Stop default l i=s at*
  refine Zoc (c72 s.station 0 9) ?_
  refine vS ?_
  refine⟨fun h3=>?_,fun h3=>?_⟩
  ·simp only[if_pos h3]at hp
   rw[if_pos (by decide)]at hp
   subst hp
   (cbv;(try simp only[nc]at*);(try refine Chk.mk (okc) ?_))
   (try first|exact⟨rfl,trivial⟩|exact⟨trivial,trivial⟩)
  simp only[if_neg (show¬(!inB s.station 0 9)=true by rw[h3];exact Bool.false_ne_true)]at hp
  refine wS ?_
  refine ZgZ fun Q hQ=>?_
  refine Za2 false false [] [1,2,5,6,7] [] (fun(k:Nat)=>[(7,.int .i64 fun _=>(k:Int))]) (fun _=>[]) (fun k=>k≤i∧(l.take k).any (fun x=>decide (x.station=s.station))=false) (fun k=>i-k+0) 0 ⟨Nat.zero_le _,by simp⟩ ?_ ?_
  ·exact toT
  rintro k ⟨hk,hp2⟩
  refine wS ?_
  refine⟨fun hb=>?_,fun hb=>?_⟩
  ·simp only[decide_eq_true_eq]at hb
   have hkl:k<l.length:=by omega
   have hat:=ZmQ hnt (q:=fun x:Stop=>decide (x.station=s.station)) hkl
   rw[hp2,Bool.false_or]at hat
   refine wS ?_
   simp only[ZfH]
   refine⟨fun h4=>?_,fun h4=>?_⟩
   ·rw[h4]at hat
    have:(l.take i).any (fun x=>decide (x.station=s.station))=true:=by
     rw[List.any_eq_true]at hat⊢
     obtain⟨x,hx,h⟩:=hat
     exact⟨x,List.Sublist.subset (List.take_sublist_take_left (by omega)) hx,h⟩
    simp only[if_pos this]at hp
    rw[if_pos (by decide)]at hp
    subst hp
    refine wS ?_
    refine hQ _ _ _ ?_
    (cbv;(try simp only[nc]at*);(try refine Chk.mk (okc) ?_))
    (try first|exact⟨rfl,trivial⟩|exact⟨trivial,trivial⟩)
   ·rw[h4]at hat
    refine wS ?_
    refine⟨k+1,⟨by omega,hat⟩,by show i-(k+1)+0<i-k+0;omega,?_⟩
    exact toT
  ·simp only[decide_eq_false_iff_not]at hb
   obtain rfl:k=i:=by omega
   simp only[hp2,Bool.false_eq_true,if_false]at hp
   refine wS ?_
   refine hQ _ _ _ ?_
   clear hQ
   refine wS ?_
   refine Zoc (c72 s.zone 0 ((b.zones.length:Int)-1)) ?_
   refine vS ?_
   refine⟨fun h5=>?_,fun h5=>?_⟩
   ·simp only[if_pos h5]at hp
    rw[if_pos (by decide)]at hp
    subst hp
    (cbv;(try simp only[nc]at*);(try refine Chk.mk (okc) ?_))
    (try first|exact⟨rfl,trivial⟩|exact⟨trivial,trivial⟩)
   simp only[if_neg (show¬(!inB s.zone 0 ((b.zones.length:Int)-1))=true by rw[h5];exact Bool.false_ne_true)]at hp
   refine wS ?_
   refine Zoc (c72 s.arrive 0 4319) ?_
   refine wS ?_
   refine⟨fun h6=>?_,fun h6=>?_⟩
   ·have h6:inB s.arrive 0 4319=true:=by simpa using h6
    refine wS ?_
    refine Zoc (c72 s.depart 0 4319) ?_
    refine wS ?_
    refine⟨fun h7=>?_,fun h7=>?_⟩
    ·have h7:inB s.depart 0 4319=false:=by simpa [h6]using h7
     simp only[h6,h7,Bool.not_false,Bool.not_true,Bool.false_or,if_true]at hp
     rw[if_pos (by decide)]at hp
     subst hp
     (cbv;(try simp only[nc]at*);(try refine Chk.mk (okc) ?_))
     (try first|exact⟨rfl,trivial⟩|exact⟨trivial,trivial⟩)
    ·have h7:inB s.depart 0 4319=true:=by simpa [h6]using h7
     simp only[h6,h7,Bool.not_true,Bool.false_or,Bool.false_eq_true,if_false]at hp
     have he:(decide (0<k)&&decide ((k:Int)<l.length-1)&&decide (s.depart<s.arrive))=(bif bif decide (0<(k:Int))then decide ((k:Int)<(l.length:Int)-1)else false then decide (s.depart<s.arrive)else false):=by
      rw[show decide (0<k)=decide (0<(k:Int))from by rw[Bool.eq_iff_iff];simp]
      cases decide (0<(k:Int))<;>cases decide ((k:Int)<(l.length:Int)-1)<;>rfl
     rw[he]at hp
     refine wS ?_
     refine⟨fun h8=>?_,fun h8=>?_⟩
     ·rw[if_pos h8,if_pos (by decide)]at hp
      subst hp
      (cbv;(try simp only[nc]at*);(try refine Chk.mk (okc) ?_))
      (try first|exact⟨rfl,trivial⟩|exact⟨trivial,trivial⟩)
     ·simp only[h8,Bool.false_eq_true,if_false,ne_eq,not_true_eq_false]at hp
      refine wS ?_
      refine⟨k+1,⟨by omega,by rw[←hp];congr 1;omega⟩,by show l.length-(k+1)+0<l.length-k+0;omega,?_⟩
      exact toT
   ·have h6:inB s.arrive 0 4319=false:=by simpa using h6
    simp only[h6,Bool.not_false,Bool.true_or,if_true]at hp
    rw[if_pos (by decide)]at hp
    subst hp
    refine wS ?_
    refine Br.isT (by rfl) ?_
    (cbv;(try simp only[nc]at*);(try refine Chk.mk (okc) ?_))
    (try first|exact⟨rfl,trivial⟩|exact⟨trivial,trivial⟩)
 ·simp only[decide_eq_false_iff_not]at hb
  rw[show l.length-i=0 by omega,Zan]at hp
  subst hp
  (cbv;(try simp only[nc]at*);(try refine Chk.mk (okc) ?_))
  (try first|exact⟨rfl,trivial⟩|exact⟨trivial,trivial⟩)
theorem c71 (b:ZeJ) (l:List Train) (hz:b.zones.length≤1000000) (hl:l.length≤1000000) (hs:∀t∈l,t.stops.length≤1000000):SC (fun _=>Try.prog) 80 [Zaf b,lst 3 encTrain default l] [] fun v h=>v= .int .i64 (fun _=>ZaU b.zones.length l)∧h=[]:=by
 obtain⟨nt,hnt⟩:=Zat
 unfold ZaU
 generalize hE:(if ZaA l.length 0 4≠0 then ZaA l.length 0 4 else Zan (Zbk b.zones.length l) 0 l.length)=E
 unfold Zaf
 simp only[Zaa hnt]
 refine con Try.func80 (body:=Zal Try.f80) rfl (by decide+kernel) ?_
 refine wS ?_
 refine⟨fun h2=>?_,fun h2=>?_⟩
 ·simp only[decide_eq_true_eq]at h2
  rw[show ZaA l.length 0 4=6 by unfold ZaA;rw[if_neg (by omega),if_pos (by omega)],if_pos (by decide)]at hE
  subst hE
  (cbv;(try simp only[nc]at*);(try refine Chk.mk (okc) ?_))
  (try first|exact⟨rfl,trivial⟩|exact⟨trivial,trivial⟩)
 simp only[decide_eq_false_iff_not]at h2
 rw[show ZaA l.length 0 4=0 by unfold ZaA;rw[if_neg (by omega),if_neg (by omega)],if_neg (by decide)]at hE
 refine wS ?_
 refine Za2 false false [] [1,2,5] [] (fun(i:Nat)=>[(5,.int .i64 fun _=>(i:Int))]) (fun _=>[]) (fun i=>i≤l.length∧Zan (Zbk b.zones.length l) i (l.length-i)=E) (fun i=>l.length-i+0) 0 ⟨Nat.zero_le _,by simpa using hE⟩ ?_ ?_
 ·exact toT
 rintro i ⟨hi,hp⟩
 refine wS ?_
 refine⟨fun hb=>?_,fun hb=>?_⟩
 ·simp only[decide_eq_true_eq]at hb
  have hil:i<l.length:=by omega
  obtain⟨q,hq⟩:∃q,l.length-i=q+1:=⟨l.length-i-1,by omega⟩
  rw[hq,Zan]at hp
  have hst:=hs _ (Zb4 (d:=default) hnt (l:=l) (i:=i) hil)
  have hct:Zbk b.zones.length l i=if !inB (nt Train default l i).number 1 999 then 1 else if(l.take i).any (fun x=>decide (x.number=(nt Train default l i).number))then 4 else if !inB (nt Train default l i).days 1 127 then 1
   else if ZaA (nt Train default l i).stops.length 2 4≠0 then ZaA (nt Train default l i).stops.length 2 4 else Zc4 b.zones.length (nt Train default l i).stops:=by unfold Zbk;rw[hnt];rfl
  refine wS ?_
  refine Zoc (c72 (nt Train default l i).number 1 999) ?_
  refine vS ?_
  refine⟨fun h3=>?_,fun h3=>?_⟩
  ·rw[if_pos h3]at hct
   rw[hct,if_pos (by decide)]at hp
   subst hp
   (cbv;(try simp only[nc]at*);(try refine Chk.mk (okc) ?_))
   (try first|exact⟨rfl,trivial⟩|exact⟨trivial,trivial⟩)
  rw[if_neg (by rw[h3];exact Bool.false_ne_true)]at hct
  refine wS ?_
  refine ZgZ fun Q hQ=>?_
  refine Za2 false false [] [1,2,5,6] [] (fun(k:Nat)=>[(6,.int .i64 fun _=>(k:Int))]) (fun _=>[]) (fun k=>k≤i∧(l.take k).any (fun x=>decide (x.number=(nt Train default l i).number))=false) (fun k=>i-k+0) 0 ⟨Nat.zero_le _,by simp⟩ ?_ ?_
  ·exact toT
  rintro k ⟨hk,hp2⟩
  refine wS ?_
  refine⟨fun hb=>?_,fun hb=>?_⟩
  ·simp only[decide_eq_true_eq]at hb
   have hkl:k<l.length:=by omega
   have hat:=ZmQ hnt (q:=fun x:Train=>decide (x.number=(nt Train default l i).number)) hkl
   rw[hp2,Bool.false_or]at hat
   refine wS ?_
   simp only[ZfH]
   refine⟨fun h4=>?_,fun h4=>?_⟩
   ·rw[h4]at hat
    have:(l.take i).any (fun x=>decide (x.number=(nt Train default l i).number))=true:=by
     rw[List.any_eq_true]at hat⊢
     obtain⟨x,hx,h⟩:=hat
     exact⟨x,List.Sublist.subset (List.take_sublist_take_left (by omega)) hx,h⟩
    rw[if_pos this]at hct
    rw[hct,if_pos (by decide)]at hp
    subst hp
    refine wS ?_
    refine hQ _ _ _ ?_
    (cbv;(try simp only[nc]at*);(try refine Chk.mk (okc) ?_))
    (try first|exact⟨rfl,trivial⟩|exact⟨trivial,trivial⟩)
   ·rw[h4]at hat
    refine wS ?_
    refine⟨k+1,⟨by omega,hat⟩,by show i-(k+1)+0<i-k+0;omega,?_⟩
    exact toT
  ·simp only[decide_eq_false_iff_not]at hb
   obtain rfl:k=i:=by omega
   rw[hp2,if_neg (by exact Bool.false_ne_true)]at hct
   refine wS ?_
   refine hQ _ _ _ ?_
   clear hQ
   refine wS ?_
   refine Zoc (c72 (nt Train default l (k:Int)).days 1 127) ?_
   refine vS ?_
   refine⟨fun h3=>?_,fun h3=>?_⟩
   ·rw[if_pos h3]at hct
    rw[hct,if_pos (by decide)]at hp
    subst hp
    (cbv;(try simp only[nc]at*);(try refine Chk.mk (okc) ?_))
    (try first|exact⟨rfl,trivial⟩|exact⟨trivial,trivial⟩)
   rw[if_neg (by rw[h3];exact Bool.false_ne_true)]at hct
   refine wS ?_
   have k110:=Zyt b (nt Train default l (k:Int)).stops hz hst
   rw[ZmN hnt]at k110
   refine Za3 k110 rfl fun r h₂ hp=>?_
   obtain⟨rfl,rfl⟩:=hp
   rw[←hct]
   generalize Zbk b.zones.length l k=e at*
   refine vS ?_
   refine⟨fun h5=>?_,fun h5=>?_⟩
   ·simp only[bne_iff_ne,ne_eq]at h5
    rw[if_pos h5]at hp
    subst hp
    (cbv;(try simp only[nc]at*);(try refine Chk.mk (okc) ?_))
    (try first|exact⟨rfl,trivial⟩|exact⟨trivial,trivial⟩)
   ·simp only[bne_eq_false_iff_eq]at h5
    rw[if_neg (fun h=>h h5)]at hp
    refine wS ?_
    refine⟨k+1,⟨by omega,by rw[←hp];congr 1;omega⟩,by show l.length-(k+1)+0<l.length-k+0;omega,?_⟩
    exact toT
 ·simp only[decide_eq_false_iff_not]at hb
  rw[show l.length-i=0 by omega,Zan]at hp
  subst hp
  (cbv;(try simp only[nc]at*);(try refine Chk.mk (okc) ?_))
  (try first|exact⟨rfl,trivial⟩|exact⟨trivial,trivial⟩)
theorem c25 (b:ZeJ) (hb:Zdn b):SC (fun _=>Try.prog) 56 [Zaf b] [] fun v h=>v= .int .i64 (fun _=>ZdU b)∧h=[]:=by
 obtain⟨nt,hnt⟩:=Zat
 have hz:=hb.zones
 have hc:=hb.chs
 unfold ZdU
 generalize hE:(if ZaA b.zones.length 1 3≠0 then _ else _:Int)=E
 have k1:=c71 b b.old hz hb.old hb.stops.1
 have k2:=c71 b b.new hz hb.new hb.stops.2
 unfold Zaf at k1 k2⊢
 simp only[Zaa hnt]at k1 k2⊢
 refine con Try.func56 (body:=Zal Try.f56) rfl (by decide+kernel) ?_
 refine wS ?_
 refine⟨fun h1=>?_,fun h1=>?_⟩
 ·have h1:b.zones.length=0:=by simpa using h1
  rw[show ZaA b.zones.length 1 3=7 by unfold ZaA;rw[if_pos (by omega)],if_pos (by decide)]at hE
  subst hE
  (cbv;(try simp only[nc]at*);(try refine Chk.mk (okc) ?_))
  (try first|exact⟨rfl,trivial⟩|exact⟨trivial,trivial⟩)
 have h1:¬b.zones.length=0:=by simpa using h1
 refine wS ?_
 refine⟨fun h2=>?_,fun h2=>?_⟩
 ·simp only[decide_eq_true_eq]at h2
  rw[show ZaA b.zones.length 1 3=6 by unfold ZaA;rw[if_neg (by omega),if_pos (by omega)],if_pos (by decide)]at hE
  subst hE
  (cbv;(try simp only[nc]at*);(try refine Chk.mk (okc) ?_))
  (try first|exact⟨rfl,trivial⟩|exact⟨trivial,trivial⟩)
 simp only[decide_eq_false_iff_not]at h2
 rw[show ZaA b.zones.length 1 3=0 by unfold ZaA;rw[if_neg (by omega),if_neg (by omega)],if_neg (by decide)]at hE
 generalize hF:Zan (fun i=>Zao (b.zones.getD i default)) 0 b.zones.length=F at*
 refine wS ?_
 refine ZgZ fun Q hQ=>?_
 refine Za2 false false [] [1,3] [] (fun(i:Nat)=>[(3,.int .i64 fun _=>(i:Int))]) (fun _=>[]) (fun i=>i≤b.zones.length∧Zan (fun i=>Zao (b.zones.getD i default)) i (b.zones.length-i)=F) (fun i=>b.zones.length-i+0) 0 ⟨Nat.zero_le _,by simpa using hF⟩ ?_ ?_
 ·exact toT
 rintro i ⟨hi,hp⟩
 refine wS ?_
 refine⟨fun hb=>?_,fun hb=>?_⟩
 ·simp only[decide_eq_true_eq]at hb
  obtain⟨q,hq⟩:∃q,b.zones.length-i=q+1:=⟨b.zones.length-i-1,by omega⟩
  rw[hq,Zan]at hp
  have hch:=hc _ (Zb4 (d:=default) hnt (l:=b.zones) (i:=i) (by omega))
  have hzn:b.zones.getD i default=nt Zone default b.zones i:=by rw[hnt];rfl
  rw[hzn]at hp
  refine wS ?_
  generalize nt Zone default b.zones i=z at*
  refine Zoc (c70 z hch) ?_
  generalize Zao z=e at*
  refine vS ?_
  refine⟨fun h3=>?_,fun h3=>?_⟩
  ·simp only[bne_iff_ne,ne_eq]at h3
   rw[if_pos h3]at hp
   subst hp
   rw[if_pos h3]at hE
   subst hE
   refine wS ?_
   refine hQ _ _ _ ?_
   (cbv;(try simp only[nc]at*);(try refine Chk.mk (okc) ?_))
   (try first|exact⟨rfl,trivial⟩|exact⟨trivial,trivial⟩)
  ·simp only[bne_eq_false_iff_eq]at h3
   rw[if_neg (fun h=>h h3)]at hp
   refine wS ?_
   refine⟨i+1,⟨by omega,by rw[←hp];congr 1;omega⟩,by show b.zones.length-(i+1)+0<b.zones.length-i+0;omega,?_⟩
   exact toT
 simp only[decide_eq_false_iff_not]at hb
 rw[show b.zones.length-i=0 by omega,Zan]at hp
 subst hp
 rw[if_neg (fun h=>h rfl)]at hE
 refine wS ?_
 refine hQ _ _ _ ?_
 clear hQ
 generalize ZaU b.zones.length b.old=e1 at*
 generalize ZaU b.zones.length b.new=e2 at*
 refine wS ?_
 refine Zoc (k1) ?_
 refine wS ?_
 refine⟨fun h3=>?_,fun h3=>?_⟩
 ·simp only[bne_iff_ne,ne_eq]at h3
  rw[if_pos h3]at hE
  subst hE
  (cbv;(try simp only[nc]at*);(try refine Chk.mk (okc) ?_))
  (try first|exact⟨rfl,trivial⟩|exact⟨trivial,trivial⟩)
 simp only[bne_eq_false_iff_eq]at h3
 rw[if_neg (fun h=>h h3)]at hE
 refine wS ?_
 refine Zoc (k2) ?_
 refine wS ?_
 refine⟨fun h4=>?_,fun h4=>?_⟩
 ·simp only[bne_iff_ne,ne_eq]at h4
  rw[if_pos h4]at hE
  subst hE
  (cbv;(try simp only[nc]at*);(try refine Chk.mk (okc) ?_))
  (try first|exact⟨rfl,trivial⟩|exact⟨trivial,trivial⟩)
 simp only[bne_eq_false_iff_eq]at h4
 rw[if_neg (fun h=>h h4)]at hE
 refine wS ?_
 have k67:=c72 b.last 0 13
 rcases hI:inB b.last 0 13 with _|_
 ·rw[hI]at k67 hE
  simp only[Bool.not_false,Bool.true_or,if_true]at hE
  subst hE
  refine Zoc (k67) ?_
  refine vS ?_
  refine Chk.mk (by simp[Zct,Zcr,Zcs,Cn.p]) ?_
  refine Br.isF (by rfl) ?_
  refine wS ?_
  refine Br.isT (by rfl) ?_
  (cbv;(try simp only[nc]at*);(try refine Chk.mk (okc) ?_))
  (try first|exact⟨rfl,trivial⟩|exact⟨trivial,trivial⟩)
 ·have hlast:0≤b.last∧b.last≤13:=by simpa [inB]using hI
  rw[hI]at k67 hE
  simp only[Bool.not_true,Bool.false_or]at hE
  refine Zoc (k67) ?_
  refine wS ?_
  refine Br.isT (by rfl) ?_
  refine wS ?_
  refine Zoc (c72 b.night 0 (b.last+1)) ?_
  refine wS ?_
  refine⟨fun hb'=>?_,fun hb'=>?_⟩
  ·have hb':inB b.night 0 (b.last+1)=false:=by simpa using hb'
   rw[if_pos (by simp[hb'])]at hE
   subst hE
   (cbv;(try simp only[nc]at*);(try refine Chk.mk (okc) ?_))
   (try first|exact⟨rfl,trivial⟩|exact⟨trivial,trivial⟩)
  ·have hb':inB b.night 0 (b.last+1)=true:=by simpa using hb'
   rw[if_neg (by simp[hb'])]at hE
   subst hE
   (cbv;(try simp only[nc]at*);(try refine Chk.mk (okc) ?_))
   (try first|exact⟨rfl,trivial⟩|exact⟨trivial,trivial⟩)
end Go.Proofs.Ytjgpiclllehgmaa.Vm
namespace Go.Proofs.Ytjgpiclllehgmaa.Vm
open Go Go.Proofs Sp
set_option maxRecDepth 100000
set_option maxHeartbeats 1600000
end Go.Proofs.Ytjgpiclllehgmaa.Vm
namespace Go.Proofs.Ytjgpiclllehgmaa.Vm
attribute [local irreducible] Dn
open Go Go.Proofs Sp
set_option maxRecDepth 100000
set_option maxHeartbeats 1600000
theorem Zwz {f:FuncId} {xs ys:List AV} {h:List Blk} {Post Q:AV→List Blk→Prop} {B:Prop} (H:SC (fun _=>Try.prog) f ys [] Q) (k:B) (t:SC (fun _=>Try.prog) f ys [] Q→HdW B→SC (fun _=>Try.prog) f xs h Post:=by intro hH hW;refine Za3 hH (by first|rfl|(simp only[Zae,Zaf,Zaa hnt];rfl)) fun r h₂ hp=>?_;(try simp only[Zae,Zaf,Zaa hnt]at hp);obtain⟨rfl,rfl⟩:=hp;exact hW.out):SC (fun _=>Try.prog) f xs h Post:=t H ⟨k⟩
theorem Zym (b:ZeJ) (day:Int):SC (fun _=>Try.prog) 58 [Zaf b,.int .i64 fun _=>day] [] fun v h=>v=lst 3 encTrain default (Zcu b day)∧h=[]:=by
 refine con Try.func58 (body:=Zal Try.f58) rfl (by decide+kernel) ?_
 unfold Zaf Zcu
 refine wS ?_
 refine⟨fun hb=>?_,fun hb=>?_⟩
 ·simp only[decide_eq_true_eq]at hb
  rw[if_pos hb]
  (cbv;(try simp only[nc]at*);(try refine Chk.mk (okc) ?_))
  (try first|exact⟨rfl,trivial⟩|exact⟨trivial,trivial⟩)
 ·simp only[decide_eq_false_iff_not]at hb
  rw[if_neg hb]
  (cbv;(try simp only[nc]at*);(try refine Chk.mk (okc) ?_))
  (try first|exact⟨rfl,trivial⟩|exact⟨trivial,trivial⟩)
theorem Zyk (t:Train) (day:Int) (hd:0≤day∧day≤1000000) (ht:0≤t.days∧t.days≤1000000):SC (fun _=>Try.prog) 60 [.agg (encTrain t),.int .i64 fun _=>day] [] fun v h=>v= .bool (fun _=>ZgF t day)∧h=[]:=by
 refine con Try.func60 (body:=Zal Try.f60) rfl (by decide+kernel) ?_
 have e:=(ZuC day 7).1 hd.1
 refine vS ?_
 rw[e]
 refine Chk.mk (okc) ?_
 refine vS ?_
 refine⟨?_,trivial⟩
 congr 1;funext _
 rw[Nat.min_eq_left (show(day%7).toNat≤IntKind.i64.bits by show _≤64;omega),Int.fdiv_eq_ediv_of_nonneg _ (Int.le_of_lt (Int.pow_pos (by omega)))]
 have hq:0≤t.days/2^(day%7).toNat:=Int.ediv_nonneg ht.1 (Int.le_of_lt (Int.pow_pos (by omega)))
 have hle:t.days/2^(day%7).toNat≤t.days:=Int.ediv_le_self _ ht.1
 unfold ZgF
 generalize t.days/2^(day%7).toNat=q at*
 rw[ZpI q hq (by omega),ZfH]
theorem Zyl (l:List Train) (n:Int) (hl:l.length≤1000000):SC (fun _=>Try.prog) 59 [lst 3 encTrain default l,.int .i64 fun _=>n] [] fun v h=>v= .int .i64 (fun _=>place l n)∧h=[]:=by
 obtain⟨nt,hnt⟩:=Zat
 unfold place
 generalize hE:Zak (fun t:Train=>decide (t.number=n)) 0 l=E
 rw[Zaa hnt]
 refine con Try.func59 (body:=Zal Try.f59) rfl (by decide+kernel) ?_
 refine wS ?_
 refine Za2 false false [] [0,1,5] [] (fun(i:Nat)=>[(5,.int .i64 fun _=>(i:Int))]) (fun _=>[]) (fun i=>i≤l.length∧Zak (fun t:Train=>decide (t.number=n)) i (l.drop i)=E) (fun i=>l.length-i+0) 0 ⟨Nat.zero_le _,by simpa using hE⟩ ?_ ?_
 ·exact toT
 rintro i ⟨hi,hp⟩
 refine wS ?_
 refine⟨fun hb=>?_,fun hb=>?_⟩
 ·simp only[decide_eq_true_eq]at hb
  rw[Zbh (d:=default) hnt (l:=l) (i:=i) (by omega),Zak]at hp
  refine wS ?_
  simp only[ZfH]
  refine⟨fun h1=>?_,fun h1=>?_⟩
  ·rw[if_pos h1]at hp
   subst hp
   (cbv;(try simp only[nc]at*);(try refine Chk.mk (okc) ?_))
   (try first|exact⟨rfl,trivial⟩|exact⟨trivial,trivial⟩)
  ·rw[if_neg (by rw[h1];exact Bool.false_ne_true)]at hp
   refine wS ?_
   refine⟨i+1,⟨by omega,by rw[←hp];rfl⟩,by show l.length-(i+1)+0<l.length-i+0;omega,?_⟩
   exact toT
 ·simp only[decide_eq_false_iff_not]at hb
  rw[List.drop_eq_nil_of_le (by omega),Zak]at hp
  subst hp
  (cbv;(try simp only[nc]at*);(try refine Chk.mk (okc) ?_))
  (try first|exact⟨rfl,trivial⟩|exact⟨trivial,trivial⟩)
theorem ZlF:∀(l:List Chg) (fr a r t:Int),(∀p∈ZbU fr a l,p.fr<ZcA∧r-p.ahd<ZcA)→t<ZcA→Zc7 (ZbU fr a l) r t<ZcA
 |[],fr,a,r,t,h,ht=>by
  have:=h ⟨fr,ZcA,a⟩ (by simp[ZbU])
  simp only[ZbU,Zc7]at*
  rw[if_pos (by omega)]
  omega
 |c::l,fr,a,r,t,h,ht=>by
  unfold ZbU at h⊢
  split
  ·rename_i hc
   rw[if_pos hc]at h
   unfold Zc7
   split
   ·have:=h ⟨fr,c.at_,a⟩ (List.mem_cons_self ..)
    simp only at this⊢
    omega
   ·exact ZlF l _ _ _ _ (fun p hp=>h p (List.mem_cons_of_mem _ hp)) ht
  ·rename_i hc
   rw[if_neg hc]at h
   exact ZlF l _ _ _ _ h ht
theorem Zpd:∀(l:List Pc) (r t:Int),0≤t→0≤Zc7 l r t
 |[],_,_,_=>by unfold Zc7 ZcA;omega
 |p::l,r,t,h=>by
  unfold Zc7
  split
  ·omega
  ·exact Zpd l r t h
theorem Zmx {z:Zone} (hz:Zao z=0) {r t:Int} (hr:r≤1000000) (ht:0≤t∧t<ZcA):0≤Zc7 (ZaL z) r t∧Zc7 (ZaL z) r t<ZcA:=by
 refine⟨Zpd _ _ _ ht.1,ZlF _ _ _ _ _ (fun p hp=>?_) ht.2⟩
 have:=(Zhr hz).2 p hp
 unfold ZcA
 omega
theorem Zyj (b:ZeJ) (t:Train) (day:Int) (hb':∀z∈b.zones,Zao z=0) (ht:∀s∈t.stops,(0≤s.zone∧s.zone<b.zones.length)∧(0≤s.arrive∧s.arrive≤10000)∧0≤s.depart∧s.depart≤10000) (hlen:2≤t.stops.length∧t.stops.length≤1000) (hd:0≤day∧day≤100):
  SC (fun _=>Try.prog) 61 [Zaf b,.agg (encTrain t),.int .i64 fun _=>day] [] fun v h=>v=lst 3 Zcp default (calls b.zones t day)∧h=[]:=by
 obtain⟨nt,hnt⟩:=Zat
 refine SC.less (Zwm false false [] Try.func61 (body:=Zal Try.f61) rfl (by decide+kernel) ?_)
 rw[ZmN hnt]
 rw[show AV.agg (encTrain t)= .agg [.int .i64 fun _=>t.number,.int .i64 fun _=>t.days,.isl 4 (fun _=>(t.stops.length:Int)) (fun e=>ZbJ (nt Stop default t.stops (e ()))) .none] by unfold encTrain;rw[Zaa hnt]]
 refine wS ?_
 refine Za2 false false [] [2,3,4,7,8,9] [.tok 3 fun _=>0] (fun(⟨i,now,out⟩:Nat×Int×List Sp.Call)=>[(7,.isl 3 (fun _=>(out.length:Int)) (fun e=>Zcp (nt Sp.Call default out (e ()))) (.own 2)),(8,.int .i64 fun _=>now),(9,.int .i64 fun _=>(i:Int))])
  (fun⟨i,now,out⟩=>[(2,.tok 3 fun _=>(out.length:Int))])
  (fun⟨i,now,out⟩=>(i≤t.stops.length∧out.length=i∧calls b.zones t day=out++Zbz b.zones day t.stops.length i now (t.stops.drop i))∧0≤now∧now<ZcA) (fun i=>t.stops.length-i.1+0) (0,0,[]) ⟨⟨Nat.zero_le _,rfl,rfl⟩,by decide,by decide⟩ ?_ ?_
 ·(refine To.of [(3,false)] ?_;cbv;(try simp only[nc]);(repeat' (first|exact trivial|exact WkN.refl _|exact WkB.refl _|refine⟨?_,?_⟩|refine WkB.cells ?_|refine WkN.agg ?_|refine WkN.tup ?_));(all_goals (first|exact okt|skip)))
 rintro⟨i,now,out⟩ ⟨⟨hi,ho,hp⟩,hn⟩
 have hgz:∀k:Nat,k<t.stops.length→Zao (nt Zone default b.zones (nt Stop default t.stops (k:Int)).zone)=0:=fun k hk=>hb' _ (by
  have:=ht _ (Zb4 (d:=default) hnt (l:=t.stops) (i:=k) hk)
  rw[hnt,List.getD_eq_getElem?_getD,List.getElem?_eq_getElem (by omega)];exact List.getElem_mem _)
 have hgd:∀z:Int,b.zones.getD z.toNat default=nt Zone default b.zones z:=fun z=>by rw[hnt]
 refine wS ?_
 refine⟨fun hb=>?_,fun hb=>?_⟩
 ·simp only[decide_eq_true_eq]at hb
  have hil:i<t.stops.length:=by omega
  have hs:=ht _ (Zb4 (d:=default) hnt (l:=t.stops) (i:=i) hil)
  have hz:=hgz i hil
  rw[Zbh (d:=default) hnt hil,Zbz]at hp
  simp only[hgd]at hp
  refine wS ?_
  generalize nt Stop default t.stops (i:Int)=s at*
  generalize hZ:nt Zone default b.zones s.zone=z at*
  have ka:=fun n hn=>ZxI z (1440*day+s.arrive) n hz (by omega) hn
  have kd:=fun n hn=>ZxI z (1440*day+s.depart) n hz (by omega) hn
  have fa:=fun n hn=>Zmx (t:=n) hz (show 1440*day+s.arrive≤1000000 by omega) hn
  have fd:=fun n hn=>Zmx (t:=n) hz (show 1440*day+s.depart≤1000000 by omega) hn
  generalize hL:ZaL z=L at*
  rcases Nat.eq_zero_or_pos i with h0|h0
  ·subst h0
   rw[if_pos rfl,if_pos (by omega)]at hp
   refine Br.isF (by simp) ?_
   refine wS ?_
   refine Br.isT (by simp;omega) ?_
   refine vS ?_
   simp only[hZ]
   refine Chk.mk (okc) ?_
   refine Zwz (kd now hn) ?_
   have fd:=fd now hn
   try dsimp only at hp
   generalize Zc7 L (1440*day+s.depart) now=d at*
   refine wS ?_
   refine Br.isT (by simp) ?_
   refine wS ?_
   refine⟨(1,d,out++[⟨s.station,d,d⟩]),⟨⟨by omega,by simp only[List.length_append,List.length_cons,List.length_nil];omega,by rw[hp];simp⟩,fd⟩,by show t.stops.length-1+0<t.stops.length-0+0;omega,?_⟩
   exact toT
  ·rw[if_neg (by omega)]at hp
   refine Br.isT (by simp;omega) ?_
   refine vS ?_
   simp only[hZ]
   refine Chk.mk (okc) ?_
   refine Zwz (ka now hn) ?_
   have fa:=fa now hn
   try dsimp only at hp
   generalize Zc7 L (1440*day+s.arrive) now=a at*
   refine wS ?_
   refine⟨fun h1=>?_,fun h1=>?_⟩
   ·simp only[decide_eq_true_eq]at h1
    rw[if_pos (by omega)]at hp
    refine vS ?_
    simp only[hZ]
    refine Chk.mk (okc) ?_
    refine Zwz (kd a fa) ?_
    have fd:=fd a fa
    generalize Zc7 L (1440*day+s.depart) a=d at*
    refine wS ?_
    refine Br.isF (by simp;omega) ?_
    refine wS ?_
    refine⟨(i+1,d,out++[⟨s.station,a,d⟩]),⟨⟨by omega,by simp only[List.length_append,List.length_cons,List.length_nil];omega,by rw[hp];simp⟩,fd⟩,by show t.stops.length-(i+1)+0<t.stops.length-i+0;omega,?_⟩
    exact toT
   ·simp only[decide_eq_false_iff_not]at h1
    rw[if_neg (by omega)]at hp
    refine wS ?_
    refine Br.isF (by simp;omega) ?_
    refine wS ?_
    refine⟨(i+1,a,out++[⟨s.station,a,a⟩]),⟨⟨by omega,by simp only[List.length_append,List.length_cons,List.length_nil];omega,by rw[hp];simp⟩,fa⟩,by show t.stops.length-(i+1)+0<t.stops.length-i+0;omega,?_⟩
    exact toT
 ·simp only[decide_eq_false_iff_not]at hb
  rw[List.drop_eq_nil_of_le (by omega),Zbz,List.append_nil]at hp
  rw[hp]
  refine wS ?_
  refine⟨lst 3 Zcp default out,[],?_,rfl,rfl⟩
  simp only[Zaa hnt]
  exact toT
end Go.Proofs.Ytjgpiclllehgmaa.Vm
namespace Go.Proofs.Ytjgpiclllehgmaa.Vm
attribute [local irreducible] Dn
open Go Go.Proofs Sp
set_option maxRecDepth 100000
set_option maxHeartbeats 1600000
theorem Zus {f:FuncId} {xs ys:List AV} {h:List Blk} {Post Q:AV→List Blk→Prop} {B:Prop} (H:SC (fun _=>Try.prog) f ys [] Q) (k:B) (t:SC (fun _=>Try.prog) f ys [] Q→HdW B→SC (fun _=>Try.prog) f xs h Post:=by intro hH hW;refine Za3 hH (by first|rfl|(simp only[Zae,Zaf,Zaa hnt];rfl)) fun r h₂ hp=>?_;(try simp only[Zae,Zaf,Zaa hnt]at hp);obtain⟨rfl,rfl⟩:=hp;exact hW.out):SC (fun _=>Try.prog) f xs h Post:=t H ⟨k⟩
theorem ZoN (l:List Train) (n:Int):place l n=-1∨0≤place l n∧place l n<l.length:=by
 have:=Zci (q:=fun t:Train=>decide (t.number=n)) (l:=l) (i:=0) (by omega)
 rcases Nat.eq_zero_or_pos l.length with h|h
 ·rw[List.eq_nil_of_length_eq_zero h];exact .inl rfl
 ·unfold place;omega
theorem Zyn (b:ZeJ) (n day:Int) (hf:Zdn b):SC (fun _=>Try.prog) 36 [Zaf b,.int .i64 fun _=>n,.int .i64 fun _=>day] [] fun v h=>v= .tup [lst 3 Zcp default (Run b n day).1,.int .i64 fun _=>(Run b n day).2]∧h=[]:=by
 obtain⟨nt,hnt⟩:=Zat
 refine SC.less (con Try.func36 (body:=Zal Try.f36) rfl (by decide+kernel) ?_)
 unfold Zaf Run
 simp only[Zaa hnt]
 refine wS ?_
 refine Zus (c25 b hf) ?_
 have hok0:=fun h=>Zgw (b:=b) h
 generalize ZdU b=e at*
 refine vS ?_
 refine⟨fun hb=>?_,fun hb=>?_⟩
 ·simp only[bne_iff_ne,ne_eq]at hb
  rw[if_pos hb]
  refine wS ?_
  refine⟨_,[],?_,rfl,rfl⟩
  exact toT
 simp only[bne_eq_false_iff_eq]at hb
 have hok:=hok0 hb
 subst hb
 rw[if_neg (fun h=>h rfl)]
 refine wS ?_
 refine Zus (c72 day 0 b.last) ?_
 refine vS ?_
 refine⟨fun hb=>?_,fun hb=>?_⟩
 ·rw[if_pos hb]
  refine wS ?_
  refine⟨_,[],?_,rfl,rfl⟩
  exact toT
 rw[if_neg (by rw[hb];exact Bool.false_ne_true)]
 have hday:=Zfh (by simpa using hb:inB day 0 b.last=true)
 have hlast:=hok.last
 have htab:=Zjh hok day
 refine wS ?_
 refine Zus (Zym b day) ?_
 have hpl:=ZoN (Zcu b day) n
 generalize Zcu b day=l at*
 refine wS ?_
 refine Zus (Zyl l n (by omega)) ?_
 generalize place l n=p at*
 refine vS ?_
 refine⟨fun hb=>?_,fun hb=>?_⟩
 ·simp only[decide_eq_true_eq]at hb
  rw[if_pos hb]
  refine wS ?_
  refine⟨_,[],?_,rfl,rfl⟩
  exact toT
 simp only[decide_eq_false_iff_not]at hb
 rw[if_neg hb]
 obtain⟨k,rfl⟩:∃k:Nat,p=k:=⟨p.toNat,by omega⟩
 refine wS ?_
 have hTk:=htab.2 _ (Zb4 (d:=default) hnt (l:=l) (i:=k) (by omega))
 have hgk:l.getD (k:Int).toNat default=nt Train default l k:=by rw[hnt]
 rw[hgk]
 have hdays:=hTk.days
 refine Zus (Zyk (nt Train default l k) day (by omega) (by omega)) ?_
 refine vS ?_
 refine⟨fun hb=>?_,fun hb=>?_⟩
 ·rw[if_pos hb]
  refine wS ?_
  refine⟨_,[],?_,rfl,rfl⟩
  exact toT
 rw[if_neg (by rw[hb];exact Bool.false_ne_true)]
 refine wS ?_
 have hlen:=hTk.len
 refine Zus (Zyj b (nt Train default l k) day hok.zones (fun s hs=>by obtain⟨_,h1,h2,h3⟩:=hTk.stops s hs;omega) (by omega) (by omega)) ?_
 generalize calls b.zones (nt Train default l k) day=C at*
 refine wS ?_
 refine⟨_,[],?_,rfl,rfl⟩
 (try simp only[Zfx hnt])
 exact toT
end Go.Proofs.Ytjgpiclllehgmaa.Vm
namespace Go.Proofs.Ytjgpiclllehgmaa.Sp
def ZbN (b:ZeJ) (d:ZbA):List Call×Bool:=if ZbV (Run b d.number d.day).1≠0 then([],false)else((Run b d.number d.day).1,decide ((Run b d.number d.day).2=0))
end Go.Proofs.Ytjgpiclllehgmaa.Sp
namespace Go.Proofs.Ytjgpiclllehgmaa.Vm
attribute [local irreducible] Dn
open Go Go.Proofs Sp
set_option maxRecDepth 100000
set_option maxHeartbeats 4000000
theorem Zww (b:ZeJ) (d:Sp.ZbA) (hf:Zdn b):SC (fun _=>Try.prog) 18 [Zaf b,.agg (Zag d)] [] fun v h=>v= .tup [lst 3 Zcp default (ZbN b d).1,.bool fun _=>(ZbN b d).2]∧h=[]:=by
 obtain⟨nt,hnt⟩:=Zat
 have k:=Zyn b d.number d.day hf
 have hlen:=(Zlp b d.number d.day).1
 have hE:ZbN b d=if ZbV (Run b d.number d.day).1≠0 then([],false)else((Run b d.number d.day).1,decide ((Run b d.number d.day).2=0)):=rfl
 generalize ZbN b d=E at*
 generalize Run b d.number d.day=r at*
 obtain⟨C,er⟩:=r
 unfold Zaf Zag at*
 simp only[Zaa hnt]at*
 refine SC.less (con Try.func18 (body:=Zal Try.f18) rfl (by decide+kernel) ?_)
 refine wS ?_
 refine Za3 (k) (by first|rfl|(simp only[Zae,Zaf,Zaa hnt];rfl)) fun r h₂ hp=>?_
 (try simp only[Zae,Zaf,Zaa hnt]at hp)
 obtain⟨rfl,rfl⟩:=hp
 try dsimp only at hE hlen
 refine wS ?_
 refine ZgZ fun Q hQ=>?_
 refine Za2 false false [] [6,7,8] [] (fun(j:Nat)=>[(8,.int .i64 fun _=>((j+1:Nat):Int))]) (fun _=>[]) (fun j=>ZbV C=Zan (Zd0 C) (j+1) (C.length-(j+1))) (fun j=>C.length-(j+1)+0) 0 rfl ?_ ?_
 ·exact toT
 rintro j hpk
 refine wS ?_
 refine⟨fun hb=>?_,fun hb=>?_⟩
 ·simp only[decide_eq_true_eq]at hb
  rw[Zby (by omega)]at hpk
  have hoa:Zd0 C (j+1)=if(nt Sp.Call default C ((j+1:Nat):Int)).arrive≤(nt Sp.Call default C (((j+1:Nat):Int)-1)).depart then 5 else 0:=by
   unfold Zd0
   rw[Zej hnt,Zej hnt,show((j+1-1:Nat):Int)=((j+1:Nat):Int)-1 by omega]
  refine wS ?_
  refine⟨fun hb'=>?_,fun hb'=>?_⟩
  ·simp only[decide_eq_true_eq]at hb'
   rw[if_pos (by omega)]at hoa
   rw[hoa,if_pos (by decide)]at hpk
   rw[if_pos (by rw[hpk];decide)]at hE
   subst hE
   refine wS ?_
   refine hQ _ _ _ ?_
   refine wS ?_
   refine⟨_,[],?_,rfl,rfl⟩
   exact toT
  ·simp only[decide_eq_false_iff_not]at hb'
   rw[if_neg (by omega)]at hoa
   rw[hoa,if_neg (fun h=>h rfl)]at hpk
   refine wS ?_
   refine⟨j+1,hpk,by show C.length-(j+1+1)+0<C.length-(j+1)+0;omega,?_⟩
   exact toT
 ·simp only[decide_eq_false_iff_not]at hb
  rw[ZbT (by omega)]at hpk
  rw[if_neg (fun h=>h hpk)]at hE
  subst hE
  refine wS ?_
  refine hQ _ _ _ ?_
  refine wS ?_
  refine⟨_,[],?_,rfl,rfl⟩
  exact toT
theorem Zwv (b:ZeJ) (d:Sp.ZbA) (hf:Zdn b) (hn:(ZbN b d).2=false):SC (fun _=>Try.prog) 18 [Zaf b,.agg (Zag d)] [] fun v h=>v= .tup [.undef,.bool fun _=>false]∧h=[]:=by
 refine SC.less (SC.mono (Zww b d hf) fun r h' hr=>?_)
 obtain⟨rfl,rfl⟩:=hr
 rw[hn]
 generalize (ZbN b d).1=C
 refine⟨.tup [.undef,.bool fun _=>false],[],?_,rfl,rfl⟩
 exact toT
end Go.Proofs.Ytjgpiclllehgmaa.Vm
namespace Go.Proofs.Ytjgpiclllehgmaa.Vm
open Sp
theorem Zf4 {f:Nat→Int}:∀ {k i:Nat},(∀j,i≤j→j<i+k→f j=0)→Zan f i k=0
 |0,_,_=>rfl
 |k+1,i,h=>by
  unfold Zan
  rw[if_neg (fun hne=>hne (h i (Nat.le_refl _) (by omega)))]
  exact Zf4 fun j h1 h2=>h j (by omega) (by omega)
theorem ZlC {n a b:Int} (h1:a≤n) (h2:n≤b):inB n a b=true:=by simp[inB,h1,h2]
theorem Zhw {n a b:Int} (h1:a≤n) (h2:n≤b):Zdc n a b=false:=by unfold Zdc;rw[ZlC h1 h2];rfl
theorem Zr5 {n a b:Int} (h1:a≤n) (h2:n≤b):ZaA n a b=0:=by
 unfold ZaA
 rw[if_neg (by omega),if_neg (by omega)]
theorem Zp1 {k:Int} {z:Zone} (h:Zug k z) (hk:k≤3):Zao z=0:=by
 have hb:=h.base
 have hl:=h.len
 unfold Zao
 rw[if_neg (by simp[inB];omega),if_neg (by omega)]
 have key:∀(l:List Chg) (p:Option Int),(∀c∈l,0≤c.at_∧c.at_≤43200∧ZvP c.by_)→l.Pairwise (fun a b=>a.at_<b.at_)→(∀a,p=some a→∀c∈l,a<c.at_)→ZdR p l=0:=by
  intro l
  induction l with
  |nil=>intro p _ _ _;exact Zgs p
  |cons c l ih=>
   intro p h1 h2 h3
   obtain⟨b1,b2,b3⟩:=h1 c (List.mem_cons_self ..)
   have hle:leP p c.at_=false:=by
    cases p with
    |none=>rfl
    |some a=>have:=h3 a rfl c (List.mem_cons_self ..);simp[leP];omega
   rw[ZcJ,if_neg (by simp[inB];omega),hle]
   unfold ZvP at b3
   have h4:(!inB c.by_ (-180) 180||decide (c.by_=0))=false:=by
    have g1:inB c.by_ (-180) 180=true:=by simp[inB];omega
    have g2:decide (c.by_=0)=false:=by simp;omega
    rw[g1,g2];rfl
   rw[h4]
   simp only[Bool.false_eq_true,if_false]
   rw[List.pairwise_cons]at h2
   exact ih _ (fun x hx=>h1 x (List.mem_cons_of_mem _ hx)) h2.2 fun a e x hx=>by cases e;exact h2.1 x hx
 exact key _ none (fun c hc=>by
  have h1:=h.at_ c hc
  have:0<z.chs.length:=List.length_pos_of_mem hc
  exact⟨h1.1,by omega,h.by_ c hc⟩) h.asc fun a e=>by cases e
theorem ZjG {α:Type} {q:α→Bool} {d:α}:∀ {l:List α} {i:Nat} {k:Int},i<l.length→q (l.getD i d)=true→(∀j,j<i→q (l.getD j d)=false)→Zak q k l=k+i
 |[],i,k,h,_,_=>by simp at h
 |a::l,i,k,h,hi,hj=>by
  unfold Zak
  cases i with
  |zero=>
   rw[show q a=true from hi,if_pos rfl]
   simp
  |succ i=>
   rw[show q a=false from hj 0 (by omega),if_neg Bool.false_ne_true,ZjG (d:=d) (i:=i) (by simpa using h) hi fun j h'=>hj (j+1) (by omega)]
   omega
theorem ZvV {α:Type} {d:α} {l:List α} {i:Nat} (h:i<l.length):l.getD i d∈l:=by rw[List.getD_eq_getElem?_getD,List.getElem?_eq_getElem h];exact List.getElem_mem _
theorem ZoP {α:Type} {d:α} {r:α→α→Prop} {l:List α} (h:l.Pairwise r) {i j:Nat} (hij:i<j) (hj:j<l.length):r (l.getD i d) (l.getD j d):=by
 have:=List.pairwise_iff_getElem.1 h i j (by omega) hj hij
 rw[List.getD_eq_getElem?_getD,List.getD_eq_getElem?_getD,List.getElem?_eq_getElem (by omega),List.getElem?_eq_getElem hj]
 exact this
structure DL (n:Int) (l:List Train):Prop where
 all:∀(k:Nat),k<l.length→∃st:Nat,2≤st∧st≤10∧ZpU st (n-k) (l.getD k default)
theorem DL.snoc {n:Int} {l:List Train} {t:Train} {st:Nat} (h:DL n l) (h1:2≤st∧st≤10) (ht:ZpU st (n-l.length) t):DL n (l++[t]):=⟨fun k hk=>by
 simp only[List.length_append,List.length_cons,List.length_nil]at hk
 by_cases h2:k<l.length
 ·rw[List.getD_eq_getElem?_getD,List.getElem?_append_left h2,←List.getD_eq_getElem?_getD]
  exact h.all k h2
 ·have hk:k=l.length:=by omega
  subst hk
  have e:(l++[t]).getD l.length default=t:=by simp[List.getD_eq_getElem?_getD]
  rw[e]
  exact⟨st,h1.1,h1.2,ht⟩⟩
def Zar (z:Zone) (old:List Train):ZeJ:=⟨[z],old,[],1,0⟩
theorem Zt4 {st:Nat} {number:Int} {t:Train} (hst:st≤10) (h:ZnW 1 st number t):Zc4 1 t.stops=0:=by
 refine Zf4 fun j _ hj=>?_
 have hj:j<t.stops.length:=by omega
 obtain⟨h1,h2,h3,h4,h5⟩:=h.stop _ (ZvV (d:=default) hj)
 unfold ZbC Zdi
 rw[ZlC h1.1 (by omega)]
 have hany:(t.stops.take j).any (fun x=>decide (x.station=(t.stops.getD j default).station))=false:=by
  rw[List.any_eq_false]
  intro x hx
  obtain⟨i,hi,rfl⟩:=List.mem_iff_getElem.1 hx
  have hi':i<j:=by simp at hi;omega
  have:=ZoP (d:=default) h.nodup hi' hj
  rw[List.getD_eq_getElem?_getD,List.getElem?_eq_getElem (show i<t.stops.length by omega)]at this
  simpa using this
 rw[hany,ZlC h2.1 (by omega),ZlC h3 (by omega),ZlC (by omega:(0:Int)≤_) h5]
 have hd:decide ((t.stops.getD j default).depart<(t.stops.getD j default).arrive)=false:=decide_eq_false (by omega)
 rw[hd]
 simp
theorem ZkZ {n:Int} {l:List Train} (h:DL n l) {i:Nat} (hi:i<l.length):(l.getD i default).number=n-i:=by
 obtain⟨st,_,_,ht⟩:=h.all i hi
 exact ht.made.number
theorem ZlP {z:Zone} {n:Int} {l:List Train} (hz:Zao z=0) (h:DL n l) (hn:n=l.length) (hl:l.length≤4):ZdU (Zar z l)=0:=by
 have h1:ZaU 1 l=0:=by
  unfold ZaU
  rw[Zr5 (show(0:Int)≤l.length by omega) (by omega),if_neg (fun h=>h rfl)]
  refine Zf4 fun j _ hj=>?_
  have hj:j<l.length:=by omega
  obtain⟨st,_,hst,ht⟩:=h.all j hj
  have hlen:=ht.made.len
  unfold Zbk
  rw[ZlC (by rw[ZkZ h hj];omega) (by rw[ZkZ h hj];omega)]
  have hany:(l.take j).any (fun x=>decide (x.number=(l.getD j default).number))=false:=by
   rw[List.any_eq_false]
   intro x hx
   obtain⟨i,hi,rfl⟩:=List.mem_iff_getElem.1 hx
   have hi':i<j:=by simp at hi;omega
   have hx:=ZkZ h (show i<l.length by omega)
   rw[List.getD_eq_getElem?_getD,List.getElem?_eq_getElem (show i<l.length by omega)]at hx
   rw[ZkZ h hj,List.getElem_take]
   have hx:l[i].number=n-i:=hx
   rw[hx]
   simp
   omega
  rw[hany,ZlC ht.made.days.1 ht.made.days.2,Zr5 (by omega) (by omega)]
  simp only[Bool.not_true,Bool.false_eq_true,if_false,ne_eq,not_true_eq_false]
  exact Zt4 hst ht.made
 unfold ZdU Zar
 simp only[List.length_cons,List.length_nil]
 rw[show ZaU ((0+1:Nat):Int) l=0 from h1]
 rw[Zf4 (f:=fun i=>Zao ([z].getD i default)) (k:=0+1) (i:=0) (fun j _ hj=>by
  have:j=0:=by omega
  subst this
  exact hz)]
 rfl
theorem ZoA {z:Zone} {n:Int} {l:List Train} (hc:ZdU (Zar z l)=0) (h:DL n l) {j:Nat} (hj:j<l.length):Run (Zar z l) (l.getD j default).number 0=(Sp.calls [z] (l.getD j default) 0,0):=by
 obtain⟨st,_,hst,ht⟩:=h.all j hj
 have hp:place l (l.getD j default).number=j:=by
  unfold place
  rw[ZjG (d:=default) hj (by simp) fun i hi=>by
   rw[ZkZ h hj,ZkZ h (show i<l.length by omega)]
   simp
   omega]
  omega
 unfold Run
 rw[if_neg (fun hne=>hne hc)]
 show(if(!inB 0 0 0)=true then _ else _)=_
 rw[if_neg (by decide)]
 show(if place l (l.getD j default).number<0 then _ else if(!ZgF (l.getD (place l (l.getD j default).number).toNat default) 0)=true then _ else(Sp.calls [z] (l.getD (place l (l.getD j default).number).toNat default) 0,0))=_
 rw[hp,if_neg (by omega),Int.toNat_natCast]
 have:ZgF (l.getD j default) 0=true:=by
  unfold ZgF
  rw[ht.days]
  decide
 rw[this]
 rfl
theorem ZjV (zs:List Zone) (day:Int) (many:Nat):∀(l:List Stop) (i:Nat) (now:Int),(Zbz zs day many i now l).map (·.station)=l.map (·.station)
 |[],_,_=>rfl
 |s::r,i,now=>by
  unfold Zbz
  split
  ·simp[ZjV zs day many r]
  ·simp[ZjV zs day many r]
structure ZpO (r:List Sp.Call):Prop where
 len:2≤r.length∧r.length≤4
 st:r.Pairwise fun a b=>a.station≠b.station
 asc:ZbV r=0
theorem ZqV {z:Zone} {st:Nat} {number:Int} {t:Train} (h:ZpU st number t) (ho:ZbV (Sp.calls [z] t 0)=0):ZpO (Sp.calls [z] t 0):=by
 have hl:(Sp.calls [z] t 0).length=t.stops.length:=ZcU _ _ _ _ _ _
 refine⟨by rw[hl];exact⟨h.made.len.1,h.made.len.2.1⟩,?_,ho⟩
 have e:(Sp.calls [z] t 0).map (·.station)=t.stops.map (·.station):=ZjV _ _ _ _ _ _
 have h1:(t.stops.map (·.station)).Pairwise (· ≠·):=List.pairwise_map.2 h.made.nodup
 rw[←e]at h1
 exact List.pairwise_map.1 h1
def eAt (many i:Nat) (s:Stop):Sp.Call:=if i=0 then⟨s.station,if i+1<many then s.depart else 0,if i+1<many then s.depart else 0⟩else⟨s.station,s.arrive,if i+1<many then s.depart else s.arrive⟩
def eGo (many:Nat):Nat→List Stop→List Sp.Call
 |_,[]=>[]
 |i,s::r=>eAt many i s::eGo many (i+1) r
theorem ZtU {r now:Int} (h1:0≤r∧r≤10000) (h2:0≤now∧now≤r):Zc7 (ZaL ⟨0,[]⟩) r now=r:=by
 show(if max 0 (max now (r-0))<ZcA then max 0 (max now (r-0))else ZcA)=r
 unfold ZcA
 rw[if_pos (by omega)]
 omega
theorem ZtY {many:Nat}:∀(l:List Stop) (i:Nat) (now:Int),(∀s∈l,s.zone=0∧0≤s.arrive∧s.arrive≤s.depart∧s.depart≤5000)→(∀k,k+1<l.length→(l.getD k default).depart<(l.getD (k+1) default).arrive)→
  (0≤now∧∀s∈l.head?,if i=0 then now=0 else now<s.arrive)→Zbz [⟨0,[]⟩] 0 many i now l=eGo many i l
 |[],_,_,_,_,_=>rfl
 |s::r,i,now,hs,ha,hn=>by
  obtain⟨z0,a0,a1,a2⟩:=hs s (List.mem_cons_self ..)
  have hn1:=hn.1
  have hn2:=hn.2 s (by simp)
  have hz:([⟨0,[]⟩]:List Zone).getD s.zone.toNat default=⟨0,[]⟩:=by rw[z0];rfl
  have hnext:∀d:Int,0≤d→d≤s.depart→0≤d∧∀s'∈r.head?,if i+1=0 then d=0 else d<s'.arrive:=fun d h1 h2=>⟨h1,fun s' hs'=>by
   rw[if_neg (by omega)]
   cases r with
   |nil=>cases hs'
   |cons x r=>
    have:x=s':=by simpa using hs'
    subst this
    have:=ha 0 (by simp)
    exact Int.lt_of_le_of_lt h2 this⟩
  have har:∀k,k+1<r.length→(r.getD k default).depart<(r.getD (k+1) default).arrive:=fun k hk=>ha (k+1) (by simpa using hk)
  have hsr:∀s∈r,s.zone=0∧0≤s.arrive∧s.arrive≤s.depart∧s.depart≤5000:=fun x hx=>hs x (List.mem_cons_of_mem _ hx)
  unfold Zbz eGo eAt
  rw[hz]
  by_cases h0:i=0
  ·rw[if_pos h0]at hn2
   subst hn2
   simp only[if_pos h0]
   have e:Zc7 (ZaL ⟨0,[]⟩) (1440*0+s.depart) 0=s.depart:=by rw[show(1440:Int)*0+s.depart=s.depart by omega];exact ZtU (by omega) (by omega)
   rw[e]
   rw[ZtY r (i+1) _ hsr har (hnext _ (by split<;>omega) (by split<;>omega))]
  ·rw[if_neg h0]at hn2
   simp only[if_neg h0]
   have e:Zc7 (ZaL ⟨0,[]⟩) (1440*0+s.arrive) now=s.arrive:=by rw[show(1440:Int)*0+s.arrive=s.arrive by omega];exact ZtU (by omega) (by omega)
   have e2:Zc7 (ZaL ⟨0,[]⟩) (1440*0+s.depart) s.arrive=s.depart:=by rw[show(1440:Int)*0+s.depart=s.depart by omega];exact ZtU (by omega) (by omega)
   rw[e,e2]
   rw[ZtY r (i+1) _ hsr har (hnext _ (by split<;>omega) (by split<;>omega))]
theorem ZlN {many:Nat}:∀(l:List Stop) (i k:Nat),k<l.length→(eGo many i l).getD k default=eAt many (i+k) (l.getD k default)
 |[],_,k,h=>by simp at h
 |s::r,i,0,_=>rfl
 |s::r,i,k+1,h=>by
  have:=ZlN (many:=many) r (i+1) k (by simpa using h)
  rw[show i+1+k=i+(k+1) by omega]at this
  exact this
theorem Zm9 {st:Nat} {number:Int} {t:Train} (h:ZpU st number t):ZbV (Sp.calls [⟨0,[]⟩] t 0)=0:=by
 have e:Sp.calls [⟨0,[]⟩] t 0=eGo t.stops.length 0 t.stops:=ZtY _ _ _ (fun s hs=>by
  have:=h.made.stop s hs
  have:=h.late s hs
  omega) h.asc ⟨Int.le_refl _,fun s hs=>by rw[if_pos rfl]⟩
 have hl:(Sp.calls [⟨0,[]⟩] t 0).length=t.stops.length:=ZcU _ _ _ _ _ _
 unfold ZbV
 rw[hl,e]
 refine Zf4 fun k hk1 hk2=>?_
 have hlen:=h.made.len
 unfold Zd0
 rw[ZlN _ _ _ (by omega),ZlN _ _ _ (by omega)]
 have ha:=h.asc (k-1) (by omega)
 rw[show k-1+1=k by omega]at ha
 have hs:=h.made.stop _ (ZvV (d:=default) (show k-1<t.stops.length by omega))
 have h1:(eAt t.stops.length (0+k) (t.stops.getD k default)).arrive=(t.stops.getD k default).arrive:=by unfold eAt;rw[if_neg (by omega)]
 have h2:(eAt t.stops.length (0+(k-1)) (t.stops.getD (k-1) default)).depart≤(t.stops.getD (k-1) default).depart:=by
  unfold eAt
  split
  ·show(if _ then _ else(0:Int))≤_
   split<;>omega
  ·show(if _ then _ else _)≤_
   split<;>omega
 rw[h1,if_neg (by omega)]
theorem Zok {r:List Sp.Call} (hp:r.Pairwise fun a b=>a.station≠b.station) {f i:Nat} (hf:f≤i) (hi:i<r.length):ZaC r f (r.getD i default).station=i:=by
 unfold ZaC
 rw[show(max 0 (f:Int))=f by omega,Int.toNat_natCast]
 have hg:∀j,(r.drop f).getD j default=r.getD (f+j) default:=fun j=>by simp[List.getD_eq_getElem?_getD,List.getElem?_drop]
 rw[ZjG (d:=default) (i:=i-f) (by rw[List.length_drop];omega) (by rw[hg,show f+(i-f)=i by omega];simp) fun j hj=>by
  rw[hg]
  have:=ZoP (d:=default) hp (show f+j<i by omega) hi
  simpa using this]
 omega
theorem ZiD {c:List (List Sp.Call)} {f:Int} (h:0≤f∧f<c.length):Sp.Zap c f∈c:=by
 unfold Sp.Zap
 exact ZvV (by omega)
theorem Zsj {c:List (List Sp.Call)} (hc:∀r∈c,ZpO r) {w:Sp.Zck} {before:List Sp.Zck} {i k:Nat} (hf:0≤w.feeder∧w.feeder<c.length) (ht:0≤w.train∧w.train<c.length) (hne:w.feeder≠w.train) (hi:1≤i∧i<(Sp.Zap c w.feeder).length) (hk:k+1<(Sp.Zap c w.train).length)
  (hs:w.station=((Sp.Zap c w.feeder).getD i default).station) (hs2:((Sp.Zap c w.train).getD k default).station=w.station) (ha:((Sp.Zap c w.feeder).getD i default).arrive≤((Sp.Zap c w.train).getD k default).depart) (hm:0≤w.minutes∧w.minutes≤60)
  (hn:before.any (fun x=>decide (x.feeder=w.feeder∧x.train=w.train∧x.station=w.station))=false):Zbg c w before=0:=by
 have h1:ZaI (Sp.Zap c w.feeder) w.station=i:=by rw[hs];exact Zok (hc _ (ZiD hf)).st hi.1 hi.2
 have h2:ZaC (Sp.Zap c w.train) 0 w.station=k:=by rw[←hs2];exact Zok (hc _ (ZiD ht)).st (Nat.zero_le _) (by omega)
 have h3:ZaR (Sp.Zap c w.train) w.station=k:=by unfold ZaR;rw[h2,if_pos (by omega)]
 unfold Zbg
 rw[Zhw hf.1 (by omega),Zhw ht.1 (by omega),if_neg (by decide),if_neg hne]
 show(if ZaI (Sp.Zap c w.feeder) w.station<0∨ZaR (Sp.Zap c w.train) w.station<0 then(3:Int)else if Zdc w.minutes 0 60=true then 1 else if((Sp.Zap c w.train).getD (ZaR (Sp.Zap c w.train) w.station).toNat default).depart<((Sp.Zap c w.feeder).getD (ZaI (Sp.Zap c w.feeder) w.station).toNat default).arrive then 5 else if before.any _=true then 4 else 0)=0
 rw[h1,h3,if_neg (by omega),Zhw hm.1 hm.2,if_neg Bool.false_ne_true,Int.toNat_natCast,Int.toNat_natCast,if_neg (by omega),hn,if_neg Bool.false_ne_true]
theorem Zrt {c:List (List Sp.Call)} {d:Sp.ZaW} {before:List Sp.ZaW} (hr:0≤d.run∧d.run<c.length) (hl:0≤d.leg∧d.leg+2≤(Sp.Zap c d.run).length) (hb:1≤d.by_.length∧d.by_.length≤3) (hv:∀k,k<d.by_.length→0≤d.by_.getD k 0∧d.by_.getD k 0≤240)
  (ha:∀k,k+1<d.by_.length→d.by_.getD k 0<d.by_.getD (k+1) 0) (hn:before.any (fun x=>decide (x.run=d.run∧x.leg=d.leg))=false):Zbm c d before=0:=by
 unfold Zbm
 rw[Zhw hr.1 (by omega)]
 show(if(false||Zdc d.leg 0 (((Sp.Zap c d.run).length:Int)-2))=true then(3:Int)else _)=0
 rw[Zhw hl.1 (by omega),if_neg (by decide),if_neg (by omega),if_neg (by omega)]
 have h0:Zan (ZpY d.by_) 0 d.by_.length=0:=Zf4 fun k _ hk=>by
  have hk:k<d.by_.length:=by omega
  unfold ZpY
  rw[Zhw (hv k hk).1 (hv k hk).2,if_neg Bool.false_ne_true,if_neg]
  rintro⟨h1,h2⟩
  have:=ha (k-1) (by omega)
  rw[show k-1+1=k by omega]at this
  omega
 rw[h0,if_neg (fun h=>h rfl),hn,if_neg Bool.false_ne_true]
structure LOk {α:Type} [Inhabited α] (e:α→List α→Int) (l:List α):Prop where
 ok:∀i,i<l.length→e (l.getD i default) (l.take i)=0
theorem LOk.nil {α:Type} [Inhabited α] {e:α→List α→Int}:LOk e []:=⟨fun i h=>by simp at h⟩
theorem LOk.snoc {α:Type} [Inhabited α] {e:α→List α→Int} {l:List α} {a:α} (h:LOk e l) (ha:e a l=0):LOk e (l++[a]):=⟨fun i hi=>by
 simp only[List.length_append,List.length_cons,List.length_nil]at hi
 by_cases h2:i<l.length
 ·rw[List.getD_eq_getElem?_getD,List.getElem?_append_left h2,←List.getD_eq_getElem?_getD,List.take_append_of_le_length (by omega)]
  exact h.ok i h2
 ·have hk:i=l.length:=by omega
  subst hk
  rw[List.take_left]
  have e:(l++[a]).getD l.length default=a:=by simp[List.getD_eq_getElem?_getD]
  rw[e]
  exact ha⟩
theorem ZrC {t:Zad} (h1:ZdU t.book=0) (h2:Zb0 t=0) (h3:t.waits.length≤4) (h4:LOk (Zbg (callsOf t)) t.waits) (h5:t.delays.length≤6) (h6:LOk (Zbm (callsOf t)) t.delays):Zam t=0:=by
 unfold Zam
 rw[if_neg (fun h=>h h1),if_neg (fun h=>h h2),if_neg (by omega),Zf4 (fun j _ hj=>h4.ok j (by omega)),if_neg (fun h=>h rfl),if_neg (by omega)]
 exact Zf4 fun j _ hj=>h6.ok j (by omega)
end Go.Proofs.Ytjgpiclllehgmaa.Vm
namespace Go.Proofs.Ytjgpiclllehgmaa.Sp
open Vm
theorem ZjJ {t:Zad} {x y:List Int} {g g':Int→Int→Int} {r a:Int}
  (h1:0<a→Zbv t x g r a=Zbv t y g' r a)
  (h2:a≠((Zap (callsOf t) r).length:Int)-1→∀w∈t.waits,w.train=r→w.station=(Zaw (callsOf t) r a).station→Zbv t x g w.feeder (ZaI (Zap (callsOf t) w.feeder) w.station)=Zbv t y g' w.feeder (ZaI (Zap (callsOf t) w.feeder) w.station)):
  Zef t x g r a=Zef t y g' r a:=by
 have e1:(if 0<a then Zbv t x g r a else 0)=(if 0<a then Zbv t y g' r a else 0):=by
  split
  ·exact h1 (by assumption)
  ·rfl
 have e2:∀q,Zip t (Zbv t x g) r a q=Zip t (Zbv t y g') r a q:=fun q=>by
  unfold Zip
  split
  ·rfl
  rename_i hl
  refine Zd8 _ _ fun w hw b=>?_
  unfold Zhd
  split
  ·rfl
  rename_i hq
  rw[h2 hl w hw (Decidable.byContradiction fun he=>hq (.inl he)) (Decidable.byContradiction fun he=>hq (.inr he))]
 unfold Zef ZkN
 rw[e1]
 simp only[e2]
theorem Ze0 {t:Zad} (hf:Zay t) {x y:List Int} {Q:Int→Int→Prop}
  (hown:∀r a,StopIn (callsOf t) r a→Q r a→0<a→Zj7 t x r (a-1)=Zj7 t y r (a-1)∧Q r (a-1))
  (hwt:∀r a,StopIn (callsOf t) r a→Q r a→a≠((Zap (callsOf t) r).length:Int)-1→∀w∈t.waits,w.train=r→w.station=(Zaw (callsOf t) r a).station→Zj7 t x w.feeder (ZaI (Zap (callsOf t) w.feeder) w.station-1)=Zj7 t y w.feeder (ZaI (Zap (callsOf t) w.feeder) w.station-1)∧Q w.feeder (ZaI (Zap (callsOf t) w.feeder) w.station-1)):
  ∀(n:Nat) (r a:Int),StopIn (callsOf t) r a→(Zaw (callsOf t) r a).depart<n→Q r a→Za0 t x r a=Za0 t y r a
 |0,r,a,hs,h,_=>by have:=hf.nn r a hs;omega
 |n+1,r,a,hs,h,hq=>by
  rw[Ze1 hf x hs,Ze1 hf y hs]
  have hn:=hf.nn r a hs
  refine ZjJ (fun ha=>?_) fun hl w hw hw1 hw2=>?_
  ·have h3:=hown r a hs hq ha
   have h4:=hf.asc r a hs ha
   have h5:=Ze0 hf hown hwt n r (a-1) (hs.prev ha) (by omega) h3.2
   unfold Zbv goes
   rw[h3.1,h5]
  ·have h3:=hwt r a hs hq hl w hw hw1 hw2
   have hwf:=hf.w w hw
   have hin:=ZcI hf hw
   have h4:=hf.asc _ _ hin (by omega)
   have h6:=hwf.2.2.2.2.2 a (by rw[hw1];exact hs) (by rw[hw1];exact hl) (by rw[hw1];exact hw2.symm)
   rw[hw1]at h6
   have h5:=Ze0 hf hown hwt n _ _ (hin.prev (by omega)) (by omega) h3.2
   unfold Zbv goes
   rw[h3.1,h5]
theorem ZjW {x:List Int} {run leg v:Int} {d:Nat}:∀(l:List ZaW) (i:Nat),(∀k,k<l.length→i+k=d→¬((l.getD k default).run=run∧(l.getD k default).leg=leg))→ZlV (x.set d v) run leg i l=ZlV x run leg i l
 |[],_,_=>rfl
 |e::r,i,h=>by
  unfold ZlV
  split
  ·rename_i he
   have hne:d≠i:=fun e=>h 0 (by simp) (by omega) he
   have e1:(x.set d v).getD i 0=x.getD i 0:=by rw[List.getD_eq_getElem?_getD,List.getElem?_set_ne hne,←List.getD_eq_getElem?_getD]
   rw[e1]
  ·exact ZjW r (i+1) fun k hk hkd=>h (k+1) (by simpa using hk) (by omega)
theorem ZlU {x:List Int} {run leg:Int}:∀(l:List ZaW) (i k:Nat),k<l.length→(l.getD k default).run=run∧(l.getD k default).leg=leg→(∀j,j<k→¬((l.getD j default).run=run∧(l.getD j default).leg=leg))→ZlV x run leg i l=(l.getD k default).by_.getD (x.getD (i+k) 0).toNat 0
 |[],_,k,h,_,_=>by simp at h
 |e::r,i,0,_,he,_=>by
  unfold ZlV
  rw[if_pos (show e.run=run∧e.leg=leg from he)]
  rfl
 |e::r,i,k+1,h,he,hb=>by
  unfold ZlV
  rw[if_neg (show¬(e.run=run∧e.leg=leg)from hb 0 (by omega))]
  rw[ZlU r (i+1) k (by simpa using h) he fun j hj=>hb (j+1) (by omega),show i+1+k=i+(k+1) by omega]
  rfl
theorem Zh8 {t:Zad} (h:Zam t=0):Sp.ZdU t.book=0∧Zb0 t=0∧t.waits.length≤4∧LOk (Zbg (callsOf t)) t.waits∧t.delays.length≤6∧LOk (Zbm (callsOf t)) t.delays:=by
 unfold Zam at h
 split at h
 ·exact absurd h (by assumption)
 split at h
 ·exact absurd h (by assumption)
 rename_i h0 h1
 split at h
 ·cases h
 split at h
 ·exact absurd h (by assumption)
 rename_i h2 h3
 split at h
 ·cases h
 rename_i h4
 exact⟨Decidable.of_not_not h0,Decidable.of_not_not h1,by omega,⟨fun i hi=>ZaM (Decidable.of_not_not h3) i (Nat.zero_le _) (by omega)⟩,by omega,⟨fun i hi=>ZaM h i (Nat.zero_le _) (by omega)⟩⟩
structure Zun (t:Zad) (d:Nat):Prop where
 run:0≤(t.delays.getD d default).run∧(t.delays.getD d default).run<(callsOf t).length
 leg:0≤(t.delays.getD d default).leg∧(t.delays.getD d default).leg+2≤(Zap (callsOf t) (t.delays.getD d default).run).length
 many:1≤(t.delays.getD d default).by_.length∧(t.delays.getD d default).by_.length≤3
 asc:∀k,k+1<(t.delays.getD d default).by_.length→(t.delays.getD d default).by_.getD k 0<(t.delays.getD d default).by_.getD (k+1) 0
 one:∀j,j<d→¬((t.delays.getD j default).run=(t.delays.getD d default).run∧(t.delays.getD j default).leg=(t.delays.getD d default).leg)
theorem Zpy {t:Zad} (h:Zam t=0):∀d,d<t.delays.length→Zbm (callsOf t) (t.delays.getD d default) (t.delays.take d)=0:=by
 unfold Zam at h
 split at h
 ·exact absurd h (by assumption)
 split at h
 ·exact absurd h (by assumption)
 split at h
 ·cases h
 split at h
 ·exact absurd h (by assumption)
 split at h
 ·cases h
 exact fun d hd=>ZaM h d (Nat.zero_le _) (by omega)
theorem Zg6 {t:Zad} (h:Zam t=0) {d:Nat} (hd:d<t.delays.length):Zun t d:=by
 have h5:=Zpy h d hd
 generalize hD:t.delays.getD d default=D at h5
 unfold Zbm at h5
 split at h5
 ·cases h5
 rename_i g1
 split at h5
 ·cases h5
 split at h5
 ·cases h5
 split at h5
 ·exact absurd h5 (by assumption)
 rename_i g2 g3 g4
 split at h5
 ·cases h5
 rename_i g5
 have b1:Zdc D.run 0 ((callsOf t).length-1)=false:=by cases hq:Zdc D.run 0 ((callsOf t).length-1)with|false=>rfl|true=>exact absurd (by rw[hq];rfl) g1
 have b2:Zdc D.leg 0 (((callsOf t).getD D.run.toNat []).length-2)=false:=by cases hq:Zdc D.leg 0 (((callsOf t).getD D.run.toNat []).length-2)with|false=>rfl|true=>exact absurd (by rw[hq,Bool.or_true]) g1
 have b1:=ZbI b1
 have b2:=ZbI b2
 have hby:=ZaM (Decidable.of_not_not g4)
 refine⟨by rw[hD];omega,by rw[hD];unfold Zap;omega,by rw[hD];omega,fun k hk=>?_,fun j hj hq=>?_⟩
 ·rw[hD]at hk⊢
  have h6:=hby (k+1) (Nat.zero_le _) (by omega)
  unfold ZpY at h6
  split at h6
  ·cases h6
  split at h6
  ·cases h6
  rename_i g6
  rw[show k+1-1=k from rfl]at g6
  have:=fun h=>g6 ⟨Nat.succ_pos k,h⟩
  omega
 ·refine g5 ?_
  rw[List.any_eq_true]
  refine⟨t.delays.getD j default,?_,by rw[hD]at hq;exact decide_eq_true hq⟩
  rw[List.mem_iff_getElem?]
  refine⟨j,?_⟩
  rw[List.getElem?_take,if_pos hj,List.getD_eq_getElem?_getD,List.getElem?_eq_getElem (by omega)]
  rfl
theorem ZpC (t:Zad):(callsOf t).length=t.runs.length:=by unfold callsOf;rw[List.length_map]
theorem Zsk {c:List (List Call)} {w:Zck} {p:List Zck} (h5:Zbg c w p=0):(0≤w.feeder∧w.feeder<c.length)∧(0≤w.train∧w.train<c.length):=by
 unfold Zbg at h5
 split at h5
 ·cases h5
 rename_i g1
 have b1:Zdc w.feeder 0 (c.length-1)=false:=by cases hq:Zdc w.feeder 0 (c.length-1)with|false=>rfl|true=>exact absurd (by rw[hq];rfl) g1
 have b2:Zdc w.train 0 (c.length-1)=false:=by cases hq:Zdc w.train 0 (c.length-1)with|false=>rfl|true=>exact absurd (by rw[hq,Bool.or_true]) g1
 have b1:=ZbI b1
 have b2:=ZbI b2
 omega
theorem LOk.mem {α:Type} [Inhabited α] {e:α→List α→Int} {l:List α} (h:LOk e l) {a:α} (ha:a∈l):∃p,e a p=0:=by
 obtain⟨i,hi,rfl⟩:=List.mem_iff_getElem.1 ha
 refine⟨l.take i,?_⟩
 have:=h.ok i hi
 rw[List.getD_eq_getElem?_getD,List.getElem?_eq_getElem hi]at this
 exact this
theorem Zoe {t:Zad} (he:Zam t=0):∀w∈t.waits,(0≤w.feeder∧w.feeder<t.runs.length)∧(0≤w.train∧w.train<t.runs.length):=fun w hw=>by
 obtain⟨p,hp⟩:=LOk.mem (Zh8 he).2.2.2.1 hw
 have:=Zsk hp
 rw[ZpC]at this
 exact this
def Zbp (m:List Bool) (w:Zck):List Bool:=m.set w.train.toNat (m.getD w.train.toNat false||m.getD w.feeder.toNat false)
def Zbc (ws:List Zck) (m:List Bool):List Bool:=ws.foldl Zbp m
def Za4 (ws:List Zck):Nat→List Bool→List Bool
 |0,m=>m
 |n+1,m=>Zbc ws (Za4 ws n m)
def Zc2 (n:Nat) (r:Int) (b:Bool):List Bool:=(List.replicate n false).set r.toNat b
theorem ZtI {m:List Bool} {w:Zck}:(Zbp m w).length=m.length:=by unfold Zbp;rw[List.length_set]
theorem Zey:∀(ws:List Zck) {m:List Bool},(Zbc ws m).length=m.length
 |[],_=>rfl
 |w::ws,m=>(Zey ws).trans ZtI
theorem Zfw {ws:List Zck} {m:List Bool}:∀n,(Za4 ws n m).length=m.length
 |0=>rfl
 |n+1=>(Zey ws).trans (Zfw n)
theorem Zvq {m:List Bool} {w:Zck} {i:Nat} (h:m.getD i false=true):(Zbp m w).getD i false=true:=by
 unfold Zbp
 rw[List.getD_eq_getElem?_getD]
 by_cases he:w.train.toNat=i
 ·subst he
  by_cases hl:w.train.toNat<m.length
  ·rw[List.getElem?_set_self hl,h];rfl
  ·rw[List.getD_eq_getElem?_getD,List.getElem?_eq_none (by omega)]at h;cases h
 ·rw[List.getElem?_set_ne he,←List.getD_eq_getElem?_getD];exact h
theorem ZhI:∀(ws:List Zck) {m:List Bool} {i:Nat},m.getD i false=true→(Zbc ws m).getD i false=true
 |[],_,_,h=>h
 |w::ws,m,i,h=>ZhI ws (Zvq h)
theorem ZiP {ws:List Zck} {m:List Bool} {i:Nat} (h:m.getD i false=true):∀n,(Za4 ws n m).getD i false=true
 |0=>h
 |n+1=>ZhI ws (ZiP h n)
theorem Zvr (m:List Bool) (w:Zck):Zbp m w=m∨m.count true<(Zbp m w).count true:=by
 unfold Zbp
 by_cases hl:w.train.toNat<m.length
 ·cases hv:m.getD w.train.toNat false with
  |true=>
   refine .inl (List.ext_getElem? fun i=>?_)
   by_cases he:w.train.toNat=i
   ·subst he
    rw[List.getElem?_set_self hl,Bool.true_or]
    rw[List.getD_eq_getElem?_getD,List.getElem?_eq_getElem hl]at hv
    rw[List.getElem?_eq_getElem hl]
    exact congrArg some hv.symm
   ·rw[List.getElem?_set_ne he]
  |false=>
   have hv':m[w.train.toNat]=false:=by rw[List.getD_eq_getElem?_getD,List.getElem?_eq_getElem hl]at hv;exact hv
   cases hf:m.getD w.feeder.toNat false with
   |true=>
    refine .inr ?_
    rw[List.count_set (h:=hl),hv']
    simp
   |false=>
    refine .inl (List.ext_getElem? fun i=>?_)
    by_cases he:w.train.toNat=i
    ·subst he
     rw[List.getElem?_set_self hl,List.getElem?_eq_getElem hl,hv']
     rfl
    ·rw[List.getElem?_set_ne he]
 ·exact .inl (List.set_eq_of_length_le (by omega))
theorem ZhJ:∀(ws:List Zck) (m:List Bool),(Zbc ws m=m∧∀w∈ws,Zbp m w=m)∨m.count true<(Zbc ws m).count true
 |[],m=>.inl ⟨rfl,fun w h=>by cases h⟩
 |w::ws,m=>by
  have h2:=ZhJ ws (Zbp m w)
  rcases Zvr m w with h1|h1
  ·rw[h1]at h2
   rcases h2 with h2|h2
   ·refine .inl ⟨?_,fun v hv=>?_⟩
    ·show Zbc ws (Zbp m w)=m
     rw[h1];exact h2.1
    ·rcases List.mem_cons.1 hv with rfl|hv
     ·exact h1
     ·exact h2.2 v hv
   ·refine .inr ?_
    show m.count true<(Zbc ws (Zbp m w)).count true
    rw[h1];exact h2
  ·refine .inr ?_
   show m.count true<(Zbc ws (Zbp m w)).count true
   rcases h2 with h2|h2
   ·rw[h2.1];exact h1
   ·omega
theorem ZiQ {ws:List Zck} {m:List Bool}:∀n,(∀w∈ws,Zbp (Za4 ws n m) w=Za4 ws n m)∨n≤(Za4 ws n m).count true
 |0=>.inr (Nat.zero_le _)
 |n+1=>by
  rcases ZhJ ws (Za4 ws n m)with h|h
  ·refine .inl ?_
   show∀w∈ws,Zbp (Zbc ws (Za4 ws n m)) w=Zbc ws (Za4 ws n m)
   rw[h.1];exact h.2
  ·rcases ZiQ (ws:=ws) (m:=m) n with h2|h2
   ·exfalso
    have:Zbc ws (Za4 ws n m)=Za4 ws n m:=by
     have:∀l:List Zck,(∀w∈l,w∈ws)→Zbc l (Za4 ws n m)=Za4 ws n m:=fun l=>by
      induction l with
      |nil=>exact fun _=>rfl
      |cons w l ih=>
       intro hl
       show Zbc l (Zbp (Za4 ws n m) w)=_
       rw[h2 w (hl w (List.mem_cons_self ..))]
       exact ih fun v hv=>hl v (List.mem_cons_of_mem _ hv)
     exact this ws fun _ h=>h
    rw[this]at h
    omega
   ·refine .inr ?_
    show n+1≤(Zbc ws (Za4 ws n m)).count true
    omega
theorem Znq {ws:List Zck} {m:List Bool} {n:Nat} (hl:m.length=n) {w:Zck} (hw:w∈ws) (ht:w.train.toNat<n) (hf:(Za4 ws n m).getD w.feeder.toNat false=true):(Za4 ws n m).getD w.train.toNat false=true:=by
 have hlen:(Za4 ws n m).length=n:=(Zfw n).trans hl
 rcases ZiQ (ws:=ws) (m:=m) n with h|h
 ·rw[←h w hw]
  unfold Zbp
  rw[List.getD_eq_getElem?_getD,List.getElem?_set_self (by omega),hf,Bool.or_true]
  rfl
 ·have hc:(Za4 ws n m).count true=(Za4 ws n m).length:=by have:=List.count_le_length (a:=true) (l:=Za4 ws n m);omega
  rw[List.count_eq_length]at hc
  rw[List.getD_eq_getElem?_getD,List.getElem?_eq_getElem (by omega)]
  exact(hc _ (List.getElem_mem _)).symm
theorem ZgM {t:Zad} {d r:Nat}:∀n,ZdC t d n r=true→∃i,i<n∧ZcX t d i r=true
 |0,h=>by cases h
 |n+1,h=>by
  unfold ZdC at h
  rw[Bool.or_eq_true]at h
  rcases h with h|h
  ·obtain⟨i,h1,h2⟩:=ZgM n h
   exact⟨i,by omega,h2⟩
  ·exact⟨n,by omega,h⟩
theorem ZiI {t:Zad} {d r i:Nat} (h:ZcX t d i r=true):∀n,i<n→ZdC t d n r=true
 |0,hi=>by omega
 |n+1,hi=>by
  unfold ZdC
  rw[Bool.or_eq_true]
  by_cases he:i=n
  ·subst he;exact .inr h
  ·exact .inl (ZiI h n (by omega))
theorem Zkt {t:Zad} {d:Nat} {r:Int} (h:r∈ZcY t d):0≤r∧ZdC t d (Za9 t) r.toNat=true:=by
 unfold ZcY at h
 obtain⟨n,hn,rfl⟩:=List.mem_map.1 h
 have:=(List.mem_filter.1 hn).2
 exact⟨by omega,this⟩
theorem ZoU {t:Zad} {d:Nat}:(ZcY t d).Pairwise fun a b=>a<b:=by
 unfold ZcY
 refine List.Pairwise.map _ (fun a b h=>?_) (List.Pairwise.filter (R:=fun a b:Nat=>a<b) _ (by decide))
 omega
theorem Zvk {c:List (List Call)} {r:Int} {a:Nat} (h0:0≤r) (h:a<(Zap c r).length):r<c.length:=by
 by_cases hr:r<c.length
 ·exact hr
 ·exfalso
  unfold Zap at h
  rw[List.getD_eq_getElem?_getD,List.getElem?_eq_none (by omega)]at h
  simp at h
theorem ZoT {t:Zad} (he:Zam t=0) {d:Nat} (hd:d<t.delays.length) {r:Int} (hr:r∈ZcY t d):
  r<(callsOf t).length∧(Za4 t.waits (callsOf t).length (Zc2 (callsOf t).length (t.delays.getD d default).run (decide (1<(t.delays.getD d default).by_.length)))).getD r.toNat false=true:=by
 have hf:=Zdq he
 have hD:=Zg6 he hd
 obtain⟨h0,h1⟩:=Zkt hr
 obtain⟨i,hi,h2⟩:=ZgM _ h1
 have hfit:=ZbO hf i
 unfold ZcX at h2
 simp only[Bool.and_eq_true,decide_eq_true_eq,List.any_eq_true,List.mem_range]at h2
 obtain⟨h3,a,h4,h5⟩:=h2
 rw[show((r.toNat:Nat):Int)=r by omega]at h4 h5
 have hlt:=Zvk h0 h4
 refine⟨hlt,?_⟩
 generalize hM:Za4 t.waits (callsOf t).length (Zc2 (callsOf t).length (t.delays.getD d default).run (decide (1<(t.delays.getD d default).by_.length)))=M
 have hmany:1<(t.delays.getD d default).by_.length:=by have:=hfit.d d hd;omega
 have hown:M.getD (t.delays.getD d default).run.toNat false=true:=by
  rw[←hM]
  refine ZiP ?_ _
  unfold Zc2
  have:=hD.run
  rw[List.getD_eq_getElem?_getD,List.getElem?_set_self (by rw[List.length_replicate];omega),decide_eq_true hmany]
  rfl
 cases hv:M.getD r.toNat false with
 |true=>rfl
 |false=>
  exfalso
  have hby:∀r' leg,M.getD r'.toNat false=false→Zj7 t (Zai t i) r' leg=Zj7 t ((Zai t i).set d 0) r' leg:=fun r' leg hr'=>by
   refine(ZjW _ _ fun k _ hk h=>?_).symm
   have hk:k=d:=by omega
   subst hk
   rw[h.1,hr']at hown
   cases hown
  have hsame:=Ze0 hf (x:=Zai t i) (y:=(Zai t i).set d 0) (Q:=fun r' _=>M.getD r'.toNat false=false)
   (fun r' a' _ hq _=>⟨hby _ _ hq,hq⟩) (fun r' a' hs hq _ w hw hw1 _=>by
    have hfe:M.getD w.feeder.toNat false=false:=by
     cases hfv:M.getD w.feeder.toNat false with
     |false=>rfl
     |true=>
      exfalso
      have:=hs.2.1
      have:=hs.1
      have hc:=Znq (ws:=t.waits) (m:=Zc2 (callsOf t).length (t.delays.getD d default).run (decide (1<(t.delays.getD d default).by_.length))) (n:=(callsOf t).length) (by unfold Zc2;rw[List.length_set,List.length_replicate]) hw (by omega) (by rw[hM];exact hfv)
      rw[hM,hw1,hq]at hc
      cases hc
    exact⟨hby _ _ hfe,hfe⟩)
   ((Zaw (callsOf t) r a).depart.toNat+1) r a ⟨h0,hlt,by omega,by omega⟩ (by omega) hv
  unfold ZkY at h5
  rw[hsame]at h5
  simp at h5
theorem ZoS {t:Zad} (he:Zam t=0) {d:Nat} (hd:d<t.delays.length) (hm:1<(t.delays.getD d default).by_.length):(t.delays.getD d default).run∈ZcY t d:=by
 have hf:=Zdq he
 have hD:=Zg6 he hd
 have h6:=hf.dlen
 have hz:∀k,Zlg.getD k 0=0:=fun k=>Zeb (ds:=[]) 0 0 k (Nat.zero_le _)
 have hget:∀k,(Zlg.set d 1).getD k 0=if k=d then 1 else 0:=fun k=>by
  by_cases h:k=d
  ·subst h
   rw[if_pos rfl,List.getD_eq_getElem?_getD,List.getElem?_set_self (by show k<6;omega)]
   rfl
  ·rw[if_neg h,List.getD_eq_getElem?_getD,List.getElem?_set_ne (Ne.symm h),←List.getD_eq_getElem?_getD]
   exact hz k
 obtain⟨i,hi,hx⟩:=Ziv hf (x:=Zlg.set d 1) ⟨by rw[List.length_set];rfl,fun k hk=>by
  rw[hget]
  have:=(Zg6 he hk).many
  split
  ·rename_i e;subst e;omega
  ·omega⟩ fun k h1 h2=>by
  rw[hget,if_neg (by omega)]
 have hget0:((Zai t i).set d 0).getD d 0=0:=by
  rw[List.getD_eq_getElem?_getD,List.getElem?_set_self (by rw[(ZbO hf i).len];omega)]
  rfl
 have hget1:(Zai t i).getD d 0=1:=by rw[hx,hget,if_pos rfl]
 have hone:=hD.one
 have hleg:=hD.leg
 have hrun:=hD.run
 have hasc:=hD.asc 0 (by omega)
 generalize hR:(t.delays.getD d default).run=R at*
 generalize hL:(t.delays.getD d default).leg=L at*
 have hb1:Zj7 t (Zai t i) R L=(t.delays.getD d default).by_.getD 1 0:=by
  have:=ZlU (x:=Zai t i) (run:=R) (leg:=L) t.delays 0 d hd ⟨hR,hL⟩ hone
  rw[Nat.zero_add,hget1]at this
  exact this
 have hb0:Zj7 t ((Zai t i).set d 0) R L=(t.delays.getD d default).by_.getD 0 0:=by
  have:=ZlU (x:=(Zai t i).set d 0) (run:=R) (leg:=L) t.delays 0 d hd ⟨hR,hL⟩ hone
  rw[Nat.zero_add,hget0]at this
  exact this
 have hs:StopIn (callsOf t) R L:=⟨hrun.1,hrun.2,hleg.1,by omega⟩
 have hs1:StopIn (callsOf t) R (L+1):=⟨hrun.1,hrun.2,by omega,by omega⟩
 have hby:∀r' leg,¬(r'=R∧leg=L)→Zj7 t (Zai t i) r' leg=Zj7 t ((Zai t i).set d 0) r' leg:=fun r' leg hne=>by
  refine(ZjW _ _ fun k _ hk h=>hne ?_).symm
  have hk:k=d:=by omega
  subst hk
  exact⟨h.1.symm.trans hR,h.2.symm.trans hL⟩
 have hsame:=Ze0 hf (x:=Zai t i) (y:=(Zai t i).set d 0) (Q:=fun r' a'=>(Zaw (callsOf t) r' a').depart≤(Zaw (callsOf t) R L).depart)
  (fun r' a' hs' hq ha=>by
   have h1:=hf.asc r' a' hs' ha
   have h2:=hf.nn r' a' hs'
   refine⟨hby _ _ fun⟨e1,e2⟩=>?_,by show(Zaw (callsOf t) r' (a'-1)).depart≤_;omega⟩
   rw[e1,e2]at h1
   rw[e1]at h2 hq
   omega) (fun r' a' hs' hq hl w hw hw1 hw2=>by
   have hwf:=hf.w w hw
   have hin:=ZcI hf hw
   have h1:=hf.asc _ _ hin (by omega)
   have h3:=hwf.2.2.2.2.2 a' (by rw[hw1];exact hs') (by rw[hw1];exact hl) (by rw[hw1];exact hw2.symm)
   rw[hw1]at h3
   refine⟨hby _ _ fun⟨e1,e2⟩=>?_,by show(Zaw (callsOf t) _ _).depart≤_;omega⟩
   rw[e1]at h1 h3 e2
   rw[e2]at h1
   omega)
  ((Zaw (callsOf t) R L).depart.toNat+1) R L hs (by omega) (Int.le_refl _)
 have hin:ZcX t d i R.toNat=true:=by
  unfold ZcX
  rw[hget1,show decide ((1:Int)≠0)=true from rfl,Bool.true_and,List.any_eq_true]
  refine⟨(L+1).toNat,?_,?_⟩
  ·rw[List.mem_range,show((R.toNat:Nat):Int)=R by omega];omega
  ·rw[show((R.toNat:Nat):Int)=R by omega,show(((L+1).toNat:Nat):Int)=L+1 by omega]
   unfold ZkY
   rw[Bool.or_eq_true]
   refine .inl (decide_eq_true fun e=>?_)
   rw[Ze1 hf _ hs1,Ze1 hf _ hs1]at e
   unfold Zef ZkN at e
   simp only[if_neg (show¬(L+1=0) by omega),if_pos (show 0<L+1 by omega)]at e
   unfold Zbv goes at e
   rw[show L+1-1=L by omega,hsame,hb0,hb1]at e
   rw[Nat.zero_add]at hasc
   omega
 unfold ZcY
 refine List.mem_map.2 ⟨R.toNat,List.mem_filter.2 ⟨List.mem_range.2 ?_,ZiI hin _ hi⟩,by omega⟩
 have:=hf.calls.len
 omega
end Go.Proofs.Ytjgpiclllehgmaa.Sp
namespace Go.Proofs.Ytjgpiclllehgmaa.Vm
open Sp
def Zbn (b:ZeJ) (j:Nat):Sp.ZbA:=⟨(b.old.getD j default).number,0⟩
structure RL (b:ZeJ) (i:Nat) (runs:List Sp.ZbA) (rows:List (List Sp.Call)):Prop where
 len:rows.length=runs.length
 le:runs.length≤i
 row:∀k,k<runs.length→∃j,j<i∧j<b.old.length∧runs.getD k default=Zbn b j∧ZbN b (Zbn b j)=(rows.getD k [],true)
 pw:runs.Pairwise fun a c=>a≠c
 some:∀j,j<i→(ZbN b (Zbn b j)).2=true→0<runs.length
theorem RL.nil {b:ZeJ}:RL b 0 [] []:=⟨rfl,Nat.le_refl _,fun k h=>by simp at h,.nil,fun j h=>by omega⟩
theorem RL.skip {b:ZeJ} {i:Nat} {runs:List Sp.ZbA} {rows:List (List Sp.Call)} (h:RL b i runs rows) (hc:(ZbN b (Zbn b i)).2=false):RL b (i+1) runs rows:=
 ⟨h.len,by have:=h.le;omega,fun k hk=>by
  obtain⟨j,h1,h2⟩:=h.row k hk
  exact⟨j,by omega,h2⟩,h.pw,fun j hj hs=>by
  by_cases e:j=i
  ·subst e;rw[hc]at hs;cases hs
  ·exact h.some j (by omega) hs⟩
theorem ZhT {α:Type} {d:α} {l:List α} {a:α} {k:Nat} (h:k<l.length):(l++[a]).getD k d=l.getD k d:=by rw[List.getD_eq_getElem?_getD,List.getElem?_append_left h,←List.getD_eq_getElem?_getD]
theorem ZhU {α:Type} {d:α} {l:List α} {a:α}:(l++[a]).getD l.length d=a:=by simp[List.getD_eq_getElem?_getD]
theorem RL.snoc {b:ZeJ} {n:Int} {i:Nat} {runs:List Sp.ZbA} {rows:List (List Sp.Call)} {C:List Sp.Call} (hd:DL n b.old) (h:RL b i runs rows) (hi:i<b.old.length) (hc:ZbN b (Zbn b i)=(C,true)):RL b (i+1) (runs++[Zbn b i]) (rows++[C]):=by
 have hl:=h.len
 refine⟨by simp[hl],by have:=h.le;simp;omega,fun k hk=>?_,?_,fun j hj hs=>by simp⟩
 ·simp only[List.length_append,List.length_cons,List.length_nil]at hk
  by_cases hk2:k<runs.length
  ·obtain⟨j,h1,h2,h3,h4⟩:=h.row k hk2
   exact⟨j,by omega,h2,by rw[ZhT hk2];exact h3,by rw[ZhT (by omega)];exact h4⟩
  ·have hk3:k=runs.length:=by omega
   subst hk3
   refine⟨i,by omega,hi,ZhU,?_⟩
   rw[←hl,ZhU]
   exact hc
 ·refine List.pairwise_append.2 ⟨h.pw,List.pairwise_singleton _ _,fun c hc e he=>?_⟩
  simp only[List.mem_singleton]at he
  subst he
  obtain⟨k,hk,rfl⟩:=List.mem_iff_getElem.1 hc
  obtain⟨j,h1,h2,h3,_⟩:=h.row k hk
  rw[List.getD_eq_getElem?_getD,List.getElem?_eq_getElem hk]at h3
  have h3:runs[k]=Zbn b j:=h3
  rw[h3]
  intro e
  have e:=congrArg Sp.ZbA.number e
  have e:(b.old.getD j default).number=(b.old.getD i default).number:=e
  rw[ZkZ hd h2,ZkZ hd hi]at e
  omega
structure RJ (b:ZeJ) (runs:List Sp.ZbA) (rows:List (List Sp.Call)):Prop where
 len:rows.length=runs.length
 pos:1≤runs.length∧runs.length≤4
 check:ZdU b=0
 row:∀r∈rows,ZpO r
 calls:∀w d,callsOf ⟨b,runs,w,d⟩=rows
 err:∀w d,Zb0 ⟨b,runs,w,d⟩=0
 from_:∀k,k<runs.length→∃j,j<b.old.length∧runs.getD k default=Zbn b j
theorem Zh6 {b:ZeJ} {d:Sp.ZbA} {C:List Sp.Call} (h:ZbN b d=(C,true)):ZbV (Run b d.number d.day).1=0∧(Run b d.number d.day).1=C∧(Run b d.number d.day).2=0:=by
 unfold ZbN at h
 split at h
 ·cases h
 ·rename_i h0
  simp only[Prod.mk.injEq,decide_eq_true_eq]at h
  exact⟨by omega,h⟩
theorem RL.ok {z:Zone} {n:Int} {i:Nat} {old:List Train} {runs:List Sp.ZbA} {rows:List (List Sp.Call)} (hz:Zao z=0) (hd:DL n old) (hn:n=old.length) (hl:old.length≤4) (h:RL (Zar z old) i runs rows) (hi:i≤4) (hp:0<runs.length):RJ (Zar z old) runs rows:=by
 have hc:=ZlP hz hd hn hl
 have hle:=h.le
 refine⟨h.len,by omega,hc,fun r hr=>?_,fun w d=>?_,fun w d=>?_,fun k hk=>by
  obtain⟨j,h1,h2,h3,h4⟩:=h.row k hk
  exact⟨j,h2,h3⟩⟩
 ·obtain⟨k,hk,rfl⟩:=List.mem_iff_getElem.1 hr
  obtain⟨j,h1,h2,h3,h4⟩:=h.row k (by rw[←h.len];exact hk)
  obtain⟨g1,g2,g3⟩:=Zh6 h4
  rw[List.getD_eq_getElem?_getD,List.getElem?_eq_getElem hk]at g2
  have g2:(Run (Zar z old) (Zbn (Zar z old) j).number (Zbn (Zar z old) j).day).1=rows[k]:=g2
  rw[←g2]
  have e:=ZoA hc hd (j:=j) h2
  have e:Run (Zar z old) (Zbn (Zar z old) j).number (Zbn (Zar z old) j).day=_:=e
  rw[e]at g1⊢
  obtain⟨st,_,_,ht⟩:=hd.all j h2
  exact ZqV ht g1
 ·refine List.ext_getElem (by show(List.map _ runs).length=_;rw[List.length_map,h.len]) fun k h1 h2=>?_
  have hk:k<runs.length:=by rw[←h.len];exact h2
  have e0:∀(f:Sp.ZbA→List Sp.Call) (h1:k<(runs.map f).length),(runs.map f)[k]'h1=f runs[k]:=fun f h1=>List.getElem_map _
  refine(e0 _ h1).trans ?_
  obtain⟨j,g1,g2,g3,g4⟩:=h.row k hk
  rw[List.getD_eq_getElem?_getD,List.getElem?_eq_getElem hk]at g3
  have g3:runs[k]=Zbn (Zar z old) j:=g3
  rw[List.getD_eq_getElem?_getD,List.getElem?_eq_getElem h2]at g4
  have g5:=(Zh6 g4).2.1
  rw[g3]
  exact g5
 ·unfold Zb0
  show(if runs.length=0 then(7:Int)else if 4<runs.length then 6 else _)=0
  rw[if_neg (by omega),if_neg (by omega)]
  refine Zf4 fun k _ hk=>?_
  have hk:k<runs.length:=by have hk:k<0+runs.length:=hk;omega
  obtain⟨j,g1,g2,g3,g4⟩:=h.row k hk
  obtain⟨e1,e2,e3⟩:=Zh6 g4
  rw[←g3]at e1 e2 e3
  unfold ZgK
  show(if(Run (Zar z old) (runs.getD k default).number (runs.getD k default).day).2≠0 then _ else if ZbV (Run (Zar z old) (runs.getD k default).number (runs.getD k default).day).1≠0 then(5:Int)else if(runs.take k).any (fun x=>decide (x=runs.getD k default))then 4 else 0)=0
  rw[if_neg (fun hne=>hne e3),if_neg (fun hne=>hne e1),if_neg]
  rw[Bool.not_eq_true,List.any_eq_false]
  intro x hx
  obtain⟨q,hq,rfl⟩:=List.mem_iff_getElem.1 hx
  have hq':q<k:=by simp at hq;omega
  have:=ZoP (d:=default) h.pw hq' hk
  rw[List.getD_eq_getElem?_getD,List.getElem?_eq_getElem (show q<runs.length by omega)]at this
  rw[List.getElem_take]
  simpa using this
structure ZrJ (t:Zad):Prop where
 begin:Zam t=0
 row:∀r∈callsOf t,ZpO r
 book:∃z old n,t.book=Zar z old∧Zao z=0∧DL n old
 from_:∀k,k<t.runs.length→∃j,j<t.book.old.length∧t.runs.getD k default=Zbn t.book j
theorem RL.one {n:Int} {old:List Train} (hc:ZdU (Zar ⟨0,[]⟩ old)=0) (hd:DL n old) (hl:0<old.length):ZbN (Zar ⟨0,[]⟩ old) (Zbn (Zar ⟨0,[]⟩ old) 0)=((ZbN (Zar ⟨0,[]⟩ old) (Zbn (Zar ⟨0,[]⟩ old) 0)).1,true):=by
 have e:Run (Zar ⟨0,[]⟩ old) (Zbn (Zar ⟨0,[]⟩ old) 0).number (Zbn (Zar ⟨0,[]⟩ old) 0).day=_:=ZoA hc hd (j:=0) hl
 obtain⟨st,_,_,ht⟩:=hd.all 0 hl
 have h0:=Zm9 ht
 unfold ZbN
 rw[e]
 rw[if_neg (fun hne=>hne h0)]
 rfl
end Go.Proofs.Ytjgpiclllehgmaa.Vm
namespace Go.Proofs.Ytjgpiclllehgmaa.Vm
open Go Go.Proofs Go.Proofs.Ytjgpiclllehgmaa.Conc1
section
variable {P:Program} {G:Nat→Nat→Nat→Prop} {R:RC} {h:List Blk}
theorem Zt0 (H:HR G R h) {E:Operand→AV} {ρ:Operand→Value} {t:TypeId} {n:Nat} {ps:Array (Nat×Operand)} {s:Nat} {m:Unit→Int} {f:(Unit→Int)→List AV} {tk:Tk} (hE:∀p∈ps.toList,VR R (E p.2) (ρ p.2)) (hv:Zcc P E t n ps.toList=some (.isl s m f tk)):
  ∃u R',(Instr.buildSlice t n (ps.map fun(i,x)=>(i,ρ x))).run P R.w= .ok u R'.w∧HR G R' (h++[.gar s m f])∧Ext R h R' (h++[.gar s m f])∧R.le R'∧VR R' (.gsl h.length m) u:=by
 unfold Zcc at hv
 split at hv
 case h_2=>cases hv
 rename_i T hT
 split at hv
 case h_2=>cases hv
 rename_i e s' eb hk
 split at hv
 case isFalse=>cases hv
 rename_i hcd
 simp only[Bool.and_eq_true]at hcd
 obtain⟨⟨hzo,hln⟩,hbig⟩:=hcd
 have hln:=Zav hln
 have hbig:=ZbB hbig
 obtain⟨j,hu,hj,hs,_⟩:=Zdr hT hk
 obtain⟨j',z,hj',hz,hzs,hjs,_⟩:=Zcx hzo
 rw[hj]at hj'
 cases hj'
 split at hv
 case h_2=>
  unfold Zmt at hv
  split at hv
  case h_2=>cases hv
  split at hv
  case isFalse=>cases hv
  cases hv
 rename_i rows hr
 unfold ZkL at hv
 simp only[Option.some.injEq,AV.isl.injEq]at hv
 obtain⟨rfl,rfl,rfl,_⟩:=hv
 obtain⟨arr,a1,a2,a3,a4,a5⟩:=ZhY (R:=R) (ρ:=ρ) ps.toList 0 rows ((Array.range (n*s')).map fun k=>(if n*s'=0 then #[]else z.cells)[k%(if n*s'=0 then #[]else z.cells).size]!) hr (by simp[hln]) hE
 have hrl:rows.length=n:=by rw[a3,Array.length_toList];rw[Array.length_toList]at hln;exact hln
 have hsz:arr.size=n*s':=by rw[a2];simp
 obtain⟨R',hw,H',hx,hle,hm,hhw,hhv⟩:=H.garFresh s' (fun _=>(rows.length:Int)) (fun e=>rows.getD (e ()).toNat (rows.headD [])) n (by show(rows.length:Int)=n;rw[hrl]) arr e hsz (fun R' hle i hi=>by
  have hri:rows[i]? =some rows[i]:=List.getElem?_eq_getElem (by omega)
  have er:rows.getD (i:Int).toNat (rows.headD [])=rows[i]:=by rw[Int.toNat_natCast,List.getD_eq_getElem?_getD,hri];rfl
  show(rows.getD (i:Int).toNat (rows.headD [])).length=s'∧∀j c,(rows.getD (i:Int).toNat (rows.headD []))[j]? =some c→_
  rw[er]
  refine⟨(a5 i _ hri).1,fun j c hj=>?_⟩
  have:=(a5 i _ hri).2 j c hj
  rw[Nat.zero_add]at this
  exact this.mono hle.ok hle.keep hle.keepM)
 refine⟨.slice (some ⟨R.w.heap.size,0,none⟩) n n,R',?_,H',hx,hle,?_⟩
 ·have hpm:(ps.map fun(i,x)=>(i,ρ x)).toList=ps.toList.map fun p=>(p.1,ρ p.2):=by simp
  unfold Instr.buildSlice
  simp only[Sem.run_bind,Zaq hu,Result.andThen_ok,ZaG hj,hs,hpm]
  rw[if_neg (by omega)]
  rw[hw]
  by_cases hns:n*s'=0
  ·simp only[if_pos hns]at a1⊢
   simp only[Sem.run_bind,Sem.run_pure,Result.andThen_ok]
   rw[a1]
   rfl
  ·simp only[if_neg hns]at a1⊢
   simp only[Sem.run_bind,Sem.run_pure,Result.andThen_ok,zeroValue,ZbM hj,hz]
   rw[a1]
   rfl
 ·rw[H.len]
  exact .gsl _ _ _ _ _ (by omega) (by rw[hhw];exact Int.le_refl _) (fun _=>hhv.symm) ⟨by show(rows.length:Int)=n;rw[hrl],.inr ⟨_,_,rfl⟩⟩
end
def ZtZ (T:Tb) (o:Oper) (E:Operand→AV) (h:List Blk):Option (AV×List Blk×Cd):=match o.op,o.guard with
 |.buildSlice t n ps,none=>(match Zcj T (fun x=>strip (E x)) t n ps.toList with
  |some (.isl s m f _)=>some (.gsl h.length m,h++[.gar s m f],gdC E o.op.operands.toList)
  |_=>none)
 |_,_=>none
def Zk9 (T:Tb) (p:Unit→Program) (d:Nat) (ops:Array Oper):List Oper→List AV→List Blk→Cd→(List AV→List Blk→Cd→Prop)→Prop
 |[],s,h,c,K=>K s h c
 |o::r,s,h,c,K=>(match o.dst with
  |some e=>if eqN e d then(match ZtZ T o (ev s) h with
   |some (v,h',c')=>Zk9 T p d ops r (putO s o.dst v) h' (c++c') K
   |none=>False)else Wop T p ops o (ev s) h c fun v h c=>Zk9 T p d ops r (putO s o.dst v) h c K
  |none=>Wop T p ops o (ev s) h c fun v h c=>Zk9 T p d ops r (putO s o.dst v) h c K)
section
variable {T:Tb} {p:Unit→Program} {R₀:RC} {h₀:List Blk}
theorem Zrl (hT:T.Of (p ())) {ops:Array Oper} {i:Nat} {o:Oper} (ho:ops[i]? =some o) {E:Operand→AV} {h h':List Blk} {v:AV} {c:Cd} (hv:ZtZ T o E h=some (v,h',c)) (hc:Zbf c):Zj2 (p ()) R₀ h₀ ops i o E h fun v' h''=>v'=v∧h''=h':=by
 unfold ZtZ at hv
 split at hv
 case h_2=>cases hv
 rename_i t n ps hop hg
 split at hv
 case h_2=>cases hv
 rename_i s m f tk hb
 have hb':=Zdl hT hb
 simp only[Option.some.injEq,Prod.mk.injEq]at hv
 obtain⟨rfl,rfl,rfl⟩:=hv
 intro R t' hi hE b ds k cs rest
 have hEs:∀x∈o.op.operands,VR R (strip (E x)) (evT t' x):=fun x hx=>(hE x (List.mem_append_left _ (Array.mem_toList_iff.2 hx))).strip (ZjO hc x (Array.mem_toList_iff.2 hx))
 obtain⟨u,R',h1,h2,h3,h4,h5⟩:=Zt0 (ρ:=evT t') hi.hr (fun q hq=>hEs q.2 (by
  rw[hop]
  simp only[Op.operands]
  rw[←Array.mem_toList_iff]
  simp only[Array.toList_map]
  exact List.mem_map.2 ⟨q,hq,rfl⟩)) hb'
 refine⟨_,_,R',u,⟨rfl,rfl⟩,hi.step h2 h3 h4,h3,h4,h5,.one (ZeP (nv:=.value u) ho (by simp[Region.wanted,hg]) (fun c e=>by rw[hop]at e;cases e) ?_ ?_ (.inl rfl))⟩
 ·unfold execOp
  simp only[hop]
  exact Zab (fun _=>Zew) fun _ _=>Zaj
 ·unfold execOp
  simp only[hop]
  rw[Sem.run_bind,h1]
  rfl
theorem ZmS (hT:T.Of (p ())) {d:Nat} {ops:Array Oper} {K:List AV→List Blk→Cd→Prop} (hK:∀s h c,K s h c→Zbf c):∀(l:List Oper) (j:Nat) (s:List AV) (h:List Blk) (c:Cd),(∀m,m<l.length→ops[j+m]? =l[m]?)→Zk9 T p d ops l s h c K→
  Zbf c∧Zgb (p ()) R₀ h₀ ops (List.range' j l.length) s h fun s h=>∃c,K s h c
 |[],j,s,h,c,_,hW=>⟨hK _ _ _ hW,fun R t hi hs b ds k cs=>⟨s,h,R,t,⟨_,hW⟩,hi,Ext.refl _ _,RC.le.refl _,hs,.one Zc5⟩⟩
 |o::r,j,s,h,c,hl,hW=>by
  have ho:ops[j]? =some o:=by simpa using hl 0 (by simp)
  have ih:=fun s h c=>ZmS hT (d:=d) hK r (j+1) s h c (fun m hm=>by have:=hl (m+1) (by simpa using hm);rw[show j+1+m=j+(m+1) by omega];simpa using this)
  have key:∀(Q:AV→List Blk→Prop),Zj2 (p ()) R₀ h₀ ops j o (Vm.ev s) h Q→(∀v h',Q v h'→∃c',Zk9 T p d ops r (putO s o.dst v) h' c' K)→Zgb (p ()) R₀ h₀ ops (List.range' j (o::r).length) s h fun s h=>∃c,K s h c:=fun Q h2 hq R t hi hs b ds k cs=>by
   obtain⟨v,h',R',u,hQ,a1,a2,a3,a4,a5⟩:=h2 R t hi (hs.eok ops o) b ds k cs (List.range' (j+1) r.length)
   obtain⟨c',hk⟩:=hq v h' hQ
   obtain⟨s'',h'',R'',t'',b1,b2,b3,b4,b5,b6⟩:=(ih _ _ _ hk).2 R' _ a1 ((hs.mono a3).putO a4 o.dst) b ds k cs
   exact⟨s'',h'',R'',t'',b1,b2,a2.trans b3,a3.trans b4,b5,a5.trans (ZcM a3 b6)⟩
  have other:(Wop T p ops o (Vm.ev s) h c fun v h c=>Zk9 T p d ops r (putO s o.dst v) h c K)→Zbf c∧Zgb (p ()) R₀ h₀ ops (List.range' j (o::r).length) s h fun s h=>∃c,K s h c:=fun hW=>by
   obtain⟨h1,h2⟩:=ZmT hT (R₀:=R₀) (h₀:=h₀) ho (fun v h c hk=>(ih _ _ _ hk).1) hW
   exact⟨h1,key _ h2 fun v h' hq=>hq⟩
  unfold Zk9 at hW
  split at hW
  ·split at hW
   ·split at hW
    case h_2=>exact hW.elim
    rename_i v h' c' hv
    have hcc:=(ih _ _ _ hW).1
    exact⟨(ZaJ hcc).1,key _ (Zrl hT ho hv (ZaJ hcc).2) fun v' h'' hq=>by
     obtain⟨rfl,rfl⟩:=hq
     exact⟨_,hW⟩⟩
   ·exact other hW
  ·exact other hW
theorem hpX {nb:Nat} {K:Ex→List AV→List Blk→Cd→Prop} {id:Nat} {ops:Array Oper} {k:List Item} {s:List AV} {h:List Blk} (hT:T.Of (p ())) (d:Nat) (hW:Zk9 T p d ops ops.toList s h [] fun s h c=>Chk c (HP false nb p k K s h)):HP false nb p (.code (.region id ops false)::k) K s h:=
 ⟨fun hK R₀ h₀ hnb=>by
  obtain⟨_,h2⟩:=ZmS (R₀:=R₀) (h₀:=h₀) hT (fun s h c (hk:Chk c _)=>hk.c) ops.toList 0 s h [] (fun m hm=>by simp) hW
  have h3:Zgb (p ()) R₀ h₀ ops (List.range ops.size) s h fun s h=>∃c,Chk c (HP false nb p k K s h):=by
   rw[List.range_eq_range']
   simpa using h2
  exact CI.then (CI.region h3 fun s h hk=>⟨rfl,hk⟩) fun s h ⟨c,hk⟩=>hk.g.run hK R₀ h₀ hnb⟩
end
end Go.Proofs.Ytjgpiclllehgmaa.Vm
namespace Go.Proofs.Ytjgpiclllehgmaa.Vm
open Go Go.Proofs
theorem To.freeze {s:List AV} {h:List Blk} {id sz:Nat} {n:Unit→Int} {f:(Unit→Int)→List AV} (hid:h[id]? =some (.gar sz n f)):To s h s (h.set id (.fro sz n f)):=fun G R t H hs=>by
 have hlt:=(List.getElem?_eq_some_iff.1 hid).1
 let R':RC:={R with ok:=fun b o k=>b<R.w.heap.size∧G b o k∧Zj5 R (h.set id (.fro sz n f)) b o k}
 have hget:∀ {j x},(h.set id (.fro sz n f))[j]? =some x→(j=id∧x= .fro sz n f)∨(j≠id∧h[j]? =some x):=fun {j x} hx=>by
  rw[List.getElem?_set]at hx
  split at hx
  ·rename_i e
   simp only[Option.some.injEq]at hx
   exact .inl ⟨e.symm,hx.symm⟩
  ·rename_i e
   exact .inr ⟨fun e'=>e e'.symm,hx⟩
 have hok:∀b o k,R.ok b o k→R'.ok b o k:=fun b o k hk=>by
  obtain⟨h1,h2,h3⟩:=(H.okd _ _ _).1 hk
  refine⟨h1,h2,fun j x hx=>?_⟩
  rcases hget hx with⟨rfl,rfl⟩|⟨hne,hx⟩
  ·exact fun h=>h
  ·exact h3 j x hx
 have hle:R.le R':=⟨Nat.le_refl _,fun _ _=>rfl,fun _ _=>⟨Int.le_refl _,fun _=>rfl⟩,fun _ _=>.refl _,hok,fun _ _ _ _ _ _=>rfl,fun _ _ _ _ h=>h,rfl⟩
 have hph:∀ {j x b},(h.set id (.fro sz n f))[j]? =some x→ZaN R' j x b→j≠id∧h[j]? =some x∧ZaN R j x b:=fun {j x b} hx hp=>by
  rcases hget hx with⟨rfl,rfl⟩|⟨hne,hx⟩
  ·exact hp.elim
  ·exact⟨hne,hx,(ZaN.congr (R:=R) rfl rfl).1 hp⟩
 refine⟨R',rfl,⟨?_,fun _ _ _=>Iff.rfl,fun j x hx=>?_,fun i j bi bj b hij hi hj hp hp'=>?_,H.cl,H.fresh,fun j x b hx hk hp o k=>?_,H.n0m⟩,⟨rfl,rfl,rfl,rfl,Nat.le_refl _,Nat.le_refl _,fun _ _=>rfl,hok,fun _ _ _ _ _ _=>rfl,fun _ _ _=>rfl,fun j x b hx hp=>?_⟩,hle,hs.mono hle⟩
 ·rw[List.length_set];exact H.len
 ·rcases hget hx with⟨rfl,rfl⟩|⟨hne,hx⟩
  ·obtain⟨e1,e2⟩:=H.blk _ _ hid
   refine⟨e1,?_⟩
   rcases e2 with⟨h0,a0,h1⟩|⟨b,o,len,cap,arr,ty,a1,a2,a3,a4,a5,a6⟩
   ·show PR R'.w R'.ok _ (R.hv _)
    rw[h1]
    cases a0 with
    |none=>exact .isl0 _ _ _ _ h0 (fun _ h=>by cases h)
    |some a0=>exact .islE _ _ _ _ a0 h0 (.inl rfl)
   ·show PR R'.w R'.ok _ (R.hv _)
    rw[a3]
    rcases Nat.eq_zero_or_pos cap with hc0|hc0
    ·rw[hc0,show len=0 by omega]
     exact .islE _ _ _ _ ⟨b,o,none⟩ (by omega) (.inl rfl)
    have hmul:len*sz≤cap*sz:=Nat.mul_le_mul_right _ a2
    have hb:ZaN R j (.gar sz n f) b:=⟨_,_,_,a3,hc0,rfl⟩
    refine .isl _ _ _ _ b o len cap (fun i j=>arr.getD (o+i*sz+j) undef) a1 a2 (.inl rfl) (fun h=>by cases h) (fun i hi=>(a6 i hi).1) (fun i j c hi hj=>?_) (fun i j c hi hj=>?_) ?_
    ·have hjs:j<sz:=by rw[←(a6 i hi).1];exact(List.getElem?_eq_some_iff.1 hj).1
     have:(i+1)*sz≤len*sz:=Nat.mul_le_mul_right _ hi
     rw[Nat.succ_mul]at this
     exact ZaE (w:=R.w) a4 (by omega)
    ·exact((a6 i hi).2 j c hj).mono hok (fun _ _ _ _ _ _=>rfl) fun _ _ _ _ h=>h
    ·refine⟨H.phys_lt hid hb,H.tokG _ _ _ hid rfl hb _ _,fun i x hx=>?_⟩
     rcases hget hx with⟨rfl,rfl⟩|⟨hne,hx⟩
     ·exact fun h=>h
     ·exact ZeE fun hp=>H.dis _ _ _ _ b (fun e=>hne e.symm) hid hx hb hp
  ·exact(H.blk j x hx).mono hle rfl rfl rfl rfl (fun _ _=>rfl)
 ·obtain⟨_,hx,hp⟩:=hph hi hp
  obtain⟨_,hx',hp'⟩:=hph hj hp'
  exact H.dis i j bi bj b hij hx hx' hp hp'
 ·obtain⟨_,hx,hp⟩:=hph hx hp
  exact H.tokG j x b hx hk hp o k
 ·obtain⟨_,hx,hp⟩:=hph hx hp
  exact .inr ⟨j,x,hx,hp,.inl rfl⟩
theorem To.froze {s:List AV} {h:List Blk} {id sz:Nat} {n:Unit→Int} {f:(Unit→Int)→List AV} (hid:h[id]? =some (.gar sz n f)):To s h (s.map (rsv (h.set id (.fro sz n f)))) (h.set id (.fro sz n f)):=fun G R t H hs=>by
 obtain⟨R',a1,a2,a3,a4,a5⟩:=To.freeze (s:=s) hid G R t H hs
 have:=SL.rsv a2 a5 {tb with rs:=true}
 exact⟨R',a1,a2,a3,a4,this⟩
end Go.Proofs.Ytjgpiclllehgmaa.Vm
namespace Go.Proofs.Ytjgpiclllehgmaa.Vm
open Go Go.Proofs Sp
def ZeG (r r':List AV):Prop:=r'.length=r.length∧∀(j:Nat) (c':AV),r'[j]? =some c'→∃c,r[j]? =some c∧∀w ok v,PR w ok c v→PR w ok c' v
theorem ZeG.two {a b b':AV} (h:∀w ok v,PR w ok b v→PR w ok b' v):ZeG [a,b] [a,b']:=⟨rfl,fun j c hj=>by
 match j with
 |0=>simp only[List.getElem?_cons_zero,Option.some.injEq]at hj;subst hj;exact⟨_,rfl,fun _ _ _ h=>h⟩
 |1=>simp only[List.getElem?_cons_succ,List.getElem?_cons_zero,Option.some.injEq]at hj;subst hj;exact⟨_,rfl,h⟩
 |j+2=>simp at hj⟩
theorem PR.elems {w:World} {ok:Nat→Nat→Nat→Prop} {s:Nat} {m m':Unit→Int} {f f':(Unit→Int)→List AV} {v:Value} (hm:m ()=m' ()) (hf:∀i:Nat,(i:Int)<m ()→ZeG (f fun _=>(i:Int)) (f' fun _=>(i:Int))) (hv:PR w ok (.isl s m f .none) v):PR w ok (.isl s m' f' .none) v:=by
 cases hv with
 |isl0 _ _ _ _ hz h1=>exact .isl0 _ _ _ _ (by omega) (fun id e=>by cases e)
 |islE _ _ _ _ a hz h1=>exact .islE _ _ _ _ a (by omega) (.inl rfl)
 |isl _ _ _ _ b o len cap us hn hc h1 he hl h2 h3 h4=>
  refine .isl _ _ _ _ b o len cap us (by omega) hc (.inl rfl) (fun e=>by cases e) (fun i hi=>?_) (fun i j c hi hj=>?_) (fun i j c hi hj=>?_) h4
  ·rw[(hf i (by omega)).1];exact hl i hi
  ·obtain⟨c0,g1,_⟩:=(hf i (by omega)).2 j c hj
   exact h2 i j c0 hi g1
  ·obtain⟨c0,g1,g2⟩:=(hf i (by omega)).2 j c hj
   exact g2 _ _ _ (h3 i j c0 hi g1)
theorem ZeG.three {a b c c':AV} (h:∀w ok v,PR w ok c v→PR w ok c' v):ZeG [a,b,c] [a,b,c']:=⟨rfl,fun j d hj=>by
 match j with
 |0=>simp only[List.getElem?_cons_zero,Option.some.injEq]at hj;subst hj;exact⟨_,rfl,fun _ _ _ h=>h⟩
 |1=>simp only[List.getElem?_cons_succ,List.getElem?_cons_zero,Option.some.injEq]at hj;subst hj;exact⟨_,rfl,fun _ _ _ h=>h⟩
 |2=>simp only[List.getElem?_cons_succ,List.getElem?_cons_zero,Option.some.injEq]at hj;subst hj;exact⟨_,rfl,h⟩
 |j+3=>simp at hj⟩
theorem WkN.elems {n k s:Nat} {m m':Unit→Int} {f f':(Unit→Int)→List AV} {tk:Tk} (hm:m ()=m' ()) (hf:∀i:Nat,(i:Int)<m ()→ZeG (f fun _=>(i:Int)) (f' fun _=>(i:Int))):WkN n k (.isl s m f tk) (.isl s m' f' .none):=⟨fun R v _ hv=>.pure _ _ (hv.isl_inv.elems hm hf)⟩
theorem Zo2 {nt:(α:Type)→α→List α→Int→α} (hnt:∀(α:Type) (d:α) (l:List α) (i:Int),nt α d l i=l.getD i.toNat d) {α:Type} {n k sz:Nat} (enc:α→List AV) (d:α) (l:List α) (rows:List (List AV)) (hl:rows.length=l.length) (hr:∀i,i<l.length→ZeG (rows.getD i (rows.headD [])) (enc (l.getD i d))):
  WkN n k (.isl sz (fun _=>(rows.length:Int)) (fun e=>rows.getD (e ()).toNat (rows.headD [])) .exact) (.isl sz (fun _=>(l.length:Int)) (fun e=>enc (nt α d l (e ()))) .none):=
 .elems (by simp[hl]) fun i hi=>by
  have hi:i<l.length:=by have:(i:Int)<(rows.length:Int):=hi;omega
  simp only[hnt,Int.toNat_natCast]
  exact hr i hi
end Go.Proofs.Ytjgpiclllehgmaa.Vm
