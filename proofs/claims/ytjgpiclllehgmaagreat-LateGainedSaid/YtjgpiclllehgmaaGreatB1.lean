/- What the functions of the layer clock compute, in plain Lean. -/
import Derived.Test.YtjgpiclllehgmaaGreatRows
import Derived.WalkKit
import Derived.ProofKit
import Derived.OpenShut
import Derived.ShutString
import Derived.ChangeOld
import Derived.Below
import Derived.Test.YtjgpiclllehgmaaGreatB0
import Derived.Test.YtjgpiclllehgmaaGreatCxPhase5
set_option linter.all false
namespace Go.Proofs.YtjgpiclllehgmaaGreat.Sp
structure Chg where
 at_:Int
 by_:Int
deriving DecidableEq,Inhabited
structure Zone where
 base:Int
 chs:List Chg
deriving Inhabited
structure Pc where
 fr:Int
 bef:Int
 ahd:Int
deriving DecidableEq,Inhabited
def Yv (n lo hi:Int):Bool:=decide (lo≤n)&&decide (n≤hi)
def leP:Option Int→Int→Bool
 |some a,x=>decide (x≤a)
 |none,_=>false
def YN:Option Int→List Chg→Int
 |_,[]=>0
 |p,c::r=>if !Yv c.at_ 0 43200 then 1 else if leP p c.at_ then 5 else if !Yv c.by_ (-180) 180||decide (c.by_=0)then 1 else YN (some c.at_) r
theorem Yt (p:Option Int) (c:Chg) (r:List Chg):YN p (c::r)=if !Yv c.at_ 0 43200 then 1 else if leP p c.at_ then 5 else if !Yv c.by_ (-180) 180||decide (c.by_=0)then 1 else YN (some c.at_) r:=by cases p<;>rfl
theorem Zcp (p:Option Int):YN p []=0:=by cases p<;>rfl
def Zv (z:Zone):Int:=if !Yv z.base (-720) 720 then 1 else if 3<z.chs.length then 6 else YN none z.chs
def Xr:Int:=1099511627776
def QM:Int→Int→List Chg→List Pc
 |fr,a,[]=>[⟨fr,Xr,a⟩]
 |fr,a,c::r=>if fr<c.at_ then⟨fr,c.at_,a⟩::QM c.at_ (a+c.by_) r else QM c.at_ (a+c.by_) r
def ZQ (z:Zone):List Pc:=QM 0 z.base z.chs
def QV:List Pc→Int→Int→Int
 |[],_,_=>Xr
 |p::l,r,after=>if max p.fr (max after (r-p.ahd))<p.bef then max p.fr (max after (r-p.ahd))else QV l r after
structure Stop where
 station:Int
 zone:Int
 arrive:Int
 depart:Int
deriving DecidableEq,Inhabited
structure Train where
 number:Int
 days:Int
 stops:List Stop
deriving DecidableEq,Inhabited
structure XH where
 zones:List Zone
 old:List Train
 new:List Train
 night:Int
 last:Int
deriving Inhabited
structure Call where
 station:Int
 arrive:Int
 depart:Int
deriving DecidableEq,Inhabited
structure Zcu where
 fr:Int
 to_:Int
deriving DecidableEq,Inhabited
def Zy {α:Type} (q:α→Bool):Int→List α→Int
 |_,[]=>-1
 |i,a::l=>if q a then i else Zy q (i+1) l
def ZK (n least most:Int):Int:=if n<least then 7 else if most<n then 6 else 0
def YO (before:List Stop) (s:Stop) (inner:Bool) (zones:Int):Int:=
 if !Yv s.station 0 9 then 1 else if before.any (fun x=>decide (x.station=s.station))then 4 else if !Yv s.zone 0 (zones-1)then 3
 else if !Yv s.arrive 0 4319|| !Yv s.depart 0 4319 then 1 else if inner&&decide (s.depart<s.arrive)then 5 else 0
end Go.Proofs.YtjgpiclllehgmaaGreat.Sp
namespace Go.Proofs.YtjgpiclllehgmaaGreat.Vm
open Go Go.Proofs Sp
set_option maxRecDepth 100000
set_option maxHeartbeats 4000000
def iA (n:Int):AV:=.int .i64 fun _=>n
def JC (c:Chg):List AV:=[.int .i64 fun _=>c.at_,.int .i64 fun _=>c.by_]
def Zd7 (p:Pc):List AV:=[.int .i64 fun _=>p.fr,.int .i64 fun _=>p.bef,.int .i64 fun _=>p.ahd]
def Zd (z:Zone):AV:=.agg [.int .i64 fun _=>z.base,lst 2 JC default z.chs]
theorem c67 (n a b:Int):SC (fun _=>Tryz.prog) 144 [.int .i64 fun _=>n,.int .i64 fun _=>a,.int .i64 fun _=>b] [] fun r h=>r= .bool (fun _=>Yv n a b)∧h=[]:=by
 refine Qu Tryz.func144 (body:=Zj Tryz.f144) rfl (by decide+kernel) ?_
 cbv
 try simp only[nc]at*
 refine⟨by simp[Q0,QZ,Xd,QY,Cn.p],?_,trivial⟩
 congr 1;funext _;unfold Yv;cases decide (a≤n)<;>rfl
theorem c92 (l:List Pc) (r a:Int) (hlen:l.length≤1000000) (hl:∀p∈l,-1000000≤p.ahd∧p.ahd≤1000000) (hr:-1000000≤r∧r≤1000000):SC (fun _=>Tryz.prog) 186 [lst 3 Zd7 default l,.int .i64 fun _=>r,.int .i64 fun _=>a] [] fun v h=>v= .int .i64 (fun _=>QV l r a)∧h=[]:=by
 obtain⟨nt,hnt⟩:=Zp
 rw[Za hnt]
 refine Qu Tryz.func186 (body:=Zj Tryz.f186) rfl (by decide+kernel) ?_
 cbv
 try simp only[nc]at*
 refine Ziv [1,2,10,11,12] (fun i:Nat=>mkS 30 [(1,.int .i64 fun _=>r),(2,.int .i64 fun _=>a),(10,.isl 3 (fun _=>(l.length:Int)) (fun e=>Zd7 (nt Pc default l (e ()))) .none),(11,.int .i64 fun _=>(l.length:Int)),(12,.int .i64 fun _=>(i:Int))]) (fun _=>[])
  (fun i=>i≤l.length∧QV l r a=QV (l.drop i) r a) (fun i=>l.length-i+0) 0 0 (fun _=>rfl) ⟨Nat.zero_le _,by simp⟩ (To.of [] ?_) ?_
 ·cbv
  exact⟨⟨.refl _,.refl _,.refl _,.refl _,.int rfl,trivial⟩,trivial⟩
 ·intro i hi
  cbv
  try simp only[nc]at*
  refine⟨fun hb=>?_,fun hb=>?_⟩
  ·simp only[nc,decide_eq_true_eq]at hb
   have hil:i<l.length:=by omega
   have hm:=hl _ (Xg (d:=default) hnt hil)
   have hd:=Qy (d:=default) hnt hil
   cbv
   try simp only[nc]at*
   obtain⟨p,hc⟩:∃p,nt Pc default l (i:Int)=p:=⟨_,rfl⟩
   rw[hc]at hm hd
   rw[hc]
   refine⟨by simp only[Q0,QZ,Xd,QY,Cn.p,and_true];omega,fun hb=>?_,fun hb=>?_⟩
   ·simp only[decide_eq_true_eq]at hb
    cbv
    try simp only[nc]at*
    refine⟨?_,trivial⟩
    congr 1;funext _
    rw[hi.2,hd,QV]
    omega
   ·simp only[decide_eq_false_iff_not]at hb
    cbv
    try simp only[nc]at*
    refine⟨by simp only[nc,Q0,QZ,Xd,QY,Cn.p,and_true];omega,⟨i+1,⟨by omega,?_⟩,by omega,To.of [] ?_⟩⟩
    ·rw[hi.2,hd,QV,if_neg (by omega)]
    ·cbv
     exact⟨⟨.refl _,.refl _,.refl _,.refl _,.int (by simp only[nc];omega),trivial⟩,trivial⟩
  ·simp only[nc,decide_eq_false_iff_not]at hb
   have:l.drop i=[]:=List.drop_eq_nil_of_le (by omega)
   cbv
   try simp only[nc]at*
   refine⟨?_,trivial⟩
   congr 1;funext _
   rw[hi.2,this];rfl
theorem c91 (d m:Int) (h0:-1000≤d∧d≤1000) (h1:-10000≤m∧m≤10000):SC (fun _=>Tryz.prog) 187 [.int .i64 fun _=>d,.int .i64 fun _=>m] [] fun r h=>r= .int .i64 (fun _=>1440*d+m)∧h=[]:=by
 refine Qu Tryz.func187 (body:=Zj Tryz.f187) rfl (by decide+kernel) ?_
 cbv
 try simp only[nc]at*
 exact⟨by simp only[Q0,QZ,Xd,QY,Cn.p,and_true];omega,trivial⟩
structure ZoZ (z:Zone):Prop where
 base:-1000≤z.base∧z.base≤1000
 many:z.chs.length≤100
 by_:∀c∈z.chs,-1000≤c.by_∧c.by_≤1000
theorem ZdW:∀(l:List Chg) (fr a m:Int),(∀c∈l,-1000≤c.by_∧c.by_≤1000)→-m≤a∧a≤m→∀p∈QM fr a l,-(m+1000*l.length)≤p.ahd∧p.ahd≤m+1000*l.length
 |[],fr,a,m,_,h,p,hp=>by simp[QM]at hp;subst hp;simpa using h
 |c::r,fr,a,m,hl,h,p,hp=>by
  have hc:=hl c (List.mem_cons_self ..)
  have ih:=ZdW r c.at_ (a+c.by_) (m+1000) (fun x hx=>hl x (List.mem_cons_of_mem _ hx)) (by omega)
  simp only[QM]at hp
  simp only[List.length_cons]
  split at hp
  ·rcases List.mem_cons.1 hp with rfl|hp
   ·show _≤a∧a≤_;omega
   ·have:=ih p hp;omega
  ·have:=ih p hp;omega
theorem Zac:∀(l:List Chg) (fr a:Int),1≤(QM fr a l).length∧(QM fr a l).length≤l.length+1
 |[],fr,a=>by simp[QM]
 |c::r,fr,a=>by
  have:=Zac r c.at_ (a+c.by_)
  simp only[QM,List.length_cons]
  split
  ·simp only[List.length_cons];omega
  ·omega
theorem c90 (z:Zone) (hz:ZoZ z):SC (fun _=>Tryz.prog) 185 [Zd z] [] fun v h=>v=lst 3 Zd7 default (ZQ z)∧h=[]:=by
 obtain⟨nt,hnt⟩:=Zp
 unfold Zd
 rw[Za hnt]
 refine SC.less (Qu Tryz.func185 (body:=Zj Tryz.f185) rfl (by decide+kernel) ?_)
 cbv
 try simp only[nc]at*
 refine⟨by simp only[Q0,QZ,Xd,QY,Cn.p,and_true];decide+kernel,?_⟩
 refine Ziv [1,3,4,5,11,12,13] (fun(⟨i,fr,a,out⟩:Nat×Int×Int×List Pc)=>mkS 42 [(1,.ptr 0 0),(3,.isl 3 (fun _=>(out.length:Int)) (fun e=>Zd7 (nt Pc default out (e ()))) (.own 1)),(4,.int .i64 fun _=>fr),(5,.int .i64 fun _=>a),
   (11,.isl 2 (fun _=>(z.chs.length:Int)) (fun e=>JC (nt Chg default z.chs (e ()))) .none),(12,.int .i64 fun _=>(z.chs.length:Int)),(13,.int .i64 fun _=>(i:Int))])
  (fun⟨i,fr,a,out⟩=>[.cells [.int .i64 fun _=>z.base,.isl 2 (fun _=>(z.chs.length:Int)) (fun e=>JC (nt Chg default z.chs (e ()))) .none],.tok 3 fun _=>(out.length:Int)])
  (fun⟨i,fr,a,out⟩=>i≤z.chs.length∧ZQ z=out++QM fr a (z.chs.drop i)∧out.length≤i∧-(1000+1000*i)≤a∧a≤1000+1000*i) (fun i=>z.chs.length-i.1+0) (0,0,z.base,[]) 2 (fun _=>rfl)
  ⟨Nat.zero_le _,by simp[ZQ],by simp,by have:=hz.base;simp;omega⟩ (To.of [(3,false)] ?_) ?_
 ·cbv
  exact⟨⟨.refl _,.nilOwn (by decide) (by decide) rfl,.refl _,.refl _,.refl _,.refl _,.int rfl,trivial⟩,.refl _,.tok rfl,trivial⟩
 ·rintro⟨i,fr,a,out⟩ ⟨hi,hp,ho,ha⟩
  have hmany:=hz.many
  cbv
  try simp only[nc]at*
  refine⟨fun hb=>?_,fun hb=>?_⟩
  ·simp only[nc,decide_eq_true_eq]at hb
   have hil:i<z.chs.length:=by omega
   have hm:=hz.by_ _ (Xg (d:=default) hnt hil)
   have hd:=Qy (d:=default) hnt hil
   cbv
   try simp only[nc]at*
   obtain⟨c,hc⟩:∃c,nt Chg default z.chs (i:Int)=c:=⟨_,rfl⟩
   rw[hc]at hm hd
   rw[hc]
   rw[hd,QM]at hp
   refine⟨by simp only[Q0,QZ,Xd,QY,Cn.p,and_true];omega,fun hb=>?_,fun hb=>?_⟩
   ·simp only[gt_iff_lt,decide_eq_true_eq]at hb
    rw[if_pos hb]at hp
    cbv
    try simp only[nc]at*
    refine⟨by simp only[nc,Q0,QZ,Xd,QY,Cn.p,and_true,List.length_cons,List.length_nil];(repeat' apply And.intro)<;>first|omega|decide+kernel,⟨(i+1,c.at_,a+c.by_,out++[⟨fr,c.at_,a⟩]),⟨by omega,by rw[hp];simp,by simp;omega,by dsimp only;omega,by dsimp only;omega⟩,by show z.chs.length-(i+1)+0<z.chs.length-i+0;omega,To.of [] ?_⟩⟩
    cbv
    try simp only[nc]at*
    exact⟨⟨.refl _,.snoc hnt rfl rfl rfl,.refl _,.refl _,.refl _,.refl _,.int rfl,trivial⟩,.refl _,.tok (by simp),trivial⟩
   ·simp only[gt_iff_lt,decide_eq_false_iff_not]at hb
    rw[if_neg hb]at hp
    cbv
    try simp only[nc]at*
    refine⟨by simp only[nc,Q0,QZ,Xd,QY,Cn.p,and_true,List.length_cons,List.length_nil];(repeat' apply And.intro)<;>first|omega|decide+kernel,⟨(i+1,c.at_,a+c.by_,out),⟨by omega,hp,by dsimp only;omega,by dsimp only;omega,by dsimp only;omega⟩,by show z.chs.length-(i+1)+0<z.chs.length-i+0;omega,To.of [] ?_⟩⟩
    cbv
    try simp only[nc]at*
    exact⟨⟨.refl _,.refl _,.refl _,.refl _,.refl _,.refl _,.int rfl,trivial⟩,.refl _,.refl _,trivial⟩
  ·simp only[nc,decide_eq_false_iff_not]at hb
   have:z.chs.drop i=[]:=List.drop_eq_nil_of_le (by omega)
   rw[this,QM]at hp
   rw[hp]
   cbv
   try simp only[nc]at*
   refine⟨by simp only[nc,Q0,QZ,Xd,QY,Cn.p,and_true,List.length_cons,List.length_nil];(repeat' apply And.intro)<;>first|omega|decide+kernel,lst 3 Zd7 default (out++[⟨fr,Xr,a⟩]),[],To.of [] ⟨⟨.snocL hnt rfl rfl rfl,trivial⟩,trivial⟩,rfl,rfl⟩
theorem Jf {z:Zone} (hz:ZoZ z):(ZQ z).length≤101∧1≤(ZQ z).length∧∀p∈ZQ z,-1000000≤p.ahd∧p.ahd≤1000000:=by
 have h1:=Zac z.chs 0 z.base
 have h2:=ZdW z.chs 0 z.base 1000 hz.by_ hz.base
 have h3:=hz.many
 refine⟨?_,h1.1,fun p hp=>?_⟩
 ·unfold ZQ;omega
 ·have:=h2 p hp;omega
theorem c79 (z:Zone) (hlen:z.chs.length≤1000000):SC (fun _=>Tryz.prog) 173 [Zd z] [] fun v h=>v= .int .i64 (fun _=>Zv z)∧h=[]:=by
 obtain⟨nt,hnt⟩:=Zp
 unfold Zd Zv
 rw[Za hnt]
 refine Qu Tryz.func173 (body:=Zj Tryz.f173) rfl (by decide+kernel) ?_
 cbv
 try simp only[nc]at*
 refine ZV (c67 _ _ _) rfl fun r h₂ hp=>?_
 obtain⟨rfl,rfl⟩:=hp
 cbv
 try simp only[nc]at*
 refine⟨fun hb=>?_,fun hb=>?_⟩
 ·simp only[Bool.not_eq_true']at hb
  cbv
  try simp only[nc]at*
  refine⟨?_,trivial⟩
  congr 1;funext _;simp[hb]
 simp only[Bool.not_eq_false']at hb
 simp only[hb,Bool.not_true,Bool.false_eq_true,if_false]
 refine⟨fun hb=>?_,fun hb=>?_⟩
 ·simp only[decide_eq_true_eq]at hb
  cbv
  try simp only[nc]at*
  refine⟨?_,trivial⟩
  congr 1;funext _
  rw[if_pos (by omega)]
 simp only[decide_eq_false_iff_not]at hb
 rw[if_neg (show¬3<z.chs.length by omega)]
 cbv
 try simp only[nc]at*
 refine Ziv [1,14,15,16] (fun(i:Nat)=>mkS 50 [(1,.ptr 0 0),(14,.isl 2 (fun _=>(z.chs.length:Int)) (fun e=>JC (nt Chg default z.chs (e ()))) .none),(15,.int .i64 fun _=>(z.chs.length:Int)),(16,.int .i64 fun _=>(i:Int))])
  (fun _=>[.cells [.int .i64 fun _=>z.base,.isl 2 (fun _=>(z.chs.length:Int)) (fun e=>JC (nt Chg default z.chs (e ()))) .none]])
  (fun i=>i≤z.chs.length∧YN none z.chs=YN (if i=0 then none else some (nt Chg default z.chs ((i:Int)-1)).at_) (z.chs.drop i)) (fun i=>z.chs.length-i+0) 0 1 (fun _=>rfl) ⟨Nat.zero_le _,by simp⟩ (To.of [] ?_) ?_
 ·cbv
  exact⟨⟨.refl _,.refl _,.refl _,.int rfl,trivial⟩,.refl _,trivial⟩
 rintro i ⟨hi,hp⟩
 cbv
 try simp only[nc]at*
 refine⟨fun hb=>?_,fun hb=>?_⟩
 ·simp only[decide_eq_true_eq]at hb
  have hil:i<z.chs.length:=by omega
  have hd:=Qy (d:=default) hnt hil
  cbv
  try simp only[nc]at*
  obtain⟨c,hc⟩:∃p,nt Chg default z.chs (i:Int)=p:=⟨_,rfl⟩
  rw[hc]at hd
  rw[hc]
  rw[hd,Yt]at hp
  refine⟨by simp only[Q0,QZ,Xd,QY,Cn.p,and_true];omega,?_⟩
  refine ZV (c67 _ _ _) rfl fun r h₂ hp'=>?_
  obtain⟨rfl,rfl⟩:=hp'
  cbv
  try simp only[nc]at*
  refine⟨fun hb=>?_,fun hb=>?_⟩
  ·simp only[Bool.not_eq_true']at hb
   cbv
   try simp only[nc]at*
   refine⟨?_,trivial⟩
   congr 1;funext _;rw[hp];simp[hb]
  simp only[Bool.not_eq_false']at hb
  simp only[hb,Bool.not_true,Bool.false_eq_true,if_false]at hp
  cbv
  try simp only[nc]at*
  refine⟨by simp only[nc,Q0,QZ,Xd,QY,Cn.p,and_true,true_and,decide_eq_true_eq,imp_self];(repeat' (first|apply And.intro|intro _))<;>first|omega|decide+kernel,?_⟩
  have hlow:(bif decide (0<(i:Int))then decide (c.at_≤(nt Chg default z.chs ((i:Int)-1)).at_)else false)=leP (if i=0 then none else some (nt Chg default z.chs ((i:Int)-1)).at_) c.at_:=by
   by_cases h0:i=0
   ·subst h0;rfl
   ·rw[if_neg h0,decide_eq_true (show 0<(i:Int) by omega)];rfl
  rw[←hlow]at hp
  refine⟨fun hb=>?_,fun hb=>?_⟩
  ·cbv
   try simp only[nc]at*
   rw[if_pos hb]at hp
   refine⟨?_,trivial⟩
   rw[hp]
  rw[if_neg (by rw[hb];exact Bool.false_ne_true)]at hp
  cbv
  try simp only[nc]at*
  refine ZV (c67 _ _ _) rfl fun r h₂ hp'=>?_
  obtain⟨rfl,rfl⟩:=hp'
  cbv
  try simp only[nc]at*
  refine⟨fun hb=>?_,fun hb=>?_⟩
  ·simp only[Bool.not_eq_true']at hb
   rw[if_pos (by simp[hb])]at hp
   cbv
   try simp only[nc]at*
   refine Br.isT (by simp[hb]) ?_
   cbv
   refine⟨?_,trivial⟩
   rw[hp]
  simp only[Bool.not_eq_false']at hb
  cbv
  try simp only[nc]at*
  refine⟨fun hb'=>?_,fun hb'=>?_⟩
  ·simp only[beq_iff_eq]at hb'
   rw[if_pos (by simp[hb'])]at hp
   cbv
   try simp only[nc]at*
   refine⟨?_,trivial⟩
   rw[hp]
  simp only[beq_eq_false_iff_ne,ne_eq]at hb'
  rw[if_neg (by simp[hb,hb'])]at hp
  cbv
  try simp only[nc]at*
  refine⟨by simp only[nc,Q0,QZ,Xd,QY,Cn.p,and_true,true_and,decide_eq_true_eq,imp_self];(repeat' (first|apply And.intro|intro _))<;>first|omega|decide+kernel,⟨i+1,⟨by omega,?_⟩,by show z.chs.length-(i+1)+0<z.chs.length-i+0;omega,To.of [] ?_⟩⟩
  ·rw[hp,if_neg (Nat.succ_ne_zero i),show((i+1:Nat):Int)-1=i by omega,hc]
  ·cbv
   exact⟨⟨.refl _,.refl _,.refl _,.int rfl,trivial⟩,.refl _,trivial⟩
 ·simp only[decide_eq_false_iff_not]at hb
  have:z.chs.drop i=[]:=List.drop_eq_nil_of_le (by omega)
  rw[this,Zcp]at hp
  cbv
  try simp only[nc]at*
  refine⟨?_,trivial⟩
  rw[hp]
def XN (n:Int):List AV:=[.int .i64 fun _=>n]
theorem J6 {z:Zone} (h:Zv z=0):ZoZ z:=by
 unfold Zv at h
 split at h
 ·cases h
 ·rename_i h1
  split at h
  ·cases h
  ·rename_i h2
   have hb:-720≤z.base∧z.base≤720:=by
    simp only[Yv,Bool.not_eq_true',Bool.not_eq_false]at h1
    simpa using h1
   refine⟨by omega,by omega,?_⟩
   have key:∀(l:List Chg) (p:Option Int),YN p l=0→∀c∈l,-1000≤c.by_∧c.by_≤1000:=by
    intro l
    induction l with
    |nil=>intro p _ c hc;cases hc
    |cons a l ih=>
     intro p hp c hc
     rw[Yt]at hp
     split at hp
     ·cases hp
     split at hp
     ·cases hp
     split at hp
     ·cases hp
     rename_i h3
     rcases List.mem_cons.1 hc with rfl|hc
     ·simp[Yv]at h3
      omega
     ·exact ih _ hp c hc
   exact key _ _ h
open Go Go.Proofs
open Go.ChangeShapes Go.WideShapes Go.ChangeAt Go.RowKit
def R0 (w:World):RC:=⟨w,0,0,fun _=>⟨0,0⟩,fun _=>0,fun _=>undef,fun b _ _=>b<w.heap.size,none⟩
theorem Zh8 {P:Program} {W:World} {r:Reach} {base:Nat} {t e:TypeId} {a:Addr} {len cap:Nat} (ht:P.underlying t=some (.slice e)) (h:Cell.okWide P W r base t (.slice (some a) len cap)):∃b o,a=⟨b,o,none⟩∧b<W.heap.size:=by
 simp only[Cell.okWide,ht,Cell.ok]at h
 obtain⟨_,_,_,hs,row,cells,hsh,_⟩:=h
 obtain⟨b,o,spot⟩:=a
 simp only at hs hsh
 subst hs
 refine⟨b,o,rfl,?_⟩
 by_cases hb:b<W.heap.size
 ·exact hb
 ·exfalso
  rw[World.shape?,Array.getElem?_eq_none (by omega)]at hsh
  cases hsh
theorem Zoi {w:World} {a:Option Addr} {len cap:Nat} {l:List Int} (h:(a=none∧len=0∧cap=0∧l=[])∨∃b o,a=some ⟨b,o,none⟩∧b<w.heap.size∧len≤cap∧l.length=len∧∀i,i<len→w.cell? ⟨b,o+i,none⟩=some (.int .i64 (l.getD i 0))):
  VR (R0 w) (lst 1 XN 0 l) (.slice a len cap):=by
 rcases h with⟨rfl,rfl,rfl,rfl⟩|⟨b,o,rfl,hb,hle,hlen,hc⟩
 ·exact .pure _ _ (.isl0 _ _ _ _ rfl rfl)
 ·refine .pure _ _ (.isl _ _ _ _ b o len cap (fun i _=>.int .i64 (l.getD i 0)) (by show(l.length:Int)=len;omega) hle (.inl rfl) (fun e=>by cases e) (fun i hi=>rfl) (fun i j c hi hj=>?_) (fun i j c hi hj=>?_) hb)
  ·have hj0:j=0:=by
    have:=(List.getElem?_eq_some_iff.1 hj).1
    simp[Zdg,XN]at this
    omega
   subst hj0
   show w.cell? ⟨b,o+i*1+0,none⟩=_
   rw[Nat.mul_one,Nat.add_zero]
   exact hc i hi
  ·cases j with
   |zero=>
    simp only[Zdg,XN,List.getElem?_cons_zero,Option.some.injEq]at hj
    subst hj
    exact .int .i64 _
   |succ j=>simp[Zdg,XN]at hj
theorem own:ownKnob Tryz.prog.godebug=none:=by kernel_rfl
theorem Zqn:laidOutB Tryz.prog=true:=by kernel_rfl
end Go.Proofs.YtjgpiclllehgmaaGreat.Vm
namespace Go.Proofs.YtjgpiclllehgmaaGreat.Conc1
open Go Go.Conc
theorem Zie {P:Program} {Q:Machine→Outcome→World→Trace→Prop}:∀(N:Nat) (m:Machine) (t:Trace) (m':Machine) (t':Trace),runNT P N m t=(.next m',t')→
  (∃n last o w t'',runNT P (n+1) m' t'=(.ended o w,t'')∧runN P n m'= .next last∧step P last= .ended o w∧Q last o w t'')→∃n last o w t'',runNT P (n+1) m t=(.ended o w,t'')∧runN P n m= .next last∧step P last= .ended o w∧Q last o w t''
 |0,m,t,m',t',h,hq=>by
  simp only[runNT,Prod.mk.injEq,Stepped.next.injEq]at h
  obtain⟨rfl,rfl⟩:=h
  exact hq
 |N+1,m,t,m',t',h,hq=>by
  cases hs:stepT P m with
  |mk r ops=>
   cases r with
   |next m1=>
    simp only[runNT,hs]at h
    obtain⟨n,last,o,w,t'',h1,h2,h3,h4⟩:=Zie N m1 _ m' t' h hq
    exact⟨n+1,last,o,w,t'',by simp only[runNT,hs];exact h1,by simp only[runN,step,hs];exact h2,h3,h4⟩
   |ended o w=>simp[runNT,hs]at h
def EndAt (P:Program) (Post:Value→World→Prop) (fr:Frame) (w:World):Prop:=
 ∀d,∃v es,stepG P true (G fr []) (w.at d)= .ended (.done v) (w.at d) es∧(∀e∈es,X9 (fun _=>False) e)∧Post v (w.at d)
def Zkw (P:Program) (Post:Value→World→Prop) (μ:Nat) (m:Machine) (t:Trace):Prop:=
 ∃(gs:Array Goroutine) (fr:Frame) (w:World) (sl:Option (Nat×Nat)) (q:Nat→Nat),m=crowd gs w sl∧gs[0]? =some (G fr [])∧EndAt P Post fr w∧Leavers P t gs q∧Xy t∧μ=ConcN.sumTo gs.size q
theorem Zox {P:Program} {Post:Value→World→Prop} (μ:Nat) (m:Machine) (t:Trace) (h:Zkw P Post μ m t):
  (∃o w ops,stepT P m=(.ended o w,ops)∧Go.Conc.Good P Post m o w (t++ops))∨(∃m' ops μ',stepT P m=(.next m',ops)∧μ'<μ∧Zkw P Post μ' m' (t++ops)):=by
 obtain⟨gs,fr,w,sl,q,rfl,h0,hE,hL,hP,rfl⟩:=h
 have hrun:(G fr []).status= .running:=rfl
 have haw:∀g∈gs,awake g:=by
  intro g hg
  obtain⟨i,hi,rfl⟩:=Array.mem_iff_getElem.1 hg
  rcases Nat.eq_zero_or_pos i with rfl|hpos
  ·have:gs[0]=G fr []:=by simpa [Array.getElem?_eq_getElem hi]using h0
   rw[this];exact awake_of (.inl hrun)
  ·exact awake_of ((hL.old i _ hpos (Array.getElem?_eq_getElem hi)).status.elim .inl fun x=>.inr (.inr x))
 obtain⟨i,g,d,sl',hi,hg,hst⟩:=crowd_pick (P:=P) (w:=w) (sl:=sl) haw ⟨0,_,h0,hrun⟩
 rcases Nat.eq_zero_or_pos i with rfl|hpos
 ·obtain rfl:g=G fr []:=by rw[h0]at hi;exact(Option.some.inj hi).symm
  obtain⟨v,es,hend,hes,hpost⟩:=hE d
  have hrunT:=runT_many_ended (P:=P) (sl:=sl') (i:=0) hi (show stepG P (0==0) (G fr []) (w.at d)=_ from hend)
  have hP':=hP.own (fn:=(G fr []).frame.fn) (pos:=(G fr []).frame.place) hes
  refine .inl ⟨_,_,_,hst.trans hrunT,v,rfl,hpost,hP'.clean,hP'.over,⟨fun x hx=>?_,rfl⟩,fun j x hx hj=>?_⟩
  ·obtain⟨j,hj⟩:=List.mem_iff_getElem?.1 hx
   rw[List.getElem?_drop]at hj
   exact⟨_,(hL.old (1+j) x (by omega) (by simpa [crowd]using hj)).leaves⟩
  ·have hq:=hL.old j x (by omega) hx
   refine⟨q j,?_⟩
   have e:(t++MemOp.ofEvents 0 (G fr []).frame.fn (G fr []).frame.place es).deaf j (t++MemOp.ofEvents 0 (G fr []).frame.fn (G fr []).frame.place es).size=Deaf t j:=
    Deaf_other t (g:=j) (g':=0) (by omega) _ (fun op hop=>by obtain⟨e,_,rfl⟩:=Conc.mem_ofEvents hop;rfl)
   rw[e]
   exact hq.hears _
 ·have hq:=hL.old i g hpos hi
  have hi0:(i==0)=false:=by simp;omega
  have hlt:i<gs.size:=(Array.getElem?_eq_some_iff.1 hi).1
  cases hqi:q i with
  |zero=>rw[hqi]at hq;rw[hq.1]at hg;cases hg
  |succ k=>
   rw[hqi]at hq
   rcases hq with⟨hf,_⟩|⟨_,g',es,hm,hstp,hq'⟩
   ·rw[hf]at hg;cases hg
   have hrunT:=runT_crowd_go (P:=P) (sl:=sl') (i:=i) hi (by rw[hi0];exact hstp (w.at d))
   have hsz:((gs.map (woken P g g' (w.at d))).setIfInBounds i g').size=gs.size:=by simp
   have hsum:ConcN.sumTo gs.size (ConcN.upd q i k)+(k+1)=ConcN.sumTo gs.size q+k:=by
    have:=ConcN.sumTo_upd q k id hlt
    simpa [hqi]using this
   refine .inr ⟨_,_,ConcN.sumTo gs.size (ConcN.upd q i k),hst.trans hrunT,by omega,_,fr,w.at d,sl',ConcN.upd q i k,rfl,?_,fun d'=>hE d',⟨fun j x hj hx=>?_,fun j hj=>?_⟩,hP.mute (by omega) hm,by rw[hsz]⟩
   ·have hne:i≠0:=by omega
    rw[Array.getElem?_setIfInBounds_ne hne,Array.getElem?_map,h0]
    simp[woken_run hrun]
   ·by_cases hji:i=j
    ·subst hji
     rw[Array.getElem?_setIfInBounds_self_of_lt (by simpa using hlt)]at hx
     obtain rfl:=Option.some.inj hx
     rw[ConcN.upd_same,Deaf_own]
     exact hq'
    ·rw[Array.getElem?_setIfInBounds_ne hji,Array.getElem?_map]at hx
     obtain⟨y,hy,rfl⟩:=Option.map_eq_some_iff.1 hx
     have hqj:=hL.old j y hj hy
     rw[woken_quitsD hqj,ConcN.upd_ne q k (Ne.symm hji),Deaf_other t hji _ (fun op hop=>by obtain⟨e,_,rfl⟩:=Conc.mem_ofEvents hop;rfl)]
     exact hqj
   ·rw[Deaf_other t (g':=i) (by simp at hj;omega) _ (fun op hop=>by obtain⟨e,_,rfl⟩:=Conc.mem_ofEvents hop;rfl)]
    exact hL.above j (by simpa using hj)
theorem Zkj {P:Program} {Post:Value→World→Prop} {St:Frame→List Frame→World→Prop} (hSt:∀fr cs w,St fr cs w→cs=[]∧EndAt P Post fr w) {m:Machine} {t:Trace} (h:QE P St m t):
  ∃n last o w t'',runNT P (n+1) m t=(.ended o w,t'')∧runN P n m= .next last∧step P last= .ended o w∧Go.Conc.Good P Post last o w t'':=by
 obtain⟨N,gs,fr,cs,w,sl,t',q,h1,h2,h3,h4,h5⟩:=h
 obtain⟨rfl,hE⟩:=hSt _ _ _ h3
 exact Zie N m t _ t' h1 (run_of_inv Nat.lt_wfRel.wf (Zkw P Post) (Go.Conc.Good P Post) Zox _ _ _ ⟨gs,fr,w,sl,q,rfl,h2,hE,h4,h5,rfl⟩)
end Go.Proofs.YtjgpiclllehgmaaGreat.Conc1
namespace Go.Proofs.YtjgpiclllehgmaaGreat.Vm
open Go Go.Conc Go.Proofs Go.Proofs.YtjgpiclllehgmaaGreat.Conc1
open Go.ChangeShapes Go.WideShapes Go.ChangeAt Go.RowKit
def R1 (w:World):RC:=⟨w,1,0,fun _=>⟨0,0⟩,fun _=>0,fun _=>undef,fun b _ _=>b<w.heap.size,none⟩
theorem Zug (w:World):HR (fun _ _ _=>True) (R1 w) [.main]:=
 ⟨rfl,fun b o n=>⟨fun h=>⟨h,trivial,fun id blk hi=>by
  cases id with
  |zero=>cases hi;exact fun hp=>hp
  |succ id=>simp at hi⟩,fun h=>h.1⟩,fun id blk hi=>by
  cases id with
  |zero=>cases hi;exact rfl
  |succ id=>simp at hi,fun i j bi bj b hij hi hj hp=>by
  cases i with
  |zero=>cases hi;exact hp.elim
  |succ i=>simp at hi,fun _ _ _ _ _ _ _ _=>trivial,fun _ _ _ _=>trivial,fun id blk b hi hk=>by
  cases id with
  |zero=>cases hi;cases hk
  |succ id=>simp at hi,Nat.zero_le 1⟩
theorem Zuf {w:World} {a:AV} {v:Value} (h:VR (R0 w) a v):VR (R1 w) a v:=h.mono ⟨Nat.zero_le 1,fun id hi=>absurd hi (Nat.not_lt_zero _),fun id hi=>absurd hi (Nat.not_lt_zero _),fun id hi=>absurd hi (Nat.not_lt_zero _),fun _ _ _ h=>h,fun _ _ _ _ _ _=>rfl,fun _ _ _ _ h=>h,rfl⟩
def Zuh (W:World) (v:Value) (w:World):Prop:=v= .bool true∧w.os=W.os∧w.output=W.output∧W.heap.size≤w.heap.size∧∀k,k<W.heap.size→w.heap[k]? =W.heap[k]?
def Zk7 (P:Program) (f:FuncId) (W:World) (fr:Frame) (cs:List Frame) (w:World):Prop:=
 cs=[]∧∃(b:FB) (t:Array Value) (todo:List Item) (fn:Func),fr={mkF b t [] todo with mode:=.returning}∧b.df=false∧b.fn=f∧P.funcs[f]? =some fn∧∃tp d v,(results fn t).run P (re w tp d)= .ok v (re w tp d)∧Zuh W v w
def ZoX (P:Program) (f:FuncId) (W:World):Fc→Prop
 |.one a=>Zk7 P f W a.fr a.cs a.w
 |.two _ _ _ _=>False
theorem Zp9 {P:Program} {f:FuncId} {W:World} {fr:Frame} {cs:List Frame} {w:World} (hi:P.inits.idxOf? f=none) (h:Zk7 P f W fr cs w∧w.tape=W.tape):cs=[]∧EndAt P (fun v w'=>v= .bool true∧Below W.heap.size W w') fr w:=by
 obtain⟨⟨rfl,b,t,todo,fn,rfl,hdf,hbf,hf,tp,d0,v,hr,hp⟩,ht⟩:=h
 refine⟨rfl,fun d=>?_⟩
 have h1:(results fn t).runT P (re w tp d0) #[]=(.ok v (re w tp d0),(results fn t).events P (re w tp d0) #[]):=by rw[Sem.runT_eq,hr]
 generalize (results fn t).events P (re w tp d0) #[]=es at h1
 have he:∀e∈es,X9 (fun _=>False) e:=fun e he=>(Zu.events P (fun _ h=>h) (results fn t) (fun _=>False) _ _ _ _ _ ZcJ (fun _ h=>h.elim) h1 e he).elim (fun h=>by simp at h) id
 have h2:=(Zay P (results fn t) _ _ _ _ _ h1 fun e h=>(he e h).out).2.2 w.tape d fun i hi=>by
  have hi:i<d0-d0:=hi
  omega
 have e2:re (re w tp d0) w.tape (d+((re w tp d0).drawn-(re w tp d0).drawn))=w.at d:=by
  rw[show d+((re w tp d0).drawn-(re w tp d0).drawn)=d by omega]
  rfl
 rw[e2]at h2
 have h2:(results fn t).runT P (w.at d) #[]=(.ok v (w.at d),es):=h2
 refine⟨v,seen P f es,?_,fun e hx=>he e (mem_seen hx),hp.1,hp.2.1,ht,hp.2.2.1,hp.2.2.2.1,hp.2.2.2.2⟩
 have hk:b.kind= .normal:=by simp[FB.kind,hdf]
 have h3:=congrArg Prod.fst h2
 have h4:=congrArg Prod.snd h2
 rw[Sem.runT_eq]at h3 h4
 simp only at h3 h4
 simp[G,stepG,unwind,doReturn,mkF,hk,hbf,hf,h3,h4,hi,GStep.after]
theorem Zlw {T:Fc→Fc→Prop} {Stop:Fc→Prop} (hT:∀a b,T a b→b.w.tape=a.w.tape) {tp0:Tape} {a:Fc} (h:Zb6 T Stop Fc.re (fun a=>a.w.tape) a):a.w.tape=tp0→Zb6 T (fun b=>Stop b∧b.w.tape=tp0) Fc.re (fun a=>a.w.tape) a:=by
 induction h with
 |stop h=>exact fun e=>.stop ⟨h,e⟩
 | @step a f h1 h2 ih=>
  refine fun e=>.step f h1 fun d=>ih d ?_
  rw[hT _ _ (h1 d)]
  have:(Fc.re a a.w.tape d).w.tape=a.w.tape:=by cases a<;>rfl
  rw[this]
  exact e
theorem Zlu:Xy #[]:=⟨fun said=>by rintro⟨i,j,_,⟨a,b,ha,_⟩,_⟩;simp[Trace.act?]at ha,fun i a ha=>by simp[touchAt,Trace.act?]at ha,rfl⟩
theorem Zqr {f:FuncId} {xs:List AV} {vs:Array Value} {W:World} (hi:Tryz.prog.inits.idxOf? f=none) (hx:∀t d,XY (R1 (re W t d)) xs vs) (H:SC (fun _=>Tryz.prog) f xs [.main] fun r _=>r= .bool fun _=>true):
  ∃M last o w' t',runNT Tryz.prog (M+1) (solo (G (Frame.enter Tryz.prog f vs .normal) []) W) #[]=(.ended o w',t')∧runN Tryz.prog M (solo (G (Frame.enter Tryz.prog f vs .normal) []) W)= .next last∧step Tryz.prog last= .ended o w'∧Go.Conc.Good Tryz.prog (fun v w'=>v= .bool true∧Below W.heap.size W w') last o w' t':=by
 have hS:∀a t d,ZoX Tryz.prog f W (Fc.re a t d)→ZoX Tryz.prog f W a:=fun a t d h=>by
  cases a with
  |one a=>exact h
  |two _ _ _ _=>exact h
 have hm:Zb6 (T Tryz.prog (kf Tryz.prog)) (ZoX Tryz.prog f W) Fc.re (fun a=>a.w.tape) (.one ⟨Frame.enter Tryz.prog f vs .normal,[],W⟩):=by
  refine Zhh (ZkQ hS) fun t d=>?_
  obtain⟨v,R',r,h',⟨b,t',todo,fn,h1,h2,h3,h4,h5⟩,_,hext,_,hv,rfl⟩:=H.run (fun _ _ _=>True) (R1 (re W t d)) vs (Zug _) (hx t d) []
  refine⟨.one ⟨_,[],R'.w⟩,StepsC.main h1,rfl,b,t',todo,fn,rfl,h2,h5,by rw[←h5];exact h3,R'.w.tape,R'.w.drawn,v,h4,hv.bool_inv,hext.os,hext.output,hext.size,fun k hk=>hext.frame k hk fun id blk hid hp=>?_⟩
  cases id with
  |zero=>cases hid;exact hp
  |succ id=>simp at hid
 have hg:=Zf9 (St:=fun fr cs w=>Zk7 Tryz.prog f W fr cs w∧w.tape=W.tape) (fun a ha=>by
  cases a with
  |two _ _ _ _=>exact ha.1.elim
  |one a=>
   refine fun gs sl t q d h0 hL hP=>⟨0,gs,a.fr,a.cs,a.w.at d,sl,t,q,rfl,h0,⟨?_,ha.2⟩,hL,hP⟩
   exact ha.1) (Zlw (fun a b h=>(ZkQ hS).tape h) hm rfl)
 have hc:QE Tryz.prog (fun fr cs w=>Zk7 Tryz.prog f W fr cs w∧w.tape=W.tape) (crowd #[G (Frame.enter Tryz.prog f vs .normal) []] W none) #[]:=hg #[G (Frame.enter Tryz.prog f vs .normal) []] none #[] (fun _=>0) W.drawn rfl (leavers_one _ _) Zlu
 exact Zkj (fun fr cs w h=>Zp9 hi h) hc
end Go.Proofs.YtjgpiclllehgmaaGreat.Vm
namespace Go.Proofs.YtjgpiclllehgmaaGreat.Sp
def Zr (f:Nat→Int):Nat→Nat→Int
 |_,0=>0
 |i,k+1=>if f i≠0 then f i else Zr f (i+1) k
def Q5 (zones:Int) (l:List Stop) (i:Nat):Int:=YO (l.take i) (l.getD i default) (decide (0<i)&&decide ((i:Int)<l.length-1)) zones
def YD (zones:Int) (l:List Stop):Int:=Zr (Q5 zones l) 0 l.length
def QN (zones:Int) (l:List Train) (i:Nat):Int:=
 if !Yv (l.getD i default).number 1 999 then 1 else if(l.take i).any (fun x=>decide (x.number=(l.getD i default).number))then 4 else if !Yv (l.getD i default).days 1 127 then 1
 else if ZK (l.getD i default).stops.length 2 4≠0 then ZK (l.getD i default).stops.length 2 4 else YD zones (l.getD i default).stops
def Qg (zones:Int) (l:List Train):Int:=if ZK l.length 0 4≠0 then ZK l.length 0 4 else Zr (QN zones l) 0 l.length
def XX (b:XH):Int:=
 if ZK b.zones.length 1 3≠0 then ZK b.zones.length 1 3
 else if Zr (fun i=>Zv (b.zones.getD i default)) 0 b.zones.length≠0 then Zr (fun i=>Zv (b.zones.getD i default)) 0 b.zones.length
 else if Qg b.zones.length b.old≠0 then Qg b.zones.length b.old
 else if Qg b.zones.length b.new≠0 then Qg b.zones.length b.new
 else if !Yv b.last 0 13|| !Yv b.night 0 (b.last+1)then 1 else 0
def QT (b:XH) (day:Int):List Train:=if day<b.night then b.old else b.new
def Zba (t:Train) (day:Int):Bool:=decide (t.days/2^(day%7).toNat%2=1)
def QR (zs:List Zone) (day:Int) (many:Nat):Nat→Int→List Stop→List Call
 |_,_,[]=>[]
 |i,now,s::r=>
  if i=0 then
   let d:=if i+1<many then QV (ZQ (zs.getD s.zone.toNat default)) (1440*day+s.depart) now else 0
   ⟨s.station,d,d⟩::QR zs day many (i+1) d r
  else
   let a:=QV (ZQ (zs.getD s.zone.toNat default)) (1440*day+s.arrive) now
   let d:=if i+1<many then QV (ZQ (zs.getD s.zone.toNat default)) (1440*day+s.depart) a else a
   ⟨s.station,a,d⟩::QR zs day many (i+1) d r
def calls (zs:List Zone) (t:Train) (day:Int):List Call:=QR zs day t.stops.length 0 0 t.stops
def place (l:List Train) (number:Int):Int:=Zy (fun t=>decide (t.number=number)) 0 l
def J3 (b:XH) (number day:Int):List Call×Int:=
 if XX b≠0 then([],XX b)else if !Yv day 0 b.last then([],1)
 else if place (QT b day) number<0 then([],3)
 else if !Zba ((QT b day).getD (place (QT b day) number).toNat default) day then([],11)
 else(calls b.zones ((QT b day).getD (place (QT b day) number).toNat default) day,0)
structure Qp where
 number:Int
 day:Int
deriving DecidableEq,Inhabited
structure Xt where
 feeder:Int
 train:Int
 station:Int
 minutes:Int
deriving DecidableEq,Inhabited
structure Qh where
 run:Int
 leg:Int
 by_:List Int
deriving DecidableEq,Inhabited
structure Zf where
 book:XH
 runs:List Qp
 waits:List Xt
 delays:List Qh
deriving Inhabited
structure Step where
 run:Int
 from_:Int
 to_:Int
deriving DecidableEq,Inhabited
structure Zs where
 from_:Int
 since:Int
 goal:Int
 steps:List Step
deriving DecidableEq,Inhabited
def ZN (l:List Call) (f st:Int):Int:=Zy (fun c=>decide (c.station=st)) (max 0 f) (l.drop (max 0 f).toNat)
def Z6 (l:List Call) (st:Int):Int:=ZN l 1 st
def ZZ (l:List Call) (st:Int):Int:=if ZN l 0 st<(l.length:Int)-1 then ZN l 0 st else-1
def QQ (n lo hi:Int):Bool:= !Yv n lo hi
def Zep (yes no:Int):Int:=if no=0 then 1 else if yes=0 then 2 else 3
def Jg (l:List Call) (k:Nat):Int:=if(l.getD k default).arrive≤(l.getD (k-1) default).depart then 5 else 0
def Q8 (l:List Call):Int:=Zr (Jg l) 1 (l.length-1)
def J9 (t:Zf) (r:Qp):List Call:=(J3 t.book r.number r.day).1
def JT (t:Zf) (i:Nat):Int:=
 if(J3 t.book (t.runs.getD i default).number (t.runs.getD i default).day).2≠0 then(J3 t.book (t.runs.getD i default).number (t.runs.getD i default).day).2
 else if Q8 (J9 t (t.runs.getD i default))≠0 then 5
 else if(t.runs.take i).any (fun x=>decide (x=t.runs.getD i default))then 4 else 0
def QP (t:Zf):Int:=if t.runs.length=0 then 7 else if 4<t.runs.length then 6 else Zr (JT t) 0 t.runs.length
def callsOf (t:Zf):List (List Call):=t.runs.map (J9 t)
def Qx (c:List (List Call)) (w:Xt) (before:List Xt):Int:=
 if QQ w.feeder 0 (c.length-1)||QQ w.train 0 (c.length-1)then 3
 else if w.feeder=w.train then 4
 else if Z6 (c.getD w.feeder.toNat []) w.station<0∨ZZ (c.getD w.train.toNat []) w.station<0 then 3
 else if QQ w.minutes 0 60 then 1
 else if((c.getD w.train.toNat []).getD (ZZ (c.getD w.train.toNat []) w.station).toNat default).depart<((c.getD w.feeder.toNat []).getD (Z6 (c.getD w.feeder.toNat []) w.station).toNat default).arrive then 5
 else if before.any (fun x=>decide (x.feeder=w.feeder∧x.train=w.train∧x.station=w.station))then 4 else 0
def ZhQ (l:List Int) (k:Nat):Int:=if QQ (l.getD k 0) 0 240 then 1 else if 0<k∧l.getD k 0≤l.getD (k-1) 0 then 5 else 0
def QX (c:List (List Call)) (d:Qh) (before:List Qh):Int:=
 if QQ d.run 0 (c.length-1)||QQ d.leg 0 ((c.getD d.run.toNat []).length-2)then 3
 else if d.by_.length=0 then 7
 else if 3<d.by_.length then 6
 else if Zr (ZhQ d.by_) 0 d.by_.length≠0 then Zr (ZhQ d.by_) 0 d.by_.length
 else if before.any (fun x=>decide (x.run=d.run∧x.leg=d.leg))then 4 else 0
def Zn (t:Zf):Int:=
 if Sp.XX t.book≠0 then Sp.XX t.book
 else if QP t≠0 then QP t
 else if 4<t.waits.length then 6
 else if Zr (fun i=>Qx (callsOf t) (t.waits.getD i default) (t.waits.take i)) 0 t.waits.length≠0 then Zr (fun i=>Qx (callsOf t) (t.waits.getD i default) (t.waits.take i)) 0 t.waits.length
 else if 6<t.delays.length then 6
 else Zr (fun i=>QX (callsOf t) (t.delays.getD i default) (t.delays.take i)) 0 t.delays.length
end Go.Proofs.YtjgpiclllehgmaaGreat.Sp
namespace Go.Proofs.YtjgpiclllehgmaaGreat.Vm
attribute [local irreducible] Dn
open Go Go.Proofs Sp
set_option maxRecDepth 100000
set_option maxHeartbeats 1600000
def QH (s:Stop):List AV:=[.int .i64 fun _=>s.station,.int .i64 fun _=>s.zone,.int .i64 fun _=>s.arrive,.int .i64 fun _=>s.depart]
def encTrain (t:Train):List AV:=[.int .i64 fun _=>t.number,.int .i64 fun _=>t.days,lst 4 QH default t.stops]
def encZone (z:Zone):List AV:=[.int .i64 fun _=>z.base,lst 2 JC default z.chs]
def Zc (b:XH):AV:=.agg [lst 2 encZone default b.zones,lst 3 encTrain default b.old,lst 3 encTrain default b.new,.int .i64 fun _=>b.night,.int .i64 fun _=>b.last]
theorem Zb4 {f:FuncId} {xs ys:List AV} {h:List Zi} {Post Q:AV→List Zi→Prop} {B:Prop} (H:SC (fun _=>Tryz.prog) f ys [] Q) (k:B) (t:SC (fun _=>Tryz.prog) f ys [] Q→HdW B→SC (fun _=>Tryz.prog) f xs h Post:=by intro hH hW;refine ZV hH (by first|rfl|(simp only[Zd,Zc,Za hnt];rfl)) fun r h₂ hp=>?_;(try simp only[Zd,Zc,Za hnt]at hp);obtain⟨rfl,rfl⟩:=hp;exact hW.out):SC (fun _=>Tryz.prog) f xs h Post:=t H ⟨k⟩
theorem ZaM {nt:(α:Type)→α→List α→Int→α} (hnt:∀(α:Type) (d:α) (l:List α) (i:Int),nt α d l i=l.getD i.toNat d) {α:Type} (enc:α→List AV) (d:α) (l:List α):Zdg enc d l=fun e=>enc (nt α d l (e ())):=by
 funext e;show enc (l.getD _ d)=_;rw[hnt]
theorem lit_nt {nt:(α:Type)→α→List α→Int→α} (hnt:∀(α:Type) (d:α) (l:List α) (i:Int),nt α d l i=l.getD i.toNat d) {α:Type} {n k sz:Nat} (enc:α→List AV) (d:α) (l:List α) (rows:List (List AV)) (hr:rows=l.map enc):
  ZE n k (.isl sz (fun _=>(rows.length:Int)) (fun e=>rows.getD (e ()).toNat (rows.headD [])) .exact) (.isl sz (fun _=>(l.length:Int)) (fun e=>enc (nt α d l (e ()))) .none):=by
 subst hr
 refine .none (by simp) fun i hi=>?_
 have hi:i<l.length:=by simpa using hi
 show(l.map enc).getD i _=enc (nt α d l (i:Int))
 rw[hnt]
 simp[List.getD_eq_getElem?_getD,List.getElem?_eq_getElem hi]
theorem ZsD (l:List Nat) {f:FuncId} {xs ys:List AV} {h hc:List Zi} {Post Q:AV→List Zi→Prop} (H:SC (fun _=>Tryz.prog) f ys hc Q) (hto:To xs h ys h) (hnd:l.Nodup) (hlt:∀i∈l,i<h.length) (hx:ys.map (Qv false l h 5)=ys) (hh:sel false l h=hc) (hq:∀r h₂,Q r h₂→Post (ren (YJ l h.length) 5 r) (back l h h₂)):SC (fun _=>Tryz.prog) f xs h Post:=
 SC.to hto (ZF l H hnd hlt hx hh hq)
theorem ZaQ (a b:Int):(a==b)=decide (a=b):=by by_cases h:a=b<;>simp[h]
theorem c78 (n a b:Int):SC (fun _=>Tryz.prog) 172 [.int .i64 fun _=>n,.int .i64 fun _=>a,.int .i64 fun _=>b] [] fun r h=>r= .int .i64 (fun _=>ZK n a b)∧h=[]:=by
 refine Qu Tryz.func172 (body:=Zj Tryz.f172) rfl (by decide+kernel) ?_
 refine wS ?_
 unfold ZK
 refine⟨fun hb=>?_,fun hb=>?_⟩
 ·simp only[decide_eq_true_eq]at hb
  refine vS ?_
  refine⟨?_,trivial⟩
  congr 1;funext _;rw[if_pos hb]
 ·simp only[decide_eq_false_iff_not]at hb
  refine vS ?_
  refine⟨fun hb'=>?_,fun hb'=>?_⟩
  ·simp only[decide_eq_true_eq]at hb'
   refine vS ?_
   refine⟨?_,trivial⟩
   congr 1;funext _;rw[if_neg hb,if_pos hb']
  ·simp only[decide_eq_false_iff_not]at hb'
   refine vS ?_
   refine⟨?_,trivial⟩
   congr 1;funext _;rw[if_neg hb,if_neg hb']
theorem Zvf (x s:Stop):SC (fun _=>Tryz.prog) 197 [.agg (QH x),.ptr 0 0] [.cells (QH s)] fun v h=>v= .bool (fun _=>decide (x.station=s.station))∧h=[.cells (QH s)]:=by
 refine Qu Tryz.func197 (body:=Zj Tryz.f197) rfl (by decide+kernel) ?_
 refine wS ?_
 exact⟨by simp only[ZaQ],trivial⟩
theorem cL0 (l:List Nat) {f:FuncId} {xs ys:List AV} {h hc:List Zi} {Post Q:AV→List Zi→Prop} (H:SC (fun _=>Tryz.prog) f ys hc Q) (hq:∀ r h₂,Q r h₂→Post (ren (YJ l h.length) 5 r) (back l h h₂)) (hn:l.Nodup:=by decide) (hl:∀ i∈l,i<h.length:=by simp) (hx:xs.map (Qv false l h 5)=ys:=by first|rfl|(simp only[Zd,Zc,Za hnt];rfl)) (hh:sel false l h=hc:=by first|rfl|(simp only[Zd,Zc,Za hnt];rfl)):SC (fun _=>Tryz.prog) f xs h Post:=ZF l H hn hl hx hh hq
theorem Zve (l:List Stop) (s:Stop) (hl:l.length≤1000000):SC (fun _=>Tryz.prog) 199 [lst 4 QH default l,.fn 197 [] [.ptr 0 0]] [.cells (QH s)] fun v h=>v= .int .i64 (fun _=>Zy (fun x=>decide (x.station=s.station)) 0 l)∧h=[.cells (QH s)]:=by
 obtain⟨nt,hnt⟩:=Zp
 rw[Za hnt]
 refine Qu Tryz.func199 (body:=Zj Tryz.f199) rfl (by decide+kernel) ?_
 refine wS ?_
 refine ZT false false [] [0,1,7,8] [] (fun(i:Nat)=>[(8,.int .i64 fun _=>i)]) (fun _=>[]) (fun i=>i≤l.length∧Zy (fun x=>decide (x.station=s.station)) 0 l=Zy (fun x=>decide (x.station=s.station)) i (l.drop i)) (fun i=>l.length-i+0) 0 ⟨Nat.zero_le _,by simp⟩ ?_ ?_
 ·exact ZJ
 rintro i ⟨hi,hp⟩
 refine wS ?_
 refine⟨fun hb=>?_,fun hb=>?_⟩
 ·simp only[decide_eq_true_eq]at hb
  have hd:=Qy (d:=default) hnt (l:=l) (i:=i) (by omega)
  rw[hd,Zy]at hp
  refine wS ?_
  refine cL0 [0] (Zvf (nt Stop default l i) s) fun r h₂ hp=>?_
  (try simp only[Zd,Zc,Za hnt]at hp)
  obtain⟨rfl,rfl⟩:=hp
  refine vS ?_
  refine⟨fun hb'=>?_,fun hb'=>?_⟩
  ·rw[if_pos hb']at hp
   refine wS ?_
   exact⟨by rw[hp],trivial⟩
  ·rw[if_neg (by rw[hb'];exact Bool.false_ne_true)]at hp
   refine wS ?_
   refine⟨i+1,⟨by omega,hp⟩,by show l.length-(i+1)+0<l.length-i+0;omega,?_⟩
   exact ZJ
 ·simp only[decide_eq_false_iff_not]at hb
  rw[List.drop_eq_nil_of_le (by omega),Zy]at hp
  refine wS ?_
  exact⟨by rw[hp],trivial⟩
theorem JW {α:Type} (q:α→Bool):∀(l:List α) (i:Int),0≤i→decide (0≤Zy q i l)=l.any q
 |[],i,h=>by simp[Zy]
 |a::l,i,h=>by
  simp only[Zy,List.any_cons]
  by_cases hq:q a=true
  ·simp[hq,h]
  ·have hq:q a=false:=by simpa using hq
   simp only[hq,Bool.false_eq_true,if_false,Bool.false_or]
   exact JW q l (i+1) (by omega)
theorem Zvg (l:List Stop) (s:Stop) (hl:l.length≤1000000):SC (fun _=>Tryz.prog) 196 [lst 4 QH default l,.fn 197 [] [.ptr 0 0]] [.cells (QH s)] fun v h=>v= .bool (fun _=>l.any fun x=>decide (x.station=s.station))∧h=[.cells (QH s)]:=by
 obtain⟨nt,hnt⟩:=Zp
 rw[Za hnt]
 refine Qu Tryz.func196 (body:=Zj Tryz.f196) rfl (by decide+kernel) ?_
 refine wS ?_
 refine cL0 [0] (Zve l s hl) fun r h₂ hp=>?_
 (try simp only[Zd,Zc,Za hnt]at hp)
 obtain⟨rfl,rfl⟩:=hp
 refine wS ?_
 refine⟨?_,trivial⟩
 congr 1;funext _;exact JW _ l 0 (by omega)
theorem take_nt {nt:(α:Type)→α→List α→Int→α} (hnt:∀(α:Type) (d:α) (l:List α) (i:Int),nt α d l i=l.getD i.toNat d) {α:Type} {n k sz:Nat} {enc:α→List AV} {d:α} {l:List α} {i:Nat} (hi:i≤l.length) {tk:Tk}:
  ZE n k (.isl sz (fun _=>(i:Int)) (fun e=>enc (nt α d l (e ()))) tk) (.isl sz (fun _=>((l.take i).length:Int)) (fun e=>enc (nt α d (l.take i) (e ()))) .none):=
 .none (by simp;omega) fun j hj=>by
  have hj:j<i:=by omega
  show enc (nt α d l (j:Int))=enc (nt α d (l.take i) (j:Int))
  rw[hnt,hnt]
  simp[List.getD_eq_getElem?_getD,List.getElem?_take,hj]
theorem Zvh (l:List Stop) (i:Nat) (zones:Int) (hi:i<l.length) (hl:l.length≤1000000) (hz:0≤zones∧zones≤1000000):SC (fun _=>Tryz.prog) 191 [lst 4 QH default l,.int .i64 fun _=>(i:Int),.int .i64 fun _=>zones] [] fun v h=>v= .int .i64 (fun _=>Q5 zones l i)∧h=[]:=by
 obtain⟨nt,hnt⟩:=Zp
 rw[Za hnt]
 refine Qu Tryz.func191 (body:=Zj Tryz.f191) rfl (by decide+kernel) ?_
 have hsp:Q5 zones l i=YO (l.take i) (nt Stop default l i) (decide (0<i)&&decide ((i:Int)<l.length-1)) zones:=by unfold Q5;rw[hnt];rfl
 rw[hsp]
 unfold YO
 refine wS ?_
 generalize nt Stop default l i=s at*
 refine Zb4 (c67 s.station 0 9) ?_
 refine vS ?_
 refine⟨fun hb=>?_,fun hb=>?_⟩
 ·rw[if_pos hb]
  (cbv;(try simp only[nc]at*);(try refine Chk.mk (Qc) ?_))
  (try first|exact⟨rfl,trivial⟩|exact⟨trivial,trivial⟩)
 rw[if_neg (by rw[hb];exact Bool.false_ne_true)]
 refine wS ?_
 have hin:∀lo hi:Int,(!Yv s.zone lo hi)=(!Yv s.zone lo hi):=fun _ _=>rfl
 refine ZsD [0] (Zvg (l.take i) s (by simp;omega)) (by(try simp only[Zd,Zc,Za hnt]);exact ZJ) (by decide) (by simp) (by first|rfl|(simp only[Zd,Zc,Za hnt];rfl)) rfl fun r h₂ hp=>?_
 (try simp only[Zd,Zc,Za hnt]at hp)
 obtain⟨rfl,rfl⟩:=hp
 refine vS ?_
 refine⟨fun hb=>?_,fun hb=>?_⟩
 ·rw[if_pos hb]
  (cbv;(try simp only[nc]at*);(try refine Chk.mk (Qc) ?_))
  (try first|exact⟨rfl,trivial⟩|exact⟨trivial,trivial⟩)
 rw[if_neg (by rw[hb];exact Bool.false_ne_true)]
 refine wS ?_
 refine Zb4 (c67 s.zone 0 (zones-1)) ?_
 refine vS ?_
 refine⟨fun hb=>?_,fun hb=>?_⟩
 ·rw[if_pos hb]
  (cbv;(try simp only[nc]at*);(try refine Chk.mk (Qc) ?_))
  (try first|exact⟨rfl,trivial⟩|exact⟨trivial,trivial⟩)
 rw[if_neg (by rw[hb];exact Bool.false_ne_true)]
 refine wS ?_
 refine Zb4 (c67 s.arrive 0 4319) ?_
 refine vS ?_
 refine⟨fun hb=>?_,fun hb=>?_⟩
 ·rw[if_pos (by simp[hb])]
  refine wS ?_
  refine Br.isT hb ?_
  (cbv;(try simp only[nc]at*);(try refine Chk.mk (Qc) ?_))
  (try first|exact⟨rfl,trivial⟩|exact⟨trivial,trivial⟩)
 refine wS ?_
 refine Zb4 (c67 s.depart 0 4319) ?_
 refine vS ?_
 refine⟨fun hb'=>?_,fun hb'=>?_⟩
 ·rw[if_pos (by simp[hb'])]
  (cbv;(try simp only[nc]at*);(try refine Chk.mk (Qc) ?_))
  (try first|exact⟨rfl,trivial⟩|exact⟨trivial,trivial⟩)
 rw[if_neg (by simp[hb,hb'])]
 refine wS ?_
 have he:(decide (0<i)&&decide ((i:Int)<l.length-1)&&decide (s.depart<s.arrive))=(bif bif decide (0<(i:Int))then decide ((i:Int)<(l.length:Int)-1)else false then decide (s.depart<s.arrive)else false):=by
  rw[show decide (0<i)=decide (0<(i:Int))from by rw[Bool.eq_iff_iff];simp]
  cases decide (0<(i:Int))<;>cases decide ((i:Int)<(l.length:Int)-1)<;>rfl
 rw[he]
 refine⟨fun hb=>?_,fun hb=>?_⟩
 ·rw[if_pos hb]
  (cbv;(try simp only[nc]at*);(try refine Chk.mk (Qc) ?_))
  (try first|exact⟨rfl,trivial⟩|exact⟨trivial,trivial⟩)
 ·rw[if_neg (by rw[hb];exact Bool.false_ne_true)]
  (cbv;(try simp only[nc]at*);(try refine Chk.mk (Qc) ?_))
  (try first|exact⟨rfl,trivial⟩|exact⟨trivial,trivial⟩)
theorem c80 (l:List Train) (zones:Int) (hz:0≤zones∧zones≤1000000) (hl:l.length≤1000000) (hs:∀t∈l,t.stops.length≤1000000):SC (fun _=>Tryz.prog) 174 [lst 3 encTrain default l,.int .i64 fun _=>zones] [] fun v h=>v= .int .i64 (fun _=>Qg zones l)∧h=[]:=by
 obtain⟨nt,hnt⟩:=Zp
 rw[Za hnt]
 refine Qu Tryz.func174 (body:=Zj Tryz.f174) rfl (by decide+kernel) ?_
 unfold Qg
 refine wS ?_
 refine Zb4 (c78 (l.length:Int) 0 4) ?_
 generalize ZK l.length 0 4=e at*
 refine vS ?_
 refine⟨fun hb=>?_,fun hb=>?_⟩
 ·simp only[bne_iff_ne,ne_eq]at hb
  rw[if_pos hb]
  (cbv;(try simp only[nc]at*);(try refine Chk.mk (Qc) ?_))
  (try first|exact⟨rfl,trivial⟩|exact⟨trivial,trivial⟩)
 simp only[bne_eq_false_iff_eq]at hb
 subst hb
 rw[if_neg (fun h=>h rfl)]
 refine wS ?_
 refine ZT false false [] [1,6,19,20,21] [] (fun(i:Nat)=>[(21,.int .i64 fun _=>i)]) (fun i=>[(0,.mapB fun e _=>(l.take i).any fun x=>decide (x.number=e ()))])
  (fun i=>i≤l.length∧Zr (QN zones l) 0 l.length=Zr (QN zones l) i (l.length-i)) (fun i=>l.length-i+0) 0 ⟨Nat.zero_le _,by simp⟩ ?_ ?_
 ·exact ZJ
 rintro i ⟨hi,hp⟩
 refine wS ?_
 refine⟨fun hb=>?_,fun hb=>?_⟩
 ·simp only[decide_eq_true_eq]at hb
  obtain⟨q,hq⟩:∃q,l.length-i=q+1:=⟨l.length-i-1,by omega⟩
  rw[hq,Zr]at hp
  have htake:=Zet (d:=default) hnt (l:=l) (i:=i) (by omega)
  have hst:=hs _ (Xg (d:=default) hnt (l:=l) (i:=i) (by omega))
  have hct:QN zones l i=if !Yv (nt Train default l i).number 1 999 then 1 else if(l.take i).any (fun x=>decide (x.number=(nt Train default l i).number))then 4 else if !Yv (nt Train default l i).days 1 127 then 1
   else if ZK (nt Train default l i).stops.length 2 4≠0 then ZK (nt Train default l i).stops.length 2 4 else YD zones (nt Train default l i).stops:=by unfold QN;rw[hnt];rfl
  refine wS ?_
  generalize nt Train default l i=t at*
  refine Zb4 (c67 t.number 1 999) ?_
  refine vS ?_
  refine⟨fun hb=>?_,fun hb=>?_⟩
  ·rw[if_pos hb]at hct
   rw[hct,if_pos (by decide)]at hp
   refine wS ?_
   rw[hp]
   (try first|exact⟨rfl,trivial⟩|exact⟨trivial,trivial⟩)
  rw[if_neg (by rw[hb];exact Bool.false_ne_true)]at hct
  refine vS ?_
  refine⟨fun hb=>?_,fun hb=>?_⟩
  ·rw[if_pos hb]at hct
   rw[hct,if_pos (by decide)]at hp
   refine wS ?_
   rw[hp]
   (try first|exact⟨rfl,trivial⟩|exact⟨trivial,trivial⟩)
  rw[if_neg (by rw[hb];exact Bool.false_ne_true)]at hct
  refine vS ?_
  refine Zb4 (c67 t.days 1 127) ?_
  refine vS ?_
  refine⟨fun hb=>?_,fun hb=>?_⟩
  ·rw[if_pos hb]at hct
   rw[hct,if_pos (by decide)]at hp
   refine wS ?_
   rw[hp]
   (try first|exact⟨rfl,trivial⟩|exact⟨trivial,trivial⟩)
  rw[if_neg (by rw[hb];exact Bool.false_ne_true)]at hct
  refine vS ?_
  refine Zb4 (c78 (t.stops.length:Int) 2 4) ?_
  generalize ZK t.stops.length 2 4=e at*
  refine vS ?_
  refine⟨fun hb=>?_,fun hb=>?_⟩
  ·simp only[bne_iff_ne,ne_eq]at hb
   rw[if_pos hb]at hct
   rw[hct,if_pos hb]at hp
   refine wS ?_
   rw[hp]
   (try first|exact⟨rfl,trivial⟩|exact⟨trivial,trivial⟩)
  simp only[bne_eq_false_iff_eq]at hb
  subst hb
  rw[if_neg (fun h=>h rfl)]at hct
  refine wS ?_
  refine Zah fun Q hQ=>?_
  refine ZT false false [] [1,6,8,19,20,21,52,53] [] (fun(j:Nat)=>[(53,.int .i64 fun _=>j)]) (fun _=>[])
   (fun j=>j≤t.stops.length∧YD zones t.stops=Zr (Q5 zones t.stops) j (t.stops.length-j)) (fun j=>t.stops.length-j+0) 0 ⟨Nat.zero_le _,by simp[YD]⟩ ?_ ?_
  ·exact ZJ
  rintro j ⟨hj,hpj⟩
  refine wS ?_
  refine⟨fun hb=>?_,fun hb=>?_⟩
  ·simp only[decide_eq_true_eq]at hb
   obtain⟨q',hq'⟩:∃q,t.stops.length-j=q+1:=⟨t.stops.length-j-1,by omega⟩
   rw[hq',Zr]at hpj
   refine wS ?_
   refine Zb4 (Zvh t.stops j zones (by omega) hst hz) ?_
   generalize Q5 zones t.stops j=e at*
   refine vS ?_
   refine⟨fun hb=>?_,fun hb=>?_⟩
   ·simp only[bne_iff_ne,ne_eq]at hb
    rw[if_pos hb]at hpj
    rw[hct,hpj,if_pos hb]at hp
    refine wS ?_
    refine hQ _ _ _ ?_
    refine wS ?_
    rw[hp]
    (try first|exact⟨rfl,trivial⟩|exact⟨trivial,trivial⟩)
   ·simp only[bne_eq_false_iff_eq]at hb
    rw[if_neg (fun h=>h hb)]at hpj
    refine wS ?_
    refine⟨j+1,⟨by omega,by rw[hpj];congr 1;omega⟩,by show t.stops.length-(j+1)+0<t.stops.length-j+0;omega,?_⟩
    exact ZJ
  ·simp only[decide_eq_false_iff_not]at hb
   rw[show t.stops.length-j=0 by omega,Zr]at hpj
   rw[hct,hpj,if_neg (fun h=>h rfl)]at hp
   refine wS ?_
   refine hQ _ _ _ ?_
   refine wS ?_
   refine⟨i+1,⟨by omega,by rw[hp];congr 1;omega⟩,by show l.length-(i+1)+0<l.length-i+0;omega,?_⟩
   refine toR ?_
   exact .map fun x=>by
    rw[htake,List.any_append]
    show(if x=t.number then true else(l.take i).any fun y=>decide (y.number=x))=_
    by_cases hx:x=t.number
    ·simp[hx]
    ·rw[if_neg hx]
     simp[Ne.symm hx]
 ·simp only[decide_eq_false_iff_not]at hb
  rw[show l.length-i=0 by omega,Zr]at hp
  refine wS ?_
  rw[hp]
  (try first|exact⟨rfl,trivial⟩|exact⟨trivial,trivial⟩)
structure YG (b:XH):Prop where
 zones:b.zones.length≤1000000
 old:b.old.length≤1000000
 new:b.new.length≤1000000
 chs:∀z∈b.zones,z.chs.length≤1000000
 stops:(∀t∈b.old,t.stops.length≤1000000)∧∀t∈b.new,t.stops.length≤1000000
theorem c28 (b:XH) (hb:YG b):SC (fun _=>Tryz.prog) 131 [Zc b] [] fun v h=>v= .int .i64 (fun _=>XX b)∧h=[]:=by
 obtain⟨nt,hnt⟩:=Zp
 unfold Zc XX
 simp only[Za hnt]
 obtain⟨hz,ho,hn,hc,hs⟩:=hb
 refine Qu Tryz.func131 (body:=Zj Tryz.f131) rfl (by decide+kernel) ?_
 refine wS ?_
 refine Zb4 (c78 (b.zones.length:Int) 1 3) ?_
 generalize ZK b.zones.length 1 3=e at*
 refine vS ?_
 refine⟨fun hb=>?_,fun hb=>?_⟩
 ·simp only[bne_iff_ne,ne_eq]at hb
  rw[if_pos hb]
  (cbv;(try simp only[nc]at*);(try refine Chk.mk (Qc) ?_))
  (try first|exact⟨rfl,trivial⟩|exact⟨trivial,trivial⟩)
 simp only[bne_eq_false_iff_eq]at hb
 subst hb
 rw[if_neg (fun h=>h rfl)]
 refine wS ?_
 refine Zah fun Q hQ=>?_
 refine ZT false false [] [1,18,19,20] [] (fun(i:Nat)=>[(20,.int .i64 fun _=>i)]) (fun _=>[])
  (fun i=>i≤b.zones.length∧Zr (fun i=>Zv (b.zones.getD i default)) 0 b.zones.length=Zr (fun i=>Zv (b.zones.getD i default)) i (b.zones.length-i)) (fun i=>b.zones.length-i+0) 0 ⟨Nat.zero_le _,by simp⟩ ?_ ?_
 ·exact ZJ
 rintro i ⟨hi,hp⟩
 refine wS ?_
 refine⟨fun hb=>?_,fun hb=>?_⟩
 ·simp only[decide_eq_true_eq]at hb
  obtain⟨q,hq⟩:∃q,b.zones.length-i=q+1:=⟨b.zones.length-i-1,by omega⟩
  rw[hq,Zr]at hp
  have hch:=hc _ (Xg (d:=default) hnt (l:=b.zones) (i:=i) (by omega))
  have hz:b.zones.getD i default=nt Zone default b.zones i:=by rw[hnt];rfl
  rw[hz]at hp
  refine wS ?_
  generalize nt Zone default b.zones i=z at*
  refine Zb4 (c79 z hch) ?_
  generalize Zv z=e at*
  refine vS ?_
  refine⟨fun hb=>?_,fun hb=>?_⟩
  ·simp only[bne_iff_ne,ne_eq]at hb
   rw[if_pos hb]at hp
   rw[hp,if_pos hb]at hQ
   refine wS ?_
   refine hQ _ _ _ ?_
   (cbv;(try simp only[nc]at*);(try refine Chk.mk (Qc) ?_))
   (try first|exact⟨rfl,trivial⟩|exact⟨trivial,trivial⟩)
  ·simp only[bne_eq_false_iff_eq]at hb
   rw[if_neg (fun h=>h hb)]at hp
   refine wS ?_
   refine⟨i+1,⟨by omega,by rw[hp];congr 1;omega⟩,by show b.zones.length-(i+1)+0<b.zones.length-i+0;omega,?_⟩
   exact ZJ
 ·simp only[decide_eq_false_iff_not]at hb
  rw[show b.zones.length-i=0 by omega,Zr]at hp
  rw[hp,if_neg (fun h=>h rfl)]at hQ
  refine wS ?_
  refine hQ _ _ _ ?_
  clear hQ
  refine wS ?_
  refine Zah fun Q hQ=>?_
  refine ZT false false [] [1,34,35,36] [] (fun(i:Nat)=>[(36,.int .i64 fun _=>i)]) (fun _=>[])
   (fun i=>i=0∨(i=1∧Qg b.zones.length b.old=0)∨(i=2∧Qg b.zones.length b.old=0∧Qg b.zones.length b.new=0)) (fun i=>3-i+0) 0 (.inl rfl) ?_ ?_
  ·exact ZJ
  rintro i hi
  rcases hi with rfl|⟨rfl,h1⟩|⟨rfl,h1,h2⟩
  ·refine wS ?_
   refine Br.isT (by simp) ?_
   refine wS ?_
   refine Zb4 (c80 b.old (b.zones.length:Int) (by omega) ho hs.1) ?_
   generalize Qg b.zones.length b.old=e at*
   refine vS ?_
   refine⟨fun hb=>?_,fun hb=>?_⟩
   ·simp only[bne_iff_ne,ne_eq]at hb
    rw[if_pos hb]at hQ
    refine wS ?_
    refine hQ _ _ _ ?_
    (cbv;(try simp only[nc]at*);(try refine Chk.mk (Qc) ?_))
    (try first|exact⟨rfl,trivial⟩|exact⟨trivial,trivial⟩)
   ·simp only[bne_eq_false_iff_eq]at hb
    refine wS ?_
    refine⟨1,.inr (.inl ⟨rfl,hb⟩),by decide,?_⟩
    exact ZJ
  ·refine wS ?_
   refine Br.isT (by simp) ?_
   refine wS ?_
   refine Zb4 (c80 b.new (b.zones.length:Int) (by omega) hn hs.2) ?_
   rw[if_neg (fun h=>h h1)]at hQ
   generalize Qg b.zones.length b.new=e at*
   refine vS ?_
   refine⟨fun hb=>?_,fun hb=>?_⟩
   ·simp only[bne_iff_ne,ne_eq]at hb
    rw[if_pos hb]at hQ
    refine wS ?_
    refine hQ _ _ _ ?_
    (cbv;(try simp only[nc]at*);(try refine Chk.mk (Qc) ?_))
    (try first|exact⟨rfl,trivial⟩|exact⟨trivial,trivial⟩)
   ·simp only[bne_eq_false_iff_eq]at hb
    refine wS ?_
    refine⟨2,.inr (.inr ⟨rfl,h1,hb⟩),by decide,?_⟩
    exact ZJ
  ·rw[if_neg (fun h=>h h1),if_neg (fun h=>h h2)]at hQ
   refine wS ?_
   refine Br.isF (by simp) ?_
   refine wS ?_
   refine hQ _ _ _ ?_
   clear hQ
   refine wS ?_
   have k67:=c67 b.last 0 13
   rcases hI:Yv b.last 0 13 with _|_
   ·rw[hI]at k67
    simp only[Bool.not_false,Bool.true_or,if_true]
    refine Zb4 (k67) ?_
    refine vS ?_
    refine Chk.mk (by simp[Q0,QY,QZ,Cn.p]) ?_
    refine Br.isF (by rfl) ?_
    refine wS ?_
    refine Br.isT (by rfl) ?_
    (cbv;(try simp only[nc]at*);(try refine Chk.mk (Qc) ?_))
    (try first|exact⟨rfl,trivial⟩|exact⟨trivial,trivial⟩)
   ·have hlast:0≤b.last∧b.last≤13:=by simpa [Yv]using hI
    rw[hI]at k67
    simp only[Bool.not_true,Bool.false_or]
    refine Zb4 (k67) ?_
    refine wS ?_
    refine Br.isT (by rfl) ?_
    refine wS ?_
    refine Zb4 (c67 b.night 0 (b.last+1)) ?_
    refine wS ?_
    refine⟨fun hb'=>?_,fun hb'=>?_⟩
    ·have hb':Yv b.night 0 (b.last+1)=false:=by simpa using hb'
     refine wS ?_
     simp[hb']
    ·have hb':Yv b.night 0 (b.last+1)=true:=by simpa using hb'
     refine wS ?_
     simp[hb']
end Go.Proofs.YtjgpiclllehgmaaGreat.Vm
namespace Go.Proofs.YtjgpiclllehgmaaGreat.Vm
open Sp
def Asc:Int→List Chg→Prop
 |_,[]=>True
 |lo,c::r=>lo≤c.at_∧Asc (c.at_+1) r
def af:Int→List Chg→Int→Int
 |a,[],_=>a
 |a,c::r,k=>if c.at_≤k then af (a+c.by_) r k else a
theorem ZbA {z:Zone} (h:Zv z=0):Asc 0 z.chs∧(∀c∈z.chs,0≤c.at_∧c.at_≤43200∧-180≤c.by_∧c.by_≤180)∧z.chs.length≤3∧-720≤z.base∧z.base≤720:=by
 unfold Zv at h
 split at h
 ·cases h
 rename_i h1
 split at h
 ·cases h
 rename_i h2
 have key:∀(l:List Chg) (p:Option Int),YN p l=0→(Asc (match p with|none=>0|some a=>a+1) l)∧∀c∈l,0≤c.at_∧c.at_≤43200∧-180≤c.by_∧c.by_≤180:=by
  intro l
  induction l with
  |nil=>intro p _;exact⟨trivial,fun c hc=>by cases hc⟩
  |cons a l ih=>
   intro p hp
   rw[Yt]at hp
   split at hp
   ·cases hp
   rename_i g1
   split at hp
   ·cases hp
   rename_i g2
   split at hp
   ·cases hp
   rename_i g3
   simp[Yv]at g1 g3
   obtain⟨i1,i2⟩:=ih _ hp
   refine⟨⟨?_,i1⟩,fun c hc=>?_⟩
   ·cases p with
    |none=>simp only;omega
    |some q=>simp[leP]at g2;simp only;omega
   ·rcases List.mem_cons.1 hc with rfl|hc
    ·omega
    ·exact i2 c hc
 obtain⟨k1,k2⟩:=key _ _ h
 simp[Yv]at h1
 exact⟨k1,k2,by omega,by omega,by omega⟩
attribute [local irreducible] Dn
open Go Go.Proofs Sp
set_option maxRecDepth 100000
set_option maxHeartbeats 1600000
def ZuB (z:Zone):AV:=.agg [.int .i64 fun _=>z.base,.int .i64 fun _=>(z.chs.length:Int),
 .int .i64 fun _=>(z.chs.getD 0 default).at_,.int .i64 fun _=>(z.chs.getD 0 default).by_,.int .i64 fun _=>(z.chs.getD 1 default).at_,.int .i64 fun _=>(z.chs.getD 1 default).by_,.int .i64 fun _=>(z.chs.getD 2 default).at_,.int .i64 fun _=>(z.chs.getD 2 default).by_]
theorem c73 (b:XH) (day:Int):SC (fun _=>Tryz.prog) 145 [Zc b,.int .i64 fun _=>day] [] fun v h=>v=lst 3 encTrain default (QT b day)∧h=[]:=by
 refine Qu Tryz.func145 (body:=Zj Tryz.f145) rfl (by decide+kernel) ?_
 unfold Zc QT
 refine wS ?_
 refine⟨fun hb=>?_,fun hb=>?_⟩
 ·simp only[decide_eq_true_eq]at hb
  rw[if_pos hb]
  (cbv;(try simp only[nc]at*);(try refine Chk.mk (Qc) ?_))
  (try first|exact⟨rfl,trivial⟩|exact⟨trivial,trivial⟩)
 ·simp only[decide_eq_false_iff_not]at hb
  rw[if_neg hb]
  (cbv;(try simp only[nc]at*);(try refine Chk.mk (Qc) ?_))
  (try first|exact⟨rfl,trivial⟩|exact⟨trivial,trivial⟩)
theorem Zk3 (n:Int) (h:0≤n) (h2:n≤1000000000):IntKind.i64.wrap ((BitVec.ofInt IntKind.i64.bits n&&&BitVec.ofInt IntKind.i64.bits 1).toNat:Int)=n%2:=by
 have e:(BitVec.ofInt IntKind.i64.bits n&&&BitVec.ofInt IntKind.i64.bits 1).toNat=n.toNat%2:=by
  rw[BitVec.toNat_and,BitVec.toNat_ofInt,BitVec.toNat_ofInt]
  show(n%((2^ 64:Nat):Int)).toNat&&&(1%((2^ 64:Nat):Int)).toNat=_
  rw[show(1%((2^ 64:Nat):Int)).toNat=1 from rfl,Nat.and_one_is_mod,show n%((2^ 64:Nat):Int)=n from Int.emod_eq_of_lt h (by omega)]
 rw[e]
 have:((n.toNat%2:Nat):Int)=n%2:=by omega
 rw[this]
 simp only[IntKind.wrap,IntKind.signed,IntKind.bits]
 simp
 omega
theorem c76 (t:Train) (day:Int) (hd:0≤day∧day≤1000000) (ht:0≤t.days∧t.days≤1000000):SC (fun _=>Tryz.prog) 148 [.agg (encTrain t),.int .i64 fun _=>day] [] fun v h=>v= .bool (fun _=>Zba t day)∧h=[]:=by
 refine Qu Tryz.func148 (body:=Zj Tryz.f148) rfl (by decide+kernel) ?_
 have e:=(ZqY day 7).1 hd.1
 refine vS ?_
 rw[e]
 refine Chk.mk (Qc) ?_
 refine vS ?_
 refine⟨?_,trivial⟩
 congr 1;funext _
 rw[Nat.min_eq_left (show(day%7).toNat≤IntKind.i64.bits by show _≤64;omega),Int.fdiv_eq_ediv_of_nonneg _ (Int.le_of_lt (Int.pow_pos (by omega)))]
 have hq:0≤t.days/2^(day%7).toNat:=Int.ediv_nonneg ht.1 (Int.le_of_lt (Int.pow_pos (by omega)))
 have hle:t.days/2^(day%7).toNat≤t.days:=Int.ediv_le_self _ ht.1
 unfold Zba
 generalize t.days/2^(day%7).toNat=q at*
 rw[Zk3 q hq (by omega),ZaQ]
theorem Ztv {nt:(α:Type)→α→List α→Int→α} (hnt:∀(α:Type) (d:α) (l:List α) (i:Int),nt α d l i=l.getD i.toNat d) (f:Chg→Int) (h0:f default=0) (l:List Chg) (i:Nat):(bif decide ((i:Int)<(l.length:Int))then f (nt Chg default l (i:Int))else 0)=f (l.getD i default):=by
 rw[hnt,Int.toNat_natCast]
 by_cases h:i<l.length
 ·rw[decide_eq_true (show(i:Int)<(l.length:Int) by omega)];rfl
 ·rw[decide_eq_false (show¬(i:Int)<(l.length:Int) by omega),List.getD_eq_getElem?_getD,List.getElem?_eq_none (by omega)]
  exact h0.symm
theorem Zub (z:Zone) (hz:z.chs.length≤3):SC (fun _=>Tryz.prog) 184 [Zd z] [] fun v h=>v=ZuB z∧h=[]:=by
 obtain⟨nt,hnt⟩:=Zp
 unfold Zd
 simp only[Za hnt]
 refine Qu Tryz.func184 (body:=Zj Tryz.f184) rfl (by decide+kernel) ?_
 refine wS ?_
 refine⟨?_,trivial⟩
 have e1:=Ztv hnt (fun c=>c.at_) rfl z.chs
 have e2:=Ztv hnt (fun c=>c.by_) rfl z.chs
 simp only[e1,e2]
theorem Zvi (t:Train) (n:Int):SC (fun _=>Tryz.prog) 182 [.agg (encTrain t),.iptr [.int .i64 fun _=>n] 0] [] fun v h=>v= .bool (fun _=>decide (t.number=n))∧h=[]:=by
 refine Qu Tryz.func182 (body:=Zj Tryz.f182) rfl (by decide+kernel) ?_
 refine wS ?_
 exact⟨by simp only[ZaQ],trivial⟩
theorem c75 (n:Int):SC (fun _=>Tryz.prog) 147 [.int .i64 fun _=>n] [] fun v h=>v= .fn 182 [] [.iptr [.int .i64 fun _=>n] 0]∧h=[]:=by
 refine Qu Tryz.func147 (body:=Zj Tryz.f147) rfl (by decide+kernel) ?_
 exact wZ
def knA:Option Zone→AV
 |none=>.isl 0 (fun _=>0) (fun _=>[]) .nil
 |some z=>lst 3 Zd7 default (ZQ z)
def ZtE (z:Zone):List AV:=[.int .i64 fun _=>z.base,.int .i64 fun _=>(z.chs.length:Int),
 .int .i64 fun _=>(z.chs.getD 0 default).at_,.int .i64 fun _=>(z.chs.getD 0 default).by_,.int .i64 fun _=>(z.chs.getD 1 default).at_,.int .i64 fun _=>(z.chs.getD 1 default).by_,.int .i64 fun _=>(z.chs.getD 2 default).at_,.int .i64 fun _=>(z.chs.getD 2 default).by_]
def Zeh:Option Zone→List AV
 |none=>[iA 0,iA 0,iA 0,iA 0,iA 0,iA 0,iA 0,iA 0]
 |some z=>ZtE z
theorem Zqw {z z':Zone} (h0:z.chs.length≤3) (hb:z.base=z'.base) (hl:z.chs.length=z'.chs.length) (a0:(z.chs.getD 0 default).at_=(z'.chs.getD 0 default).at_) (b0:(z.chs.getD 0 default).by_=(z'.chs.getD 0 default).by_)
  (a1:(z.chs.getD 1 default).at_=(z'.chs.getD 1 default).at_) (b1:(z.chs.getD 1 default).by_=(z'.chs.getD 1 default).by_) (a2:(z.chs.getD 2 default).at_=(z'.chs.getD 2 default).at_) (b2:(z.chs.getD 2 default).by_=(z'.chs.getD 2 default).by_):z=z':=by
 obtain⟨b,l⟩:=z
 obtain⟨b',l'⟩:=z'
 have ext:∀c c':Chg,c.at_=c'.at_→c.by_=c'.by_→c=c':=fun c c' h1 h2=>by cases c;cases c';simp_all
 dsimp only at*
 subst hb
 congr 1
 refine List.ext_getElem hl fun i h1 h2=>?_
 have e0:=ext _ _ a0 b0
 have e1:=ext _ _ a1 b1
 have e2:=ext _ _ a2 b2
 have hi:i=0∨i=1∨i=2:=by omega
 simp only[List.getD_eq_getElem?_getD]at e0 e1 e2
 rcases hi with rfl|rfl|rfl
 ·simpa [List.getElem?_eq_getElem h1,List.getElem?_eq_getElem h2]using e0
 ·simpa [List.getElem?_eq_getElem h1,List.getElem?_eq_getElem h2]using e1
 ·simpa [List.getElem?_eq_getElem h1,List.getElem?_eq_getElem h2]using e2
theorem ZsK (b:XH) (zi m day now:Int) (o:Option Zone) (hb:∀z∈b.zones,Zv z=0) (ho:∀z,o=some z→Zv z=0) (hz:0≤zi∧zi<b.zones.length) (hm:0≤m∧m≤10000) (hd:0≤day∧day≤100):
  SC (fun _=>Tryz.prog) 183 [.int .i64 fun _=>zi,.int .i64 fun _=>m,.ptr 0 0,.ptr 1 0,.ptr 2 0,.ptr 3 0,.ptr 4 0] [.cells [lst 2 encZone default b.zones,lst 3 encTrain default b.old,lst 3 encTrain default b.new,.int .i64 fun _=>b.night,.int .i64 fun _=>b.last],.cells [knA o],.cells (Zeh o),.cells [.int .i64 fun _=>day],.cells [.int .i64 fun _=>now]]
   fun v h=>v= .int .i64 (fun _=>QV (ZQ (b.zones.getD zi.toNat default)) (1440*day+m) now)∧h=[.cells [lst 2 encZone default b.zones,lst 3 encTrain default b.old,lst 3 encTrain default b.new,.int .i64 fun _=>b.night,.int .i64 fun _=>b.last],.cells [knA (some (b.zones.getD zi.toNat default))],.cells (ZtE (b.zones.getD zi.toNat default)),.cells [.int .i64 fun _=>day],.cells [.int .i64 fun _=>QV (ZQ (b.zones.getD zi.toNat default)) (1440*day+m) now]]:=by
 obtain⟨nt,hnt⟩:=Zp
 obtain⟨k,rfl⟩:∃k:Nat,zi=k:=⟨zi.toNat,by omega⟩
 have hzk:b.zones.getD (k:Int).toNat default=nt Zone default b.zones k:=by rw[hnt]
 have hv:=hb _ (Xg (d:=default) hnt (l:=b.zones) (i:=k) (by omega))
 rw[hzk]
 refine Qu Tryz.func183 (body:=Zj Tryz.f183) rfl (by decide+kernel) ?_
 simp only[Za hnt]
 obtain⟨z,hzz⟩:∃z,nt Zone default b.zones (k:Int)=z:=⟨_,rfl⟩
 rw[hzz]at hv hzk⊢
 have hlen:=(ZbA hv).2.2.1
 cases o with
 |none=>
  unfold knA Zeh
  refine wS ?_
  simp only[hzz]
  refine Zb4 (Zub z hlen) ?_
  have hps:=Jf (J6 hv)
  refine wS ?_
  refine Br.isT rfl ?_
  refine wS ?_
  simp only[hzz]
  refine Zb4 (c90 z (J6 hv)) ?_
  generalize hL:ZQ z=L at*
  refine wS ?_
  refine Zb4 (c91 day m (by omega) (by omega)) ?_
  refine wS ?_
  refine Zb4 (c92 L (1440*day+m) now (by omega) hps.2.2 (by omega)) ?_
  (cbv;try simp only[nc]at*)
  ((try simp only[ZaM hnt,and_self,and_true,true_and]);(try rfl))
 |some z'=>
  have hv':=ho z' rfl
  have hps':=Jf (J6 hv')
  unfold knA Zeh
  simp only
  generalize hL':ZQ z'=L' at*
  simp only[Za hnt]
  refine wS ?_
  simp only[hzz]
  refine Zb4 (Zub z hlen) ?_
  have hps:=Jf (J6 hv)
  refine wS ?_
  refine⟨fun hb=>?_,fun hb=>?_⟩
  ·refine wS ?_
   simp only[hzz]
   refine Zb4 (c90 z (J6 hv)) ?_
   generalize hL:ZQ z=L at*
   refine wS ?_
   refine Zb4 (c91 day m (by omega) (by omega)) ?_
   refine wS ?_
   refine Zb4 (c92 L (1440*day+m) now (by omega) hps.2.2 (by omega)) ?_
   (cbv;try simp only[nc]at*)
   ((try simp only[ZaM hnt,and_self,and_true,true_and]);(try rfl))
  ·have he:z=z':=by
    simp at hb
    exact Zqw hlen hb.1 (by have:=hb.2.1;omega) hb.2.2.1 hb.2.2.2.1 hb.2.2.2.2.1 hb.2.2.2.2.2.1 hb.2.2.2.2.2.2.1 hb.2.2.2.2.2.2.2
   subst he
   rw[hL']at hps
   refine wS ?_
   refine Zb4 (c91 day m (by omega) (by omega)) ?_
   refine wS ?_
   refine Zb4 (c92 L' (1440*day+m) now (by omega) hps.2.2 (by omega)) ?_
   rw[hL']
   (cbv;try simp only[nc]at*)
   ((try simp only[ZaM hnt,and_self,and_true,true_and]);(try rfl))
def XI (c:Sp.Call):List AV:=[.int .i64 fun _=>c.station,.int .i64 fun _=>c.arrive,.int .i64 fun _=>c.depart]
def Zp8 (t:Train) (day:Int) (l:List Sp.Call):AV:=.agg (encTrain t++[.int .i64 fun _=>day,lst 3 XI default l])
theorem c77 (b:XH) (t:Train) (day:Int) (hb':∀z∈b.zones,Zv z=0) (ht:∀s∈t.stops,(0≤s.zone∧s.zone<b.zones.length)∧(0≤s.arrive∧s.arrive≤10000)∧0≤s.depart∧s.depart≤10000) (hlen:2≤t.stops.length∧t.stops.length≤1000) (hd:0≤day∧day≤100):
  SC (fun _=>Tryz.prog) 149 [Zc b,.agg (encTrain t),.int .i64 fun _=>day] [] fun v h=>v=Zp8 t day (calls b.zones t day)∧h=[]:=by
 obtain⟨nt,hnt⟩:=Zp
 refine SC.less (Qu Tryz.func149 (body:=Zj Tryz.f149) rfl (by decide+kernel) ?_)
 unfold Zc
 rw[show AV.agg (encTrain t)= .agg [.int .i64 fun _=>t.number,.int .i64 fun _=>t.days,.isl 4 (fun _=>(t.stops.length:Int)) (fun e=>QH (nt Stop default t.stops (e ()))) .none] by unfold encTrain;rw[Za hnt]]
 refine wS ?_
 refine ZT false false [] [4,5,6,10,11,17,18,19] [.tok 3 fun _=>0] (fun(⟨i,now,o,out⟩:Nat×Int×Option Zone×List Sp.Call)=>[(11,.isl 3 (fun _=>(out.length:Int)) (fun e=>XI (nt Sp.Call default out (e ()))) (.own 7)),(19,.int .i64 fun _=>i)])
  (fun⟨i,now,o,out⟩=>[(4,.cells [.int .i64 fun _=>now]),(5,.cells (Zeh o)),(6,.cells [knA o]),(7,.tok 3 fun _=>(out.length:Int))])
  (fun⟨i,now,o,out⟩=>(i≤t.stops.length∧out.length=i∧calls b.zones t day=out++QR b.zones day t.stops.length i now (t.stops.drop i))∧(∀z,o=some z→Zv z=0)∧(i=0↔o=none)) (fun i=>t.stops.length-i.1+0) (0,0,none,[]) ⟨⟨Nat.zero_le _,rfl,rfl⟩,(fun z h=>by cases h),by simp⟩ ?_ ?_
 ·(refine To.of [(3,false)] ?_;cbv;(try simp only[nc]);(repeat' (first|exact trivial|exact ZE.refl _|exact ZM.refl _|refine⟨?_,?_⟩|refine ZM.cells ?_|refine ZE.agg ?_|refine ZE.tup ?_));(all_goals (first|exact X3|skip)))
 rintro⟨i,now,o,out⟩ ⟨⟨hi,ho,hp⟩,hk,hio⟩
 have hgz:∀k:Nat,k<t.stops.length→Zv (b.zones.getD (nt Stop default t.stops (k:Int)).zone.toNat default)=0:=fun k hk=>hb' _ (by
  have:=ht _ (Xg (d:=default) hnt (l:=t.stops) (i:=k) hk)
  rw[List.getD_eq_getElem?_getD,List.getElem?_eq_getElem (by omega)];exact List.getElem_mem _)
 cases o with
 |none=>
  have hi0:=hio.2 rfl
  subst hi0
  unfold knA Zeh
  refine wS ?_
  refine Br.isT (by simp;omega) ?_
  have hdr:=Qy (d:=default) hnt (l:=t.stops) (i:=0) (by omega)
  have hs:=ht _ (Xg (d:=default) hnt (l:=t.stops) (i:=0) (by omega))
  have hz:=hgz 0 (by omega)
  rw[hdr,QR,if_pos rfl,if_pos (by omega)]at hp
  have k112:=ZsK b (nt Stop default t.stops ((0:Nat):Int)).zone (nt Stop default t.stops ((0:Nat):Int)).depart day now none hb' (fun z h=>by cases h) hs.1 hs.2.2 hd
  simp only[knA,Zeh]at k112
  refine wS ?_
  refine Br.isF rfl ?_
  refine wS ?_
  refine Br.isT (by simp;omega) ?_
  refine wS ?_
  generalize nt Stop default t.stops ((0:Nat):Int)=s at*
  refine cL0 [0,6,5,2,4] (k112) fun r h₂ hp=>?_
  (try simp only[Zd,Zc,Za hnt]at hp)
  obtain⟨rfl,rfl⟩:=hp
  try dsimp only at hp
  generalize b.zones.getD s.zone.toNat default=z at*
  generalize hL:ZQ z=L at*
  generalize QV L (1440*day+s.depart) now=d at*
  refine wS ?_
  refine Br.isT rfl ?_
  refine wS ?_
  refine⟨(1,d,some z,out++[⟨s.station,d,d⟩]),⟨⟨by omega,by simp only[List.length_append,List.length_cons,List.length_nil];omega,by rw[hp];simp⟩,fun z' h=>by cases h;exact hz,by simp⟩,by show t.stops.length-1+0<t.stops.length-0+0;omega,?_⟩
  simp only[knA,Zeh,hL]
  exact ZJ
 |some z'=>
  have hi0:0<i:=Nat.pos_of_ne_zero fun h=>by have:=hio.1 h;cases this
  unfold knA Zeh
  simp only
  generalize hL':ZQ z'=L' at*
  refine wS ?_
  refine⟨fun hb=>?_,fun hb=>?_⟩
  ·simp only[decide_eq_true_eq]at hb
   have hdr:=Qy (d:=default) hnt (l:=t.stops) (i:=i) (by omega)
   have hs:=ht _ (Xg (d:=default) hnt (l:=t.stops) (i:=i) (by omega))
   have hz:=hgz i (by omega)
   rw[hdr,QR,if_neg (by omega)]at hp
   have k112:=ZsK b (nt Stop default t.stops (i:Int)).zone (nt Stop default t.stops (i:Int)).arrive day now (some z') hb' hk hs.1 hs.2.1 hd
   simp only[knA,Zeh,hL']at k112
   refine wS ?_
   refine Br.isT (by simp;omega) ?_
   refine wS ?_
   generalize nt Stop default t.stops (i:Int)=s at*
   refine cL0 [0,6,5,2,4] (k112) fun r h₂ hp=>?_
   (try simp only[Zd,Zc,Za hnt]at hp)
   obtain⟨rfl,rfl⟩:=hp
   have k112':=fun now=>ZsK b s.zone s.depart day now (some (b.zones.getD s.zone.toNat default)) hb' (fun z h=>by cases h;exact hz) hs.1 hs.2.2 hd
   try dsimp only at hp
   simp only[knA,Zeh]at k112'
   generalize b.zones.getD s.zone.toNat default=z at*
   generalize hL:ZQ z=L at*
   generalize QV L (1440*day+s.arrive) now=a at*
   refine wS ?_
   refine⟨fun hb2=>?_,fun hb2=>?_⟩
   ·simp only[decide_eq_true_eq]at hb2
    rw[if_pos (by omega)]at hp
    refine wS ?_
    refine cL0 [0,6,5,2,4] (k112' a) fun r h₂ hp=>?_
    (try simp only[Zd,Zc,Za hnt]at hp)
    obtain⟨rfl,rfl⟩:=hp
    generalize QV L (1440*day+s.depart) a=d at*
    refine wS ?_
    refine Br.isF (by simp;omega) ?_
    refine wS ?_
    refine⟨(i+1,d,some z,out++[⟨s.station,a,d⟩]),⟨⟨by omega,by simp only[List.length_append,List.length_cons,List.length_nil];omega,by rw[hp];simp⟩,fun z' h=>by cases h;exact hz,by simp⟩,by show t.stops.length-(i+1)+0<t.stops.length-i+0;omega,?_⟩
    simp only[knA,Zeh,hL]
    exact ZJ
   ·simp only[decide_eq_false_iff_not]at hb2
    rw[if_neg (by omega)]at hp
    refine wS ?_
    refine Br.isF (by simp;omega) ?_
    refine wS ?_
    refine⟨(i+1,a,some z,out++[⟨s.station,a,a⟩]),⟨⟨by omega,by simp only[List.length_append,List.length_cons,List.length_nil];omega,by rw[hp];simp⟩,fun z' h=>by cases h;exact hz,by simp⟩,by show t.stops.length-(i+1)+0<t.stops.length-i+0;omega,?_⟩
    simp only[knA,Zeh,hL]
    exact ZJ
  ·simp only[decide_eq_false_iff_not]at hb
   rw[List.drop_eq_nil_of_le (by omega),QR,List.append_nil]at hp
   rw[hp]
   refine wS ?_
   refine⟨Zp8 t day out,[],?_,rfl,rfl⟩
   unfold Zp8 encTrain
   simp only[Za hnt]
   exact ZJ
end Go.Proofs.YtjgpiclllehgmaaGreat.Vm
namespace Go.Proofs.YtjgpiclllehgmaaGreat.Vm
open Go Go.Proofs Go.Proofs.YtjgpiclllehgmaaGreat.Conc1
section
variable {T:Tb} {p:Unit→Program} {P:Program}
theorem YC.ofG (hT:T.Of (p ())) (hm:(p ()).follows .mixedOrders=true) (hfl:T.fl=false) (hrd:T.rd=true) {id:Nat} {xs:List AV} {h:List Zi} {Post:AV→List Zi→Prop} {s:List AV} {d:ZgU} {n m:Nat} {D:List AV→List Zi→Prop} (hD:∀s h₂,D s h₂→W T p (ZqA h.length id Post) m [.code d.x] s h₂ []) (hi:h[id]? =some (.loop s d)) (hlen:xs.length=d.ps.size)
  (hW:W T p (ZsP D id) n [.code d.a] (ZdV d.ps.toList xs s) h []) (hz:zOk h=true:=by rfl):YC p id xs h Post:=by
 have hKe:∀e s h' c,ZqA h.length id Post e s h' c→ZO c:=fun e s h' c hk=>by cases e<;>exact(Z3 hk).1
 have hKb:∀e s h' c,ZsP D id e s h' c→ZO c:=fun e s h' c hk=>by
  cases e with
  |normal=>exact(Z3 hk).1
  |_=>exact hk.elim
 refine YC.ofN hz fun G R vs H hn0 ha=>?_
 obtain⟨ha1,ha2⟩:=ha
 obtain⟨l,b1,b2,b3,b4,b5,b6,b7,_⟩:=H.loopSet hi
 have hid:id<R.m:=H.len▸(List.getElem?_eq_some_iff.1 hi).1
 have hsz:vs.size=l.params.size:=by rw[b2,←hlen,ha1]
 refine⟨_,_,_,_,run_yield b1 hsz,fun c cs=>?_⟩
 let b:FBr T.rd:=⟨⟨l.fn,false,some (R.α id).b,[]⟩,fun hf=>by rw[hrd]at hf;cases hf⟩
 have hsl:SL R (ZdV d.ps.toList xs s) ((l.params.zip vs).foldl (fun tmps (t,a)=>tmps.setIfInBounds t a) l.tmps):=by
  rw[←Array.foldl_toList,Array.toList_zip,b2]
  exact Zii _ _ _ (by rw[ha1];simp) (fun j c hj=>by
   have:=ha2 j c hj
   rw[Array.getD_eq_getD_getElem?]at this
   rw[List.getD_eq_getElem?_getD,Array.getElem?_toList]
   exact this) b7
 obtain⟨e,s1,h1,R1,t1,ds1,⟨c1,hk1⟩,i1,sl1,d1,eq1,A1⟩:=(Zku (R₀:=R) (h₀:=h) hT hm (fun h=>by rw[hfl]at h;cases h) hKb n _ _ h [] hW).2 R _ (JH.refl H (by rw[hn0];exact Nat.le_refl _)) hsl b [] [.beginRound,.code d.x] (c::cs) ⟨[],rfl,List.nodup_nil,fun r hr=>by cases hr⟩
 have x1:=i1.ext
 have l1:=i1.le
 cases e with
 |exit _=>exact hk1.elim
 |ret=>exact hk1.elim
 |normal=>
 have eq1:=eq1 (by simp[b])
 subst eq1
 obtain⟨_,hk1⟩:=Z3 hk1
 split at hk1
 case h_2=>exact hk1.elim
 rename_i s2 d2 hi1
 obtain⟨l2,e1,e2,e3,e4,e5,e6,e7,e8⟩:=i1.hr.loopSet hi1
 have hα1:R1.α id=R.α id:=x1.α id hid
 split at hk1
 case h_2=>exact hk1.elim
 rename_i hst
 obtain⟨R2,w2,α2,H2,x2,l2le⟩:=e8 .busy d2.pe
 have hbeg:(Instr.beginRound (R.α id).b).run (p ()) R1.w= .ok () R2.w:=by
  rw[w2,←hα1,←e6]
  exact run_beginRound e1 (e5.trans hst)
 have i2:JH R h R2 (h1.set id (.loop s2 {d2 with st:=.busy})):=i1.step H2 x2 l2le
 obtain⟨e,s3,h3,R3,t3,ds3,⟨c3,hk3⟩,i3,sl3,d3,eq3,A3⟩:=(Zku (R₀:=R) (h₀:=h) hT hm (fun h=>by rw[hfl]at h;cases h) hKe m _ _ _ [] (hD _ _ hk1)).2 R2 _ i2 (sl1.mono l2le) b [] [] (c::cs) (d1.ext i1.hr x2)
 have st1:Steps (p ()) R.cx (ZB (Frame.round (R.α id).b l.fn ((l.params.zip vs).foldl (fun tmps (t,a)=>tmps.setIfInBounds t a) l.tmps) l.assign l.body .normal) (c::cs) R.w) (ZB (mkF b.1 t1 [] [.code d.x]) (c::cs) R2.w):=by
  have hfr:Frame.round (R.α id).b l.fn ((l.params.zip vs).foldl (fun tmps (t,a)=>tmps.setIfInBounds t a) l.tmps) l.assign l.body .normal=mkF b.1 ((l.params.zip vs).foldl (fun tmps (t,a)=>tmps.setIfInBounds t a) l.tmps) [] ([.code d.a]++[.beginRound,.code d.x]):=by
   rw[←b3,←b4];rfl
  rw[hfr]
  exact Steps.trans A1 (.one (ZfY rfl hbeg))
 have fin:∀(j:Option Code),ZiR h.length id j Post h3→(∀v w',(Instr.endRound (R.α id).b j).run (p ()) R3.w= .ok v w'→Steps (p ()) R.cx (ZB (mkF b.1 t1 [] [.code d.x]) (c::cs) R2.w) (ZB (c.finish v) cs w'))→
   ∃v R' r h',Steps (p ()) R.cx (ZB (Frame.round (R.α id).b l.fn ((l.params.zip vs).foldl (fun tmps (t,a)=>tmps.setIfInBounds t a) l.tmps) l.assign l.body .normal) (c::cs) R.w) (ZB (c.finish v) cs R'.w)∧HR G R' h'∧Xm R h R' h'∧R.le R'∧VR R' r v∧Post r h':=fun j hj hst=>by
  unfold ZiR at hj
  split at hj
  case h_2=>exact hj.elim
  rename_i s4 d4 hi3
  obtain⟨l4,f1,f2,f3,f4,f5,f6,f7,f8⟩:=i3.hr.loopSet hi3
  obtain⟨R4,w4,α4,H4,x4,l4le⟩:=f8 (if j.isNone then .ready else .done) j
  have hα3:R3.α id=R.α id:=i3.ext.α id hid
  have hend:(Instr.endRound (R.α id).b j).run (p ()) R3.w= .ok (.bool j.isNone) R4.w:=by
   rw[w4,←hα3]
   exact run_endRound j f1
  have i4:=i3.step H4 x4 l4le
  obtain⟨R5,w5,H5,x5,l5,_⟩:=i4.leave H (JO h.length (Nat.le_refl _) (by rw[H.len,i4.hr.len];exact i4.le.m))
  exact⟨_,R5,.bool fun _=>j.isNone,_,by rw[w5];exact Steps.trans st1 (hst _ _ hend),H5,x5,l5,.pure _ _ (.bool _),hj⟩
 cases e with
 |normal=>
  exact fin none (Z3 hk3).2 fun v w' hr=>Steps.trans (X2 (l1.trans l2le) A3) (.one (ZeM rfl rfl (.inl ⟨rfl,rfl⟩) hr))
 |exit i=>
  obtain⟨pre,q1,q2⟩:=A3
  exact fin (some (.exit i)) (Z3 hk3).2 fun v w' hr=>Steps.trans (X2 (l1.trans l2le) q2) (.one (ZeM rfl rfl (.inr (.inr ⟨i,_,rfl,rfl,by rw[q1];rfl⟩)) hr))
 |ret=>
  obtain⟨todo,q2⟩:=A3
  exact fin (some .ret) (Z3 hk3).2 fun v w' hr=>Steps.trans (X2 (l1.trans l2le) q2) (.one (ZeM rfl rfl (.inr (.inl ⟨rfl,_,rfl⟩)) hr))
end
def tbR (kp rs:Bool) (cs:List Nat):Tb:={tb with kp,rs,cuts:=cs,rd:=true}
theorem hTR (kp rs:Bool) (cs:List Nat):(tbR kp rs cs).Of ((fun _=>Tryz.prog:Unit→Program) ()):=⟨ZbF,ZbE,ZbG⟩
theorem Zci (kp rs:Bool) (cs:List Nat) {id:Nat} {xs:List AV} {h:List Zi} {Post:AV→List Zi→Prop} {s:List AV} {d:ZgU} (hi:h[id]? =some (.loop s d)) (hlen:xs.length=d.ps.size)
  (hW:Dn (tbR kp rs cs) (fun _=>Tryz.prog) (ZsP (fun s h₂=>Dn (tbR kp rs cs) (fun _=>Tryz.prog) (ZqA h.length id Post) 100 .none [.code d.x] s h₂ []) id) 20 .none [.code d.a] (ZdV d.ps.toList xs s) h []) (hz:zOk h=true:=by rfl):YC (fun _=>Tryz.prog) id xs h Post:=
 YC.ofG (T:=tbR kp rs cs) (m:=100*4000) (n:=20*4000) (D:=fun s h₂=>Dn (tbR kp rs cs) (fun _=>Tryz.prog) (ZqA h.length id Post) 100 .none [.code d.x] s h₂ []) (hTR kp rs cs) hm rfl rfl (fun s h₂ hd=>ZfU 100 .none _ _ _ _ hd) hi hlen (ZfU 20 .none _ _ _ _ hW) hz
theorem ZnW {f:Operand} {ps:Array Tmp} {a x:Code} {Q:Ex→List AV→List Zi→Prop} {s:List AV} {h:List Zi} {fid:FuncId} {first cap:List AV} (hf:strip (ev s f)= .fn fid first cap) (hc:ZO (JR (ev s f)))
  (H:SC (fun _=>Tryz.prog) fid (first++[.yld h.length]++cap) (h++[.loop s ⟨ps,a,x,.ready,none⟩]) fun _ h'=>JN Q s h.length h'):CB (fun _=>Tryz.prog) (.rangeFunc f ps a x) Q s h:=CB.of hf hc H
theorem YC.less {p:Unit→Program} {id:Nat} {xs:List AV} {h:List Zi} {Post:AV→List Zi→Prop} (H:YC p id xs h fun r h'=>∃r₂ h₂,To [r] h' [r₂] h₂∧Post r₂ h₂):YC p id xs h Post:=
 ⟨fun G R vs hr ha=>let ⟨f,tmps,a,x,h1,h2⟩:=H.run G R vs hr ha;⟨f,tmps,a,x,h1,fun c cs=>by
  obtain⟨v,R',r,h',b1,b3,b4,b5,b6,r₂,h₂,hto,b7⟩:=h2 c cs
  obtain⟨R'',c1,c2,c3,c4,c5⟩:=hto G R' #[v] b3 ⟨rfl,fun i a hi=>by
   cases i with
   |zero=>simp at hi;subst hi;exact b6
   |succ i=>simp at hi⟩
  exact⟨v,R'',r₂,h₂,by rw[c1];exact b1,c2,b4.trans c3,b5.trans c4,c5.2 0 r₂ rfl,b7⟩⟩⟩
theorem Ze1 {f:Operand} {ps:Array Tmp} {a x:Code} {Q:Ex→List AV→List Zi→Prop} {s:List AV} {h:List Zi} (L:List Nat) (ex:List Zi) (hc:List (Nat×Zi)) {fid:FuncId} {first cap:List AV}
  (hto:To s h (Vm.keep L s) (Yw (h++ex) hc)) (hf:strip (ev (Vm.keep L s) f)= .fn fid first cap) (hcs:ZO (JR (ev (Vm.keep L s) f)))
  (H:SC (fun _=>Tryz.prog) fid (first++[.yld (Yw (h++ex) hc).length]++cap) (Yw (h++ex) hc++[.loop (Vm.keep L s) ⟨ps,a,x,.ready,none⟩]) fun _ h'=>JN Q (Vm.keep L s) (Yw (h++ex) hc).length h'):CB (fun _=>Tryz.prog) (.rangeFunc f ps a x) Q s h:=CB.to hto (CB.of hf hcs H)
theorem ZrU (kp rs:Bool) (cs:List Nat) {x:Code} {Q:Ex→List AV→List Zi→Prop} {s:List AV} {h:List Zi} {ι:Type} (L:List Nat) (ex:List Zi) (ch:ι→List (Nat×AV)) (hc:ι→List (Nat×Zi)) (inv:ι→Prop) (μ:ι→Nat) (i:ι)
  (hi:inv i) (hto:To (Vm.keep L s) h (Jq (Vm.keep L s) (ch i)) (Yw (h++ex) (hc i)))
  (step:∀i,inv i→Dn (tbR kp rs cs) (fun _=>Tryz.prog) (Zfs L (fun i=>Jq (Vm.keep L s) (ch i)) (fun i=>Yw (h++ex) (hc i)) inv μ i (h++ex).length Q) 100 .none [.code x] (Jq (Vm.keep L s) (ch i)) (Yw (h++ex) (hc i)) []):LP true (fun _=>Tryz.prog) x Q s h:=
 LP.indD (T:=tbR kp rs cs) (hTR kp rs cs) hm rfl L (fun i=>Jq (Vm.keep L s) (ch i)) (fun i=>Yw (h++ex) (hc i)) inv μ i (h++ex).length (fun _=>ZdR _ _) hi hto step
end Go.Proofs.YtjgpiclllehgmaaGreat.Vm
namespace Go.Proofs.YtjgpiclllehgmaaGreat.Vm
attribute [local irreducible] Dn
open Go Go.Proofs Sp
set_option maxRecDepth 100000
set_option maxHeartbeats 1600000
theorem Zb3 (n lo hi:Int):SC (fun _=>Tryz.prog) 81 [.int .i64 fun _=>n,.int .i64 fun _=>lo,.int .i64 fun _=>hi] [] fun r h=>r= .bool (fun _=>QQ n lo hi)∧h=[]:=by
 refine Qu Tryz.func81 (body:=Zj Tryz.f81) rfl (by decide+kernel) ?_
 refine wS ?_
 refine⟨?_,trivial⟩
 congr 1;funext _
 unfold QQ Yv
 by_cases h1:n<lo
 ·have:¬lo≤n:=by omega
  simp[h1,this]
 ·have:lo≤n:=by omega
  by_cases h2:hi<n
  ·have:¬n≤hi:=by omega
   simp[h1,h2,this]
  ·have:n≤hi:=by omega
   simp[h1,h2,this];omega
theorem ZuR (yes no:Int):SC (fun _=>Tryz.prog) 116 [.int .i64 fun _=>yes,.int .i64 fun _=>no] [] fun r h=>r= .int .i64 (fun _=>Zep yes no)∧h=[]:=by
 refine Qu Tryz.func116 (body:=Zj Tryz.f116) rfl (by decide+kernel) ?_
 unfold Zep
 refine wS ?_
 refine⟨fun hb=>?_,fun hb=>?_⟩
 ·have hb:=eq_of_beq hb
  rw[if_pos hb]
  (cbv;(try simp only[nc]at*);(try refine Chk.mk (Qc) ?_))
  (try first|exact⟨rfl,trivial⟩|exact⟨trivial,trivial⟩)
 ·have hb:=ne_of_beq_false hb
  rw[if_neg hb]
  refine wS ?_
  refine⟨fun hb2=>?_,fun hb2=>?_⟩
  ·have hb2:=eq_of_beq hb2
   rw[if_pos hb2]
   (cbv;(try simp only[nc]at*);(try refine Chk.mk (Qc) ?_))
   (try first|exact⟨rfl,trivial⟩|exact⟨trivial,trivial⟩)
  ·have hb2:=ne_of_beq_false hb2
   rw[if_neg hb2]
   (cbv;(try simp only[nc]at*);(try refine Chk.mk (Qc) ?_))
   (try first|exact⟨rfl,trivial⟩|exact⟨trivial,trivial⟩)
theorem ZlW (l:List Sp.Call) (f st:Int) (hl:l.length≤1000000) (hf:f≤1000000):SC (fun _=>Tryz.prog) 150 [lst 3 XI default l,.int .i64 fun _=>f,.int .i64 fun _=>st] [] fun r h=>r= .int .i64 (fun _=>ZN l f st)∧h=[]:=by
 obtain⟨nt,hnt⟩:=Zp
 rw[Za hnt]
 unfold ZN
 refine Qu Tryz.func150 (body:=Zj Tryz.f150) rfl (by decide+kernel) ?_
 refine wS ?_
 obtain⟨f0,hf0⟩:∃f0:Nat,max 0 f=(f0:Int):=⟨(max 0 f).toNat,by omega⟩
 have hf1:(0<f→f=(f0:Int))∧(f≤0→f0=0):=by omega
 rw[hf0,Int.toNat_natCast]
 refine ZT false false [] [0,2,7] [] (fun(i:Nat)=>[(7,.int .i64 fun _=>i)]) (fun _=>[]) (fun i=>f0≤i∧i≤max f0 l.length∧Zy (fun c=>decide (c.station=st)) (f0:Int) (l.drop f0)=Zy (fun c=>decide (c.station=st)) i (l.drop i)) (fun i=>max f0 l.length-i+0) f0 ⟨Nat.le_refl _,by omega,rfl⟩ ?_ ?_
 ·(refine To.of [] ?_;cbv;(try simp only[nc]);(repeat' (first|exact trivial|exact ZE.refl _|exact ZM.refl _|refine⟨?_,?_⟩|refine ZM.cells ?_|refine ZE.agg ?_|refine ZE.tup ?_));(all_goals (first|exact X3|skip)))
  refine .int ?_
  show(if(0:Int)<f then f else 0)=_
  by_cases h0:0<f
  ·rw[if_pos h0]
   exact hf1.1 h0
  ·rw[if_neg h0,hf1.2 (by omega)]
   rfl
 rintro i ⟨hi0,hi,hp⟩
 refine wS ?_
 refine⟨fun hb=>?_,fun hb=>?_⟩
 ·simp only[decide_eq_true_eq]at hb
  have hd:=Qy (d:=default) hnt (l:=l) (i:=i) (by omega)
  rw[hd,Zy]at hp
  refine wS ?_
  refine⟨fun hb'=>?_,fun hb'=>?_⟩
  ·have hb':=eq_of_beq hb'
   rw[if_pos (by simpa using hb')]at hp
   refine wS ?_
   exact⟨by rw[hp],trivial⟩
  ·have hb':=ne_of_beq_false hb'
   rw[if_neg (by simpa using hb')]at hp
   refine wS ?_
   refine⟨i+1,⟨by omega,by omega,hp⟩,by show max f0 l.length-(i+1)+0<max f0 l.length-i+0;omega,?_⟩
   exact ZJ
 ·simp only[decide_eq_false_iff_not]at hb
  rw[show l.drop i=[]from List.drop_eq_nil_of_le (by omega),Zy]at hp
  refine wS ?_
  exact⟨by rw[hp],trivial⟩
theorem ZsG (l:List Sp.Call) (st:Int) (hl:l.length≤1000000):SC (fun _=>Tryz.prog) 95 [lst 3 XI default l,.int .i64 fun _=>st] [] fun r h=>r= .int .i64 (fun _=>Z6 l st)∧h=[]:=by
 obtain⟨nt,hnt⟩:=Zp
 rw[Za hnt]
 refine Qu Tryz.func95 (body:=Zj Tryz.f95) rfl (by decide+kernel) ?_
 refine wS ?_
 refine ZV (ZlW l 1 st hl (by omega)) (by first|rfl|(simp only[Zd,Zc,Za hnt];rfl)) fun r h₂ hp=>?_
 (try simp only[Zd,Zc,Za hnt]at hp)
 obtain⟨rfl,rfl⟩:=hp
 (cbv;(try simp only[nc]at*);(try refine Chk.mk (Qc) ?_))
 (try first|exact⟨rfl,trivial⟩|exact⟨trivial,trivial⟩)
theorem Zt3 (l:List Sp.Call) (st:Int) (hl:l.length≤1000000):SC (fun _=>Tryz.prog) 96 [lst 3 XI default l,.int .i64 fun _=>st] [] fun r h=>r= .int .i64 (fun _=>ZZ l st)∧h=[]:=by
 obtain⟨nt,hnt⟩:=Zp
 rw[Za hnt]
 unfold ZZ
 refine Qu Tryz.func96 (body:=Zj Tryz.f96) rfl (by decide+kernel) ?_
 refine wS ?_
 refine ZV (ZlW l 0 st hl (by omega)) (by first|rfl|(simp only[Zd,Zc,Za hnt];rfl)) fun r h₂ hp=>?_
 (try simp only[Zd,Zc,Za hnt]at hp)
 obtain⟨rfl,rfl⟩:=hp
 refine wS ?_
 refine⟨fun hb=>?_,fun hb=>?_⟩
 ·simp only[decide_eq_true_eq]at hb
  rw[if_pos hb]
  (cbv;(try simp only[nc]at*);(try refine Chk.mk (Qc) ?_))
  (try first|exact⟨rfl,trivial⟩|exact⟨trivial,trivial⟩)
 ·simp only[decide_eq_false_iff_not]at hb
  rw[if_neg hb]
  (cbv;(try simp only[nc]at*);(try refine Chk.mk (Qc) ?_))
  (try first|exact⟨rfl,trivial⟩|exact⟨trivial,trivial⟩)
theorem c74 (l:List Train) (n:Int) (hl:l.length≤1000000):SC (fun _=>Tryz.prog) 146 [lst 3 encTrain default l,.fn 182 [] [.iptr [.int .i64 fun _=>n] 0]] [] fun v h=>v= .int .i64 (fun _=>place l n)∧h=[]:=by
 obtain⟨nt,hnt⟩:=Zp
 rw[Za hnt]
 unfold place
 refine Qu Tryz.func146 (body:=Zj Tryz.f146) rfl (by decide+kernel) ?_
 refine wS ?_
 refine ZT false false [] [0,1,7,8] [] (fun(i:Nat)=>[(8,.int .i64 fun _=>i)]) (fun _=>[]) (fun i=>i≤l.length∧Zy (fun t=>decide (t.number=n)) 0 l=Zy (fun t=>decide (t.number=n)) i (l.drop i)) (fun i=>l.length-i+0) 0 ⟨Nat.zero_le _,by simp⟩ ?_ ?_
 ·exact ZJ
 rintro i ⟨hi,hp⟩
 refine wS ?_
 refine⟨fun hb=>?_,fun hb=>?_⟩
 ·simp only[decide_eq_true_eq]at hb
  have hd:=Qy (d:=default) hnt (l:=l) (i:=i) (by omega)
  rw[hd,Zy]at hp
  refine wS ?_
  refine Zb4 (Zvi (nt Train default l i) n) ?_
  refine vS ?_
  refine⟨fun hb'=>?_,fun hb'=>?_⟩
  ·rw[if_pos hb']at hp
   refine wS ?_
   exact⟨by rw[hp],trivial⟩
  ·rw[if_neg (by rw[hb'];exact Bool.false_ne_true)]at hp
   refine wS ?_
   refine⟨i+1,⟨by omega,hp⟩,by show l.length-(i+1)+0<l.length-i+0;omega,?_⟩
   exact ZJ
 ·simp only[decide_eq_false_iff_not]at hb
  rw[List.drop_eq_nil_of_le (by omega),Zy]at hp
  refine wS ?_
  exact⟨by rw[hp],trivial⟩
theorem Qd {f:Nat→Int}:∀ {k i:Nat},Zr f i k=0→∀j,i≤j→j<i+k→f j=0
 |0,i,_,j,h1,h2=>by omega
 |k+1,i,h,j,h1,h2=>by
  unfold Zr at h
  split at h
  ·rename_i hne;exact absurd h hne
  ·rename_i he
   have he:f i=0:=Decidable.of_not_not he
   by_cases hj:j=i
   ·subst hj;exact he
   ·exact Qd h j (by omega) (by omega)
structure ZoY (zones:Int) (s:Stop):Prop where
 station:0≤s.station∧s.station≤9
 zone:0≤s.zone∧s.zone<zones
 arrive:0≤s.arrive∧s.arrive≤4319
 depart:0≤s.depart∧s.depart≤4319
structure ZcX (zones:Int) (t:Train):Prop where
 number:1≤t.number∧t.number≤999
 days:1≤t.days∧t.days≤127
 len:2≤t.stops.length∧t.stops.length≤4
 stops:∀s∈t.stops,ZoY zones s
structure Zky (b:XH):Prop where
 zlen:1≤b.zones.length∧b.zones.length≤3
 zones:∀z∈b.zones,Zv z=0
 olen:b.old.length≤4
 nlen:b.new.length≤4
 old:∀t∈b.old,ZcX b.zones.length t
 new:∀t∈b.new,ZcX b.zones.length t
 last:0≤b.last∧b.last≤13
 night:0≤b.night∧b.night≤b.last+1
theorem JX {n a b:Int} (h:Yv n a b=true):a≤n∧n≤b:=by simpa [Yv]using h
theorem Zco {n a b:Int} (h:ZK n a b=0):a≤n∧n≤b:=by
 unfold ZK at h
 split at h
 ·cases h
 split at h
 ·cases h
 omega
theorem ZpY {zones:Int} {l:List Stop} {i:Nat} (h:Q5 zones l i=0):ZoY zones (l.getD i default):=by
 unfold Q5 YO at h
 split at h
 ·cases h
 rename_i h1
 split at h
 ·cases h
 split at h
 ·cases h
 rename_i h2
 split at h
 ·cases h
 rename_i h3
 simp only[Bool.not_eq_true',Bool.not_eq_false,Bool.or_eq_true,not_or]at h1 h2 h3
 have a1:=JX h1
 have a2:=JX h2
 have a3:=JX h3.1
 have a4:=JX h3.2
 exact⟨a1,by omega,a3,a4⟩
theorem Jx {α:Type} {d:α} {l:List α} {x:α} (h:x∈l):∃i,i<l.length∧l.getD i d=x:=by
 obtain⟨i,hi,rfl⟩:=List.mem_iff_getElem.1 h
 exact⟨i,hi,by rw[List.getD_eq_getElem?_getD,List.getElem?_eq_getElem hi];rfl⟩
theorem Zgg {zones:Int} {l:List Train} (h:Qg zones l=0):l.length≤4∧∀t∈l,ZcX zones t:=by
 unfold Qg at h
 split at h
 ·rename_i hne;exact absurd h hne
 rename_i hc
 have hc:=Zco (Decidable.of_not_not hc)
 refine⟨by omega,fun t ht=>?_⟩
 obtain⟨i,hi,rfl⟩:=Jx (d:=default) ht
 have h:=Qd h i (by omega) (by omega)
 unfold QN at h
 split at h
 ·cases h
 rename_i h1
 split at h
 ·cases h
 split at h
 ·cases h
 rename_i h2
 split at h
 ·rename_i hne;exact absurd h hne
 rename_i h3
 have h3:=Zco (Decidable.of_not_not h3)
 simp only[Bool.not_eq_true',Bool.not_eq_false]at h1 h2
 refine⟨JX h1,JX h2,by omega,fun s hs=>?_⟩
 obtain⟨j,hj,rfl⟩:=Jx (d:=default) hs
 exact ZpY (Qd h j (by omega) (by omega))
theorem ZbU {b:XH} (h:XX b=0):Zky b:=by
 unfold XX at h
 split at h
 ·rename_i hne;exact absurd h hne
 rename_i h1
 split at h
 ·rename_i hne;exact absurd h hne
 rename_i h2
 split at h
 ·rename_i hne;exact absurd h hne
 rename_i h3
 split at h
 ·rename_i hne;exact absurd h hne
 rename_i h4
 split at h
 ·cases h
 rename_i h5
 have h1:=Zco (Decidable.of_not_not h1)
 have h2:=Qd (Decidable.of_not_not h2)
 have h3:=Zgg (Decidable.of_not_not h3)
 have h4:=Zgg (Decidable.of_not_not h4)
 simp only[Bool.not_eq_true',Bool.not_eq_false,Bool.or_eq_true,not_or]at h5
 refine⟨by omega,fun z hz=>?_,h3.1,h4.1,h3.2,h4.2,JX h5.1,JX h5.2⟩
 obtain⟨j,hj,rfl⟩:=Jx (d:=default) hz
 exact h2 j (by omega) (by omega)
theorem ZeK {b:XH} (h:Zky b) (day:Int):(QT b day).length≤4∧∀t∈QT b day,ZcX b.zones.length t:=by
 unfold QT
 split
 ·exact⟨h.olen,h.old⟩
 ·exact⟨h.nlen,h.new⟩
theorem XC {α:Type} {q:α→Bool}:∀ {l:List α} {i:Int},0≤i→Zy q i l<i+l.length∧(Zy q i l=-1∨i≤Zy q i l)
 |[],i,h=>by simp[Zy];omega
 |a::l,i,h=>by
  simp only[Zy]
  split
  ·simp;omega
  ·have:=XC (q:=q) (l:=l) (i:=i+1) (by omega)
   simp only[List.length_cons]
   omega
theorem c26 (b:XH) (n day:Int) (hf:YG b):SC (fun _=>Tryz.prog) 93 [Zc b,.int .i64 fun _=>n,.int .i64 fun _=>day] [] fun v h=>v= .tup [lst 3 XI default (J3 b n day).1,.int .i64 fun _=>(J3 b n day).2]∧h=[]:=by
 obtain⟨nt,hnt⟩:=Zp
 refine SC.less (Qu Tryz.func93 (body:=Zj Tryz.f93) rfl (by decide+kernel) ?_)
 unfold Zc J3
 simp only[Za hnt]
 refine wS ?_
 refine Zb4 (c28 b hf) ?_
 have hok0:=fun h=>ZbU (b:=b) h
 generalize XX b=e at*
 refine vS ?_
 refine⟨fun hb=>?_,fun hb=>?_⟩
 ·simp only[bne_iff_ne,ne_eq]at hb
  rw[if_pos hb]
  refine wS ?_
  refine⟨_,[],?_,rfl,rfl⟩
  exact ZJ
 simp only[bne_eq_false_iff_eq]at hb
 have hok:=hok0 hb
 subst hb
 rw[if_neg (fun h=>h rfl)]
 refine wS ?_
 refine Zb4 (c67 day 0 b.last) ?_
 refine vS ?_
 refine⟨fun hb=>?_,fun hb=>?_⟩
 ·rw[if_pos hb]
  refine wS ?_
  refine⟨_,[],?_,rfl,rfl⟩
  exact ZJ
 rw[if_neg (by rw[hb];exact Bool.false_ne_true)]
 have hday:=JX (by simpa using hb:Yv day 0 b.last=true)
 have hlast:=hok.last
 have htab:=ZeK hok day
 refine wS ?_
 refine Zb4 (c73 b day) ?_
 generalize QT b day=l at*
 refine wS ?_
 refine Zb4 (c75 n) ?_
 refine wS ?_
 refine Zb4 (c74 l n (by omega)) ?_
 have hpl:place l n<l.length∧(place l n=-1∨0≤place l n):=by have:=XC (q:=fun t:Train=>decide (t.number=n)) (l:=l) (i:=0) (by omega);unfold place;omega
 generalize place l n=p at*
 refine vS ?_
 refine⟨fun hb=>?_,fun hb=>?_⟩
 ·simp only[decide_eq_true_eq]at hb
  rw[if_pos hb]
  refine wS ?_
  refine⟨_,[],?_,rfl,rfl⟩
  exact ZJ
 simp only[decide_eq_false_iff_not]at hb
 rw[if_neg hb]
 refine wS ?_
 obtain⟨k,rfl⟩:∃k:Nat,p=k:=⟨p.toNat,by omega⟩
 have hTk:=htab.2 _ (Xg (d:=default) hnt (l:=l) (i:=k) (by omega))
 have hgk:l.getD (k:Int).toNat default=nt Train default l k:=by rw[hnt]
 rw[hgk]
 refine wS ?_
 have hdays:=hTk.days
 refine Zb4 (c76 (nt Train default l k) day (by omega) (by omega)) ?_
 refine vS ?_
 refine⟨fun hb=>?_,fun hb=>?_⟩
 ·rw[if_pos hb]
  refine wS ?_
  refine⟨_,[],?_,rfl,rfl⟩
  exact ZJ
 rw[if_neg (by rw[hb];exact Bool.false_ne_true)]
 refine wS ?_
 have hlen:=hTk.len
 refine Zb4 (c77 b (nt Train default l k) day hok.zones (fun s hs=>by obtain⟨_,h1,h2,h3⟩:=hTk.stops s hs;omega) (by omega) (by omega)) ?_
 unfold Zp8
 generalize calls b.zones (nt Train default l k) day=C at*
 refine wS ?_
 refine⟨_,[],?_,rfl,rfl⟩
 simp only[ZaM hnt]
 exact ZJ
def Zg (d:Qp):List AV:=[.int .i64 fun _=>d.number,.int .i64 fun _=>d.day]
def Q2 (w:Sp.Xt):List AV:=[.int .i64 fun _=>w.feeder,.int .i64 fun _=>w.train,.int .i64 fun _=>w.station,.int .i64 fun _=>w.minutes]
def Zx (d:Sp.Qh):List AV:=[.int .i64 fun _=>d.run,.int .i64 fun _=>d.leg,lst 1 XN 0 d.by_]
def Ze (t:Zf):AV:=.agg [lst 2 encZone default t.book.zones,lst 3 encTrain default t.book.old,lst 3 encTrain default t.book.new,.int .i64 fun _=>t.book.night,.int .i64 fun _=>t.book.last,
 lst 2 Zg default t.runs,lst 4 Q2 default t.waits,lst 3 Zx default t.delays]
def Zb (l:List Sp.Call):List AV:=[lst 3 XI default l]
theorem ZoB (a b:Qp):(a.number==b.number&&(a.day==b.day&&true))=decide (b=a):=by
 cases a;cases b
 simp only[Qp.mk.injEq,Bool.and_true]
 rw[Bool.eq_iff_iff]
 simp only[Bool.and_eq_true,beq_iff_eq,decide_eq_true_eq]
 exact⟨fun h=>⟨h.1.symm,h.2.symm⟩,fun h=>⟨h.1.symm,h.2.symm⟩⟩
theorem ZuI (l:List Qp) (d:Qp) (hl:l.length≤1000000):SC (fun _=>Tryz.prog) 192 [lst 2 Zg default l,.agg (Zg d)] [] fun v h=>v= .int .i64 (fun _=>Zy (fun x=>decide (x=d)) 0 l)∧h=[]:=by
 obtain⟨nt,hnt⟩:=Zp
 rw[Za hnt]
 refine Qu Tryz.func192 (body:=Zj Tryz.f192) rfl (by decide+kernel) ?_
 refine wS ?_
 refine ZT false false [] [0,3,7,8] [] (fun(i:Nat)=>[(8,.int .i64 fun _=>i)]) (fun _=>[]) (fun i=>i≤l.length∧Zy (fun x=>decide (x=d)) 0 l=Zy (fun x=>decide (x=d)) i (l.drop i)) (fun i=>l.length-i+0) 0 ⟨Nat.zero_le _,by simp⟩ ?_ ?_
 ·exact ZJ
 rintro i ⟨hi,hp⟩
 refine wS ?_
 refine⟨fun hb=>?_,fun hb=>?_⟩
 ·simp only[decide_eq_true_eq]at hb
  have hd:=Qy (d:=default) hnt (l:=l) (i:=i) (by omega)
  rw[hd,Zy]at hp
  have he:=ZoB d (nt Qp default l i)
  generalize hx:nt Qp default l i=x at*
  refine vS ?_
  simp only[hx]
  refine Chk.mk (Qc) ?_
  refine⟨fun hb'=>?_,fun hb'=>?_⟩
  ·rw[if_pos (by rw[←he];exact hb')]at hp
   refine wS ?_
   exact⟨by rw[hp],trivial⟩
  ·rw[if_neg (by rw[←he,hb'];exact Bool.false_ne_true)]at hp
   refine wS ?_
   refine⟨i+1,⟨by omega,hp⟩,by show l.length-(i+1)+0<l.length-i+0;omega,?_⟩
   exact ZJ
 ·simp only[decide_eq_false_iff_not]at hb
  rw[List.drop_eq_nil_of_le (by omega),Zy]at hp
  refine wS ?_
  exact⟨by rw[hp],trivial⟩
theorem ZuL (l:List Qp) (d:Qp) (hl:l.length≤1000000):SC (fun _=>Tryz.prog) 175 [lst 2 Zg default l,.agg (Zg d)] [] fun v h=>v= .bool (fun _=>l.any fun x=>decide (x=d))∧h=[]:=by
 obtain⟨nt,hnt⟩:=Zp
 rw[Za hnt]
 refine Qu Tryz.func175 (body:=Zj Tryz.f175) rfl (by decide+kernel) ?_
 refine wS ?_
 refine ZV (ZuI l d hl) (by first|rfl|(simp only[Zd,Zc,Za hnt];rfl)) fun r h₂ hp=>?_
 (try simp only[Zd,Zc,Za hnt]at hp)
 obtain⟨rfl,rfl⟩:=hp
 refine wS ?_
 refine⟨?_,trivial⟩
 congr 1;funext _;exact JW _ l 0 (by omega)
theorem YF (zs:List Zone) (day:Int) (many:Nat):∀(l:List Stop) (i:Nat) (now:Int),(QR zs day many i now l).length=l.length
 |[],_,_=>rfl
 |s::r,i,now=>by
  unfold QR
  split
  ·simp[YF zs day many r]
  ·simp[YF zs day many r]
theorem Zg9 (b:XH) (n day:Int):(J3 b n day).1.length≤4∧((J3 b n day).2=0→2≤(J3 b n day).1.length):=by
 unfold J3
 split
 ·exact⟨by simp,fun h=>absurd h (by assumption)⟩
 ·rename_i hc
  have hok:=ZbU (Decidable.of_not_not hc)
  split
  ·exact⟨by simp,fun h=>by cases h⟩
  ·split
   ·exact⟨by simp,fun h=>by cases h⟩
   ·rename_i hpl
    split
    ·exact⟨by simp,fun h=>by cases h⟩
    ·have htab:=ZeK hok day
     have hp:=XC (q:=fun t:Train=>decide (t.number=n)) (l:=QT b day) (i:=0) (by omega)
     have hm:=htab.2 ((QT b day).getD (place (QT b day) n).toNat default) (by
      have:(place (QT b day) n).toNat<(QT b day).length:=by unfold place at*;omega
      rw[List.getD_eq_getElem?_getD,List.getElem?_eq_getElem this]
      exact List.getElem_mem _)
     have:=hm.len
     simp only[Sp.calls,YF]
     exact⟨by omega,fun _=>by omega⟩
theorem Xk {f:Nat→Int} {i n:Nat} (h:i<n):Zr f i (n-i)=if f i≠0 then f i else Zr f (i+1) (n-(i+1)):=by
 rw[show n-i=(n-(i+1))+1 by omega,Zr]
theorem XD {f:Nat→Int} {i n:Nat} (h:n≤i):Zr f i (n-i)=0:=by
 rw[show n-i=0 by omega,Zr]
theorem Jd {nt:(α:Type)→α→List α→Int→α} (hnt:∀(α:Type) (d:α) (l:List α) (i:Int),nt α d l i=l.getD i.toNat d) {α:Type} (d:α) (l:List α) (i:Nat):l.getD i d=nt α d l i:=by rw[hnt];rfl
theorem ZuQ (t:Zf) (hf:YG t.book) (hr:t.runs.length≤1000000):SC (fun _=>Tryz.prog) 132 [Ze t] [] fun v h=>v= .tup [lst 1 Zb [] (if QP t=0 then callsOf t else []),.int .i64 fun _=>QP t]∧h=[]:=by
 obtain⟨nt,hnt⟩:=Zp
 refine SC.less (Qu Tryz.func132 (body:=Zj Tryz.f132) rfl (by decide+kernel) ?_)
 have hE:QP t=if t.runs.length=0 then 7 else if 4<t.runs.length then 6 else Zr (JT t) 0 t.runs.length:=rfl
 obtain⟨R,hR⟩:∃R,R=if QP t=0 then callsOf t else []:=⟨_,rfl⟩
 rw[←hR]
 generalize QP t=e at*
 unfold Ze
 simp only[Za hnt]
 refine wS ?_
 refine⟨fun hb=>?_,fun hb=>?_⟩
 ·have hb:=eq_of_beq hb
  rw[if_pos (by omega)]at hE
  subst hE
  rw[if_neg (by decide)]at hR
  subst hR
  refine wS ?_
  refine⟨_,[],?_,rfl,rfl⟩
  exact ZJ
 have hb:=ne_of_beq_false hb
 rw[if_neg (by omega)]at hE
 refine wS ?_
 refine⟨fun hb2=>?_,fun hb2=>?_⟩
 ·simp only[decide_eq_true_eq]at hb2
  rw[if_pos (by omega)]at hE
  subst hE
  rw[if_neg (by decide)]at hR
  subst hR
  refine wS ?_
  refine⟨_,[],?_,rfl,rfl⟩
  exact ZJ
 simp only[decide_eq_false_iff_not]at hb2
 rw[if_neg (by omega)]at hE
 refine wS ?_
 refine ZT false false [] [1,4,21,22,23] [.tok 1 fun _=>0] (fun(⟨i,out⟩:Nat×List (List Sp.Call))=>[(4,.isl 1 (fun _=>(out.length:Int)) (fun e=>Zb (nt (List Sp.Call) [] out (e ()))) (.own 1)),(23,.int .i64 fun _=>i)])
  (fun⟨i,out⟩=>[(1,.tok 1 fun _=>(out.length:Int))])
  (fun⟨i,out⟩=>i≤t.runs.length∧e=Zr (JT t) i (t.runs.length-i)∧out=(t.runs.take i).map (J9 t)) (fun i=>t.runs.length-i.1+0) (0,[]) ⟨Nat.zero_le _,hE,by simp⟩ ?_ ?_
 ·(refine To.of [(1,false)] ?_;cbv;(try simp only[nc]);(repeat' (first|exact trivial|exact ZE.refl _|exact ZM.refl _|refine⟨?_,?_⟩|refine ZM.cells ?_|refine ZE.agg ?_|refine ZE.tup ?_));(all_goals (first|exact X3|skip)))
 rintro⟨i,out⟩ ⟨hi,hp,ho⟩
 have hol:out.length=i:=by rw[ho];simp;omega
 refine wS ?_
 refine⟨fun hb=>?_,fun hb=>?_⟩
 ·simp only[decide_eq_true_eq]at hb
  rw[Xk (by omega)]at hp
  have htake:=Zet (d:=default) hnt (l:=t.runs) (i:=i) (by omega)
  have hre:JT t i=if(J3 t.book (nt Qp default t.runs i).number (nt Qp default t.runs i).day).2≠0 then(J3 t.book (nt Qp default t.runs i).number (nt Qp default t.runs i).day).2
   else if Q8 (J9 t (nt Qp default t.runs i))≠0 then 5
   else if(t.runs.take i).any (fun x=>decide (x=nt Qp default t.runs i))then 4 else 0:=by unfold JT;rw[Jd hnt]
  have hcn:=Jd hnt default t.runs i
  generalize hd:nt Qp default t.runs i=d at*
  refine vS ?_
  simp only[hd]
  refine Chk.mk (Qc) ?_
  have k26:=c26 t.book d.number d.day hf
  have hlen:=Zg9 t.book d.number d.day
  have hrc:J9 t d=(J3 t.book d.number d.day).1:=rfl
  unfold Zc at k26
  simp only[Za hnt]at k26
  generalize J3 t.book d.number d.day=r at*
  obtain⟨C,er⟩:=r
  refine ZV (k26) (by first|rfl|(simp only[Zd,Zc,Ze,Za hnt];rfl)) fun r h₂ hp=>?_
  (try simp only[Zd,Zc,Ze,Za hnt]at hp)
  obtain⟨rfl,rfl⟩:=hp
  dsimp only at hre hlen hrc
  refine wS ?_
  refine⟨fun hb=>?_,fun hb=>?_⟩
  ·simp only[bne_iff_ne,ne_eq]at hb
   rw[if_pos hb]at hre
   rw[hre,if_pos hb]at hp
   subst hp
   rw[if_neg hb]at hR
   subst hR
   refine wS ?_
   refine⟨_,[],?_,rfl,rfl⟩
   exact ZJ
  simp only[bne_eq_false_iff_eq]at hb
  subst hb
  rw[if_neg (fun h=>h rfl),hrc]at hre
  have hl2:=hlen.2 rfl
  have hl4:=hlen.1
  clear k26 hlen
  refine wS ?_
  refine Zah fun Q hQ=>?_
  refine ZT false false [] [1,4,5,6,7,9,21,22,23] [] (fun(j:Nat)=>[(9,.int .i64 fun _=>((j+1:Nat):Int))]) (fun _=>[]) (fun j=>j+1≤C.length∧Q8 C=Zr (Jg C) (j+1) (C.length-(j+1))) (fun j=>C.length-(j+1)+0) 0 ⟨by omega,rfl⟩ ?_ ?_
  ·exact ZJ
  rintro j ⟨hk,hpk⟩
  refine wS ?_
  refine⟨fun hb=>?_,fun hb=>?_⟩
  ·simp only[decide_eq_true_eq]at hb
   rw[Xk (by omega)]at hpk
   have hoa:Jg C (j+1)=if(nt Sp.Call default C ((j+1:Nat):Int)).arrive≤(nt Sp.Call default C (((j+1:Nat):Int)-1)).depart then 5 else 0:=by
    unfold Jg
    rw[Jd hnt,Jd hnt,show((j+1-1:Nat):Int)=((j+1:Nat):Int)-1 by omega]
   refine wS ?_
   refine⟨fun hb'=>?_,fun hb'=>?_⟩
   ·simp only[decide_eq_true_eq]at hb'
    rw[if_pos hb']at hoa
    rw[hoa,if_pos (by decide)]at hpk
    rw[hpk,if_pos (by decide)]at hre
    rw[hre,if_pos (by decide)]at hp
    subst hp
    rw[if_neg (by decide)]at hR
    subst hR
    refine wS ?_
    refine hQ _ _ _ ?_
    refine wS ?_
    refine⟨_,[],?_,rfl,rfl⟩
    exact ZJ
   ·simp only[decide_eq_false_iff_not]at hb'
    rw[if_neg hb']at hoa
    rw[hoa,if_neg (fun h=>h rfl)]at hpk
    refine wS ?_
    refine⟨j+1,⟨by omega,by rw[hpk]⟩,by show C.length-(j+1+1)+0<C.length-(j+1)+0;omega,?_⟩
    exact ZJ
  ·simp only[decide_eq_false_iff_not]at hb
   rw[XD (by omega)]at hpk
   rw[hpk,if_neg (fun h=>h rfl)]at hre
   refine wS ?_
   refine hQ _ _ _ ?_
   refine wS ?_
   refine Zby (ZuL (t.runs.take i) d (by simp;omega)) (by(try simp only[Zd,Zc,Ze,Za hnt]);exact ZJ) (by first|rfl|(simp only[Zd,Zc,Ze,Za hnt];rfl)) fun r h₂ hp=>?_
   (try simp only[Zd,Zc,Ze,Za hnt]at hp)
   obtain⟨rfl,rfl⟩:=hp
   refine wS ?_
   refine⟨fun hb'=>?_,fun hb'=>?_⟩
   ·rw[if_pos hb']at hre
    rw[hre,if_pos (by decide)]at hp
    subst hp
    rw[if_neg (by decide)]at hR
    subst hR
    refine wS ?_
    refine⟨_,[],?_,rfl,rfl⟩
    exact ZJ
   ·rw[if_neg (by rw[hb'];exact Bool.false_ne_true)]at hre
    rw[hre,if_neg (fun h=>h rfl)]at hp
    refine wS ?_
    refine⟨(i+1,out++[C]),⟨by omega,by rw[hp],by rw[htake,List.map_append,ho];simp[hrc]⟩,by show t.runs.length-(i+1)+0<t.runs.length-i+0;omega,?_⟩
    refine toR ?_
    exact .snoc hnt rfl rfl (by simp only[Zb,Za hnt];rfl)
 ·simp only[decide_eq_false_iff_not]at hb
  rw[XD (by omega)]at hp
  subst hp
  rw[if_pos rfl]at hR
  have hout:out=R:=by rw[ho,hR,List.take_of_length_le (by omega)];rfl
  subst hout
  refine wS ?_
  refine⟨_,[],?_,rfl,rfl⟩
  exact ZJ
set_option maxHeartbeats 4000000
structure Zaq (c:List (List Sp.Call)):Prop where
 len:c.length≤4
 row:∀l∈c,2≤l.length∧l.length≤4
theorem ZoO {f:FuncId} {xs ys:List AV} {h:List Zi} {Post Q:AV→List Zi→Prop} {B:Prop} (H:SC (fun _=>Tryz.prog) f ys [] Q) (k:B) (t:SC (fun _=>Tryz.prog) f ys [] Q→HdW B→SC (fun _=>Tryz.prog) f xs h Post:=by intro hH hW;refine ZV hH (by first|rfl|(simp only[Zd,Zc,Ze,Zb,Za hnt];rfl)) fun r h₂ hp=>?_;(try simp only[Zd,Zc,Ze,Zb,Za hnt]at hp);obtain⟨rfl,rfl⟩:=hp;exact hW.out):SC (fun _=>Tryz.prog) f xs h Post:=t H ⟨k⟩
theorem Xn {n lo hi:Int} (h:QQ n lo hi=false):lo≤n∧n≤hi:=by
 unfold QQ Yv at h
 simp only[Bool.not_eq_false',Bool.and_eq_true,decide_eq_true_eq]at h
 exact h
theorem JK (l:List Sp.Call) (f st:Int):ZN l f st<l.length∧(ZN l f st=-1∨(0≤ZN l f st∧f≤ZN l f st)):=by
 unfold ZN
 obtain⟨m,hm⟩:∃m:Nat,max 0 f=(m:Int):=⟨(max 0 f).toNat,by omega⟩
 have hf:f≤m:=by omega
 rw[hm,Int.toNat_natCast]
 have h1:=XC (q:=fun c:Sp.Call=>decide (c.station=st)) (l:=l.drop m) (i:=(m:Int)) (by omega)
 by_cases h:m≤l.length
 ·rw[List.length_drop]at h1
  omega
 ·rw[List.drop_eq_nil_of_le (by omega)]
  exact⟨by simp only[Zy];omega,.inl rfl⟩
theorem ZnR {nt:(α:Type)→α→List α→Int→α} (hnt:∀(α:Type) (d:α) (l:List α) (i:Int),nt α d l i=l.getD i.toNat d) (c:List (List Sp.Call)):lst 1 Zb [] c= .isl 1 (fun _=>(c.length:Int)) (fun e=>[.isl 3 (fun _=>((nt (List Sp.Call) [] c (e ())).length:Int)) (fun e'=>XI (nt Sp.Call default (nt (List Sp.Call) [] c (e ())) (e' ()))) .none]) .none:=by
 rw[Za hnt]
 simp only[Zb,Za hnt]
theorem ZuP (c:List (List Sp.Call)) (w:Sp.Xt) (bf:List Sp.Xt) (hc:Zaq c) (hb:bf.length≤1000000):SC (fun _=>Tryz.prog) 133 [lst 1 Zb [] c,.agg (Q2 w),lst 4 Q2 default bf] [] fun v h=>v= .int .i64 (fun _=>Qx c w bf)∧h=[]:=by
 obtain⟨nt,hnt⟩:=Zp
 rw[ZnR hnt,Za hnt]
 refine Qu Tryz.func133 (body:=Zj Tryz.f133) rfl (by decide+kernel) ?_
 have hlen:=hc.len
 have k1:=Zb3 w.feeder 0 (c.length-1)
 have k2:=Zb3 w.train 0 (c.length-1)
 have k3:=Zb3 w.minutes 0 60
 have hmem:∀i:Int,0≤i→i≤(c.length:Int)-1→nt (List Sp.Call) [] c i∈c:=fun i h0 h1=>by
  have:i.toNat<c.length:=by omega
  rw[hnt,List.getD_eq_getElem?_getD,List.getElem?_eq_getElem this]
  exact List.getElem_mem _
 generalize hE:Qx c w bf=e
 unfold Qx at hE
 rw[←hnt (List Sp.Call) [] c w.feeder,←hnt (List Sp.Call) [] c w.train]at hE
 refine wS ?_
 refine ZoO (k1) ?_
 refine wS ?_
 refine⟨fun h1=>?_,fun h1=>?_⟩
 case refine_2=>
  have h1:=nb4 h1
  rw[h1,Bool.true_or,if_pos rfl]at hE
  subst hE
  refine wS ?_
  refine Br.isT rfl ?_
  (cbv;(try simp only[nc]at*);(try refine Chk.mk (Qc) ?_))
  (try first|exact⟨rfl,trivial⟩|exact⟨trivial,trivial⟩)
 have h1:=nb2 h1
 rw[h1,Bool.false_or]at hE
 refine wS ?_
 refine ZoO (k2) ?_
 refine wS ?_
 refine⟨fun h2=>?_,fun h2=>?_⟩
 ·rw[h1]at h2
  have h2:QQ w.train 0 (c.length-1)=true:=h2
  rw[if_pos h2]at hE
  subst hE
  (cbv;(try simp only[nc]at*);(try refine Chk.mk (Qc) ?_))
  (try first|exact⟨rfl,trivial⟩|exact⟨trivial,trivial⟩)
 rw[h1]at h2
 have h2:QQ w.train 0 (c.length-1)=false:=h2
 rw[if_neg (by rw[h2];exact Bool.false_ne_true)]at hE
 have b1:=Xn h1
 have b2:=Xn h2
 refine wS ?_
 refine⟨fun h3=>?_,fun h3=>?_⟩
 ·have h3:=eq_of_beq h3
  rw[if_pos h3]at hE
  subst hE
  (cbv;(try simp only[nc]at*);(try refine Chk.mk (Qc) ?_))
  (try first|exact⟨rfl,trivial⟩|exact⟨trivial,trivial⟩)
 have h3:=ne_of_beq_false h3
 rw[if_neg h3]at hE
 have m1:=hmem _ b1.1 b1.2
 have m2:=hmem _ b2.1 b2.2
 refine vS ?_
 generalize hF:nt (List Sp.Call) [] c w.feeder=F at*
 generalize hT:nt (List Sp.Call) [] c w.train=U at*
 have r1:=hc.row _ m1
 have r2:=hc.row _ m2
 have q1:=ZsG F w.station (by omega)
 have q2:=Zt3 U w.station (by omega)
 have s1:Z6 F w.station<F.length∧-1≤Z6 F w.station:=by have:=JK F 1 w.station;unfold Z6;omega
 have s2:ZZ U w.station<(U.length:Int)-1∧-1≤ZZ U w.station:=by
  have:=JK U 0 w.station
  unfold ZZ
  split<;>omega
 simp only[Za hnt]at q1 q2
 try simp only[hF,hT]
 try refine Chk.mk (Qc) ?_
 refine ZoO (q1) ?_
 refine vS ?_
 try simp only[hF,hT]
 try refine Chk.mk (Qc) ?_
 refine ZoO (q2) ?_
 refine vS ?_
 try simp only[hF,hT]
 try refine Chk.mk (Qc) ?_
 generalize Z6 F w.station=a at*
 generalize ZZ U w.station=b at*
 refine⟨fun h4=>?_,fun h4=>?_⟩
 ·rw[if_pos (by
   cases ha:decide (a<0)with
   |true=>exact .inl (of_decide_eq_true ha)
   |false=>rw[ha]at h4;exact .inr (of_decide_eq_true h4))]at hE
  subst hE
  (cbv;(try simp only[nc]at*);(try refine Chk.mk (Qc) ?_))
  (try first|exact⟨rfl,trivial⟩|exact⟨trivial,trivial⟩)
 have h5:0≤a:=by
  cases ha:decide (a<0)with
  |true=>rw[ha]at h4;cases h4
  |false=>have:=of_decide_eq_false ha;omega
 have h6:0≤b:=by
  cases ha:decide (a<0)with
  |true=>rw[ha]at h4;cases h4
  |false=>rw[ha]at h4;have:=of_decide_eq_false h4;omega
 rw[if_neg (by omega)]at hE
 clear q1 q2
 refine wS ?_
 refine ZoO (k3) ?_
 refine wS ?_
 refine⟨fun h7=>?_,fun h7=>?_⟩
 ·rw[if_pos h7]at hE
  subst hE
  (cbv;(try simp only[nc]at*);(try refine Chk.mk (Qc) ?_))
  (try first|exact⟨rfl,trivial⟩|exact⟨trivial,trivial⟩)
 rw[if_neg (by rw[h7];exact Bool.false_ne_true)]at hE
 rw[←hnt Sp.Call default U b,←hnt Sp.Call default F a]at hE
 refine vS ?_
 try simp only[hF,hT]
 try refine Chk.mk (Qc) ?_
 refine⟨fun h8=>?_,fun h8=>?_⟩
 ·have h8:=of_decide_eq_true h8
  rw[if_pos h8]at hE
  subst hE
  (cbv;(try simp only[nc]at*);(try refine Chk.mk (Qc) ?_))
  (try first|exact⟨rfl,trivial⟩|exact⟨trivial,trivial⟩)
 rw[if_neg (of_decide_eq_false h8)]at hE
 clear h8 h7 h4
 refine wS ?_
 refine ZT false false [] [4,79,80,81] [] (fun(i:Nat)=>[(81,.int .i64 fun _=>i)]) (fun _=>[]) (fun i=>i≤bf.length∧bf.any (fun x=>decide (x.feeder=w.feeder∧x.train=w.train∧x.station=w.station))=(bf.drop i).any (fun x=>decide (x.feeder=w.feeder∧x.train=w.train∧x.station=w.station))) (fun i=>bf.length-i+0) 0 ⟨Nat.zero_le _,by simp⟩ ?_ ?_
 ·exact ZJ
 rintro i ⟨hi,hp⟩
 refine wS ?_
 refine⟨fun hb=>?_,fun hb=>?_⟩
 ·have hb:=of_decide_eq_true hb
  have hd:=Qy (d:=default) hnt (l:=bf) (i:=i) (by omega)
  rw[hd,List.any_cons]at hp
  generalize hx:nt Sp.Xt default bf i=x at*
  refine vS ?_
  try simp only[hx]
  try refine Chk.mk (Qc) ?_
  have he:(bif (bif x.feeder==w.feeder then x.train==w.train else false)then x.station==w.station else false)=decide (x.feeder=w.feeder∧x.train=w.train∧x.station=w.station):=by
   by_cases e1:x.feeder=w.feeder<;>by_cases e2:x.train=w.train<;>by_cases e3:x.station=w.station<;>simp[e1,e2,e3]
  refine⟨fun h9=>?_,fun h9=>?_⟩
  ·rw[he]at h9
   rw[h9,Bool.true_or]at hp
   rw[hp,if_pos rfl]at hE
   subst hE
   (cbv;(try simp only[nc]at*);(try refine Chk.mk (Qc) ?_))
   (try first|exact⟨rfl,trivial⟩|exact⟨trivial,trivial⟩)
  ·rw[he]at h9
   rw[h9,Bool.false_or]at hp
   refine wS ?_
   refine⟨i+1,⟨by omega,hp⟩,by show bf.length-(i+1)+0<bf.length-i+0;omega,?_⟩
   exact ZJ
 ·have hb:=of_decide_eq_false hb
  rw[List.drop_eq_nil_of_le (by omega)]at hp
  rw[hp,List.any_nil,if_neg Bool.false_ne_true]at hE
  subst hE
  (cbv;(try simp only[nc]at*);(try refine Chk.mk (Qc) ?_))
  (try first|exact⟨rfl,trivial⟩|exact⟨trivial,trivial⟩)
end Go.Proofs.YtjgpiclllehgmaaGreat.Vm
