/- What the functions of the layer clock compute, in plain Lean. -/
import Derived.Test.YtjgpiclllehgmaaGreatRows
import Derived.WalkKit
import Derived.ProofKit
import Derived.OpenShut
import Derived.ShutString
import Derived.ChangeOld
import Derived.Below
import Derived.Test.YtjgpiclllehgmaaGreatB0
import Derived.Test.YtjgpiclllehgmaaGreatCxPhase5
set_option linter.all false
namespace Go.Proofs.YtjgpiclllehgmaaGreat.Sp
structure Chg where
 at_:Int
 by_:Int
deriving DecidableEq,Inhabited
structure Zone where
 base:Int
 chs:List Chg
deriving Inhabited
structure Pc where
 fr:Int
 bef:Int
 ahd:Int
deriving DecidableEq,Inhabited
def Yx (n lo hi:Int):Bool:=decide (lo≤n)&&decide (n≤hi)
def leP:Option Int→Int→Bool
 |some a,x=>decide (x≤a)
 |none,_=>false
def YO:Option Int→List Chg→Int
 |_,[]=>0
 |p,c::r=>if !Yx c.at_ 0 43200 then 1 else if leP p c.at_ then 5 else if !Yx c.by_ (-180) 180||decide (c.by_=0)then 1 else YO (some c.at_) r
theorem Yu (p:Option Int) (c:Chg) (r:List Chg):YO p (c::r)=if !Yx c.at_ 0 43200 then 1 else if leP p c.at_ then 5 else if !Yx c.by_ (-180) 180||decide (c.by_=0)then 1 else YO (some c.at_) r:=by cases p<;>rfl
theorem Zct (p:Option Int):YO p []=0:=by cases p<;>rfl
def Zu (z:Zone):Int:=if !Yx z.base (-720) 720 then 1 else if 3<z.chs.length then 6 else YO none z.chs
def Xk:Int:=1099511627776
def QG:Int→Int→List Chg→List Pc
 |fr,a,[]=>[⟨fr,Xk,a⟩]
 |fr,a,c::r=>if fr<c.at_ then⟨fr,c.at_,a⟩::QG c.at_ (a+c.by_) r else QG c.at_ (a+c.by_) r
def ZP (z:Zone):List Pc:=QG 0 z.base z.chs
def QW:List Pc→Int→Int→Int
 |[],_,_=>Xk
 |p::l,r,after=>if max p.fr (max after (r-p.ahd))<p.bef then max p.fr (max after (r-p.ahd))else QW l r after
structure Stop where
 station:Int
 zone:Int
 arrive:Int
 depart:Int
deriving DecidableEq,Inhabited
structure Train where
 number:Int
 days:Int
 stops:List Stop
deriving DecidableEq,Inhabited
structure XL where
 zones:List Zone
 old:List Train
 new:List Train
 night:Int
 last:Int
deriving Inhabited
structure Call where
 station:Int
 arrive:Int
 depart:Int
deriving DecidableEq,Inhabited
structure Zes where
 fr:Int
 to_:Int
deriving DecidableEq,Inhabited
def Zw {α:Type} (q:α→Bool):Int→List α→Int
 |_,[]=>-1
 |i,a::l=>if q a then i else Zw q (i+1) l
def ZJ (n least most:Int):Int:=if n<least then 7 else if most<n then 6 else 0
def YP (before:List Stop) (s:Stop) (inner:Bool) (zones:Int):Int:=
 if !Yx s.station 0 9 then 1 else if before.any (fun x=>decide (x.station=s.station))then 4 else if !Yx s.zone 0 (zones-1)then 3
 else if !Yx s.arrive 0 4319|| !Yx s.depart 0 4319 then 1 else if inner&&decide (s.depart<s.arrive)then 5 else 0
end Go.Proofs.YtjgpiclllehgmaaGreat.Sp
namespace Go.Proofs.YtjgpiclllehgmaaGreat.Vm
open Go Go.Proofs Sp
set_option maxRecDepth 100000
set_option maxHeartbeats 4000000
def iA (n:Int):AV:=.int .i64 fun _=>n
def ZbA (c:Chg):List AV:=[.int .i64 fun _=>c.at_,.int .i64 fun _=>c.by_]
def Zed (p:Pc):List AV:=[.int .i64 fun _=>p.fr,.int .i64 fun _=>p.bef,.int .i64 fun _=>p.ahd]
def Zd (z:Zone):AV:=.agg [.int .i64 fun _=>z.base,lst 2 ZbA default z.chs]
theorem c67 (n a b:Int):SC (fun _=>Tryz.prog) 144 [.int .i64 fun _=>n,.int .i64 fun _=>a,.int .i64 fun _=>b] [] fun r h=>r= .bool (fun _=>Yx n a b)∧h=[]:=by
 refine QP Tryz.func144 (body:=Zk Tryz.f144) rfl (by decide+kernel) ?_
 cbv
 try simp only[nc]at*
 refine⟨by simp[QK,QJ,QU,QI,Cn.p],?_,trivial⟩
 congr 1;funext _;unfold Yx;cases decide (a≤n)<;>rfl
theorem c92 (l:List Pc) (r a:Int) (hlen:l.length≤1000000) (hl:∀p∈l,-1000000≤p.ahd∧p.ahd≤1000000) (hr:-1000000≤r∧r≤1000000):SC (fun _=>Tryz.prog) 186 [lst 3 Zed default l,.int .i64 fun _=>r,.int .i64 fun _=>a] [] fun v h=>v= .int .i64 (fun _=>QW l r a)∧h=[]:=by
 obtain⟨nt,hnt⟩:=Zs
 rw[Za hnt]
 refine QP Tryz.func186 (body:=Zk Tryz.f186) rfl (by decide+kernel) ?_
 cbv
 try simp only[nc]at*
 refine ZiA [1,2,10,11,12] (fun i:Nat=>mkS 30 [(1,.int .i64 fun _=>r),(2,.int .i64 fun _=>a),(10,.isl 3 (fun _=>(l.length:Int)) (fun e=>Zed (nt Pc default l (e ()))) .none),(11,.int .i64 fun _=>(l.length:Int)),(12,.int .i64 fun _=>(i:Int))]) (fun _=>[])
  (fun i=>i≤l.length∧QW l r a=QW (l.drop i) r a) (fun i=>l.length-i+0) 0 0 (fun _=>rfl) ⟨Nat.zero_le _,by simp⟩ (To.of [] ?_) ?_
 ·cbv
  exact⟨⟨.refl _,.refl _,.refl _,.refl _,.int rfl,trivial⟩,trivial⟩
 ·intro i hi
  cbv
  try simp only[nc]at*
  refine⟨fun hb=>?_,fun hb=>?_⟩
  ·simp only[nc,decide_eq_true_eq]at hb
   have hil:i<l.length:=by omega
   have hm:=hl _ (XF (d:=default) hnt hil)
   have hd:=Qu (d:=default) hnt hil
   cbv
   try simp only[nc]at*
   obtain⟨p,hc⟩:∃p,nt Pc default l (i:Int)=p:=⟨_,rfl⟩
   rw[hc]at hm hd
   rw[hc]
   refine⟨by simp only[QK,QJ,QU,QI,Cn.p,and_true];omega,fun hb=>?_,fun hb=>?_⟩
   ·simp only[decide_eq_true_eq]at hb
    cbv
    try simp only[nc]at*
    refine⟨?_,trivial⟩
    congr 1;funext _
    rw[hi.2,hd,QW]
    omega
   ·simp only[decide_eq_false_iff_not]at hb
    cbv
    try simp only[nc]at*
    refine⟨by simp only[nc,QK,QJ,QU,QI,Cn.p,and_true];omega,⟨i+1,⟨by omega,?_⟩,by omega,To.of [] ?_⟩⟩
    ·rw[hi.2,hd,QW,if_neg (by omega)]
    ·cbv
     exact⟨⟨.refl _,.refl _,.refl _,.refl _,.int (by simp only[nc];omega),trivial⟩,trivial⟩
  ·simp only[nc,decide_eq_false_iff_not]at hb
   have:l.drop i=[]:=List.drop_eq_nil_of_le (by omega)
   cbv
   try simp only[nc]at*
   refine⟨?_,trivial⟩
   congr 1;funext _
   rw[hi.2,this];rfl
theorem c91 (d m:Int) (h0:-1000≤d∧d≤1000) (h1:-10000≤m∧m≤10000):SC (fun _=>Tryz.prog) 187 [.int .i64 fun _=>d,.int .i64 fun _=>m] [] fun r h=>r= .int .i64 (fun _=>1440*d+m)∧h=[]:=by
 refine QP Tryz.func187 (body:=Zk Tryz.f187) rfl (by decide+kernel) ?_
 cbv
 try simp only[nc]at*
 exact⟨by simp only[QK,QJ,QU,QI,Cn.p,and_true];omega,trivial⟩
structure Zo2 (z:Zone):Prop where
 base:-1000≤z.base∧z.base≤1000
 many:z.chs.length≤100
 by_:∀c∈z.chs,-1000≤c.by_∧c.by_≤1000
theorem Zd1:∀(l:List Chg) (fr a m:Int),(∀c∈l,-1000≤c.by_∧c.by_≤1000)→-m≤a∧a≤m→∀p∈QG fr a l,-(m+1000*l.length)≤p.ahd∧p.ahd≤m+1000*l.length
 |[],fr,a,m,_,h,p,hp=>by simp[QG]at hp;subst hp;simpa using h
 |c::r,fr,a,m,hl,h,p,hp=>by
  have hc:=hl c (List.mem_cons_self ..)
  have ih:=Zd1 r c.at_ (a+c.by_) (m+1000) (fun x hx=>hl x (List.mem_cons_of_mem _ hx)) (by omega)
  simp only[QG]at hp
  simp only[List.length_cons]
  split at hp
  ·rcases List.mem_cons.1 hp with rfl|hp
   ·show _≤a∧a≤_;omega
   ·have:=ih p hp;omega
  ·have:=ih p hp;omega
theorem Zad:∀(l:List Chg) (fr a:Int),1≤(QG fr a l).length∧(QG fr a l).length≤l.length+1
 |[],fr,a=>by simp[QG]
 |c::r,fr,a=>by
  have:=Zad r c.at_ (a+c.by_)
  simp only[QG,List.length_cons]
  split
  ·simp only[List.length_cons];omega
  ·omega
theorem c90 (z:Zone) (hz:Zo2 z):SC (fun _=>Tryz.prog) 185 [Zd z] [] fun v h=>v=lst 3 Zed default (ZP z)∧h=[]:=by
 obtain⟨nt,hnt⟩:=Zs
 unfold Zd
 rw[Za hnt]
 refine SC.less (QP Tryz.func185 (body:=Zk Tryz.f185) rfl (by decide+kernel) ?_)
 cbv
 try simp only[nc]at*
 refine⟨by simp only[QK,QJ,QU,QI,Cn.p,and_true];decide+kernel,?_⟩
 refine ZiA [1,3,4,5,11,12,13] (fun(⟨i,fr,a,out⟩:Nat×Int×Int×List Pc)=>mkS 42 [(1,.ptr 0 0),(3,.isl 3 (fun _=>(out.length:Int)) (fun e=>Zed (nt Pc default out (e ()))) (.own 1)),(4,.int .i64 fun _=>fr),(5,.int .i64 fun _=>a),
   (11,.isl 2 (fun _=>(z.chs.length:Int)) (fun e=>ZbA (nt Chg default z.chs (e ()))) .none),(12,.int .i64 fun _=>(z.chs.length:Int)),(13,.int .i64 fun _=>(i:Int))])
  (fun⟨i,fr,a,out⟩=>[.cells [.int .i64 fun _=>z.base,.isl 2 (fun _=>(z.chs.length:Int)) (fun e=>ZbA (nt Chg default z.chs (e ()))) .none],.tok 3 fun _=>(out.length:Int)])
  (fun⟨i,fr,a,out⟩=>i≤z.chs.length∧ZP z=out++QG fr a (z.chs.drop i)∧out.length≤i∧-(1000+1000*i)≤a∧a≤1000+1000*i) (fun i=>z.chs.length-i.1+0) (0,0,z.base,[]) 2 (fun _=>rfl)
  ⟨Nat.zero_le _,by simp[ZP],by simp,by have:=hz.base;simp;omega⟩ (To.of [(3,false)] ?_) ?_
 ·cbv
  exact⟨⟨.refl _,.nilOwn (by decide) (by decide) rfl,.refl _,.refl _,.refl _,.refl _,.int rfl,trivial⟩,.refl _,.tok rfl,trivial⟩
 ·rintro⟨i,fr,a,out⟩ ⟨hi,hp,ho,ha⟩
  have hmany:=hz.many
  cbv
  try simp only[nc]at*
  refine⟨fun hb=>?_,fun hb=>?_⟩
  ·simp only[nc,decide_eq_true_eq]at hb
   have hil:i<z.chs.length:=by omega
   have hm:=hz.by_ _ (XF (d:=default) hnt hil)
   have hd:=Qu (d:=default) hnt hil
   cbv
   try simp only[nc]at*
   obtain⟨c,hc⟩:∃c,nt Chg default z.chs (i:Int)=c:=⟨_,rfl⟩
   rw[hc]at hm hd
   rw[hc]
   rw[hd,QG]at hp
   refine⟨by simp only[QK,QJ,QU,QI,Cn.p,and_true];omega,fun hb=>?_,fun hb=>?_⟩
   ·simp only[gt_iff_lt,decide_eq_true_eq]at hb
    rw[if_pos hb]at hp
    cbv
    try simp only[nc]at*
    refine⟨by simp only[nc,QK,QJ,QU,QI,Cn.p,and_true,List.length_cons,List.length_nil];(repeat' apply And.intro)<;>first|omega|decide+kernel,⟨(i+1,c.at_,a+c.by_,out++[⟨fr,c.at_,a⟩]),⟨by omega,by rw[hp];simp,by simp;omega,by dsimp only;omega,by dsimp only;omega⟩,by show z.chs.length-(i+1)+0<z.chs.length-i+0;omega,To.of [] ?_⟩⟩
    cbv
    try simp only[nc]at*
    exact⟨⟨.refl _,.snoc hnt rfl rfl rfl,.refl _,.refl _,.refl _,.refl _,.int rfl,trivial⟩,.refl _,.tok (by simp),trivial⟩
   ·simp only[gt_iff_lt,decide_eq_false_iff_not]at hb
    rw[if_neg hb]at hp
    cbv
    try simp only[nc]at*
    refine⟨by simp only[nc,QK,QJ,QU,QI,Cn.p,and_true,List.length_cons,List.length_nil];(repeat' apply And.intro)<;>first|omega|decide+kernel,⟨(i+1,c.at_,a+c.by_,out),⟨by omega,hp,by dsimp only;omega,by dsimp only;omega,by dsimp only;omega⟩,by show z.chs.length-(i+1)+0<z.chs.length-i+0;omega,To.of [] ?_⟩⟩
    cbv
    try simp only[nc]at*
    exact⟨⟨.refl _,.refl _,.refl _,.refl _,.refl _,.refl _,.int rfl,trivial⟩,.refl _,.refl _,trivial⟩
  ·simp only[nc,decide_eq_false_iff_not]at hb
   have:z.chs.drop i=[]:=List.drop_eq_nil_of_le (by omega)
   rw[this,QG]at hp
   rw[hp]
   cbv
   try simp only[nc]at*
   refine⟨by simp only[nc,QK,QJ,QU,QI,Cn.p,and_true,List.length_cons,List.length_nil];(repeat' apply And.intro)<;>first|omega|decide+kernel,lst 3 Zed default (out++[⟨fr,Xk,a⟩]),[],To.of [] ⟨⟨.snocL hnt rfl rfl rfl,trivial⟩,trivial⟩,rfl,rfl⟩
theorem Jf {z:Zone} (hz:Zo2 z):(ZP z).length≤101∧1≤(ZP z).length∧∀p∈ZP z,-1000000≤p.ahd∧p.ahd≤1000000:=by
 have h1:=Zad z.chs 0 z.base
 have h2:=Zd1 z.chs 0 z.base 1000 hz.by_ hz.base
 have h3:=hz.many
 refine⟨?_,h1.1,fun p hp=>?_⟩
 ·unfold ZP;omega
 ·have:=h2 p hp;omega
theorem c79 (z:Zone) (hlen:z.chs.length≤1000000):SC (fun _=>Tryz.prog) 173 [Zd z] [] fun v h=>v= .int .i64 (fun _=>Zu z)∧h=[]:=by
 obtain⟨nt,hnt⟩:=Zs
 unfold Zd Zu
 rw[Za hnt]
 refine QP Tryz.func173 (body:=Zk Tryz.f173) rfl (by decide+kernel) ?_
 cbv
 try simp only[nc]at*
 refine ZS (c67 _ _ _) rfl fun r h₂ hp=>?_
 obtain⟨rfl,rfl⟩:=hp
 cbv
 try simp only[nc]at*
 refine⟨fun hb=>?_,fun hb=>?_⟩
 ·simp only[Bool.not_eq_true']at hb
  cbv
  try simp only[nc]at*
  refine⟨?_,trivial⟩
  congr 1;funext _;simp[hb]
 simp only[Bool.not_eq_false']at hb
 simp only[hb,Bool.not_true,Bool.false_eq_true,if_false]
 refine⟨fun hb=>?_,fun hb=>?_⟩
 ·simp only[decide_eq_true_eq]at hb
  cbv
  try simp only[nc]at*
  refine⟨?_,trivial⟩
  congr 1;funext _
  rw[if_pos (by omega)]
 simp only[decide_eq_false_iff_not]at hb
 rw[if_neg (show¬3<z.chs.length by omega)]
 cbv
 try simp only[nc]at*
 refine ZiA [1,14,15,16] (fun(i:Nat)=>mkS 50 [(1,.ptr 0 0),(14,.isl 2 (fun _=>(z.chs.length:Int)) (fun e=>ZbA (nt Chg default z.chs (e ()))) .none),(15,.int .i64 fun _=>(z.chs.length:Int)),(16,.int .i64 fun _=>(i:Int))])
  (fun _=>[.cells [.int .i64 fun _=>z.base,.isl 2 (fun _=>(z.chs.length:Int)) (fun e=>ZbA (nt Chg default z.chs (e ()))) .none]])
  (fun i=>i≤z.chs.length∧YO none z.chs=YO (if i=0 then none else some (nt Chg default z.chs ((i:Int)-1)).at_) (z.chs.drop i)) (fun i=>z.chs.length-i+0) 0 1 (fun _=>rfl) ⟨Nat.zero_le _,by simp⟩ (To.of [] ?_) ?_
 ·cbv
  exact⟨⟨.refl _,.refl _,.refl _,.int rfl,trivial⟩,.refl _,trivial⟩
 rintro i ⟨hi,hp⟩
 cbv
 try simp only[nc]at*
 refine⟨fun hb=>?_,fun hb=>?_⟩
 ·simp only[decide_eq_true_eq]at hb
  have hil:i<z.chs.length:=by omega
  have hd:=Qu (d:=default) hnt hil
  cbv
  try simp only[nc]at*
  obtain⟨c,hc⟩:∃p,nt Chg default z.chs (i:Int)=p:=⟨_,rfl⟩
  rw[hc]at hd
  rw[hc]
  rw[hd,Yu]at hp
  refine⟨by simp only[QK,QJ,QU,QI,Cn.p,and_true];omega,?_⟩
  refine ZS (c67 _ _ _) rfl fun r h₂ hp'=>?_
  obtain⟨rfl,rfl⟩:=hp'
  cbv
  try simp only[nc]at*
  refine⟨fun hb=>?_,fun hb=>?_⟩
  ·simp only[Bool.not_eq_true']at hb
   cbv
   try simp only[nc]at*
   refine⟨?_,trivial⟩
   congr 1;funext _;rw[hp];simp[hb]
  simp only[Bool.not_eq_false']at hb
  simp only[hb,Bool.not_true,Bool.false_eq_true,if_false]at hp
  cbv
  try simp only[nc]at*
  refine⟨by simp only[nc,QK,QJ,QU,QI,Cn.p,and_true,true_and,decide_eq_true_eq,imp_self];(repeat' (first|apply And.intro|intro _))<;>first|omega|decide+kernel,?_⟩
  have hlow:(bif decide (0<(i:Int))then decide (c.at_≤(nt Chg default z.chs ((i:Int)-1)).at_)else false)=leP (if i=0 then none else some (nt Chg default z.chs ((i:Int)-1)).at_) c.at_:=by
   by_cases h0:i=0
   ·subst h0;rfl
   ·rw[if_neg h0,decide_eq_true (show 0<(i:Int) by omega)];rfl
  rw[←hlow]at hp
  refine⟨fun hb=>?_,fun hb=>?_⟩
  ·cbv
   try simp only[nc]at*
   rw[if_pos hb]at hp
   refine⟨?_,trivial⟩
   rw[hp]
  rw[if_neg (by rw[hb];exact Bool.false_ne_true)]at hp
  cbv
  try simp only[nc]at*
  refine ZS (c67 _ _ _) rfl fun r h₂ hp'=>?_
  obtain⟨rfl,rfl⟩:=hp'
  cbv
  try simp only[nc]at*
  refine⟨fun hb=>?_,fun hb=>?_⟩
  ·simp only[Bool.not_eq_true']at hb
   rw[if_pos (by simp[hb])]at hp
   cbv
   try simp only[nc]at*
   refine Br.isT (by simp[hb]) ?_
   cbv
   refine⟨?_,trivial⟩
   rw[hp]
  simp only[Bool.not_eq_false']at hb
  cbv
  try simp only[nc]at*
  refine⟨fun hb'=>?_,fun hb'=>?_⟩
  ·simp only[beq_iff_eq]at hb'
   rw[if_pos (by simp[hb'])]at hp
   cbv
   try simp only[nc]at*
   refine⟨?_,trivial⟩
   rw[hp]
  simp only[beq_eq_false_iff_ne,ne_eq]at hb'
  rw[if_neg (by simp[hb,hb'])]at hp
  cbv
  try simp only[nc]at*
  refine⟨by simp only[nc,QK,QJ,QU,QI,Cn.p,and_true,true_and,decide_eq_true_eq,imp_self];(repeat' (first|apply And.intro|intro _))<;>first|omega|decide+kernel,⟨i+1,⟨by omega,?_⟩,by show z.chs.length-(i+1)+0<z.chs.length-i+0;omega,To.of [] ?_⟩⟩
  ·rw[hp,if_neg (Nat.succ_ne_zero i),show((i+1:Nat):Int)-1=i by omega,hc]
  ·cbv
   exact⟨⟨.refl _,.refl _,.refl _,.int rfl,trivial⟩,.refl _,trivial⟩
 ·simp only[decide_eq_false_iff_not]at hb
  have:z.chs.drop i=[]:=List.drop_eq_nil_of_le (by omega)
  rw[this,Zct]at hp
  cbv
  try simp only[nc]at*
  refine⟨?_,trivial⟩
  rw[hp]
def XC (n:Int):List AV:=[.int .i64 fun _=>n]
theorem J7 {z:Zone} (h:Zu z=0):Zo2 z:=by
 unfold Zu at h
 split at h
 ·cases h
 ·rename_i h1
  split at h
  ·cases h
  ·rename_i h2
   have hb:-720≤z.base∧z.base≤720:=by
    simp only[Yx,Bool.not_eq_true',Bool.not_eq_false]at h1
    simpa using h1
   refine⟨by omega,by omega,?_⟩
   have key:∀(l:List Chg) (p:Option Int),YO p l=0→∀c∈l,-1000≤c.by_∧c.by_≤1000:=by
    intro l
    induction l with
    |nil=>intro p _ c hc;cases hc
    |cons a l ih=>
     intro p hp c hc
     rw[Yu]at hp
     split at hp
     ·cases hp
     split at hp
     ·cases hp
     split at hp
     ·cases hp
     rename_i h3
     rcases List.mem_cons.1 hc with rfl|hc
     ·simp[Yx]at h3
      omega
     ·exact ih _ hp c hc
   exact key _ _ h
open Go Go.Proofs
open Go.ChangeShapes Go.WideShapes Go.ChangeAt Go.RowKit
def R0 (w:World):RC:=⟨w,0,0,fun _=>⟨0,0⟩,fun _=>0,fun _=>undef,fun b _ _=>b<w.heap.size,none⟩
theorem Zid {P:Program} {W:World} {r:Reach} {base:Nat} {t e:TypeId} {a:Addr} {len cap:Nat} (ht:P.underlying t=some (.slice e)) (h:Cell.okWide P W r base t (.slice (some a) len cap)):∃b o,a=⟨b,o,none⟩∧b<W.heap.size:=by
 simp only[Cell.okWide,ht,Cell.ok]at h
 obtain⟨_,_,_,hs,row,cells,hsh,_⟩:=h
 obtain⟨b,o,spot⟩:=a
 simp only at hs hsh
 subst hs
 refine⟨b,o,rfl,?_⟩
 by_cases hb:b<W.heap.size
 ·exact hb
 ·exfalso
  rw[World.shape?,Array.getElem?_eq_none (by omega)]at hsh
  cases hsh
theorem Zon {w:World} {a:Option Addr} {len cap:Nat} {l:List Int} (h:(a=none∧len=0∧cap=0∧l=[])∨∃b o,a=some ⟨b,o,none⟩∧b<w.heap.size∧len≤cap∧l.length=len∧∀i,i<len→w.cell? ⟨b,o+i,none⟩=some (.int .i64 (l.getD i 0))):
  VR (R0 w) (lst 1 XC 0 l) (.slice a len cap):=by
 rcases h with⟨rfl,rfl,rfl,rfl⟩|⟨b,o,rfl,hb,hle,hlen,hc⟩
 ·exact .pure _ _ (.isl0 _ _ _ _ rfl rfl)
 ·refine .pure _ _ (.isl _ _ _ _ b o len cap (fun i _=>.int .i64 (l.getD i 0)) (by show(l.length:Int)=len;omega) hle (.inl rfl) (fun e=>by cases e) (fun i hi=>rfl) (fun i j c hi hj=>?_) (fun i j c hi hj=>?_) hb)
  ·have hj0:j=0:=by
    have:=(List.getElem?_eq_some_iff.1 hj).1
    simp[Zdm,XC]at this
    omega
   subst hj0
   show w.cell? ⟨b,o+i*1+0,none⟩=_
   rw[Nat.mul_one,Nat.add_zero]
   exact hc i hi
  ·cases j with
   |zero=>
    simp only[Zdm,XC,List.getElem?_cons_zero,Option.some.injEq]at hj
    subst hj
    exact .int .i64 _
   |succ j=>simp[Zdm,XC]at hj
theorem own:ownKnob Tryz.prog.godebug=none:=by kernel_rfl
theorem Zqn:laidOutB Tryz.prog=true:=by kernel_rfl
end Go.Proofs.YtjgpiclllehgmaaGreat.Vm
namespace Go.Proofs.YtjgpiclllehgmaaGreat.Conc1
open Go Go.Conc
theorem Zij {P:Program} {Q:Machine→Outcome→World→Trace→Prop}:∀(N:Nat) (m:Machine) (t:Trace) (m':Machine) (t':Trace),runNT P N m t=(.next m',t')→
  (∃n last o w t'',runNT P (n+1) m' t'=(.ended o w,t'')∧runN P n m'= .next last∧step P last= .ended o w∧Q last o w t'')→∃n last o w t'',runNT P (n+1) m t=(.ended o w,t'')∧runN P n m= .next last∧step P last= .ended o w∧Q last o w t''
 |0,m,t,m',t',h,hq=>by
  simp only[runNT,Prod.mk.injEq,Stepped.next.injEq]at h
  obtain⟨rfl,rfl⟩:=h
  exact hq
 |N+1,m,t,m',t',h,hq=>by
  cases hs:stepT P m with
  |mk r ops=>
   cases r with
   |next m1=>
    simp only[runNT,hs]at h
    obtain⟨n,last,o,w,t'',h1,h2,h3,h4⟩:=Zij N m1 _ m' t' h hq
    exact⟨n+1,last,o,w,t'',by simp only[runNT,hs];exact h1,by simp only[runN,step,hs];exact h2,h3,h4⟩
   |ended o w=>simp[runNT,hs]at h
def EndAt (P:Program) (Post:Value→World→Prop) (fr:Frame) (w:World):Prop:=
 ∀d,∃v es,stepG P true (G fr []) (w.at d)= .ended (.done v) (w.at d) es∧(∀e∈es,Yc (fun _=>False) e)∧Post v (w.at d)
def Zky (P:Program) (Post:Value→World→Prop) (μ:Nat) (m:Machine) (t:Trace):Prop:=
 ∃(gs:Array Goroutine) (fr:Frame) (w:World) (sl:Option (Nat×Nat)) (q:Nat→Nat),m=crowd gs w sl∧gs[0]? =some (G fr [])∧EndAt P Post fr w∧Leavers P t gs q∧Xu t∧μ=ConcN.sumTo gs.size q
theorem ZoB {P:Program} {Post:Value→World→Prop} (μ:Nat) (m:Machine) (t:Trace) (h:Zky P Post μ m t):
  (∃o w ops,stepT P m=(.ended o w,ops)∧Go.Conc.Good P Post m o w (t++ops))∨(∃m' ops μ',stepT P m=(.next m',ops)∧μ'<μ∧Zky P Post μ' m' (t++ops)):=by
 obtain⟨gs,fr,w,sl,q,rfl,h0,hE,hL,hP,rfl⟩:=h
 have hrun:(G fr []).status= .running:=rfl
 have haw:∀g∈gs,awake g:=by
  intro g hg
  obtain⟨i,hi,rfl⟩:=Array.mem_iff_getElem.1 hg
  rcases Nat.eq_zero_or_pos i with rfl|hpos
  ·have:gs[0]=G fr []:=by simpa [Array.getElem?_eq_getElem hi]using h0
   rw[this];exact awake_of (.inl hrun)
  ·exact awake_of ((hL.old i _ hpos (Array.getElem?_eq_getElem hi)).status.elim .inl fun x=>.inr (.inr x))
 obtain⟨i,g,d,sl',hi,hg,hst⟩:=crowd_pick (P:=P) (w:=w) (sl:=sl) haw ⟨0,_,h0,hrun⟩
 rcases Nat.eq_zero_or_pos i with rfl|hpos
 ·obtain rfl:g=G fr []:=by rw[h0]at hi;exact(Option.some.inj hi).symm
  obtain⟨v,es,hend,hes,hpost⟩:=hE d
  have hrunT:=runT_many_ended (P:=P) (sl:=sl') (i:=0) hi (show stepG P (0==0) (G fr []) (w.at d)=_ from hend)
  have hP':=hP.own (fn:=(G fr []).frame.fn) (pos:=(G fr []).frame.place) hes
  refine .inl ⟨_,_,_,hst.trans hrunT,v,rfl,hpost,hP'.clean,hP'.over,⟨fun x hx=>?_,rfl⟩,fun j x hx hj=>?_⟩
  ·obtain⟨j,hj⟩:=List.mem_iff_getElem?.1 hx
   rw[List.getElem?_drop]at hj
   exact⟨_,(hL.old (1+j) x (by omega) (by simpa [crowd]using hj)).leaves⟩
  ·have hq:=hL.old j x (by omega) hx
   refine⟨q j,?_⟩
   have e:(t++MemOp.ofEvents 0 (G fr []).frame.fn (G fr []).frame.place es).deaf j (t++MemOp.ofEvents 0 (G fr []).frame.fn (G fr []).frame.place es).size=Deaf t j:=
    Deaf_other t (g:=j) (g':=0) (by omega) _ (fun op hop=>by obtain⟨e,_,rfl⟩:=Conc.mem_ofEvents hop;rfl)
   rw[e]
   exact hq.hears _
 ·have hq:=hL.old i g hpos hi
  have hi0:(i==0)=false:=by simp;omega
  have hlt:i<gs.size:=(Array.getElem?_eq_some_iff.1 hi).1
  cases hqi:q i with
  |zero=>rw[hqi]at hq;rw[hq.1]at hg;cases hg
  |succ k=>
   rw[hqi]at hq
   rcases hq with⟨hf,_⟩|⟨_,g',es,hm,hstp,hq'⟩
   ·rw[hf]at hg;cases hg
   have hrunT:=runT_crowd_go (P:=P) (sl:=sl') (i:=i) hi (by rw[hi0];exact hstp (w.at d))
   have hsz:((gs.map (woken P g g' (w.at d))).setIfInBounds i g').size=gs.size:=by simp
   have hsum:ConcN.sumTo gs.size (ConcN.upd q i k)+(k+1)=ConcN.sumTo gs.size q+k:=by
    have:=ConcN.sumTo_upd q k id hlt
    simpa [hqi]using this
   refine .inr ⟨_,_,ConcN.sumTo gs.size (ConcN.upd q i k),hst.trans hrunT,by omega,_,fr,w.at d,sl',ConcN.upd q i k,rfl,?_,fun d'=>hE d',⟨fun j x hj hx=>?_,fun j hj=>?_⟩,hP.mute (by omega) hm,by rw[hsz]⟩
   ·have hne:i≠0:=by omega
    rw[Array.getElem?_setIfInBounds_ne hne,Array.getElem?_map,h0]
    simp[woken_run hrun]
   ·by_cases hji:i=j
    ·subst hji
     rw[Array.getElem?_setIfInBounds_self_of_lt (by simpa using hlt)]at hx
     obtain rfl:=Option.some.inj hx
     rw[ConcN.upd_same,Deaf_own]
     exact hq'
    ·rw[Array.getElem?_setIfInBounds_ne hji,Array.getElem?_map]at hx
     obtain⟨y,hy,rfl⟩:=Option.map_eq_some_iff.1 hx
     have hqj:=hL.old j y hj hy
     rw[woken_quitsD hqj,ConcN.upd_ne q k (Ne.symm hji),Deaf_other t hji _ (fun op hop=>by obtain⟨e,_,rfl⟩:=Conc.mem_ofEvents hop;rfl)]
     exact hqj
   ·rw[Deaf_other t (g':=i) (by simp at hj;omega) _ (fun op hop=>by obtain⟨e,_,rfl⟩:=Conc.mem_ofEvents hop;rfl)]
    exact hL.above j (by simpa using hj)
theorem Zkl {P:Program} {Post:Value→World→Prop} {St:Frame→List Frame→World→Prop} (hSt:∀fr cs w,St fr cs w→cs=[]∧EndAt P Post fr w) {m:Machine} {t:Trace} (h:Qy P St m t):
  ∃n last o w t'',runNT P (n+1) m t=(.ended o w,t'')∧runN P n m= .next last∧step P last= .ended o w∧Go.Conc.Good P Post last o w t'':=by
 obtain⟨N,gs,fr,cs,w,sl,t',q,h1,h2,h3,h4,h5⟩:=h
 obtain⟨rfl,hE⟩:=hSt _ _ _ h3
 exact Zij N m t _ t' h1 (run_of_inv Nat.lt_wfRel.wf (Zky P Post) (Go.Conc.Good P Post) ZoB _ _ _ ⟨gs,fr,w,sl,q,rfl,h2,hE,h4,h5,rfl⟩)
end Go.Proofs.YtjgpiclllehgmaaGreat.Conc1
namespace Go.Proofs.YtjgpiclllehgmaaGreat.Vm
open Go Go.Conc Go.Proofs Go.Proofs.YtjgpiclllehgmaaGreat.Conc1
open Go.ChangeShapes Go.WideShapes Go.ChangeAt Go.RowKit
def R1 (w:World):RC:=⟨w,1,0,fun _=>⟨0,0⟩,fun _=>0,fun _=>undef,fun b _ _=>b<w.heap.size,none⟩
theorem Zt9 (w:World):HR (fun _ _ _=>True) (R1 w) [.main]:=
 ⟨rfl,fun b o n=>⟨fun h=>⟨h,trivial,fun id blk hi=>by
  cases id with
  |zero=>cases hi;exact fun hp=>hp
  |succ id=>simp at hi⟩,fun h=>h.1⟩,fun id blk hi=>by
  cases id with
  |zero=>cases hi;exact rfl
  |succ id=>simp at hi,fun i j bi bj b hij hi hj hp=>by
  cases i with
  |zero=>cases hi;exact hp.elim
  |succ i=>simp at hi,fun _ _ _ _ _ _ _ _=>trivial,fun _ _ _ _=>trivial,fun id blk b hi hk=>by
  cases id with
  |zero=>cases hi;cases hk
  |succ id=>simp at hi,Nat.zero_le 1⟩
theorem Zt8 {w:World} {a:AV} {v:Value} (h:VR (R0 w) a v):VR (R1 w) a v:=h.mono ⟨Nat.zero_le 1,fun id hi=>absurd hi (Nat.not_lt_zero _),fun id hi=>absurd hi (Nat.not_lt_zero _),fun id hi=>absurd hi (Nat.not_lt_zero _),fun _ _ _ h=>h,fun _ _ _ _ _ _=>rfl,fun _ _ _ _ h=>h,rfl⟩
def Zua (W:World) (v:Value) (w:World):Prop:=v= .bool true∧w.os=W.os∧w.output=W.output∧W.heap.size≤w.heap.size∧∀k,k<W.heap.size→w.heap[k]? =W.heap[k]?
def Zlb (P:Program) (f:FuncId) (W:World) (fr:Frame) (cs:List Frame) (w:World):Prop:=
 cs=[]∧∃(b:FB) (t:Array Value) (todo:List Item) (fn:Func),fr={mkF b t [] todo with mode:=.returning}∧b.df=false∧b.fn=f∧P.funcs[f]? =some fn∧∃tp d v,(results fn t).run P (re w tp d)= .ok v (re w tp d)∧Zua W v w
def Zo0 (P:Program) (f:FuncId) (W:World):Fc→Prop
 |.one a=>Zlb P f W a.fr a.cs a.w
 |.two _ _ _ _=>False
theorem Zp9 {P:Program} {f:FuncId} {W:World} {fr:Frame} {cs:List Frame} {w:World} (hi:P.inits.idxOf? f=none) (h:Zlb P f W fr cs w∧w.tape=W.tape):cs=[]∧EndAt P (fun v w'=>v= .bool true∧Below W.heap.size W w') fr w:=by
 obtain⟨⟨rfl,b,t,todo,fn,rfl,hdf,hbf,hf,tp,d0,v,hr,hp⟩,ht⟩:=h
 refine⟨rfl,fun d=>?_⟩
 have h1:(results fn t).runT P (re w tp d0) #[]=(.ok v (re w tp d0),(results fn t).events P (re w tp d0) #[]):=by rw[Sem.runT_eq,hr]
 generalize (results fn t).events P (re w tp d0) #[]=es at h1
 have he:∀e∈es,Yc (fun _=>False) e:=fun e he=>(Zt.events P (fun _ h=>h) (results fn t) (fun _=>False) _ _ _ _ _ ZcO (fun _ h=>h.elim) h1 e he).elim (fun h=>by simp at h) id
 have h2:=(Zaz P (results fn t) _ _ _ _ _ h1 fun e h=>(he e h).out).2.2 w.tape d fun i hi=>by
  have hi:i<d0-d0:=hi
  omega
 have e2:re (re w tp d0) w.tape (d+((re w tp d0).drawn-(re w tp d0).drawn))=w.at d:=by
  rw[show d+((re w tp d0).drawn-(re w tp d0).drawn)=d by omega]
  rfl
 rw[e2]at h2
 have h2:(results fn t).runT P (w.at d) #[]=(.ok v (w.at d),es):=h2
 refine⟨v,seen P f es,?_,fun e hx=>he e (mem_seen hx),hp.1,hp.2.1,ht,hp.2.2.1,hp.2.2.2.1,hp.2.2.2.2⟩
 have hk:b.kind= .normal:=by simp[FB.kind,hdf]
 have h3:=congrArg Prod.fst h2
 have h4:=congrArg Prod.snd h2
 rw[Sem.runT_eq]at h3 h4
 simp only at h3 h4
 simp[G,stepG,unwind,doReturn,mkF,hk,hbf,hf,h3,h4,hi,GStep.after]
theorem Zlx {T:Fc→Fc→Prop} {Stop:Fc→Prop} (hT:∀a b,T a b→b.w.tape=a.w.tape) {tp0:Tape} {a:Fc} (h:Zb9 T Stop Fc.re (fun a=>a.w.tape) a):a.w.tape=tp0→Zb9 T (fun b=>Stop b∧b.w.tape=tp0) Fc.re (fun a=>a.w.tape) a:=by
 induction h with
 |stop h=>exact fun e=>.stop ⟨h,e⟩
 | @step a f h1 h2 ih=>
  refine fun e=>.step f h1 fun d=>ih d ?_
  rw[hT _ _ (h1 d)]
  have:(Fc.re a a.w.tape d).w.tape=a.w.tape:=by cases a<;>rfl
  rw[this]
  exact e
theorem Zlv:Xu #[]:=⟨fun said=>by rintro⟨i,j,_,⟨a,b,ha,_⟩,_⟩;simp[Trace.act?]at ha,fun i a ha=>by simp[touchAt,Trace.act?]at ha,rfl⟩
theorem Zqr {f:FuncId} {xs:List AV} {vs:Array Value} {W:World} (hi:Tryz.prog.inits.idxOf? f=none) (hx:∀t d,XZ (R1 (re W t d)) xs vs) (H:SC (fun _=>Tryz.prog) f xs [.main] fun r _=>r= .bool fun _=>true):
  ∃M last o w' t',runNT Tryz.prog (M+1) (solo (G (Frame.enter Tryz.prog f vs .normal) []) W) #[]=(.ended o w',t')∧runN Tryz.prog M (solo (G (Frame.enter Tryz.prog f vs .normal) []) W)= .next last∧step Tryz.prog last= .ended o w'∧Go.Conc.Good Tryz.prog (fun v w'=>v= .bool true∧Below W.heap.size W w') last o w' t':=by
 have hS:∀a t d,Zo0 Tryz.prog f W (Fc.re a t d)→Zo0 Tryz.prog f W a:=fun a t d h=>by
  cases a with
  |one a=>exact h
  |two _ _ _ _=>exact h
 have hm:Zb9 (T Tryz.prog (kf Tryz.prog)) (Zo0 Tryz.prog f W) Fc.re (fun a=>a.w.tape) (.one ⟨Frame.enter Tryz.prog f vs .normal,[],W⟩):=by
  refine Zhn (ZkS hS) fun t d=>?_
  obtain⟨v,R',r,h',⟨b,t',todo,fn,h1,h2,h3,h4,h5⟩,_,hext,_,hv,rfl⟩:=H.run (fun _ _ _=>True) (R1 (re W t d)) vs (Zt9 _) (hx t d) []
  refine⟨.one ⟨_,[],R'.w⟩,StepsC.main h1,rfl,b,t',todo,fn,rfl,h2,h5,by rw[←h5];exact h3,R'.w.tape,R'.w.drawn,v,h4,hv.bool_inv,hext.os,hext.output,hext.size,fun k hk=>hext.frame k hk fun id blk hid hp=>?_⟩
  cases id with
  |zero=>cases hid;exact hp
  |succ id=>simp at hid
 have hg:=Zgd (St:=fun fr cs w=>Zlb Tryz.prog f W fr cs w∧w.tape=W.tape) (fun a ha=>by
  cases a with
  |two _ _ _ _=>exact ha.1.elim
  |one a=>
   refine fun gs sl t q d h0 hL hP=>⟨0,gs,a.fr,a.cs,a.w.at d,sl,t,q,rfl,h0,⟨?_,ha.2⟩,hL,hP⟩
   exact ha.1) (Zlx (fun a b h=>(ZkS hS).tape h) hm rfl)
 have hc:Qy Tryz.prog (fun fr cs w=>Zlb Tryz.prog f W fr cs w∧w.tape=W.tape) (crowd #[G (Frame.enter Tryz.prog f vs .normal) []] W none) #[]:=hg #[G (Frame.enter Tryz.prog f vs .normal) []] none #[] (fun _=>0) W.drawn rfl (leavers_one _ _) Zlv
 exact Zkl (fun fr cs w h=>Zp9 hi h) hc
end Go.Proofs.YtjgpiclllehgmaaGreat.Vm
namespace Go.Proofs.YtjgpiclllehgmaaGreat.Sp
def Zp (f:Nat→Int):Nat→Nat→Int
 |_,0=>0
 |i,k+1=>if f i≠0 then f i else Zp f (i+1) k
def Q3 (zones:Int) (l:List Stop) (i:Nat):Int:=YP (l.take i) (l.getD i default) (decide (0<i)&&decide ((i:Int)<l.length-1)) zones
def YD (zones:Int) (l:List Stop):Int:=Zp (Q3 zones l) 0 l.length
def QL (zones:Int) (l:List Train) (i:Nat):Int:=
 if !Yx (l.getD i default).number 1 999 then 1 else if(l.take i).any (fun x=>decide (x.number=(l.getD i default).number))then 4 else if !Yx (l.getD i default).days 1 127 then 1
 else if ZJ (l.getD i default).stops.length 2 4≠0 then ZJ (l.getD i default).stops.length 2 4 else YD zones (l.getD i default).stops
def Qf (zones:Int) (l:List Train):Int:=if ZJ l.length 0 4≠0 then ZJ l.length 0 4 else Zp (QL zones l) 0 l.length
def Yw (b:XL):Int:=
 if ZJ b.zones.length 1 3≠0 then ZJ b.zones.length 1 3
 else if Zp (fun i=>Zu (b.zones.getD i default)) 0 b.zones.length≠0 then Zp (fun i=>Zu (b.zones.getD i default)) 0 b.zones.length
 else if Qf b.zones.length b.old≠0 then Qf b.zones.length b.old
 else if Qf b.zones.length b.new≠0 then Qf b.zones.length b.new
 else if !Yx b.last 0 13|| !Yx b.night 0 (b.last+1)then 1 else 0
def QT (b:XL) (day:Int):List Train:=if day<b.night then b.old else b.new
def Zbe (t:Train) (day:Int):Bool:=decide (t.days/2^(day%7).toNat%2=1)
def QQ (zs:List Zone) (day:Int) (many:Nat):Nat→Int→List Stop→List Call
 |_,_,[]=>[]
 |i,now,s::r=>
  if i=0 then
   let d:=if i+1<many then QW (ZP (zs.getD s.zone.toNat default)) (1440*day+s.depart) now else 0
   ⟨s.station,d,d⟩::QQ zs day many (i+1) d r
  else
   let a:=QW (ZP (zs.getD s.zone.toNat default)) (1440*day+s.arrive) now
   let d:=if i+1<many then QW (ZP (zs.getD s.zone.toNat default)) (1440*day+s.depart) a else a
   ⟨s.station,a,d⟩::QQ zs day many (i+1) d r
def calls (zs:List Zone) (t:Train) (day:Int):List Call:=QQ zs day t.stops.length 0 0 t.stops
def place (l:List Train) (number:Int):Int:=Zw (fun t=>decide (t.number=number)) 0 l
def J4 (b:XL) (number day:Int):List Call×Int:=
 if Yw b≠0 then([],Yw b)else if !Yx day 0 b.last then([],1)
 else if place (QT b day) number<0 then([],3)
 else if !Zbe ((QT b day).getD (place (QT b day) number).toNat default) day then([],11)
 else(calls b.zones ((QT b day).getD (place (QT b day) number).toNat default) day,0)
structure Qq where
 number:Int
 day:Int
deriving DecidableEq,Inhabited
structure Xo where
 feeder:Int
 train:Int
 station:Int
 minutes:Int
deriving DecidableEq,Inhabited
structure Qn where
 run:Int
 leg:Int
 by_:List Int
deriving DecidableEq,Inhabited
structure Ze where
 book:XL
 runs:List Qq
 waits:List Xo
 delays:List Qn
deriving Inhabited
structure Step where
 run:Int
 from_:Int
 to_:Int
deriving DecidableEq,Inhabited
structure Zq where
 from_:Int
 since:Int
 goal:Int
 steps:List Step
deriving DecidableEq,Inhabited
def ZM (l:List Call) (f st:Int):Int:=Zw (fun c=>decide (c.station=st)) (max 0 f) (l.drop (max 0 f).toNat)
def Qc (l:List Call) (st:Int):Int:=ZM l 1 st
def Z7 (l:List Call) (st:Int):Int:=if ZM l 0 st<(l.length:Int)-1 then ZM l 0 st else-1
def Xw (n lo hi:Int):Bool:= !Yx n lo hi
def JJ (yes no:Int):Int:=if no=0 then 1 else if yes=0 then 2 else 3
def Jg (l:List Call) (k:Nat):Int:=if(l.getD k default).arrive≤(l.getD (k-1) default).depart then 5 else 0
def Q5 (l:List Call):Int:=Zp (Jg l) 1 (l.length-1)
def Zaa (t:Ze) (r:Qq):List Call:=(J4 t.book r.number r.day).1
def JS (t:Ze) (i:Nat):Int:=
 if(J4 t.book (t.runs.getD i default).number (t.runs.getD i default).day).2≠0 then(J4 t.book (t.runs.getD i default).number (t.runs.getD i default).day).2
 else if Q5 (Zaa t (t.runs.getD i default))≠0 then 5
 else if(t.runs.take i).any (fun x=>decide (x=t.runs.getD i default))then 4 else 0
def QO (t:Ze):Int:=if t.runs.length=0 then 7 else if 4<t.runs.length then 6 else Zp (JS t) 0 t.runs.length
def callsOf (t:Ze):List (List Call):=t.runs.map (Zaa t)
def QA (c:List (List Call)) (w:Xo) (before:List Xo):Int:=
 if Xw w.feeder 0 (c.length-1)||Xw w.train 0 (c.length-1)then 3
 else if w.feeder=w.train then 4
 else if Qc (c.getD w.feeder.toNat []) w.station<0∨Z7 (c.getD w.train.toNat []) w.station<0 then 3
 else if Xw w.minutes 0 60 then 1
 else if((c.getD w.train.toNat []).getD (Z7 (c.getD w.train.toNat []) w.station).toNat default).depart<((c.getD w.feeder.toNat []).getD (Qc (c.getD w.feeder.toNat []) w.station).toNat default).arrive then 5
 else if before.any (fun x=>decide (x.feeder=w.feeder∧x.train=w.train∧x.station=w.station))then 4 else 0
def ZhV (l:List Int) (k:Nat):Int:=if Xw (l.getD k 0) 0 240 then 1 else if 0<k∧l.getD k 0≤l.getD (k-1) 0 then 5 else 0
def QY (c:List (List Call)) (d:Qn) (before:List Qn):Int:=
 if Xw d.run 0 (c.length-1)||Xw d.leg 0 ((c.getD d.run.toNat []).length-2)then 3
 else if d.by_.length=0 then 7
 else if 3<d.by_.length then 6
 else if Zp (ZhV d.by_) 0 d.by_.length≠0 then Zp (ZhV d.by_) 0 d.by_.length
 else if before.any (fun x=>decide (x.run=d.run∧x.leg=d.leg))then 4 else 0
def Zr (t:Ze):Int:=
 if Sp.Yw t.book≠0 then Sp.Yw t.book
 else if QO t≠0 then QO t
 else if 4<t.waits.length then 6
 else if Zp (fun i=>QA (callsOf t) (t.waits.getD i default) (t.waits.take i)) 0 t.waits.length≠0 then Zp (fun i=>QA (callsOf t) (t.waits.getD i default) (t.waits.take i)) 0 t.waits.length
 else if 6<t.delays.length then 6
 else Zp (fun i=>QY (callsOf t) (t.delays.getD i default) (t.delays.take i)) 0 t.delays.length
end Go.Proofs.YtjgpiclllehgmaaGreat.Sp
namespace Go.Proofs.YtjgpiclllehgmaaGreat.Vm
attribute [local irreducible] Dn
open Go Go.Proofs Sp
set_option maxRecDepth 100000
set_option maxHeartbeats 1600000
def Q0 (s:Stop):List AV:=[.int .i64 fun _=>s.station,.int .i64 fun _=>s.zone,.int .i64 fun _=>s.arrive,.int .i64 fun _=>s.depart]
def encTrain (t:Train):List AV:=[.int .i64 fun _=>t.number,.int .i64 fun _=>t.days,lst 4 Q0 default t.stops]
def encZone (z:Zone):List AV:=[.int .i64 fun _=>z.base,lst 2 ZbA default z.chs]
def Zc (b:XL):AV:=.agg [lst 2 encZone default b.zones,lst 3 encTrain default b.old,lst 3 encTrain default b.new,.int .i64 fun _=>b.night,.int .i64 fun _=>b.last]
theorem Zb7 {f:FuncId} {xs ys:List AV} {h:List Zi} {Post Q:AV→List Zi→Prop} {B:Prop} (H:SC (fun _=>Tryz.prog) f ys [] Q) (k:B) (t:SC (fun _=>Tryz.prog) f ys [] Q→HdW B→SC (fun _=>Tryz.prog) f xs h Post:=by intro hH hW;refine ZS hH (by first|rfl|(simp only[Zd,Zc,Za hnt];rfl)) fun r h₂ hp=>?_;(try simp only[Zd,Zc,Za hnt]at hp);obtain⟨rfl,rfl⟩:=hp;exact hW.out):SC (fun _=>Tryz.prog) f xs h Post:=t H ⟨k⟩
theorem ZaN {nt:(α:Type)→α→List α→Int→α} (hnt:∀(α:Type) (d:α) (l:List α) (i:Int),nt α d l i=l.getD i.toNat d) {α:Type} (enc:α→List AV) (d:α) (l:List α):Zdm enc d l=fun e=>enc (nt α d l (e ())):=by
 funext e;show enc (l.getD _ d)=_;rw[hnt]
theorem lit_nt {nt:(α:Type)→α→List α→Int→α} (hnt:∀(α:Type) (d:α) (l:List α) (i:Int),nt α d l i=l.getD i.toNat d) {α:Type} {n k sz:Nat} (enc:α→List AV) (d:α) (l:List α) (rows:List (List AV)) (hr:rows=l.map enc):
  ZD n k (.isl sz (fun _=>(rows.length:Int)) (fun e=>rows.getD (e ()).toNat (rows.headD [])) .exact) (.isl sz (fun _=>(l.length:Int)) (fun e=>enc (nt α d l (e ()))) .none):=by
 subst hr
 refine .none (by simp) fun i hi=>?_
 have hi:i<l.length:=by simpa using hi
 show(l.map enc).getD i _=enc (nt α d l (i:Int))
 rw[hnt]
 simp[List.getD_eq_getElem?_getD,List.getElem?_eq_getElem hi]
theorem ZsB (l:List Nat) {f:FuncId} {xs ys:List AV} {h hc:List Zi} {Post Q:AV→List Zi→Prop} (H:SC (fun _=>Tryz.prog) f ys hc Q) (hto:To xs h ys h) (hnd:l.Nodup) (hlt:∀i∈l,i<h.length) (hx:ys.map (Qs false l h 5)=ys) (hh:sel false l h=hc) (hq:∀r h₂,Q r h₂→Post (ren (YK l h.length) 5 r) (back l h h₂)):SC (fun _=>Tryz.prog) f xs h Post:=
 SC.to hto (ZH l H hnd hlt hx hh hq)
theorem ZaT (a b:Int):(a==b)=decide (a=b):=by by_cases h:a=b<;>simp[h]
theorem c78 (n a b:Int):SC (fun _=>Tryz.prog) 172 [.int .i64 fun _=>n,.int .i64 fun _=>a,.int .i64 fun _=>b] [] fun r h=>r= .int .i64 (fun _=>ZJ n a b)∧h=[]:=by
 refine QP Tryz.func172 (body:=Zk Tryz.f172) rfl (by decide+kernel) ?_
 refine wS ?_
 unfold ZJ
 refine⟨fun hb=>?_,fun hb=>?_⟩
 ·simp only[decide_eq_true_eq]at hb
  refine vS ?_
  refine⟨?_,trivial⟩
  congr 1;funext _;rw[if_pos hb]
 ·simp only[decide_eq_false_iff_not]at hb
  refine vS ?_
  refine⟨fun hb'=>?_,fun hb'=>?_⟩
  ·simp only[decide_eq_true_eq]at hb'
   refine vS ?_
   refine⟨?_,trivial⟩
   congr 1;funext _;rw[if_neg hb,if_pos hb']
  ·simp only[decide_eq_false_iff_not]at hb'
   refine vS ?_
   refine⟨?_,trivial⟩
   congr 1;funext _;rw[if_neg hb,if_neg hb']
theorem Zu9 (x s:Stop):SC (fun _=>Tryz.prog) 197 [.agg (Q0 x),.ptr 0 0] [.cells (Q0 s)] fun v h=>v= .bool (fun _=>decide (x.station=s.station))∧h=[.cells (Q0 s)]:=by
 refine QP Tryz.func197 (body:=Zk Tryz.f197) rfl (by decide+kernel) ?_
 refine wS ?_
 exact⟨by simp only[ZaT],trivial⟩
theorem cL0 (l:List Nat) {f:FuncId} {xs ys:List AV} {h hc:List Zi} {Post Q:AV→List Zi→Prop} (H:SC (fun _=>Tryz.prog) f ys hc Q) (hq:∀ r h₂,Q r h₂→Post (ren (YK l h.length) 5 r) (back l h h₂)) (hn:l.Nodup:=by decide) (hl:∀ i∈l,i<h.length:=by simp) (hx:xs.map (Qs false l h 5)=ys:=by first|rfl|(simp only[Zd,Zc,Za hnt];rfl)) (hh:sel false l h=hc:=by first|rfl|(simp only[Zd,Zc,Za hnt];rfl)):SC (fun _=>Tryz.prog) f xs h Post:=ZH l H hn hl hx hh hq
theorem Zu8 (l:List Stop) (s:Stop) (hl:l.length≤1000000):SC (fun _=>Tryz.prog) 199 [lst 4 Q0 default l,.fn 197 [] [.ptr 0 0]] [.cells (Q0 s)] fun v h=>v= .int .i64 (fun _=>Zw (fun x=>decide (x.station=s.station)) 0 l)∧h=[.cells (Q0 s)]:=by
 obtain⟨nt,hnt⟩:=Zs
 rw[Za hnt]
 refine QP Tryz.func199 (body:=Zk Tryz.f199) rfl (by decide+kernel) ?_
 refine wS ?_
 refine ZV false false [] [0,1,7,8] [] (fun(i:Nat)=>[(8,.int .i64 fun _=>i)]) (fun _=>[]) (fun i=>i≤l.length∧Zw (fun x=>decide (x.station=s.station)) 0 l=Zw (fun x=>decide (x.station=s.station)) i (l.drop i)) (fun i=>l.length-i+0) 0 ⟨Nat.zero_le _,by simp⟩ ?_ ?_
 ·exact ZI
 rintro i ⟨hi,hp⟩
 refine wS ?_
 refine⟨fun hb=>?_,fun hb=>?_⟩
 ·simp only[decide_eq_true_eq]at hb
  have hd:=Qu (d:=default) hnt (l:=l) (i:=i) (by omega)
  rw[hd,Zw]at hp
  refine wS ?_
  refine cL0 [0] (Zu9 (nt Stop default l i) s) fun r h₂ hp=>?_
  (try simp only[Zd,Zc,Za hnt]at hp)
  obtain⟨rfl,rfl⟩:=hp
  refine vS ?_
  refine⟨fun hb'=>?_,fun hb'=>?_⟩
  ·rw[if_pos hb']at hp
   refine wS ?_
   exact⟨by rw[hp],trivial⟩
  ·rw[if_neg (by rw[hb'];exact Bool.false_ne_true)]at hp
   refine wS ?_
   refine⟨i+1,⟨by omega,hp⟩,by show l.length-(i+1)+0<l.length-i+0;omega,?_⟩
   exact ZI
 ·simp only[decide_eq_false_iff_not]at hb
  rw[List.drop_eq_nil_of_le (by omega),Zw]at hp
  refine wS ?_
  exact⟨by rw[hp],trivial⟩
theorem JW {α:Type} (q:α→Bool):∀(l:List α) (i:Int),0≤i→decide (0≤Zw q i l)=l.any q
 |[],i,h=>by simp[Zw]
 |a::l,i,h=>by
  simp only[Zw,List.any_cons]
  by_cases hq:q a=true
  ·simp[hq,h]
  ·have hq:q a=false:=by simpa using hq
   simp only[hq,Bool.false_eq_true,if_false,Bool.false_or]
   exact JW q l (i+1) (by omega)
theorem Zva (l:List Stop) (s:Stop) (hl:l.length≤1000000):SC (fun _=>Tryz.prog) 196 [lst 4 Q0 default l,.fn 197 [] [.ptr 0 0]] [.cells (Q0 s)] fun v h=>v= .bool (fun _=>l.any fun x=>decide (x.station=s.station))∧h=[.cells (Q0 s)]:=by
 obtain⟨nt,hnt⟩:=Zs
 rw[Za hnt]
 refine QP Tryz.func196 (body:=Zk Tryz.f196) rfl (by decide+kernel) ?_
 refine wS ?_
 refine cL0 [0] (Zu8 l s hl) fun r h₂ hp=>?_
 (try simp only[Zd,Zc,Za hnt]at hp)
 obtain⟨rfl,rfl⟩:=hp
 refine wS ?_
 refine⟨?_,trivial⟩
 congr 1;funext _;exact JW _ l 0 (by omega)
theorem take_nt {nt:(α:Type)→α→List α→Int→α} (hnt:∀(α:Type) (d:α) (l:List α) (i:Int),nt α d l i=l.getD i.toNat d) {α:Type} {n k sz:Nat} {enc:α→List AV} {d:α} {l:List α} {i:Nat} (hi:i≤l.length) {tk:Tk}:
  ZD n k (.isl sz (fun _=>(i:Int)) (fun e=>enc (nt α d l (e ()))) tk) (.isl sz (fun _=>((l.take i).length:Int)) (fun e=>enc (nt α d (l.take i) (e ()))) .none):=
 .none (by simp;omega) fun j hj=>by
  have hj:j<i:=by omega
  show enc (nt α d l (j:Int))=enc (nt α d (l.take i) (j:Int))
  rw[hnt,hnt]
  simp[List.getD_eq_getElem?_getD,List.getElem?_take,hj]
theorem Zvb (l:List Stop) (i:Nat) (zones:Int) (hi:i<l.length) (hl:l.length≤1000000) (hz:0≤zones∧zones≤1000000):SC (fun _=>Tryz.prog) 191 [lst 4 Q0 default l,.int .i64 fun _=>(i:Int),.int .i64 fun _=>zones] [] fun v h=>v= .int .i64 (fun _=>Q3 zones l i)∧h=[]:=by
 obtain⟨nt,hnt⟩:=Zs
 rw[Za hnt]
 refine QP Tryz.func191 (body:=Zk Tryz.f191) rfl (by decide+kernel) ?_
 have hsp:Q3 zones l i=YP (l.take i) (nt Stop default l i) (decide (0<i)&&decide ((i:Int)<l.length-1)) zones:=by unfold Q3;rw[hnt];rfl
 rw[hsp]
 unfold YP
 refine wS ?_
 generalize nt Stop default l i=s at*
 refine Zb7 (c67 s.station 0 9) ?_
 refine vS ?_
 refine⟨fun hb=>?_,fun hb=>?_⟩
 ·rw[if_pos hb]
  (cbv;(try simp only[nc]at*);(try refine Chk.mk (Qa) ?_))
  (try first|exact⟨rfl,trivial⟩|exact⟨trivial,trivial⟩)
 rw[if_neg (by rw[hb];exact Bool.false_ne_true)]
 refine wS ?_
 have hin:∀lo hi:Int,(!Yx s.zone lo hi)=(!Yx s.zone lo hi):=fun _ _=>rfl
 refine ZsB [0] (Zva (l.take i) s (by simp;omega)) (by(try simp only[Zd,Zc,Za hnt]);exact ZI) (by decide) (by simp) (by first|rfl|(simp only[Zd,Zc,Za hnt];rfl)) rfl fun r h₂ hp=>?_
 (try simp only[Zd,Zc,Za hnt]at hp)
 obtain⟨rfl,rfl⟩:=hp
 refine vS ?_
 refine⟨fun hb=>?_,fun hb=>?_⟩
 ·rw[if_pos hb]
  (cbv;(try simp only[nc]at*);(try refine Chk.mk (Qa) ?_))
  (try first|exact⟨rfl,trivial⟩|exact⟨trivial,trivial⟩)
 rw[if_neg (by rw[hb];exact Bool.false_ne_true)]
 refine wS ?_
 refine Zb7 (c67 s.zone 0 (zones-1)) ?_
 refine vS ?_
 refine⟨fun hb=>?_,fun hb=>?_⟩
 ·rw[if_pos hb]
  (cbv;(try simp only[nc]at*);(try refine Chk.mk (Qa) ?_))
  (try first|exact⟨rfl,trivial⟩|exact⟨trivial,trivial⟩)
 rw[if_neg (by rw[hb];exact Bool.false_ne_true)]
 refine wS ?_
 refine Zb7 (c67 s.arrive 0 4319) ?_
 refine vS ?_
 refine⟨fun hb=>?_,fun hb=>?_⟩
 ·rw[if_pos (by simp[hb])]
  refine wS ?_
  refine Br.isT hb ?_
  (cbv;(try simp only[nc]at*);(try refine Chk.mk (Qa) ?_))
  (try first|exact⟨rfl,trivial⟩|exact⟨trivial,trivial⟩)
 refine wS ?_
 refine Zb7 (c67 s.depart 0 4319) ?_
 refine vS ?_
 refine⟨fun hb'=>?_,fun hb'=>?_⟩
 ·rw[if_pos (by simp[hb'])]
  (cbv;(try simp only[nc]at*);(try refine Chk.mk (Qa) ?_))
  (try first|exact⟨rfl,trivial⟩|exact⟨trivial,trivial⟩)
 rw[if_neg (by simp[hb,hb'])]
 refine wS ?_
 have he:(decide (0<i)&&decide ((i:Int)<l.length-1)&&decide (s.depart<s.arrive))=(bif bif decide (0<(i:Int))then decide ((i:Int)<(l.length:Int)-1)else false then decide (s.depart<s.arrive)else false):=by
  rw[show decide (0<i)=decide (0<(i:Int))from by rw[Bool.eq_iff_iff];simp]
  cases decide (0<(i:Int))<;>cases decide ((i:Int)<(l.length:Int)-1)<;>rfl
 rw[he]
 refine⟨fun hb=>?_,fun hb=>?_⟩
 ·rw[if_pos hb]
  (cbv;(try simp only[nc]at*);(try refine Chk.mk (Qa) ?_))
  (try first|exact⟨rfl,trivial⟩|exact⟨trivial,trivial⟩)
 ·rw[if_neg (by rw[hb];exact Bool.false_ne_true)]
  (cbv;(try simp only[nc]at*);(try refine Chk.mk (Qa) ?_))
  (try first|exact⟨rfl,trivial⟩|exact⟨trivial,trivial⟩)
theorem c80 (l:List Train) (zones:Int) (hz:0≤zones∧zones≤1000000) (hl:l.length≤1000000) (hs:∀t∈l,t.stops.length≤1000000):SC (fun _=>Tryz.prog) 174 [lst 3 encTrain default l,.int .i64 fun _=>zones] [] fun v h=>v= .int .i64 (fun _=>Qf zones l)∧h=[]:=by
 obtain⟨nt,hnt⟩:=Zs
 rw[Za hnt]
 refine QP Tryz.func174 (body:=Zk Tryz.f174) rfl (by decide+kernel) ?_
 unfold Qf
 refine wS ?_
 refine Zb7 (c78 (l.length:Int) 0 4) ?_
 generalize ZJ l.length 0 4=e at*
 refine vS ?_
 refine⟨fun hb=>?_,fun hb=>?_⟩
 ·simp only[bne_iff_ne,ne_eq]at hb
  rw[if_pos hb]
  (cbv;(try simp only[nc]at*);(try refine Chk.mk (Qa) ?_))
  (try first|exact⟨rfl,trivial⟩|exact⟨trivial,trivial⟩)
 simp only[bne_eq_false_iff_eq]at hb
 subst hb
 rw[if_neg (fun h=>h rfl)]
 refine wS ?_
 refine ZV false false [] [1,6,19,20,21] [] (fun(i:Nat)=>[(21,.int .i64 fun _=>i)]) (fun i=>[(0,.mapB fun e _=>(l.take i).any fun x=>decide (x.number=e ()))])
  (fun i=>i≤l.length∧Zp (QL zones l) 0 l.length=Zp (QL zones l) i (l.length-i)) (fun i=>l.length-i+0) 0 ⟨Nat.zero_le _,by simp⟩ ?_ ?_
 ·exact ZI
 rintro i ⟨hi,hp⟩
 refine wS ?_
 refine⟨fun hb=>?_,fun hb=>?_⟩
 ·simp only[decide_eq_true_eq]at hb
  obtain⟨q,hq⟩:∃q,l.length-i=q+1:=⟨l.length-i-1,by omega⟩
  rw[hq,Zp]at hp
  have htake:=Zex (d:=default) hnt (l:=l) (i:=i) (by omega)
  have hst:=hs _ (XF (d:=default) hnt (l:=l) (i:=i) (by omega))
  have hct:QL zones l i=if !Yx (nt Train default l i).number 1 999 then 1 else if(l.take i).any (fun x=>decide (x.number=(nt Train default l i).number))then 4 else if !Yx (nt Train default l i).days 1 127 then 1
   else if ZJ (nt Train default l i).stops.length 2 4≠0 then ZJ (nt Train default l i).stops.length 2 4 else YD zones (nt Train default l i).stops:=by unfold QL;rw[hnt];rfl
  refine wS ?_
  generalize nt Train default l i=t at*
  refine Zb7 (c67 t.number 1 999) ?_
  refine vS ?_
  refine⟨fun hb=>?_,fun hb=>?_⟩
  ·rw[if_pos hb]at hct
   rw[hct,if_pos (by decide)]at hp
   refine wS ?_
   rw[hp]
   (try first|exact⟨rfl,trivial⟩|exact⟨trivial,trivial⟩)
  rw[if_neg (by rw[hb];exact Bool.false_ne_true)]at hct
  refine vS ?_
  refine⟨fun hb=>?_,fun hb=>?_⟩
  ·rw[if_pos hb]at hct
   rw[hct,if_pos (by decide)]at hp
   refine wS ?_
   rw[hp]
   (try first|exact⟨rfl,trivial⟩|exact⟨trivial,trivial⟩)
  rw[if_neg (by rw[hb];exact Bool.false_ne_true)]at hct
  refine vS ?_
  refine Zb7 (c67 t.days 1 127) ?_
  refine vS ?_
  refine⟨fun hb=>?_,fun hb=>?_⟩
  ·rw[if_pos hb]at hct
   rw[hct,if_pos (by decide)]at hp
   refine wS ?_
   rw[hp]
   (try first|exact⟨rfl,trivial⟩|exact⟨trivial,trivial⟩)
  rw[if_neg (by rw[hb];exact Bool.false_ne_true)]at hct
  refine vS ?_
  refine Zb7 (c78 (t.stops.length:Int) 2 4) ?_
  generalize ZJ t.stops.length 2 4=e at*
  refine vS ?_
  refine⟨fun hb=>?_,fun hb=>?_⟩
  ·simp only[bne_iff_ne,ne_eq]at hb
   rw[if_pos hb]at hct
   rw[hct,if_pos hb]at hp
   refine wS ?_
   rw[hp]
   (try first|exact⟨rfl,trivial⟩|exact⟨trivial,trivial⟩)
  simp only[bne_eq_false_iff_eq]at hb
  subst hb
  rw[if_neg (fun h=>h rfl)]at hct
  refine wS ?_
  refine Zai fun Q hQ=>?_
  refine ZV false false [] [1,6,8,19,20,21,52,53] [] (fun(j:Nat)=>[(53,.int .i64 fun _=>j)]) (fun _=>[])
   (fun j=>j≤t.stops.length∧YD zones t.stops=Zp (Q3 zones t.stops) j (t.stops.length-j)) (fun j=>t.stops.length-j+0) 0 ⟨Nat.zero_le _,by simp[YD]⟩ ?_ ?_
  ·exact ZI
  rintro j ⟨hj,hpj⟩
  refine wS ?_
  refine⟨fun hb=>?_,fun hb=>?_⟩
  ·simp only[decide_eq_true_eq]at hb
   obtain⟨q',hq'⟩:∃q,t.stops.length-j=q+1:=⟨t.stops.length-j-1,by omega⟩
   rw[hq',Zp]at hpj
   refine wS ?_
   refine Zb7 (Zvb t.stops j zones (by omega) hst hz) ?_
   generalize Q3 zones t.stops j=e at*
   refine vS ?_
   refine⟨fun hb=>?_,fun hb=>?_⟩
   ·simp only[bne_iff_ne,ne_eq]at hb
    rw[if_pos hb]at hpj
    rw[hct,hpj,if_pos hb]at hp
    refine wS ?_
    refine hQ _ _ _ ?_
    refine wS ?_
    rw[hp]
    (try first|exact⟨rfl,trivial⟩|exact⟨trivial,trivial⟩)
   ·simp only[bne_eq_false_iff_eq]at hb
    rw[if_neg (fun h=>h hb)]at hpj
    refine wS ?_
    refine⟨j+1,⟨by omega,by rw[hpj];congr 1;omega⟩,by show t.stops.length-(j+1)+0<t.stops.length-j+0;omega,?_⟩
    exact ZI
  ·simp only[decide_eq_false_iff_not]at hb
   rw[show t.stops.length-j=0 by omega,Zp]at hpj
   rw[hct,hpj,if_neg (fun h=>h rfl)]at hp
   refine wS ?_
   refine hQ _ _ _ ?_
   refine wS ?_
   refine⟨i+1,⟨by omega,by rw[hp];congr 1;omega⟩,by show l.length-(i+1)+0<l.length-i+0;omega,?_⟩
   refine toR ?_
   exact .map fun x=>by
    rw[htake,List.any_append]
    show(if x=t.number then true else(l.take i).any fun y=>decide (y.number=x))=_
    by_cases hx:x=t.number
    ·simp[hx]
    ·rw[if_neg hx]
     simp[Ne.symm hx]
 ·simp only[decide_eq_false_iff_not]at hb
  rw[show l.length-i=0 by omega,Zp]at hp
  refine wS ?_
  rw[hp]
  (try first|exact⟨rfl,trivial⟩|exact⟨trivial,trivial⟩)
structure YG (b:XL):Prop where
 zones:b.zones.length≤1000000
 old:b.old.length≤1000000
 new:b.new.length≤1000000
 chs:∀z∈b.zones,z.chs.length≤1000000
 stops:(∀t∈b.old,t.stops.length≤1000000)∧∀t∈b.new,t.stops.length≤1000000
theorem c28 (b:XL) (hb:YG b):SC (fun _=>Tryz.prog) 131 [Zc b] [] fun v h=>v= .int .i64 (fun _=>Yw b)∧h=[]:=by
 obtain⟨nt,hnt⟩:=Zs
 unfold Zc Yw
 simp only[Za hnt]
 obtain⟨hz,ho,hn,hc,hs⟩:=hb
 refine QP Tryz.func131 (body:=Zk Tryz.f131) rfl (by decide+kernel) ?_
 refine wS ?_
 refine Zb7 (c78 (b.zones.length:Int) 1 3) ?_
 generalize ZJ b.zones.length 1 3=e at*
 refine vS ?_
 refine⟨fun hb=>?_,fun hb=>?_⟩
 ·simp only[bne_iff_ne,ne_eq]at hb
  rw[if_pos hb]
  (cbv;(try simp only[nc]at*);(try refine Chk.mk (Qa) ?_))
  (try first|exact⟨rfl,trivial⟩|exact⟨trivial,trivial⟩)
 simp only[bne_eq_false_iff_eq]at hb
 subst hb
 rw[if_neg (fun h=>h rfl)]
 refine wS ?_
 refine Zai fun Q hQ=>?_
 refine ZV false false [] [1,18,19,20] [] (fun(i:Nat)=>[(20,.int .i64 fun _=>i)]) (fun _=>[])
  (fun i=>i≤b.zones.length∧Zp (fun i=>Zu (b.zones.getD i default)) 0 b.zones.length=Zp (fun i=>Zu (b.zones.getD i default)) i (b.zones.length-i)) (fun i=>b.zones.length-i+0) 0 ⟨Nat.zero_le _,by simp⟩ ?_ ?_
 ·exact ZI
 rintro i ⟨hi,hp⟩
 refine wS ?_
 refine⟨fun hb=>?_,fun hb=>?_⟩
 ·simp only[decide_eq_true_eq]at hb
  obtain⟨q,hq⟩:∃q,b.zones.length-i=q+1:=⟨b.zones.length-i-1,by omega⟩
  rw[hq,Zp]at hp
  have hch:=hc _ (XF (d:=default) hnt (l:=b.zones) (i:=i) (by omega))
  have hz:b.zones.getD i default=nt Zone default b.zones i:=by rw[hnt];rfl
  rw[hz]at hp
  refine wS ?_
  generalize nt Zone default b.zones i=z at*
  refine Zb7 (c79 z hch) ?_
  generalize Zu z=e at*
  refine vS ?_
  refine⟨fun hb=>?_,fun hb=>?_⟩
  ·simp only[bne_iff_ne,ne_eq]at hb
   rw[if_pos hb]at hp
   rw[hp,if_pos hb]at hQ
   refine wS ?_
   refine hQ _ _ _ ?_
   (cbv;(try simp only[nc]at*);(try refine Chk.mk (Qa) ?_))
   (try first|exact⟨rfl,trivial⟩|exact⟨trivial,trivial⟩)
  ·simp only[bne_eq_false_iff_eq]at hb
   rw[if_neg (fun h=>h hb)]at hp
   refine wS ?_
   refine⟨i+1,⟨by omega,by rw[hp];congr 1;omega⟩,by show b.zones.length-(i+1)+0<b.zones.length-i+0;omega,?_⟩
   exact ZI
 ·simp only[decide_eq_false_iff_not]at hb
  rw[show b.zones.length-i=0 by omega,Zp]at hp
  rw[hp,if_neg (fun h=>h rfl)]at hQ
  refine wS ?_
  refine hQ _ _ _ ?_
  clear hQ
  refine wS ?_
  refine Zai fun Q hQ=>?_
  refine ZV false false [] [1,34,35,36] [] (fun(i:Nat)=>[(36,.int .i64 fun _=>i)]) (fun _=>[])
   (fun i=>i=0∨(i=1∧Qf b.zones.length b.old=0)∨(i=2∧Qf b.zones.length b.old=0∧Qf b.zones.length b.new=0)) (fun i=>3-i+0) 0 (.inl rfl) ?_ ?_
  ·exact ZI
  rintro i hi
  rcases hi with rfl|⟨rfl,h1⟩|⟨rfl,h1,h2⟩
  ·refine wS ?_
   refine Br.isT (by simp) ?_
   refine wS ?_
   refine Zb7 (c80 b.old (b.zones.length:Int) (by omega) ho hs.1) ?_
   generalize Qf b.zones.length b.old=e at*
   refine vS ?_
   refine⟨fun hb=>?_,fun hb=>?_⟩
   ·simp only[bne_iff_ne,ne_eq]at hb
    rw[if_pos hb]at hQ
    refine wS ?_
    refine hQ _ _ _ ?_
    (cbv;(try simp only[nc]at*);(try refine Chk.mk (Qa) ?_))
    (try first|exact⟨rfl,trivial⟩|exact⟨trivial,trivial⟩)
   ·simp only[bne_eq_false_iff_eq]at hb
    refine wS ?_
    refine⟨1,.inr (.inl ⟨rfl,hb⟩),by decide,?_⟩
    exact ZI
  ·refine wS ?_
   refine Br.isT (by simp) ?_
   refine wS ?_
   refine Zb7 (c80 b.new (b.zones.length:Int) (by omega) hn hs.2) ?_
   rw[if_neg (fun h=>h h1)]at hQ
   generalize Qf b.zones.length b.new=e at*
   refine vS ?_
   refine⟨fun hb=>?_,fun hb=>?_⟩
   ·simp only[bne_iff_ne,ne_eq]at hb
    rw[if_pos hb]at hQ
    refine wS ?_
    refine hQ _ _ _ ?_
    (cbv;(try simp only[nc]at*);(try refine Chk.mk (Qa) ?_))
    (try first|exact⟨rfl,trivial⟩|exact⟨trivial,trivial⟩)
   ·simp only[bne_eq_false_iff_eq]at hb
    refine wS ?_
    refine⟨2,.inr (.inr ⟨rfl,h1,hb⟩),by decide,?_⟩
    exact ZI
  ·rw[if_neg (fun h=>h h1),if_neg (fun h=>h h2)]at hQ
   refine wS ?_
   refine Br.isF (by simp) ?_
   refine wS ?_
   refine hQ _ _ _ ?_
   clear hQ
   refine wS ?_
   have k67:=c67 b.last 0 13
   rcases hI:Yx b.last 0 13 with _|_
   ·rw[hI]at k67
    simp only[Bool.not_false,Bool.true_or,if_true]
    refine Zb7 (k67) ?_
    refine vS ?_
    refine Chk.mk (by simp[QK,QI,QJ,Cn.p]) ?_
    refine Br.isF (by rfl) ?_
    refine wS ?_
    refine Br.isT (by rfl) ?_
    (cbv;(try simp only[nc]at*);(try refine Chk.mk (Qa) ?_))
    (try first|exact⟨rfl,trivial⟩|exact⟨trivial,trivial⟩)
   ·have hlast:0≤b.last∧b.last≤13:=by simpa [Yx]using hI
    rw[hI]at k67
    simp only[Bool.not_true,Bool.false_or]
    refine Zb7 (k67) ?_
    refine wS ?_
    refine Br.isT (by rfl) ?_
    refine wS ?_
    refine Zb7 (c67 b.night 0 (b.last+1)) ?_
    refine wS ?_
    refine⟨fun hb'=>?_,fun hb'=>?_⟩
    ·have hb':Yx b.night 0 (b.last+1)=false:=by simpa using hb'
     refine wS ?_
     simp[hb']
    ·have hb':Yx b.night 0 (b.last+1)=true:=by simpa using hb'
     refine wS ?_
     simp[hb']
end Go.Proofs.YtjgpiclllehgmaaGreat.Vm
namespace Go.Proofs.YtjgpiclllehgmaaGreat.Vm
open Sp
def Asc:Int→List Chg→Prop
 |_,[]=>True
 |lo,c::r=>lo≤c.at_∧Asc (c.at_+1) r
def af:Int→List Chg→Int→Int
 |a,[],_=>a
 |a,c::r,k=>if c.at_≤k then af (a+c.by_) r k else a
theorem ZbD {z:Zone} (h:Zu z=0):Asc 0 z.chs∧(∀c∈z.chs,0≤c.at_∧c.at_≤43200∧-180≤c.by_∧c.by_≤180)∧z.chs.length≤3∧-720≤z.base∧z.base≤720:=by
 unfold Zu at h
 split at h
 ·cases h
 rename_i h1
 split at h
 ·cases h
 rename_i h2
 have key:∀(l:List Chg) (p:Option Int),YO p l=0→(Asc (match p with|none=>0|some a=>a+1) l)∧∀c∈l,0≤c.at_∧c.at_≤43200∧-180≤c.by_∧c.by_≤180:=by
  intro l
  induction l with
  |nil=>intro p _;exact⟨trivial,fun c hc=>by cases hc⟩
  |cons a l ih=>
   intro p hp
   rw[Yu]at hp
   split at hp
   ·cases hp
   rename_i g1
   split at hp
   ·cases hp
   rename_i g2
   split at hp
   ·cases hp
   rename_i g3
   simp[Yx]at g1 g3
   obtain⟨i1,i2⟩:=ih _ hp
   refine⟨⟨?_,i1⟩,fun c hc=>?_⟩
   ·cases p with
    |none=>simp only;omega
    |some q=>simp[leP]at g2;simp only;omega
   ·rcases List.mem_cons.1 hc with rfl|hc
    ·omega
    ·exact i2 c hc
 obtain⟨k1,k2⟩:=key _ _ h
 simp[Yx]at h1
 exact⟨k1,k2,by omega,by omega,by omega⟩
attribute [local irreducible] Dn
open Go Go.Proofs Sp
set_option maxRecDepth 100000
set_option maxHeartbeats 1600000
def Zuu (z:Zone):AV:=.agg [.int .i64 fun _=>z.base,.int .i64 fun _=>(z.chs.length:Int),
 .int .i64 fun _=>(z.chs.getD 0 default).at_,.int .i64 fun _=>(z.chs.getD 0 default).by_,.int .i64 fun _=>(z.chs.getD 1 default).at_,.int .i64 fun _=>(z.chs.getD 1 default).by_,.int .i64 fun _=>(z.chs.getD 2 default).at_,.int .i64 fun _=>(z.chs.getD 2 default).by_]
theorem c73 (b:XL) (day:Int):SC (fun _=>Tryz.prog) 145 [Zc b,.int .i64 fun _=>day] [] fun v h=>v=lst 3 encTrain default (QT b day)∧h=[]:=by
 refine QP Tryz.func145 (body:=Zk Tryz.f145) rfl (by decide+kernel) ?_
 unfold Zc QT
 refine wS ?_
 refine⟨fun hb=>?_,fun hb=>?_⟩
 ·simp only[decide_eq_true_eq]at hb
  rw[if_pos hb]
  (cbv;(try simp only[nc]at*);(try refine Chk.mk (Qa) ?_))
  (try first|exact⟨rfl,trivial⟩|exact⟨trivial,trivial⟩)
 ·simp only[decide_eq_false_iff_not]at hb
  rw[if_neg hb]
  (cbv;(try simp only[nc]at*);(try refine Chk.mk (Qa) ?_))
  (try first|exact⟨rfl,trivial⟩|exact⟨trivial,trivial⟩)
theorem Zk7 (n:Int) (h:0≤n) (h2:n≤1000000000):IntKind.i64.wrap ((BitVec.ofInt IntKind.i64.bits n&&&BitVec.ofInt IntKind.i64.bits 1).toNat:Int)=n%2:=by
 have e:(BitVec.ofInt IntKind.i64.bits n&&&BitVec.ofInt IntKind.i64.bits 1).toNat=n.toNat%2:=by
  rw[BitVec.toNat_and,BitVec.toNat_ofInt,BitVec.toNat_ofInt]
  show(n%((2^ 64:Nat):Int)).toNat&&&(1%((2^ 64:Nat):Int)).toNat=_
  rw[show(1%((2^ 64:Nat):Int)).toNat=1 from rfl,Nat.and_one_is_mod,show n%((2^ 64:Nat):Int)=n from Int.emod_eq_of_lt h (by omega)]
 rw[e]
 have:((n.toNat%2:Nat):Int)=n%2:=by omega
 rw[this]
 simp only[IntKind.wrap,IntKind.signed,IntKind.bits]
 simp
 omega
theorem c76 (t:Train) (day:Int) (hd:0≤day∧day≤1000000) (ht:0≤t.days∧t.days≤1000000):SC (fun _=>Tryz.prog) 148 [.agg (encTrain t),.int .i64 fun _=>day] [] fun v h=>v= .bool (fun _=>Zbe t day)∧h=[]:=by
 refine QP Tryz.func148 (body:=Zk Tryz.f148) rfl (by decide+kernel) ?_
 have e:=(ZqW day 7).1 hd.1
 refine vS ?_
 rw[e]
 refine Chk.mk (Qa) ?_
 refine vS ?_
 refine⟨?_,trivial⟩
 congr 1;funext _
 rw[Nat.min_eq_left (show(day%7).toNat≤IntKind.i64.bits by show _≤64;omega),Int.fdiv_eq_ediv_of_nonneg _ (Int.le_of_lt (Int.pow_pos (by omega)))]
 have hq:0≤t.days/2^(day%7).toNat:=Int.ediv_nonneg ht.1 (Int.le_of_lt (Int.pow_pos (by omega)))
 have hle:t.days/2^(day%7).toNat≤t.days:=Int.ediv_le_self _ ht.1
 unfold Zbe
 generalize t.days/2^(day%7).toNat=q at*
 rw[Zk7 q hq (by omega),ZaT]
theorem Ztt {nt:(α:Type)→α→List α→Int→α} (hnt:∀(α:Type) (d:α) (l:List α) (i:Int),nt α d l i=l.getD i.toNat d) (f:Chg→Int) (h0:f default=0) (l:List Chg) (i:Nat):(bif decide ((i:Int)<(l.length:Int))then f (nt Chg default l (i:Int))else 0)=f (l.getD i default):=by
 rw[hnt,Int.toNat_natCast]
 by_cases h:i<l.length
 ·rw[decide_eq_true (show(i:Int)<(l.length:Int) by omega)];rfl
 ·rw[decide_eq_false (show¬(i:Int)<(l.length:Int) by omega),List.getD_eq_getElem?_getD,List.getElem?_eq_none (by omega)]
  exact h0.symm
theorem Zt4 (z:Zone) (hz:z.chs.length≤3):SC (fun _=>Tryz.prog) 184 [Zd z] [] fun v h=>v=Zuu z∧h=[]:=by
 obtain⟨nt,hnt⟩:=Zs
 unfold Zd
 simp only[Za hnt]
 refine QP Tryz.func184 (body:=Zk Tryz.f184) rfl (by decide+kernel) ?_
 refine wS ?_
 refine⟨?_,trivial⟩
 have e1:=Ztt hnt (fun c=>c.at_) rfl z.chs
 have e2:=Ztt hnt (fun c=>c.by_) rfl z.chs
 simp only[e1,e2]
theorem Zvc (t:Train) (n:Int):SC (fun _=>Tryz.prog) 182 [.agg (encTrain t),.iptr [.int .i64 fun _=>n] 0] [] fun v h=>v= .bool (fun _=>decide (t.number=n))∧h=[]:=by
 refine QP Tryz.func182 (body:=Zk Tryz.f182) rfl (by decide+kernel) ?_
 refine wS ?_
 exact⟨by simp only[ZaT],trivial⟩
theorem c75 (n:Int):SC (fun _=>Tryz.prog) 147 [.int .i64 fun _=>n] [] fun v h=>v= .fn 182 [] [.iptr [.int .i64 fun _=>n] 0]∧h=[]:=by
 refine QP Tryz.func147 (body:=Zk Tryz.f147) rfl (by decide+kernel) ?_
 exact wZ
def knA:Option Zone→AV
 |none=>.isl 0 (fun _=>0) (fun _=>[]) .nil
 |some z=>lst 3 Zed default (ZP z)
def ZtC (z:Zone):List AV:=[.int .i64 fun _=>z.base,.int .i64 fun _=>(z.chs.length:Int),
 .int .i64 fun _=>(z.chs.getD 0 default).at_,.int .i64 fun _=>(z.chs.getD 0 default).by_,.int .i64 fun _=>(z.chs.getD 1 default).at_,.int .i64 fun _=>(z.chs.getD 1 default).by_,.int .i64 fun _=>(z.chs.getD 2 default).at_,.int .i64 fun _=>(z.chs.getD 2 default).by_]
def Zel:Option Zone→List AV
 |none=>[iA 0,iA 0,iA 0,iA 0,iA 0,iA 0,iA 0,iA 0]
 |some z=>ZtC z
theorem Zqu {z z':Zone} (h0:z.chs.length≤3) (hb:z.base=z'.base) (hl:z.chs.length=z'.chs.length) (a0:(z.chs.getD 0 default).at_=(z'.chs.getD 0 default).at_) (b0:(z.chs.getD 0 default).by_=(z'.chs.getD 0 default).by_)
  (a1:(z.chs.getD 1 default).at_=(z'.chs.getD 1 default).at_) (b1:(z.chs.getD 1 default).by_=(z'.chs.getD 1 default).by_) (a2:(z.chs.getD 2 default).at_=(z'.chs.getD 2 default).at_) (b2:(z.chs.getD 2 default).by_=(z'.chs.getD 2 default).by_):z=z':=by
 obtain⟨b,l⟩:=z
 obtain⟨b',l'⟩:=z'
 have ext:∀c c':Chg,c.at_=c'.at_→c.by_=c'.by_→c=c':=fun c c' h1 h2=>by cases c;cases c';simp_all
 dsimp only at*
 subst hb
 congr 1
 refine List.ext_getElem hl fun i h1 h2=>?_
 have e0:=ext _ _ a0 b0
 have e1:=ext _ _ a1 b1
 have e2:=ext _ _ a2 b2
 have hi:i=0∨i=1∨i=2:=by omega
 simp only[List.getD_eq_getElem?_getD]at e0 e1 e2
 rcases hi with rfl|rfl|rfl
 ·simpa [List.getElem?_eq_getElem h1,List.getElem?_eq_getElem h2]using e0
 ·simpa [List.getElem?_eq_getElem h1,List.getElem?_eq_getElem h2]using e1
 ·simpa [List.getElem?_eq_getElem h1,List.getElem?_eq_getElem h2]using e2
theorem ZsH (b:XL) (zi m day now:Int) (o:Option Zone) (hb:∀z∈b.zones,Zu z=0) (ho:∀z,o=some z→Zu z=0) (hz:0≤zi∧zi<b.zones.length) (hm:0≤m∧m≤10000) (hd:0≤day∧day≤100):
  SC (fun _=>Tryz.prog) 183 [.int .i64 fun _=>zi,.int .i64 fun _=>m,.ptr 0 0,.ptr 1 0,.ptr 2 0,.ptr 3 0,.ptr 4 0] [.cells [lst 2 encZone default b.zones,lst 3 encTrain default b.old,lst 3 encTrain default b.new,.int .i64 fun _=>b.night,.int .i64 fun _=>b.last],.cells [knA o],.cells (Zel o),.cells [.int .i64 fun _=>day],.cells [.int .i64 fun _=>now]]
   fun v h=>v= .int .i64 (fun _=>QW (ZP (b.zones.getD zi.toNat default)) (1440*day+m) now)∧h=[.cells [lst 2 encZone default b.zones,lst 3 encTrain default b.old,lst 3 encTrain default b.new,.int .i64 fun _=>b.night,.int .i64 fun _=>b.last],.cells [knA (some (b.zones.getD zi.toNat default))],.cells (ZtC (b.zones.getD zi.toNat default)),.cells [.int .i64 fun _=>day],.cells [.int .i64 fun _=>QW (ZP (b.zones.getD zi.toNat default)) (1440*day+m) now]]:=by
 obtain⟨nt,hnt⟩:=Zs
 obtain⟨k,rfl⟩:∃k:Nat,zi=k:=⟨zi.toNat,by omega⟩
 have hzk:b.zones.getD (k:Int).toNat default=nt Zone default b.zones k:=by rw[hnt]
 have hv:=hb _ (XF (d:=default) hnt (l:=b.zones) (i:=k) (by omega))
 rw[hzk]
 refine QP Tryz.func183 (body:=Zk Tryz.f183) rfl (by decide+kernel) ?_
 simp only[Za hnt]
 obtain⟨z,hzz⟩:∃z,nt Zone default b.zones (k:Int)=z:=⟨_,rfl⟩
 rw[hzz]at hv hzk⊢
 have hlen:=(ZbD hv).2.2.1
 cases o with
 |none=>
  unfold knA Zel
  refine wS ?_
  simp only[hzz]
  refine Zb7 (Zt4 z hlen) ?_
  have hps:=Jf (J7 hv)
  refine wS ?_
  refine Br.isT rfl ?_
  refine wS ?_
  simp only[hzz]
  refine Zb7 (c90 z (J7 hv)) ?_
  generalize hL:ZP z=L at*
  refine wS ?_
  refine Zb7 (c91 day m (by omega) (by omega)) ?_
  refine wS ?_
  refine Zb7 (c92 L (1440*day+m) now (by omega) hps.2.2 (by omega)) ?_
  (cbv;try simp only[nc]at*)
  ((try simp only[ZaN hnt,and_self,and_true,true_and]);(try rfl))
 |some z'=>
  have hv':=ho z' rfl
  have hps':=Jf (J7 hv')
  unfold knA Zel
  simp only
  generalize hL':ZP z'=L' at*
  simp only[Za hnt]
  refine wS ?_
  simp only[hzz]
  refine Zb7 (Zt4 z hlen) ?_
  have hps:=Jf (J7 hv)
  refine wS ?_
  refine⟨fun hb=>?_,fun hb=>?_⟩
  ·refine wS ?_
   simp only[hzz]
   refine Zb7 (c90 z (J7 hv)) ?_
   generalize hL:ZP z=L at*
   refine wS ?_
   refine Zb7 (c91 day m (by omega) (by omega)) ?_
   refine wS ?_
   refine Zb7 (c92 L (1440*day+m) now (by omega) hps.2.2 (by omega)) ?_
   (cbv;try simp only[nc]at*)
   ((try simp only[ZaN hnt,and_self,and_true,true_and]);(try rfl))
  ·have he:z=z':=by
    simp at hb
    exact Zqu hlen hb.1 (by have:=hb.2.1;omega) hb.2.2.1 hb.2.2.2.1 hb.2.2.2.2.1 hb.2.2.2.2.2.1 hb.2.2.2.2.2.2.1 hb.2.2.2.2.2.2.2
   subst he
   rw[hL']at hps
   refine wS ?_
   refine Zb7 (c91 day m (by omega) (by omega)) ?_
   refine wS ?_
   refine Zb7 (c92 L' (1440*day+m) now (by omega) hps.2.2 (by omega)) ?_
   rw[hL']
   (cbv;try simp only[nc]at*)
   ((try simp only[ZaN hnt,and_self,and_true,true_and]);(try rfl))
def XK (c:Sp.Call):List AV:=[.int .i64 fun _=>c.station,.int .i64 fun _=>c.arrive,.int .i64 fun _=>c.depart]
def Zp8 (t:Train) (day:Int) (l:List Sp.Call):AV:=.agg (encTrain t++[.int .i64 fun _=>day,lst 3 XK default l])
theorem c77 (b:XL) (t:Train) (day:Int) (hb':∀z∈b.zones,Zu z=0) (ht:∀s∈t.stops,(0≤s.zone∧s.zone<b.zones.length)∧(0≤s.arrive∧s.arrive≤10000)∧0≤s.depart∧s.depart≤10000) (hlen:2≤t.stops.length∧t.stops.length≤1000) (hd:0≤day∧day≤100):
  SC (fun _=>Tryz.prog) 149 [Zc b,.agg (encTrain t),.int .i64 fun _=>day] [] fun v h=>v=Zp8 t day (calls b.zones t day)∧h=[]:=by
 obtain⟨nt,hnt⟩:=Zs
 refine SC.less (QP Tryz.func149 (body:=Zk Tryz.f149) rfl (by decide+kernel) ?_)
 unfold Zc
 rw[show AV.agg (encTrain t)= .agg [.int .i64 fun _=>t.number,.int .i64 fun _=>t.days,.isl 4 (fun _=>(t.stops.length:Int)) (fun e=>Q0 (nt Stop default t.stops (e ()))) .none] by unfold encTrain;rw[Za hnt]]
 refine wS ?_
 refine ZV false false [] [4,5,6,10,11,17,18,19] [.tok 3 fun _=>0] (fun(⟨i,now,o,out⟩:Nat×Int×Option Zone×List Sp.Call)=>[(11,.isl 3 (fun _=>(out.length:Int)) (fun e=>XK (nt Sp.Call default out (e ()))) (.own 7)),(19,.int .i64 fun _=>i)])
  (fun⟨i,now,o,out⟩=>[(4,.cells [.int .i64 fun _=>now]),(5,.cells (Zel o)),(6,.cells [knA o]),(7,.tok 3 fun _=>(out.length:Int))])
  (fun⟨i,now,o,out⟩=>(i≤t.stops.length∧out.length=i∧calls b.zones t day=out++QQ b.zones day t.stops.length i now (t.stops.drop i))∧(∀z,o=some z→Zu z=0)∧(i=0↔o=none)) (fun i=>t.stops.length-i.1+0) (0,0,none,[]) ⟨⟨Nat.zero_le _,rfl,rfl⟩,(fun z h=>by cases h),by simp⟩ ?_ ?_
 ·(refine To.of [(3,false)] ?_;cbv;(try simp only[nc]);(repeat' (first|exact trivial|exact ZD.refl _|exact ZL.refl _|refine⟨?_,?_⟩|refine ZL.cells ?_|refine ZD.agg ?_|refine ZD.tup ?_));(all_goals (first|exact X9|skip)))
 rintro⟨i,now,o,out⟩ ⟨⟨hi,ho,hp⟩,hk,hio⟩
 have hgz:∀k:Nat,k<t.stops.length→Zu (b.zones.getD (nt Stop default t.stops (k:Int)).zone.toNat default)=0:=fun k hk=>hb' _ (by
  have:=ht _ (XF (d:=default) hnt (l:=t.stops) (i:=k) hk)
  rw[List.getD_eq_getElem?_getD,List.getElem?_eq_getElem (by omega)];exact List.getElem_mem _)
 cases o with
 |none=>
  have hi0:=hio.2 rfl
  subst hi0
  unfold knA Zel
  refine wS ?_
  refine Br.isT (by simp;omega) ?_
  have hdr:=Qu (d:=default) hnt (l:=t.stops) (i:=0) (by omega)
  have hs:=ht _ (XF (d:=default) hnt (l:=t.stops) (i:=0) (by omega))
  have hz:=hgz 0 (by omega)
  rw[hdr,QQ,if_pos rfl,if_pos (by omega)]at hp
  have k112:=ZsH b (nt Stop default t.stops ((0:Nat):Int)).zone (nt Stop default t.stops ((0:Nat):Int)).depart day now none hb' (fun z h=>by cases h) hs.1 hs.2.2 hd
  simp only[knA,Zel]at k112
  refine wS ?_
  refine Br.isF rfl ?_
  refine wS ?_
  refine Br.isT (by simp;omega) ?_
  refine wS ?_
  generalize nt Stop default t.stops ((0:Nat):Int)=s at*
  refine cL0 [0,6,5,2,4] (k112) fun r h₂ hp=>?_
  (try simp only[Zd,Zc,Za hnt]at hp)
  obtain⟨rfl,rfl⟩:=hp
  try dsimp only at hp
  generalize b.zones.getD s.zone.toNat default=z at*
  generalize hL:ZP z=L at*
  generalize QW L (1440*day+s.depart) now=d at*
  refine wS ?_
  refine Br.isT rfl ?_
  refine wS ?_
  refine⟨(1,d,some z,out++[⟨s.station,d,d⟩]),⟨⟨by omega,by simp only[List.length_append,List.length_cons,List.length_nil];omega,by rw[hp];simp⟩,fun z' h=>by cases h;exact hz,by simp⟩,by show t.stops.length-1+0<t.stops.length-0+0;omega,?_⟩
  simp only[knA,Zel,hL]
  exact ZI
 |some z'=>
  have hi0:0<i:=Nat.pos_of_ne_zero fun h=>by have:=hio.1 h;cases this
  unfold knA Zel
  simp only
  generalize hL':ZP z'=L' at*
  refine wS ?_
  refine⟨fun hb=>?_,fun hb=>?_⟩
  ·simp only[decide_eq_true_eq]at hb
   have hdr:=Qu (d:=default) hnt (l:=t.stops) (i:=i) (by omega)
   have hs:=ht _ (XF (d:=default) hnt (l:=t.stops) (i:=i) (by omega))
   have hz:=hgz i (by omega)
   rw[hdr,QQ,if_neg (by omega)]at hp
   have k112:=ZsH b (nt Stop default t.stops (i:Int)).zone (nt Stop default t.stops (i:Int)).arrive day now (some z') hb' hk hs.1 hs.2.1 hd
   simp only[knA,Zel,hL']at k112
   refine wS ?_
   refine Br.isT (by simp;omega) ?_
   refine wS ?_
   generalize nt Stop default t.stops (i:Int)=s at*
   refine cL0 [0,6,5,2,4] (k112) fun r h₂ hp=>?_
   (try simp only[Zd,Zc,Za hnt]at hp)
   obtain⟨rfl,rfl⟩:=hp
   have k112':=fun now=>ZsH b s.zone s.depart day now (some (b.zones.getD s.zone.toNat default)) hb' (fun z h=>by cases h;exact hz) hs.1 hs.2.2 hd
   try dsimp only at hp
   simp only[knA,Zel]at k112'
   generalize b.zones.getD s.zone.toNat default=z at*
   generalize hL:ZP z=L at*
   generalize QW L (1440*day+s.arrive) now=a at*
   refine wS ?_
   refine⟨fun hb2=>?_,fun hb2=>?_⟩
   ·simp only[decide_eq_true_eq]at hb2
    rw[if_pos (by omega)]at hp
    refine wS ?_
    refine cL0 [0,6,5,2,4] (k112' a) fun r h₂ hp=>?_
    (try simp only[Zd,Zc,Za hnt]at hp)
    obtain⟨rfl,rfl⟩:=hp
    generalize QW L (1440*day+s.depart) a=d at*
    refine wS ?_
    refine Br.isF (by simp;omega) ?_
    refine wS ?_
    refine⟨(i+1,d,some z,out++[⟨s.station,a,d⟩]),⟨⟨by omega,by simp only[List.length_append,List.length_cons,List.length_nil];omega,by rw[hp];simp⟩,fun z' h=>by cases h;exact hz,by simp⟩,by show t.stops.length-(i+1)+0<t.stops.length-i+0;omega,?_⟩
    simp only[knA,Zel,hL]
    exact ZI
   ·simp only[decide_eq_false_iff_not]at hb2
    rw[if_neg (by omega)]at hp
    refine wS ?_
    refine Br.isF (by simp;omega) ?_
    refine wS ?_
    refine⟨(i+1,a,some z,out++[⟨s.station,a,a⟩]),⟨⟨by omega,by simp only[List.length_append,List.length_cons,List.length_nil];omega,by rw[hp];simp⟩,fun z' h=>by cases h;exact hz,by simp⟩,by show t.stops.length-(i+1)+0<t.stops.length-i+0;omega,?_⟩
    simp only[knA,Zel,hL]
    exact ZI
  ·simp only[decide_eq_false_iff_not]at hb
   rw[List.drop_eq_nil_of_le (by omega),QQ,List.append_nil]at hp
   rw[hp]
   refine wS ?_
   refine⟨Zp8 t day out,[],?_,rfl,rfl⟩
   unfold Zp8 encTrain
   simp only[Za hnt]
   exact ZI
end Go.Proofs.YtjgpiclllehgmaaGreat.Vm
namespace Go.Proofs.YtjgpiclllehgmaaGreat.Vm
open Go Go.Proofs Go.Proofs.YtjgpiclllehgmaaGreat.Conc1
section
variable {T:Tb} {p:Unit→Program} {P:Program}
theorem YC.ofG (hT:T.Of (p ())) (hm:(p ()).follows .mixedOrders=true) (hfl:T.fl=false) (hrd:T.rd=true) {id:Nat} {xs:List AV} {h:List Zi} {Post:AV→List Zi→Prop} {s:List AV} {d:Zg0} {n m:Nat} {D:List AV→List Zi→Prop} (hD:∀s h₂,D s h₂→W T p (Zqy h.length id Post) m [.code d.x] s h₂ []) (hi:h[id]? =some (.loop s d)) (hlen:xs.length=d.ps.size)
  (hW:W T p (ZsM D id) n [.code d.a] (Zd0 d.ps.toList xs s) h []) (hz:zOk h=true:=by rfl):YC p id xs h Post:=by
 have hKe:∀e s h' c,Zqy h.length id Post e s h' c→ZN c:=fun e s h' c hk=>by cases e<;>exact(Z1 hk).1
 have hKb:∀e s h' c,ZsM D id e s h' c→ZN c:=fun e s h' c hk=>by
  cases e with
  |normal=>exact(Z1 hk).1
  |_=>exact hk.elim
 refine YC.ofN hz fun G R vs H hn0 ha=>?_
 obtain⟨ha1,ha2⟩:=ha
 obtain⟨l,b1,b2,b3,b4,b5,b6,b7,_⟩:=H.loopSet hi
 have hid:id<R.m:=H.len▸(List.getElem?_eq_some_iff.1 hi).1
 have hsz:vs.size=l.params.size:=by rw[b2,←hlen,ha1]
 refine⟨_,_,_,_,run_yield b1 hsz,fun c cs=>?_⟩
 let b:FBr T.rd:=⟨⟨l.fn,false,some (R.α id).b,[]⟩,fun hf=>by rw[hrd]at hf;cases hf⟩
 have hsl:SL R (Zd0 d.ps.toList xs s) ((l.params.zip vs).foldl (fun tmps (t,a)=>tmps.setIfInBounds t a) l.tmps):=by
  rw[←Array.foldl_toList,Array.toList_zip,b2]
  exact Zin _ _ _ (by rw[ha1];simp) (fun j c hj=>by
   have:=ha2 j c hj
   rw[Array.getD_eq_getD_getElem?]at this
   rw[List.getD_eq_getElem?_getD,Array.getElem?_toList]
   exact this) b7
 obtain⟨e,s1,h1,R1,t1,ds1,⟨c1,hk1⟩,i1,sl1,d1,eq1,A1⟩:=(Zkw (R₀:=R) (h₀:=h) hT hm (fun h=>by rw[hfl]at h;cases h) hKb n _ _ h [] hW).2 R _ (JG.refl H (by rw[hn0];exact Nat.le_refl _)) hsl b [] [.beginRound,.code d.x] (c::cs) ⟨[],rfl,List.nodup_nil,fun r hr=>by cases hr⟩
 have x1:=i1.ext
 have l1:=i1.le
 cases e with
 |exit _=>exact hk1.elim
 |ret=>exact hk1.elim
 |normal=>
 have eq1:=eq1 (by simp[b])
 subst eq1
 obtain⟨_,hk1⟩:=Z1 hk1
 split at hk1
 case h_2=>exact hk1.elim
 rename_i s2 d2 hi1
 obtain⟨l2,e1,e2,e3,e4,e5,e6,e7,e8⟩:=i1.hr.loopSet hi1
 have hα1:R1.α id=R.α id:=x1.α id hid
 split at hk1
 case h_2=>exact hk1.elim
 rename_i hst
 obtain⟨R2,w2,α2,H2,x2,l2le⟩:=e8 .busy d2.pe
 have hbeg:(Instr.beginRound (R.α id).b).run (p ()) R1.w= .ok () R2.w:=by
  rw[w2,←hα1,←e6]
  exact run_beginRound e1 (e5.trans hst)
 have i2:JG R h R2 (h1.set id (.loop s2 {d2 with st:=.busy})):=i1.step H2 x2 l2le
 obtain⟨e,s3,h3,R3,t3,ds3,⟨c3,hk3⟩,i3,sl3,d3,eq3,A3⟩:=(Zkw (R₀:=R) (h₀:=h) hT hm (fun h=>by rw[hfl]at h;cases h) hKe m _ _ _ [] (hD _ _ hk1)).2 R2 _ i2 (sl1.mono l2le) b [] [] (c::cs) (d1.ext i1.hr x2)
 have st1:Steps (p ()) R.cx (ZB (Frame.round (R.α id).b l.fn ((l.params.zip vs).foldl (fun tmps (t,a)=>tmps.setIfInBounds t a) l.tmps) l.assign l.body .normal) (c::cs) R.w) (ZB (mkF b.1 t1 [] [.code d.x]) (c::cs) R2.w):=by
  have hfr:Frame.round (R.α id).b l.fn ((l.params.zip vs).foldl (fun tmps (t,a)=>tmps.setIfInBounds t a) l.tmps) l.assign l.body .normal=mkF b.1 ((l.params.zip vs).foldl (fun tmps (t,a)=>tmps.setIfInBounds t a) l.tmps) [] ([.code d.a]++[.beginRound,.code d.x]):=by
   rw[←b3,←b4];rfl
  rw[hfr]
  exact Steps.trans A1 (.one (Zf2 rfl hbeg))
 have fin:∀(j:Option Code),ZiV h.length id j Post h3→(∀v w',(Instr.endRound (R.α id).b j).run (p ()) R3.w= .ok v w'→Steps (p ()) R.cx (ZB (mkF b.1 t1 [] [.code d.x]) (c::cs) R2.w) (ZB (c.finish v) cs w'))→
   ∃v R' r h',Steps (p ()) R.cx (ZB (Frame.round (R.α id).b l.fn ((l.params.zip vs).foldl (fun tmps (t,a)=>tmps.setIfInBounds t a) l.tmps) l.assign l.body .normal) (c::cs) R.w) (ZB (c.finish v) cs R'.w)∧HR G R' h'∧Xf R h R' h'∧R.le R'∧VR R' r v∧Post r h':=fun j hj hst=>by
  unfold ZiV at hj
  split at hj
  case h_2=>exact hj.elim
  rename_i s4 d4 hi3
  obtain⟨l4,f1,f2,f3,f4,f5,f6,f7,f8⟩:=i3.hr.loopSet hi3
  obtain⟨R4,w4,α4,H4,x4,l4le⟩:=f8 (if j.isNone then .ready else .done) j
  have hα3:R3.α id=R.α id:=i3.ext.α id hid
  have hend:(Instr.endRound (R.α id).b j).run (p ()) R3.w= .ok (.bool j.isNone) R4.w:=by
   rw[w4,←hα3]
   exact run_endRound j f1
  have i4:=i3.step H4 x4 l4le
  obtain⟨R5,w5,H5,x5,l5,_⟩:=i4.leave H (JN h.length (Nat.le_refl _) (by rw[H.len,i4.hr.len];exact i4.le.m))
  exact⟨_,R5,.bool fun _=>j.isNone,_,by rw[w5];exact Steps.trans st1 (hst _ _ hend),H5,x5,l5,.pure _ _ (.bool _),hj⟩
 cases e with
 |normal=>
  exact fin none (Z1 hk3).2 fun v w' hr=>Steps.trans (X3 (l1.trans l2le) A3) (.one (ZeP rfl rfl (.inl ⟨rfl,rfl⟩) hr))
 |exit i=>
  obtain⟨pre,q1,q2⟩:=A3
  exact fin (some (.exit i)) (Z1 hk3).2 fun v w' hr=>Steps.trans (X3 (l1.trans l2le) q2) (.one (ZeP rfl rfl (.inr (.inr ⟨i,_,rfl,rfl,by rw[q1];rfl⟩)) hr))
 |ret=>
  obtain⟨todo,q2⟩:=A3
  exact fin (some .ret) (Z1 hk3).2 fun v w' hr=>Steps.trans (X3 (l1.trans l2le) q2) (.one (ZeP rfl rfl (.inr (.inl ⟨rfl,_,rfl⟩)) hr))
end
def tbR (kp rs:Bool) (cs:List Nat):Tb:={tb with kp,rs,cuts:=cs,rd:=true}
theorem hTR (kp rs:Bool) (cs:List Nat):(tbR kp rs cs).Of ((fun _=>Tryz.prog:Unit→Program) ()):=⟨ZbI,ZbH,ZbJ⟩
theorem Zat (kp rs:Bool) (cs:List Nat) {id:Nat} {xs:List AV} {h:List Zi} {Post:AV→List Zi→Prop} {s:List AV} {d:Zg0} (hi:h[id]? =some (.loop s d)) (hlen:xs.length=d.ps.size)
  (hW:Dn (tbR kp rs cs) (fun _=>Tryz.prog) (ZsM (fun s h₂=>Dn (tbR kp rs cs) (fun _=>Tryz.prog) (Zqy h.length id Post) 100 .none [.code d.x] s h₂ []) id) 20 .none [.code d.a] (Zd0 d.ps.toList xs s) h []) (hz:zOk h=true:=by rfl):YC (fun _=>Tryz.prog) id xs h Post:=
 YC.ofG (T:=tbR kp rs cs) (m:=100*4000) (n:=20*4000) (D:=fun s h₂=>Dn (tbR kp rs cs) (fun _=>Tryz.prog) (Zqy h.length id Post) 100 .none [.code d.x] s h₂ []) (hTR kp rs cs) hm rfl rfl (fun s h₂ hd=>ZfX 100 .none _ _ _ _ hd) hi hlen (ZfX 20 .none _ _ _ _ hW) hz
theorem Zn0 {f:Operand} {ps:Array Tmp} {a x:Code} {Q:Ex→List AV→List Zi→Prop} {s:List AV} {h:List Zi} {fid:FuncId} {first cap:List AV} (hf:strip (ev s f)= .fn fid first cap) (hc:ZN (JQ (ev s f)))
  (H:SC (fun _=>Tryz.prog) fid (first++[.yld h.length]++cap) (h++[.loop s ⟨ps,a,x,.ready,none⟩]) fun _ h'=>JM Q s h.length h'):CB (fun _=>Tryz.prog) (.rangeFunc f ps a x) Q s h:=CB.of hf hc H
theorem YC.less {p:Unit→Program} {id:Nat} {xs:List AV} {h:List Zi} {Post:AV→List Zi→Prop} (H:YC p id xs h fun r h'=>∃r₂ h₂,To [r] h' [r₂] h₂∧Post r₂ h₂):YC p id xs h Post:=
 ⟨fun G R vs hr ha=>let ⟨f,tmps,a,x,h1,h2⟩:=H.run G R vs hr ha;⟨f,tmps,a,x,h1,fun c cs=>by
  obtain⟨v,R',r,h',b1,b3,b4,b5,b6,r₂,h₂,hto,b7⟩:=h2 c cs
  obtain⟨R'',c1,c2,c3,c4,c5⟩:=hto G R' #[v] b3 ⟨rfl,fun i a hi=>by
   cases i with
   |zero=>simp at hi;subst hi;exact b6
   |succ i=>simp at hi⟩
  exact⟨v,R'',r₂,h₂,by rw[c1];exact b1,c2,b4.trans c3,b5.trans c4,c5.2 0 r₂ rfl,b7⟩⟩⟩
theorem Zcn {f:Operand} {ps:Array Tmp} {a x:Code} {Q:Ex→List AV→List Zi→Prop} {s:List AV} {h:List Zi} (L:List Nat) (ex:List Zi) (hc:List (Nat×Zi)) {fid:FuncId} {first cap:List AV}
  (hto:To s h (Vm.keep L s) (Yy (h++ex) hc)) (hf:strip (ev (Vm.keep L s) f)= .fn fid first cap) (hcs:ZN (JQ (ev (Vm.keep L s) f)))
  (H:SC (fun _=>Tryz.prog) fid (first++[.yld (Yy (h++ex) hc).length]++cap) (Yy (h++ex) hc++[.loop (Vm.keep L s) ⟨ps,a,x,.ready,none⟩]) fun _ h'=>JM Q (Vm.keep L s) (Yy (h++ex) hc).length h'):CB (fun _=>Tryz.prog) (.rangeFunc f ps a x) Q s h:=CB.to hto (CB.of hf hcs H)
theorem ZrS (kp rs:Bool) (cs:List Nat) {x:Code} {Q:Ex→List AV→List Zi→Prop} {s:List AV} {h:List Zi} {ι:Type} (L:List Nat) (ex:List Zi) (ch:ι→List (Nat×AV)) (hc:ι→List (Nat×Zi)) (inv:ι→Prop) (μ:ι→Nat) (i:ι)
  (hi:inv i) (hto:To (Vm.keep L s) h (Jp (Vm.keep L s) (ch i)) (Yy (h++ex) (hc i)))
  (step:∀i,inv i→Dn (tbR kp rs cs) (fun _=>Tryz.prog) (Zfu L (fun i=>Jp (Vm.keep L s) (ch i)) (fun i=>Yy (h++ex) (hc i)) inv μ i (h++ex).length Q) 100 .none [.code x] (Jp (Vm.keep L s) (ch i)) (Yy (h++ex) (hc i)) []):LP true (fun _=>Tryz.prog) x Q s h:=
 LP.indD (T:=tbR kp rs cs) (hTR kp rs cs) hm rfl L (fun i=>Jp (Vm.keep L s) (ch i)) (fun i=>Yy (h++ex) (hc i)) inv μ i (h++ex).length (fun _=>ZdW _ _) hi hto step
end Go.Proofs.YtjgpiclllehgmaaGreat.Vm
namespace Go.Proofs.YtjgpiclllehgmaaGreat.Vm
attribute [local irreducible] Dn
open Go Go.Proofs Sp
set_option maxRecDepth 100000
set_option maxHeartbeats 1600000
theorem ZcY (n lo hi:Int):SC (fun _=>Tryz.prog) 81 [.int .i64 fun _=>n,.int .i64 fun _=>lo,.int .i64 fun _=>hi] [] fun r h=>r= .bool (fun _=>Xw n lo hi)∧h=[]:=by
 refine QP Tryz.func81 (body:=Zk Tryz.f81) rfl (by decide+kernel) ?_
 refine wS ?_
 refine⟨?_,trivial⟩
 congr 1;funext _
 unfold Xw Yx
 by_cases h1:n<lo
 ·have:¬lo≤n:=by omega
  simp[h1,this]
 ·have:lo≤n:=by omega
  by_cases h2:hi<n
  ·have:¬n≤hi:=by omega
   simp[h1,h2,this]
  ·have:n≤hi:=by omega
   simp[h1,h2,this];omega
theorem ZtS (yes no:Int):SC (fun _=>Tryz.prog) 116 [.int .i64 fun _=>yes,.int .i64 fun _=>no] [] fun r h=>r= .int .i64 (fun _=>JJ yes no)∧h=[]:=by
 refine QP Tryz.func116 (body:=Zk Tryz.f116) rfl (by decide+kernel) ?_
 unfold JJ
 refine wS ?_
 refine⟨fun hb=>?_,fun hb=>?_⟩
 ·have hb:=eq_of_beq hb
  rw[if_pos hb]
  (cbv;(try simp only[nc]at*);(try refine Chk.mk (Qa) ?_))
  (try first|exact⟨rfl,trivial⟩|exact⟨trivial,trivial⟩)
 ·have hb:=ne_of_beq_false hb
  rw[if_neg hb]
  refine wS ?_
  refine⟨fun hb2=>?_,fun hb2=>?_⟩
  ·have hb2:=eq_of_beq hb2
   rw[if_pos hb2]
   (cbv;(try simp only[nc]at*);(try refine Chk.mk (Qa) ?_))
   (try first|exact⟨rfl,trivial⟩|exact⟨trivial,trivial⟩)
  ·have hb2:=ne_of_beq_false hb2
   rw[if_neg hb2]
   (cbv;(try simp only[nc]at*);(try refine Chk.mk (Qa) ?_))
   (try first|exact⟨rfl,trivial⟩|exact⟨trivial,trivial⟩)
theorem ZlX (l:List Sp.Call) (f st:Int) (hl:l.length≤1000000) (hf:f≤1000000):SC (fun _=>Tryz.prog) 150 [lst 3 XK default l,.int .i64 fun _=>f,.int .i64 fun _=>st] [] fun r h=>r= .int .i64 (fun _=>ZM l f st)∧h=[]:=by
 obtain⟨nt,hnt⟩:=Zs
 rw[Za hnt]
 unfold ZM
 refine QP Tryz.func150 (body:=Zk Tryz.f150) rfl (by decide+kernel) ?_
 refine wS ?_
 obtain⟨f0,hf0⟩:∃f0:Nat,max 0 f=(f0:Int):=⟨(max 0 f).toNat,by omega⟩
 have hf1:(0<f→f=(f0:Int))∧(f≤0→f0=0):=by omega
 rw[hf0,Int.toNat_natCast]
 refine ZV false false [] [0,2,7] [] (fun(i:Nat)=>[(7,.int .i64 fun _=>i)]) (fun _=>[]) (fun i=>f0≤i∧i≤max f0 l.length∧Zw (fun c=>decide (c.station=st)) (f0:Int) (l.drop f0)=Zw (fun c=>decide (c.station=st)) i (l.drop i)) (fun i=>max f0 l.length-i+0) f0 ⟨Nat.le_refl _,by omega,rfl⟩ ?_ ?_
 ·(refine To.of [] ?_;cbv;(try simp only[nc]);(repeat' (first|exact trivial|exact ZD.refl _|exact ZL.refl _|refine⟨?_,?_⟩|refine ZL.cells ?_|refine ZD.agg ?_|refine ZD.tup ?_));(all_goals (first|exact X9|skip)))
  refine .int ?_
  show(if(0:Int)<f then f else 0)=_
  by_cases h0:0<f
  ·rw[if_pos h0]
   exact hf1.1 h0
  ·rw[if_neg h0,hf1.2 (by omega)]
   rfl
 rintro i ⟨hi0,hi,hp⟩
 refine wS ?_
 refine⟨fun hb=>?_,fun hb=>?_⟩
 ·simp only[decide_eq_true_eq]at hb
  have hd:=Qu (d:=default) hnt (l:=l) (i:=i) (by omega)
  rw[hd,Zw]at hp
  refine wS ?_
  refine⟨fun hb'=>?_,fun hb'=>?_⟩
  ·have hb':=eq_of_beq hb'
   rw[if_pos (by simpa using hb')]at hp
   refine wS ?_
   exact⟨by rw[hp],trivial⟩
  ·have hb':=ne_of_beq_false hb'
   rw[if_neg (by simpa using hb')]at hp
   refine wS ?_
   refine⟨i+1,⟨by omega,by omega,hp⟩,by show max f0 l.length-(i+1)+0<max f0 l.length-i+0;omega,?_⟩
   exact ZI
 ·simp only[decide_eq_false_iff_not]at hb
  rw[show l.drop i=[]from List.drop_eq_nil_of_le (by omega),Zw]at hp
  refine wS ?_
  exact⟨by rw[hp],trivial⟩
theorem ZsF (l:List Sp.Call) (st:Int) (hl:l.length≤1000000):SC (fun _=>Tryz.prog) 95 [lst 3 XK default l,.int .i64 fun _=>st] [] fun r h=>r= .int .i64 (fun _=>Qc l st)∧h=[]:=by
 obtain⟨nt,hnt⟩:=Zs
 rw[Za hnt]
 refine QP Tryz.func95 (body:=Zk Tryz.f95) rfl (by decide+kernel) ?_
 refine wS ?_
 refine ZS (ZlX l 1 st hl (by omega)) (by first|rfl|(simp only[Zd,Zc,Za hnt];rfl)) fun r h₂ hp=>?_
 (try simp only[Zd,Zc,Za hnt]at hp)
 obtain⟨rfl,rfl⟩:=hp
 (cbv;(try simp only[nc]at*);(try refine Chk.mk (Qa) ?_))
 (try first|exact⟨rfl,trivial⟩|exact⟨trivial,trivial⟩)
theorem ZtV (l:List Sp.Call) (st:Int) (hl:l.length≤1000000):SC (fun _=>Tryz.prog) 96 [lst 3 XK default l,.int .i64 fun _=>st] [] fun r h=>r= .int .i64 (fun _=>Z7 l st)∧h=[]:=by
 obtain⟨nt,hnt⟩:=Zs
 rw[Za hnt]
 unfold Z7
 refine QP Tryz.func96 (body:=Zk Tryz.f96) rfl (by decide+kernel) ?_
 refine wS ?_
 refine ZS (ZlX l 0 st hl (by omega)) (by first|rfl|(simp only[Zd,Zc,Za hnt];rfl)) fun r h₂ hp=>?_
 (try simp only[Zd,Zc,Za hnt]at hp)
 obtain⟨rfl,rfl⟩:=hp
 refine wS ?_
 refine⟨fun hb=>?_,fun hb=>?_⟩
 ·simp only[decide_eq_true_eq]at hb
  rw[if_pos hb]
  (cbv;(try simp only[nc]at*);(try refine Chk.mk (Qa) ?_))
  (try first|exact⟨rfl,trivial⟩|exact⟨trivial,trivial⟩)
 ·simp only[decide_eq_false_iff_not]at hb
  rw[if_neg hb]
  (cbv;(try simp only[nc]at*);(try refine Chk.mk (Qa) ?_))
  (try first|exact⟨rfl,trivial⟩|exact⟨trivial,trivial⟩)
theorem c74 (l:List Train) (n:Int) (hl:l.length≤1000000):SC (fun _=>Tryz.prog) 146 [lst 3 encTrain default l,.fn 182 [] [.iptr [.int .i64 fun _=>n] 0]] [] fun v h=>v= .int .i64 (fun _=>place l n)∧h=[]:=by
 obtain⟨nt,hnt⟩:=Zs
 rw[Za hnt]
 unfold place
 refine QP Tryz.func146 (body:=Zk Tryz.f146) rfl (by decide+kernel) ?_
 refine wS ?_
 refine ZV false false [] [0,1,7,8] [] (fun(i:Nat)=>[(8,.int .i64 fun _=>i)]) (fun _=>[]) (fun i=>i≤l.length∧Zw (fun t=>decide (t.number=n)) 0 l=Zw (fun t=>decide (t.number=n)) i (l.drop i)) (fun i=>l.length-i+0) 0 ⟨Nat.zero_le _,by simp⟩ ?_ ?_
 ·exact ZI
 rintro i ⟨hi,hp⟩
 refine wS ?_
 refine⟨fun hb=>?_,fun hb=>?_⟩
 ·simp only[decide_eq_true_eq]at hb
  have hd:=Qu (d:=default) hnt (l:=l) (i:=i) (by omega)
  rw[hd,Zw]at hp
  refine wS ?_
  refine Zb7 (Zvc (nt Train default l i) n) ?_
  refine vS ?_
  refine⟨fun hb'=>?_,fun hb'=>?_⟩
  ·rw[if_pos hb']at hp
   refine wS ?_
   exact⟨by rw[hp],trivial⟩
  ·rw[if_neg (by rw[hb'];exact Bool.false_ne_true)]at hp
   refine wS ?_
   refine⟨i+1,⟨by omega,hp⟩,by show l.length-(i+1)+0<l.length-i+0;omega,?_⟩
   exact ZI
 ·simp only[decide_eq_false_iff_not]at hb
  rw[List.drop_eq_nil_of_le (by omega),Zw]at hp
  refine wS ?_
  exact⟨by rw[hp],trivial⟩
theorem Qb {f:Nat→Int}:∀ {k i:Nat},Zp f i k=0→∀j,i≤j→j<i+k→f j=0
 |0,i,_,j,h1,h2=>by omega
 |k+1,i,h,j,h1,h2=>by
  unfold Zp at h
  split at h
  ·rename_i hne;exact absurd h hne
  ·rename_i he
   have he:f i=0:=Decidable.of_not_not he
   by_cases hj:j=i
   ·subst hj;exact he
   ·exact Qb h j (by omega) (by omega)
structure Zo1 (zones:Int) (s:Stop):Prop where
 station:0≤s.station∧s.station≤9
 zone:0≤s.zone∧s.zone<zones
 arrive:0≤s.arrive∧s.arrive≤4319
 depart:0≤s.depart∧s.depart≤4319
structure Zc4 (zones:Int) (t:Train):Prop where
 number:1≤t.number∧t.number≤999
 days:1≤t.days∧t.days≤127
 len:2≤t.stops.length∧t.stops.length≤4
 stops:∀s∈t.stops,Zo1 zones s
structure Zkz (b:XL):Prop where
 zlen:1≤b.zones.length∧b.zones.length≤3
 zones:∀z∈b.zones,Zu z=0
 olen:b.old.length≤4
 nlen:b.new.length≤4
 old:∀t∈b.old,Zc4 b.zones.length t
 new:∀t∈b.new,Zc4 b.zones.length t
 last:0≤b.last∧b.last≤13
 night:0≤b.night∧b.night≤b.last+1
theorem JX {n a b:Int} (h:Yx n a b=true):a≤n∧n≤b:=by simpa [Yx]using h
theorem Zcs {n a b:Int} (h:ZJ n a b=0):a≤n∧n≤b:=by
 unfold ZJ at h
 split at h
 ·cases h
 split at h
 ·cases h
 omega
theorem ZpZ {zones:Int} {l:List Stop} {i:Nat} (h:Q3 zones l i=0):Zo1 zones (l.getD i default):=by
 unfold Q3 YP at h
 split at h
 ·cases h
 rename_i h1
 split at h
 ·cases h
 split at h
 ·cases h
 rename_i h2
 split at h
 ·cases h
 rename_i h3
 simp only[Bool.not_eq_true',Bool.not_eq_false,Bool.or_eq_true,not_or]at h1 h2 h3
 have a1:=JX h1
 have a2:=JX h2
 have a3:=JX h3.1
 have a4:=JX h3.2
 exact⟨a1,by omega,a3,a4⟩
theorem Jw {α:Type} {d:α} {l:List α} {x:α} (h:x∈l):∃i,i<l.length∧l.getD i d=x:=by
 obtain⟨i,hi,rfl⟩:=List.mem_iff_getElem.1 h
 exact⟨i,hi,by rw[List.getD_eq_getElem?_getD,List.getElem?_eq_getElem hi];rfl⟩
theorem Zgm {zones:Int} {l:List Train} (h:Qf zones l=0):l.length≤4∧∀t∈l,Zc4 zones t:=by
 unfold Qf at h
 split at h
 ·rename_i hne;exact absurd h hne
 rename_i hc
 have hc:=Zcs (Decidable.of_not_not hc)
 refine⟨by omega,fun t ht=>?_⟩
 obtain⟨i,hi,rfl⟩:=Jw (d:=default) ht
 have h:=Qb h i (by omega) (by omega)
 unfold QL at h
 split at h
 ·cases h
 rename_i h1
 split at h
 ·cases h
 split at h
 ·cases h
 rename_i h2
 split at h
 ·rename_i hne;exact absurd h hne
 rename_i h3
 have h3:=Zcs (Decidable.of_not_not h3)
 simp only[Bool.not_eq_true',Bool.not_eq_false]at h1 h2
 refine⟨JX h1,JX h2,by omega,fun s hs=>?_⟩
 obtain⟨j,hj,rfl⟩:=Jw (d:=default) hs
 exact ZpZ (Qb h j (by omega) (by omega))
theorem ZbY {b:XL} (h:Yw b=0):Zkz b:=by
 unfold Yw at h
 split at h
 ·rename_i hne;exact absurd h hne
 rename_i h1
 split at h
 ·rename_i hne;exact absurd h hne
 rename_i h2
 split at h
 ·rename_i hne;exact absurd h hne
 rename_i h3
 split at h
 ·rename_i hne;exact absurd h hne
 rename_i h4
 split at h
 ·cases h
 rename_i h5
 have h1:=Zcs (Decidable.of_not_not h1)
 have h2:=Qb (Decidable.of_not_not h2)
 have h3:=Zgm (Decidable.of_not_not h3)
 have h4:=Zgm (Decidable.of_not_not h4)
 simp only[Bool.not_eq_true',Bool.not_eq_false,Bool.or_eq_true,not_or]at h5
 refine⟨by omega,fun z hz=>?_,h3.1,h4.1,h3.2,h4.2,JX h5.1,JX h5.2⟩
 obtain⟨j,hj,rfl⟩:=Jw (d:=default) hz
 exact h2 j (by omega) (by omega)
theorem ZeN {b:XL} (h:Zkz b) (day:Int):(QT b day).length≤4∧∀t∈QT b day,Zc4 b.zones.length t:=by
 unfold QT
 split
 ·exact⟨h.olen,h.old⟩
 ·exact⟨h.nlen,h.new⟩
theorem Xz {α:Type} {q:α→Bool}:∀ {l:List α} {i:Int},0≤i→Zw q i l<i+l.length∧(Zw q i l=-1∨i≤Zw q i l)
 |[],i,h=>by simp[Zw];omega
 |a::l,i,h=>by
  simp only[Zw]
  split
  ·simp;omega
  ·have:=Xz (q:=q) (l:=l) (i:=i+1) (by omega)
   simp only[List.length_cons]
   omega
theorem c26 (b:XL) (n day:Int) (hf:YG b):SC (fun _=>Tryz.prog) 93 [Zc b,.int .i64 fun _=>n,.int .i64 fun _=>day] [] fun v h=>v= .tup [lst 3 XK default (J4 b n day).1,.int .i64 fun _=>(J4 b n day).2]∧h=[]:=by
 obtain⟨nt,hnt⟩:=Zs
 refine SC.less (QP Tryz.func93 (body:=Zk Tryz.f93) rfl (by decide+kernel) ?_)
 unfold Zc J4
 simp only[Za hnt]
 refine wS ?_
 refine Zb7 (c28 b hf) ?_
 have hok0:=fun h=>ZbY (b:=b) h
 generalize Yw b=e at*
 refine vS ?_
 refine⟨fun hb=>?_,fun hb=>?_⟩
 ·simp only[bne_iff_ne,ne_eq]at hb
  rw[if_pos hb]
  refine wS ?_
  refine⟨_,[],?_,rfl,rfl⟩
  exact ZI
 simp only[bne_eq_false_iff_eq]at hb
 have hok:=hok0 hb
 subst hb
 rw[if_neg (fun h=>h rfl)]
 refine wS ?_
 refine Zb7 (c67 day 0 b.last) ?_
 refine vS ?_
 refine⟨fun hb=>?_,fun hb=>?_⟩
 ·rw[if_pos hb]
  refine wS ?_
  refine⟨_,[],?_,rfl,rfl⟩
  exact ZI
 rw[if_neg (by rw[hb];exact Bool.false_ne_true)]
 have hday:=JX (by simpa using hb:Yx day 0 b.last=true)
 have hlast:=hok.last
 have htab:=ZeN hok day
 refine wS ?_
 refine Zb7 (c73 b day) ?_
 generalize QT b day=l at*
 refine wS ?_
 refine Zb7 (c75 n) ?_
 refine wS ?_
 refine Zb7 (c74 l n (by omega)) ?_
 have hpl:place l n<l.length∧(place l n=-1∨0≤place l n):=by have:=Xz (q:=fun t:Train=>decide (t.number=n)) (l:=l) (i:=0) (by omega);unfold place;omega
 generalize place l n=p at*
 refine vS ?_
 refine⟨fun hb=>?_,fun hb=>?_⟩
 ·simp only[decide_eq_true_eq]at hb
  rw[if_pos hb]
  refine wS ?_
  refine⟨_,[],?_,rfl,rfl⟩
  exact ZI
 simp only[decide_eq_false_iff_not]at hb
 rw[if_neg hb]
 refine wS ?_
 obtain⟨k,rfl⟩:∃k:Nat,p=k:=⟨p.toNat,by omega⟩
 have hTk:=htab.2 _ (XF (d:=default) hnt (l:=l) (i:=k) (by omega))
 have hgk:l.getD (k:Int).toNat default=nt Train default l k:=by rw[hnt]
 rw[hgk]
 refine wS ?_
 have hdays:=hTk.days
 refine Zb7 (c76 (nt Train default l k) day (by omega) (by omega)) ?_
 refine vS ?_
 refine⟨fun hb=>?_,fun hb=>?_⟩
 ·rw[if_pos hb]
  refine wS ?_
  refine⟨_,[],?_,rfl,rfl⟩
  exact ZI
 rw[if_neg (by rw[hb];exact Bool.false_ne_true)]
 refine wS ?_
 have hlen:=hTk.len
 refine Zb7 (c77 b (nt Train default l k) day hok.zones (fun s hs=>by obtain⟨_,h1,h2,h3⟩:=hTk.stops s hs;omega) (by omega) (by omega)) ?_
 unfold Zp8
 generalize calls b.zones (nt Train default l k) day=C at*
 refine wS ?_
 refine⟨_,[],?_,rfl,rfl⟩
 simp only[ZaN hnt]
 exact ZI
def Zg (d:Qq):List AV:=[.int .i64 fun _=>d.number,.int .i64 fun _=>d.day]
def Xh (w:Sp.Xo):List AV:=[.int .i64 fun _=>w.feeder,.int .i64 fun _=>w.train,.int .i64 fun _=>w.station,.int .i64 fun _=>w.minutes]
def ZE (d:Sp.Qn):List AV:=[.int .i64 fun _=>d.run,.int .i64 fun _=>d.leg,lst 1 XC 0 d.by_]
def Zf (t:Ze):AV:=.agg [lst 2 encZone default t.book.zones,lst 3 encTrain default t.book.old,lst 3 encTrain default t.book.new,.int .i64 fun _=>t.book.night,.int .i64 fun _=>t.book.last,
 lst 2 Zg default t.runs,lst 4 Xh default t.waits,lst 3 ZE default t.delays]
def Zb (l:List Sp.Call):List AV:=[lst 3 XK default l]
theorem ZoF (a b:Qq):(a.number==b.number&&(a.day==b.day&&true))=decide (b=a):=by
 cases a;cases b
 simp only[Qq.mk.injEq,Bool.and_true]
 rw[Bool.eq_iff_iff]
 simp only[Bool.and_eq_true,beq_iff_eq,decide_eq_true_eq]
 exact⟨fun h=>⟨h.1.symm,h.2.symm⟩,fun h=>⟨h.1.symm,h.2.symm⟩⟩
theorem ZuB (l:List Qq) (d:Qq) (hl:l.length≤1000000):SC (fun _=>Tryz.prog) 192 [lst 2 Zg default l,.agg (Zg d)] [] fun v h=>v= .int .i64 (fun _=>Zw (fun x=>decide (x=d)) 0 l)∧h=[]:=by
 obtain⟨nt,hnt⟩:=Zs
 rw[Za hnt]
 refine QP Tryz.func192 (body:=Zk Tryz.f192) rfl (by decide+kernel) ?_
 refine wS ?_
 refine ZV false false [] [0,3,7,8] [] (fun(i:Nat)=>[(8,.int .i64 fun _=>i)]) (fun _=>[]) (fun i=>i≤l.length∧Zw (fun x=>decide (x=d)) 0 l=Zw (fun x=>decide (x=d)) i (l.drop i)) (fun i=>l.length-i+0) 0 ⟨Nat.zero_le _,by simp⟩ ?_ ?_
 ·exact ZI
 rintro i ⟨hi,hp⟩
 refine wS ?_
 refine⟨fun hb=>?_,fun hb=>?_⟩
 ·simp only[decide_eq_true_eq]at hb
  have hd:=Qu (d:=default) hnt (l:=l) (i:=i) (by omega)
  rw[hd,Zw]at hp
  have he:=ZoF d (nt Qq default l i)
  generalize hx:nt Qq default l i=x at*
  refine vS ?_
  simp only[hx]
  refine Chk.mk (Qa) ?_
  refine⟨fun hb'=>?_,fun hb'=>?_⟩
  ·rw[if_pos (by rw[←he];exact hb')]at hp
   refine wS ?_
   exact⟨by rw[hp],trivial⟩
  ·rw[if_neg (by rw[←he,hb'];exact Bool.false_ne_true)]at hp
   refine wS ?_
   refine⟨i+1,⟨by omega,hp⟩,by show l.length-(i+1)+0<l.length-i+0;omega,?_⟩
   exact ZI
 ·simp only[decide_eq_false_iff_not]at hb
  rw[List.drop_eq_nil_of_le (by omega),Zw]at hp
  refine wS ?_
  exact⟨by rw[hp],trivial⟩
theorem ZuE (l:List Qq) (d:Qq) (hl:l.length≤1000000):SC (fun _=>Tryz.prog) 175 [lst 2 Zg default l,.agg (Zg d)] [] fun v h=>v= .bool (fun _=>l.any fun x=>decide (x=d))∧h=[]:=by
 obtain⟨nt,hnt⟩:=Zs
 rw[Za hnt]
 refine QP Tryz.func175 (body:=Zk Tryz.f175) rfl (by decide+kernel) ?_
 refine wS ?_
 refine ZS (ZuB l d hl) (by first|rfl|(simp only[Zd,Zc,Za hnt];rfl)) fun r h₂ hp=>?_
 (try simp only[Zd,Zc,Za hnt]at hp)
 obtain⟨rfl,rfl⟩:=hp
 refine wS ?_
 refine⟨?_,trivial⟩
 congr 1;funext _;exact JW _ l 0 (by omega)
theorem YF (zs:List Zone) (day:Int) (many:Nat):∀(l:List Stop) (i:Nat) (now:Int),(QQ zs day many i now l).length=l.length
 |[],_,_=>rfl
 |s::r,i,now=>by
  unfold QQ
  split
  ·simp[YF zs day many r]
  ·simp[YF zs day many r]
theorem Zhg (b:XL) (n day:Int):(J4 b n day).1.length≤4∧((J4 b n day).2=0→2≤(J4 b n day).1.length):=by
 unfold J4
 split
 ·exact⟨by simp,fun h=>absurd h (by assumption)⟩
 ·rename_i hc
  have hok:=ZbY (Decidable.of_not_not hc)
  split
  ·exact⟨by simp,fun h=>by cases h⟩
  ·split
   ·exact⟨by simp,fun h=>by cases h⟩
   ·rename_i hpl
    split
    ·exact⟨by simp,fun h=>by cases h⟩
    ·have htab:=ZeN hok day
     have hp:=Xz (q:=fun t:Train=>decide (t.number=n)) (l:=QT b day) (i:=0) (by omega)
     have hm:=htab.2 ((QT b day).getD (place (QT b day) n).toNat default) (by
      have:(place (QT b day) n).toNat<(QT b day).length:=by unfold place at*;omega
      rw[List.getD_eq_getElem?_getD,List.getElem?_eq_getElem this]
      exact List.getElem_mem _)
     have:=hm.len
     simp only[Sp.calls,YF]
     exact⟨by omega,fun _=>by omega⟩
theorem Xd {f:Nat→Int} {i n:Nat} (h:i<n):Zp f i (n-i)=if f i≠0 then f i else Zp f (i+1) (n-(i+1)):=by
 rw[show n-i=(n-(i+1))+1 by omega,Zp]
theorem XA {f:Nat→Int} {i n:Nat} (h:n≤i):Zp f i (n-i)=0:=by
 rw[show n-i=0 by omega,Zp]
theorem Jc {nt:(α:Type)→α→List α→Int→α} (hnt:∀(α:Type) (d:α) (l:List α) (i:Int),nt α d l i=l.getD i.toNat d) {α:Type} (d:α) (l:List α) (i:Nat):l.getD i d=nt α d l i:=by rw[hnt];rfl
theorem ZuJ (t:Ze) (hf:YG t.book) (hr:t.runs.length≤1000000):SC (fun _=>Tryz.prog) 132 [Zf t] [] fun v h=>v= .tup [lst 1 Zb [] (if QO t=0 then callsOf t else []),.int .i64 fun _=>QO t]∧h=[]:=by
 obtain⟨nt,hnt⟩:=Zs
 refine SC.less (QP Tryz.func132 (body:=Zk Tryz.f132) rfl (by decide+kernel) ?_)
 have hE:QO t=if t.runs.length=0 then 7 else if 4<t.runs.length then 6 else Zp (JS t) 0 t.runs.length:=rfl
 obtain⟨R,hR⟩:∃R,R=if QO t=0 then callsOf t else []:=⟨_,rfl⟩
 rw[←hR]
 generalize QO t=e at*
 unfold Zf
 simp only[Za hnt]
 refine wS ?_
 refine⟨fun hb=>?_,fun hb=>?_⟩
 ·have hb:=eq_of_beq hb
  rw[if_pos (by omega)]at hE
  subst hE
  rw[if_neg (by decide)]at hR
  subst hR
  refine wS ?_
  refine⟨_,[],?_,rfl,rfl⟩
  exact ZI
 have hb:=ne_of_beq_false hb
 rw[if_neg (by omega)]at hE
 refine wS ?_
 refine⟨fun hb2=>?_,fun hb2=>?_⟩
 ·simp only[decide_eq_true_eq]at hb2
  rw[if_pos (by omega)]at hE
  subst hE
  rw[if_neg (by decide)]at hR
  subst hR
  refine wS ?_
  refine⟨_,[],?_,rfl,rfl⟩
  exact ZI
 simp only[decide_eq_false_iff_not]at hb2
 rw[if_neg (by omega)]at hE
 refine wS ?_
 refine ZV false false [] [1,4,21,22,23] [.tok 1 fun _=>0] (fun(⟨i,out⟩:Nat×List (List Sp.Call))=>[(4,.isl 1 (fun _=>(out.length:Int)) (fun e=>Zb (nt (List Sp.Call) [] out (e ()))) (.own 1)),(23,.int .i64 fun _=>i)])
  (fun⟨i,out⟩=>[(1,.tok 1 fun _=>(out.length:Int))])
  (fun⟨i,out⟩=>i≤t.runs.length∧e=Zp (JS t) i (t.runs.length-i)∧out=(t.runs.take i).map (Zaa t)) (fun i=>t.runs.length-i.1+0) (0,[]) ⟨Nat.zero_le _,hE,by simp⟩ ?_ ?_
 ·(refine To.of [(1,false)] ?_;cbv;(try simp only[nc]);(repeat' (first|exact trivial|exact ZD.refl _|exact ZL.refl _|refine⟨?_,?_⟩|refine ZL.cells ?_|refine ZD.agg ?_|refine ZD.tup ?_));(all_goals (first|exact X9|skip)))
 rintro⟨i,out⟩ ⟨hi,hp,ho⟩
 have hol:out.length=i:=by rw[ho];simp;omega
 refine wS ?_
 refine⟨fun hb=>?_,fun hb=>?_⟩
 ·simp only[decide_eq_true_eq]at hb
  rw[Xd (by omega)]at hp
  have htake:=Zex (d:=default) hnt (l:=t.runs) (i:=i) (by omega)
  have hre:JS t i=if(J4 t.book (nt Qq default t.runs i).number (nt Qq default t.runs i).day).2≠0 then(J4 t.book (nt Qq default t.runs i).number (nt Qq default t.runs i).day).2
   else if Q5 (Zaa t (nt Qq default t.runs i))≠0 then 5
   else if(t.runs.take i).any (fun x=>decide (x=nt Qq default t.runs i))then 4 else 0:=by unfold JS;rw[Jc hnt]
  have hcn:=Jc hnt default t.runs i
  generalize hd:nt Qq default t.runs i=d at*
  refine vS ?_
  simp only[hd]
  refine Chk.mk (Qa) ?_
  have k26:=c26 t.book d.number d.day hf
  have hlen:=Zhg t.book d.number d.day
  have hrc:Zaa t d=(J4 t.book d.number d.day).1:=rfl
  unfold Zc at k26
  simp only[Za hnt]at k26
  generalize J4 t.book d.number d.day=r at*
  obtain⟨C,er⟩:=r
  refine ZS (k26) (by first|rfl|(simp only[Zd,Zc,Zf,Za hnt];rfl)) fun r h₂ hp=>?_
  (try simp only[Zd,Zc,Zf,Za hnt]at hp)
  obtain⟨rfl,rfl⟩:=hp
  dsimp only at hre hlen hrc
  refine wS ?_
  refine⟨fun hb=>?_,fun hb=>?_⟩
  ·simp only[bne_iff_ne,ne_eq]at hb
   rw[if_pos hb]at hre
   rw[hre,if_pos hb]at hp
   subst hp
   rw[if_neg hb]at hR
   subst hR
   refine wS ?_
   refine⟨_,[],?_,rfl,rfl⟩
   exact ZI
  simp only[bne_eq_false_iff_eq]at hb
  subst hb
  rw[if_neg (fun h=>h rfl),hrc]at hre
  have hl2:=hlen.2 rfl
  have hl4:=hlen.1
  clear k26 hlen
  refine wS ?_
  refine Zai fun Q hQ=>?_
  refine ZV false false [] [1,4,5,6,7,9,21,22,23] [] (fun(j:Nat)=>[(9,.int .i64 fun _=>((j+1:Nat):Int))]) (fun _=>[]) (fun j=>j+1≤C.length∧Q5 C=Zp (Jg C) (j+1) (C.length-(j+1))) (fun j=>C.length-(j+1)+0) 0 ⟨by omega,rfl⟩ ?_ ?_
  ·exact ZI
  rintro j ⟨hk,hpk⟩
  refine wS ?_
  refine⟨fun hb=>?_,fun hb=>?_⟩
  ·simp only[decide_eq_true_eq]at hb
   rw[Xd (by omega)]at hpk
   have hoa:Jg C (j+1)=if(nt Sp.Call default C ((j+1:Nat):Int)).arrive≤(nt Sp.Call default C (((j+1:Nat):Int)-1)).depart then 5 else 0:=by
    unfold Jg
    rw[Jc hnt,Jc hnt,show((j+1-1:Nat):Int)=((j+1:Nat):Int)-1 by omega]
   refine wS ?_
   refine⟨fun hb'=>?_,fun hb'=>?_⟩
   ·simp only[decide_eq_true_eq]at hb'
    rw[if_pos hb']at hoa
    rw[hoa,if_pos (by decide)]at hpk
    rw[hpk,if_pos (by decide)]at hre
    rw[hre,if_pos (by decide)]at hp
    subst hp
    rw[if_neg (by decide)]at hR
    subst hR
    refine wS ?_
    refine hQ _ _ _ ?_
    refine wS ?_
    refine⟨_,[],?_,rfl,rfl⟩
    exact ZI
   ·simp only[decide_eq_false_iff_not]at hb'
    rw[if_neg hb']at hoa
    rw[hoa,if_neg (fun h=>h rfl)]at hpk
    refine wS ?_
    refine⟨j+1,⟨by omega,by rw[hpk]⟩,by show C.length-(j+1+1)+0<C.length-(j+1)+0;omega,?_⟩
    exact ZI
  ·simp only[decide_eq_false_iff_not]at hb
   rw[XA (by omega)]at hpk
   rw[hpk,if_neg (fun h=>h rfl)]at hre
   refine wS ?_
   refine hQ _ _ _ ?_
   refine wS ?_
   refine J2 (ZuE (t.runs.take i) d (by simp;omega)) (by(try simp only[Zd,Zc,Zf,Za hnt]);exact ZI) (by first|rfl|(simp only[Zd,Zc,Zf,Za hnt];rfl)) fun r h₂ hp=>?_
   (try simp only[Zd,Zc,Zf,Za hnt]at hp)
   obtain⟨rfl,rfl⟩:=hp
   refine wS ?_
   refine⟨fun hb'=>?_,fun hb'=>?_⟩
   ·rw[if_pos hb']at hre
    rw[hre,if_pos (by decide)]at hp
    subst hp
    rw[if_neg (by decide)]at hR
    subst hR
    refine wS ?_
    refine⟨_,[],?_,rfl,rfl⟩
    exact ZI
   ·rw[if_neg (by rw[hb'];exact Bool.false_ne_true)]at hre
    rw[hre,if_neg (fun h=>h rfl)]at hp
    refine wS ?_
    refine⟨(i+1,out++[C]),⟨by omega,by rw[hp],by rw[htake,List.map_append,ho];simp[hrc]⟩,by show t.runs.length-(i+1)+0<t.runs.length-i+0;omega,?_⟩
    refine toR ?_
    exact .snoc hnt rfl rfl (by simp only[Zb,Za hnt];rfl)
 ·simp only[decide_eq_false_iff_not]at hb
  rw[XA (by omega)]at hp
  subst hp
  rw[if_pos rfl]at hR
  have hout:out=R:=by rw[ho,hR,List.take_of_length_le (by omega)];rfl
  subst hout
  refine wS ?_
  refine⟨_,[],?_,rfl,rfl⟩
  exact ZI
set_option maxHeartbeats 4000000
structure Zas (c:List (List Sp.Call)):Prop where
 len:c.length≤4
 row:∀l∈c,2≤l.length∧l.length≤4
theorem ZoQ {f:FuncId} {xs ys:List AV} {h:List Zi} {Post Q:AV→List Zi→Prop} {B:Prop} (H:SC (fun _=>Tryz.prog) f ys [] Q) (k:B) (t:SC (fun _=>Tryz.prog) f ys [] Q→HdW B→SC (fun _=>Tryz.prog) f xs h Post:=by intro hH hW;refine ZS hH (by first|rfl|(simp only[Zd,Zc,Zf,Zb,Za hnt];rfl)) fun r h₂ hp=>?_;(try simp only[Zd,Zc,Zf,Zb,Za hnt]at hp);obtain⟨rfl,rfl⟩:=hp;exact hW.out):SC (fun _=>Tryz.prog) f xs h Post:=t H ⟨k⟩
theorem XJ {n lo hi:Int} (h:Xw n lo hi=false):lo≤n∧n≤hi:=by
 unfold Xw Yx at h
 simp only[Bool.not_eq_false',Bool.and_eq_true,decide_eq_true_eq]at h
 exact h
theorem Je (l:List Sp.Call) (f st:Int):ZM l f st<l.length∧(ZM l f st=-1∨(0≤ZM l f st∧f≤ZM l f st)):=by
 unfold ZM
 obtain⟨m,hm⟩:∃m:Nat,max 0 f=(m:Int):=⟨(max 0 f).toNat,by omega⟩
 have hf:f≤m:=by omega
 rw[hm,Int.toNat_natCast]
 have h1:=Xz (q:=fun c:Sp.Call=>decide (c.station=st)) (l:=l.drop m) (i:=(m:Int)) (by omega)
 by_cases h:m≤l.length
 ·rw[List.length_drop]at h1
  omega
 ·rw[List.drop_eq_nil_of_le (by omega)]
  exact⟨by simp only[Zw];omega,.inl rfl⟩
theorem ZnV {nt:(α:Type)→α→List α→Int→α} (hnt:∀(α:Type) (d:α) (l:List α) (i:Int),nt α d l i=l.getD i.toNat d) (c:List (List Sp.Call)):lst 1 Zb [] c= .isl 1 (fun _=>(c.length:Int)) (fun e=>[.isl 3 (fun _=>((nt (List Sp.Call) [] c (e ())).length:Int)) (fun e'=>XK (nt Sp.Call default (nt (List Sp.Call) [] c (e ())) (e' ()))) .none]) .none:=by
 rw[Za hnt]
 simp only[Zb,Za hnt]
theorem ZuI (c:List (List Sp.Call)) (w:Sp.Xo) (bf:List Sp.Xo) (hc:Zas c) (hb:bf.length≤1000000):SC (fun _=>Tryz.prog) 133 [lst 1 Zb [] c,.agg (Xh w),lst 4 Xh default bf] [] fun v h=>v= .int .i64 (fun _=>QA c w bf)∧h=[]:=by
 obtain⟨nt,hnt⟩:=Zs
 rw[ZnV hnt,Za hnt]
 refine QP Tryz.func133 (body:=Zk Tryz.f133) rfl (by decide+kernel) ?_
 have hlen:=hc.len
 have k1:=ZcY w.feeder 0 (c.length-1)
 have k2:=ZcY w.train 0 (c.length-1)
 have k3:=ZcY w.minutes 0 60
 have hmem:∀i:Int,0≤i→i≤(c.length:Int)-1→nt (List Sp.Call) [] c i∈c:=fun i h0 h1=>by
  have:i.toNat<c.length:=by omega
  rw[hnt,List.getD_eq_getElem?_getD,List.getElem?_eq_getElem this]
  exact List.getElem_mem _
 generalize hE:QA c w bf=e
 unfold QA at hE
 rw[←hnt (List Sp.Call) [] c w.feeder,←hnt (List Sp.Call) [] c w.train]at hE
 refine wS ?_
 refine ZoQ (k1) ?_
 refine wS ?_
 refine⟨fun h1=>?_,fun h1=>?_⟩
 case refine_2=>
  have h1:=nb4 h1
  rw[h1,Bool.true_or,if_pos rfl]at hE
  subst hE
  refine wS ?_
  refine Br.isT rfl ?_
  (cbv;(try simp only[nc]at*);(try refine Chk.mk (Qa) ?_))
  (try first|exact⟨rfl,trivial⟩|exact⟨trivial,trivial⟩)
 have h1:=nb2 h1
 rw[h1,Bool.false_or]at hE
 refine wS ?_
 refine ZoQ (k2) ?_
 refine wS ?_
 refine⟨fun h2=>?_,fun h2=>?_⟩
 ·rw[h1]at h2
  have h2:Xw w.train 0 (c.length-1)=true:=h2
  rw[if_pos h2]at hE
  subst hE
  (cbv;(try simp only[nc]at*);(try refine Chk.mk (Qa) ?_))
  (try first|exact⟨rfl,trivial⟩|exact⟨trivial,trivial⟩)
 rw[h1]at h2
 have h2:Xw w.train 0 (c.length-1)=false:=h2
 rw[if_neg (by rw[h2];exact Bool.false_ne_true)]at hE
 have b1:=XJ h1
 have b2:=XJ h2
 refine wS ?_
 refine⟨fun h3=>?_,fun h3=>?_⟩
 ·have h3:=eq_of_beq h3
  rw[if_pos h3]at hE
  subst hE
  (cbv;(try simp only[nc]at*);(try refine Chk.mk (Qa) ?_))
  (try first|exact⟨rfl,trivial⟩|exact⟨trivial,trivial⟩)
 have h3:=ne_of_beq_false h3
 rw[if_neg h3]at hE
 have m1:=hmem _ b1.1 b1.2
 have m2:=hmem _ b2.1 b2.2
 refine vS ?_
 generalize hF:nt (List Sp.Call) [] c w.feeder=F at*
 generalize hT:nt (List Sp.Call) [] c w.train=U at*
 have r1:=hc.row _ m1
 have r2:=hc.row _ m2
 have q1:=ZsF F w.station (by omega)
 have q2:=ZtV U w.station (by omega)
 have s1:Qc F w.station<F.length∧-1≤Qc F w.station:=by have:=Je F 1 w.station;unfold Qc;omega
 have s2:Z7 U w.station<(U.length:Int)-1∧-1≤Z7 U w.station:=by
  have:=Je U 0 w.station
  unfold Z7
  split<;>omega
 simp only[Za hnt]at q1 q2
 try simp only[hF,hT]
 try refine Chk.mk (Qa) ?_
 refine ZoQ (q1) ?_
 refine vS ?_
 try simp only[hF,hT]
 try refine Chk.mk (Qa) ?_
 refine ZoQ (q2) ?_
 refine vS ?_
 try simp only[hF,hT]
 try refine Chk.mk (Qa) ?_
 generalize Qc F w.station=a at*
 generalize Z7 U w.station=b at*
 refine⟨fun h4=>?_,fun h4=>?_⟩
 ·rw[if_pos (by
   cases ha:decide (a<0)with
   |true=>exact .inl (of_decide_eq_true ha)
   |false=>rw[ha]at h4;exact .inr (of_decide_eq_true h4))]at hE
  subst hE
  (cbv;(try simp only[nc]at*);(try refine Chk.mk (Qa) ?_))
  (try first|exact⟨rfl,trivial⟩|exact⟨trivial,trivial⟩)
 have h5:0≤a:=by
  cases ha:decide (a<0)with
  |true=>rw[ha]at h4;cases h4
  |false=>have:=of_decide_eq_false ha;omega
 have h6:0≤b:=by
  cases ha:decide (a<0)with
  |true=>rw[ha]at h4;cases h4
  |false=>rw[ha]at h4;have:=of_decide_eq_false h4;omega
 rw[if_neg (by omega)]at hE
 clear q1 q2
 refine wS ?_
 refine ZoQ (k3) ?_
 refine wS ?_
 refine⟨fun h7=>?_,fun h7=>?_⟩
 ·rw[if_pos h7]at hE
  subst hE
  (cbv;(try simp only[nc]at*);(try refine Chk.mk (Qa) ?_))
  (try first|exact⟨rfl,trivial⟩|exact⟨trivial,trivial⟩)
 rw[if_neg (by rw[h7];exact Bool.false_ne_true)]at hE
 rw[←hnt Sp.Call default U b,←hnt Sp.Call default F a]at hE
 refine vS ?_
 try simp only[hF,hT]
 try refine Chk.mk (Qa) ?_
 refine⟨fun h8=>?_,fun h8=>?_⟩
 ·have h8:=of_decide_eq_true h8
  rw[if_pos h8]at hE
  subst hE
  (cbv;(try simp only[nc]at*);(try refine Chk.mk (Qa) ?_))
  (try first|exact⟨rfl,trivial⟩|exact⟨trivial,trivial⟩)
 rw[if_neg (of_decide_eq_false h8)]at hE
 clear h8 h7 h4
 refine wS ?_
 refine ZV false false [] [4,79,80,81] [] (fun(i:Nat)=>[(81,.int .i64 fun _=>i)]) (fun _=>[]) (fun i=>i≤bf.length∧bf.any (fun x=>decide (x.feeder=w.feeder∧x.train=w.train∧x.station=w.station))=(bf.drop i).any (fun x=>decide (x.feeder=w.feeder∧x.train=w.train∧x.station=w.station))) (fun i=>bf.length-i+0) 0 ⟨Nat.zero_le _,by simp⟩ ?_ ?_
 ·exact ZI
 rintro i ⟨hi,hp⟩
 refine wS ?_
 refine⟨fun hb=>?_,fun hb=>?_⟩
 ·have hb:=of_decide_eq_true hb
  have hd:=Qu (d:=default) hnt (l:=bf) (i:=i) (by omega)
  rw[hd,List.any_cons]at hp
  generalize hx:nt Sp.Xo default bf i=x at*
  refine vS ?_
  try simp only[hx]
  try refine Chk.mk (Qa) ?_
  have he:(bif (bif x.feeder==w.feeder then x.train==w.train else false)then x.station==w.station else false)=decide (x.feeder=w.feeder∧x.train=w.train∧x.station=w.station):=by
   by_cases e1:x.feeder=w.feeder<;>by_cases e2:x.train=w.train<;>by_cases e3:x.station=w.station<;>simp[e1,e2,e3]
  refine⟨fun h9=>?_,fun h9=>?_⟩
  ·rw[he]at h9
   rw[h9,Bool.true_or]at hp
   rw[hp,if_pos rfl]at hE
   subst hE
   (cbv;(try simp only[nc]at*);(try refine Chk.mk (Qa) ?_))
   (try first|exact⟨rfl,trivial⟩|exact⟨trivial,trivial⟩)
  ·rw[he]at h9
   rw[h9,Bool.false_or]at hp
   refine wS ?_
   refine⟨i+1,⟨by omega,hp⟩,by show bf.length-(i+1)+0<bf.length-i+0;omega,?_⟩
   exact ZI
 ·have hb:=of_decide_eq_false hb
  rw[List.drop_eq_nil_of_le (by omega)]at hp
  rw[hp,List.any_nil,if_neg Bool.false_ne_true]at hE
  subst hE
  (cbv;(try simp only[nc]at*);(try refine Chk.mk (Qa) ?_))
  (try first|exact⟨rfl,trivial⟩|exact⟨trivial,trivial⟩)
end Go.Proofs.YtjgpiclllehgmaaGreat.Vm
