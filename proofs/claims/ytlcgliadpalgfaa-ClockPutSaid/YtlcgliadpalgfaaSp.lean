/- What the functions of the layer clock compute, in plain Lean. -/
namespace Go.Proofs.Ytlcgliadpalgfaa.Sp

structure Chg where
  at_ : Int
  by_ : Int
deriving DecidableEq, Inhabited
structure Zone where
  base : Int
  chs : List Chg
deriving Inhabited
structure Pc where
  fr : Int
  bef : Int
  ahd : Int
deriving DecidableEq, Inhabited

def inB (n lo hi : Int) : Bool := decide (lo ≤ n) && decide (n ≤ hi)

def leP : Option Int → Int → Bool
  | some a, x => decide (x ≤ a)
  | none, _ => false

/-- The error of the changes from one on; the instant of the one before, if there is one. -/
def chkChs : Option Int → List Chg → Int
  | _, [] => 0
  | p, c :: r => if !inB c.at_ 0 43200 then 1 else if leP p c.at_ then 5 else if !inB c.by_ (-180) 180 || decide (c.by_ = 0) then 1 else chkChs (some c.at_) r
theorem chkChs_cons (p : Option Int) (c : Chg) (r : List Chg) : chkChs p (c :: r) = if !inB c.at_ 0 43200 then 1 else if leP p c.at_ then 5 else if !inB c.by_ (-180) 180 || decide (c.by_ = 0) then 1 else chkChs (some c.at_) r := by cases p <;> rfl
theorem chkChs_nil (p : Option Int) : chkChs p [] = 0 := by cases p <;> rfl
def checkZone (z : Zone) : Int := if !inB z.base (-720) 720 then 1 else if 3 < z.chs.length then 6 else chkChs none z.chs

def checkInstant (z : Zone) (t : Int) : Int := if checkZone z ≠ 0 then checkZone z else if !inB t 0 43200 then 1 else 0
def checkHour (z : Zone) (d m : Int) : Int := if checkZone z ≠ 0 then checkZone z else if !inB d (-1) 31 || !inB m 0 1439 then 1 else 0

def openT : Int := 1099511627776

def pcsGo : Int → Int → List Chg → List Pc
  | fr, a, [] => [⟨fr, openT, a⟩]
  | fr, a, c :: r => if fr < c.at_ then ⟨fr, c.at_, a⟩ :: pcsGo c.at_ (a + c.by_) r else pcsGo c.at_ (a + c.by_) r
def pieces (z : Zone) : List Pc := pcsGo 0 z.base z.chs

def aheadGo : Int → List Pc → Int → Int
  | n, [], _ => n
  | n, p :: r, t => aheadGo (if p.fr ≤ t then p.ahd else n) r t
def ahead (z : Zone) (t : Int) : Int := aheadGo 0 (pieces z) t

def hour : List Pc → Int → Int → Int
  | [], _, _ => openT
  | p :: l, r, after => if max p.fr (max after (r - p.ahd)) < p.bef then max p.fr (max after (r - p.ahd)) else hour l r after

def Reads (z : Zone) (t : Int) : Int × Int × Int := if checkInstant z t ≠ 0 then (0, 0, checkInstant z t) else ((t + ahead z t) / 1440, (t + ahead z t) % 1440, 0)
def Ahead (z : Zone) (t : Int) : Int × Int := if checkInstant z t ≠ 0 then (0, checkInstant z t) else (ahead z t, 0)
def when (l : List Pc) (r : Int) : List Int := match l with
  | [] => []
  | p :: l => if p.fr ≤ r - p.ahd ∧ r - p.ahd < p.bef then (r - p.ahd) :: when l r else when l r
def When (z : Zone) (d m : Int) : List Int × Int := if checkHour z d m ≠ 0 then ([], checkHour z d m) else (when (pieces z) (1440 * d + m), 0)
def Hour (z : Zone) (d m a : Int) : Int × Int := if checkHour z d m ≠ 0 then (0, checkHour z d m) else if !inB a 0 43200 then (0, 1) else (hour (pieces z) (1440 * d + m) a, 0)

structure Stop where
  station : Int
  zone : Int
  arrive : Int
  depart : Int
deriving DecidableEq, Inhabited
structure Train where
  number : Int
  days : Int
  stops : List Stop
deriving DecidableEq, Inhabited
structure Book where
  zones : List Zone
  old : List Train
  new : List Train
  night : Int
  last : Int
deriving Inhabited
structure Leg where
  number : Int
  from_ : Int
  to_ : Int
deriving DecidableEq, Inhabited
structure Ride where
  day : Int
  depart : Int
  arrive : Int
deriving DecidableEq, Inhabited
structure Call where
  station : Int
  arrive : Int
  depart : Int
deriving DecidableEq, Inhabited
structure Span where
  fr : Int
  to_ : Int
deriving DecidableEq, Inhabited

/-- The place of the first element with a property; -1 if there is none. -/
def indexFrom {α : Type} (q : α → Bool) : Int → List α → Int
  | _, [] => -1
  | i, a :: l => if q a then i else indexFrom q (i + 1) l
def counted (n least most : Int) : Int := if n < least then 7 else if most < n then 6 else 0
def checkStop (before : List Stop) (s : Stop) (inner : Bool) (zones : Int) : Int :=
  if !inB s.station 0 9 then 1 else if before.any (fun x => decide (x.station = s.station)) then 4 else if !inB s.zone 0 (zones - 1) then 3
  else if !inB s.arrive 0 4319 || !inB s.depart 0 4319 then 1 else if inner && decide (s.depart < s.arrive) then 5 else 0

/-- An element sinks to its place. -/
def sink : Nat → List Int → List Int
  | 0, l => l
  | j + 1, l => if l.getD (j + 1) 0 < l.getD j 0 then sink j ((l.set (j + 1) (l.getD j 0)).set j (l.getD (j + 1) 0)) else l
def isortGo : Nat → Nat → List Int → List Int
  | 0, _, l => l
  | k + 1, i, l => isortGo k (i + 1) (sink i l)
def isort (l : List Int) : List Int := isortGo (l.length - 1) 1 l

def ends (l : List Pc) : List Int := l.flatMap fun p => [p.fr + p.ahd, p.bef + p.ahd]
def times : List Pc → Int → Int
  | [], _ => 0
  | p :: l, lo => (if p.fr + p.ahd ≤ lo ∧ lo < p.bef + p.ahd then 1 else 0) + times l lo
/-- One more span. -/
def spanStep (l : List Pc) (q : Int → Bool) (out : List Span) (lo hi : Int) : List Span :=
  if hi = lo ∨ q (times l lo) = false then out
  else match out.getLast? with
    | some x => if x.to_ = lo - 1 then out.dropLast ++ [⟨x.fr, hi - 1⟩] else out ++ [⟨lo, hi - 1⟩]
    | none => out ++ [⟨lo, hi - 1⟩]
def spansGo (l : List Pc) (q : Int → Bool) : List Span → List Int → List Span
  | out, a :: b :: r => spansGo l q (spanStep l q out a b) (b :: r)
  | out, _ => out
theorem spansGo_one (l : List Pc) (q : Int → Bool) (out : List Span) (x : Int) : spansGo l q out [x] = out := by unfold spansGo; rfl
def spans (z : Zone) (q : Int → Bool) : List Span := spansGo (pieces z) q [] (isort (ends (pieces z)))
def Skipped (z : Zone) : List Span × Int := if checkZone z ≠ 0 then ([], checkZone z) else (spans z fun n => decide (n = 0), 0)
def Doubled (z : Zone) : List Span × Int := if checkZone z ≠ 0 then ([], checkZone z) else (spans z fun n => decide (1 < n), 0)
end Go.Proofs.Ytlcgliadpalgfaa.Sp
