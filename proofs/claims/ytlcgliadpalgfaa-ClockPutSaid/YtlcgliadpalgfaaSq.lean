/- What the functions of the layer clock compute about books and runs, in plain Lean. -/
import Derived.Test.YtlcgliadpalgfaaSp
set_option linter.unusedSimpArgs false
set_option linter.unusedVariables false
namespace Go.Proofs.Ytlcgliadpalgfaa.Sp

/-- The first error of some things. -/
def firstErr (f : Nat → Int) : Nat → Nat → Int
  | _, 0 => 0
  | i, k + 1 => if f i ≠ 0 then f i else firstErr f (i + 1) k

def chkStopAt (zones : Int) (l : List Stop) (i : Nat) : Int := checkStop (l.take i) (l.getD i default) (decide (0 < i) && decide ((i : Int) < l.length - 1)) zones
def chkStops (zones : Int) (l : List Stop) : Int := firstErr (chkStopAt zones l) 0 l.length
def chkTrainAt (zones : Int) (l : List Train) (i : Nat) : Int :=
  if !inB (l.getD i default).number 1 999 then 1 else if (l.take i).any (fun x => decide (x.number = (l.getD i default).number)) then 4 else if !inB (l.getD i default).days 1 127 then 1
  else if counted (l.getD i default).stops.length 2 4 ≠ 0 then counted (l.getD i default).stops.length 2 4 else chkStops zones (l.getD i default).stops
def chkTrains (zones : Int) (l : List Train) : Int := if counted l.length 0 4 ≠ 0 then counted l.length 0 4 else firstErr (chkTrainAt zones l) 0 l.length
def Check (b : Book) : Int :=
  if counted b.zones.length 1 3 ≠ 0 then counted b.zones.length 1 3
  else if firstErr (fun i => checkZone (b.zones.getD i default)) 0 b.zones.length ≠ 0 then firstErr (fun i => checkZone (b.zones.getD i default)) 0 b.zones.length
  else if chkTrains b.zones.length b.old ≠ 0 then chkTrains b.zones.length b.old
  else if chkTrains b.zones.length b.new ≠ 0 then chkTrains b.zones.length b.new
  else if !inB b.last 0 13 || !inB b.night 0 (b.last + 1) then 1 else 0

def table (b : Book) (day : Int) : List Train := if day < b.night then b.old else b.new
/-- Whether a train starts on a day. -/
def starts (t : Train) (day : Int) : Bool := decide (t.days / 2 ^ (day % 7).toNat % 2 = 1)

/-- The calls of a run from a stop on: n is the place of the stop, now when the event before was. -/
def callsGo (zs : List Zone) (day : Int) (many : Nat) : Nat → Int → List Stop → List Call
  | _, _, [] => []
  | i, now, s :: r =>
    if i = 0 then
      let d := if i + 1 < many then hour (pieces (zs.getD s.zone.toNat default)) (1440 * day + s.depart) now else 0
      ⟨s.station, d, d⟩ :: callsGo zs day many (i + 1) d r
    else
      let a := hour (pieces (zs.getD s.zone.toNat default)) (1440 * day + s.arrive) now
      let d := if i + 1 < many then hour (pieces (zs.getD s.zone.toNat default)) (1440 * day + s.depart) a else a
      ⟨s.station, a, d⟩ :: callsGo zs day many (i + 1) d r
def calls (zs : List Zone) (t : Train) (day : Int) : List Call := callsGo zs day t.stops.length 0 0 t.stops

/-- The place of a train in a timetable; -1 if it has none. -/
def place (l : List Train) (number : Int) : Int := indexFrom (fun t => decide (t.number = number)) 0 l
def Run (b : Book) (number day : Int) : List Call × Int :=
  if Check b ≠ 0 then ([], Check b) else if !inB day 0 b.last then ([], 1)
  else if place (table b day) number < 0 then ([], 3)
  else if !starts ((table b day).getD (place (table b day) number).toNat default) day then ([], 11)
  else (calls b.zones ((table b day).getD (place (table b day) number).toNat default) day, 0)
end Go.Proofs.Ytlcgliadpalgfaa.Sp
