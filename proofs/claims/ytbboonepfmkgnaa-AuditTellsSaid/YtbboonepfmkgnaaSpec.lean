/- The plain functions that the program and the references compute, on lists and integers. -/
namespace Lb

structure Tk where
  id : Int
  kind : Int
  frm : Int
  til : Int
  zones : Int
  rides : Int
  deriving DecidableEq, Inhabited

structure Tp where
  ticket : Int
  gate : Int
  seq : Int
  time : Int
  zone : Int
  deriving DecidableEq, Inhabited

structure Ld where
  tickets : List Tk
  taps : List Tp
  verdicts : List Int
  deriving DecidableEq, Inhabited

structure Dn where
  version : Int
  ids : List Int
  deriving DecidableEq, Inhabited

structure Gt where
  id : Int
  zone : Int
  seq : Int
  alone : List Tp
  denied : Dn
  left : Int
  untl : Int
  deriving DecidableEq, Inhabited

structure Vw where
  epoch : Int
  leader : Int
  up : Bool
  deriving DecidableEq, Inhabited

structure St where
  ledger : Ld
  denied : Dn
  gates : List Gt
  views : List Vw
  deriving DecidableEq, Inhabited

structure Ac where
  kind : Int
  id : Int
  of : Int
  time : Int
  ticket : Tk
  deriving DecidableEq, Inhabited

def tk0 : Tk := ⟨0, 0, 0, 0, 0, 0⟩
def tp0 : Tp := ⟨0, 0, 0, 0, 0⟩
def ld0 : Ld := ⟨[], [], []⟩
def dn0 : Dn := ⟨0, []⟩
def gt0 : Gt := ⟨0, 0, 0, [], dn0, 0, 0⟩
def st0 : St := ⟨ld0, dn0, [], []⟩

def within (n a b : Int) : Bool := decide (a ≤ n) && decide (n ≤ b)

/- tickets -/
def ckTicket (t : Tk) : Int :=
  if !(within t.id 1 9999 && within t.frm 0 9999 && within t.til 0 9999 && within t.zones 1 15) then 3
  else if !within t.kind 1 3 then 7
  else if t.til < t.frm then 4
  else if t.kind = 3 ∧ within t.rides 2 9 = false ∨ t.kind ≠ 3 ∧ t.rides ≠ 0 then 1 else 0

/- bytes of a ticket, and back -/
def decTk (l : List UInt8) : Option Tk :=
  match l with
  | [b0, b1, b2, b3, b4, b5, b6, b7] => some ⟨b0.toNat * 256 + b1.toNat, b6.toNat / 16, b2.toNat * 256 + b3.toNat, b4.toNat * 256 + b5.toNat, b6.toNat % 16, b7.toNat⟩
  | _ => none

def decodeTk (l : List UInt8) : Tk × Int :=
  match decTk l with
  | none => (tk0, 1)
  | some t => if ckTicket t ≠ 0 then (tk0, ckTicket t) else (t, 0)

/- taps -/
def isZone (n : Int) : Bool := n == 1 || n == 2 || n == 4 || n == 8

def ckTap (p : Tp) : Int :=
  if !(within p.ticket 1 9999 && within p.gate 0 2 && within p.seq 1 99 && within p.time 0 9999) then 3
  else if !isZone p.zone then 9 else 0

def place (t : Tk) (time zone : Int) : Int :=
  if time < t.frm ∨ t.til < time then 8
  else if t.zones / zone % 2 = 0 then 9 else 0

def goesOn (last : Option Int) (time : Int) : Bool :=
  match last with
  | none => false
  | some s => decide (s ≤ time) && decide (time < s + 60)

/- last: the time of the last ride; none: there was none -/
def judge (t : Tk) (last : Option Int) (rides : Int) (p : Tp) : Int × Int :=
  let e := place t p.time p.zone
  if e ≠ 0 then (3, e)
  else if goesOn last p.time then (2, 0)
  else if t.kind = 1 ∧ 1 ≤ rides ∨ t.kind = 3 ∧ t.rides ≤ rides then (3, 10)
  else (1, 0)

def eachTap (f : Tp → Int) : List Tp → Int
  | [] => 0
  | p :: l => if f p ≠ 0 then f p else eachTap f l

def ckJudge (t : Tk) (was : List Tp) (rides : Int) (p : Tp) : Int :=
  if ckTicket t ≠ 0 then ckTicket t
  else if ckTap p ≠ 0 then ckTap p
  else if !within rides 0 60 then 3
  else if eachTap ckTap was ≠ 0 then eachTap ckTap was
  else if p.ticket ≠ t.id ∨ was.any (fun x => x.ticket != t.id) then 4
  else 0

def lastTime (was : List Tp) : Option Int := was.getLast?.map (·.time)

def judgeAll (t : Tk) (was : List Tp) (rides : Int) (p : Tp) : Int × Int :=
  if ckJudge t was rides p ≠ 0 then (0, ckJudge t was rides p)
  else judge t (lastTime was) rides p

/- ledgers -/
def findTk (l : List Tk) (id : Int) : Option Nat := l.findIdx? (fun t => t.id == id)

def noRise (prev : Option Int) (n : Int) : Bool :=
  match prev with
  | none => false
  | some b => decide (n ≤ b)

def ckTickets : Option Int → List Tk → Int
  | _, [] => 0
  | prev, t :: l =>
    if ckTicket t ≠ 0 then ckTicket t
    else if noRise prev t.id then 4
    else ckTickets (some t.id) l

def isRide (id : Int) (x : Tp × Int) : Bool := x.1.ticket == id && x.2 == 1

def ridesOf (taps : List Tp) (vs : List Int) (id : Int) : List Tp :=
  ((taps.zip vs).filter (isRide id)).map (·.1)

end Lb
