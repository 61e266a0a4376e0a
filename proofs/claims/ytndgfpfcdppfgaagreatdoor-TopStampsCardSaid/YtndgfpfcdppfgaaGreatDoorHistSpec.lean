/- What hist.Spans, hist.Right and hist.First come to, as plain functions on lists. No condition. -/
import Derived.Test.YtndgfpfcdppfgaaGreatDoorOwnx0
namespace Go.Proofs.YtndgfpfcdppfgaaGreatDoor.Own

/-- The state of Spans behind some events. -/
structure SpSt where
  out : List S49
  last : Int → Option Nat
  begun : Int → Int
  step : Int
  cnt : Int
def SpSt.start : SpSt := ⟨[], fun _ => none, fun _ => 0, -1, 0⟩
/-- The span that a thread last began, if it is open. -/
def SpSt.open_ (s : SpSt) (t : Int) : Bool := (s.last t).isSome && (rd_T49 s.out ((s.last t).getD 0 : Nat)).f3 == -1
def SpSt.bad1 (s : SpSt) (e : S109) : Bool :=
  decide (e.f0 < 0) || decide (e.f0 < s.step) || (e.f3 != s.open_ e.f1) || (s.open_ e.f1 && (e.f2 != (rd_T49 s.out ((s.last e.f1).getD 0 : Nat)).f1)) || (!s.open_ e.f1 && (e.f2 != s.begun e.f1))
def SpSt.bad2 (s : SpSt) (p e : S109) : Bool := decide (2 < s.cnt + 1) || !e.f3 || p.f3 || (p.f1 != e.f1)
/-- What an event does. -/
def SpSt.go (s : SpSt) (e : S109) : SpSt :=
  if e.f3 = true then { s with out := s.out.set ((s.last e.f1).getD 0) ⟨(rd_T49 s.out ((s.last e.f1).getD 0 : Nat)).f0, (rd_T49 s.out ((s.last e.f1).getD 0 : Nat)).f1, (rd_T49 s.out ((s.last e.f1).getD 0 : Nat)).f2, e.f0⟩ }
  else { s with out := s.out ++ [⟨e.f1, e.f2, e.f0, -1⟩], last := fun t => if t = e.f1 then some s.out.length else s.last t, begun := fun t => if t = e.f1 then s.begun e.f1 + 1 else s.begun t }
def SpSt.next (s : SpSt) (p e : S109) : Option SpSt :=
  if s.bad1 e = true then none
  else if e.f0 = s.step then (if s.bad2 p e = true then none else some ({ s with cnt := s.cnt + 1 }.go e))
  else some ({ s with step := e.f0, cnt := 1 }.go e)
/-- All events; p: the one ahead. -/
def spRun : S109 → List S109 → SpSt → Option SpSt
  | _, [], s => some s
  | p, e :: r, s => (s.next p e).bind (spRun e r)
/-- Is every thread's number one of an int? -/
def fit (n : Int) : Bool := decide (-9223372036854775808 ≤ n) && decide (n ≤ 9223372036854775807)
def hist_Spans.f (l0 : List S109) : Option (List S49 × Int) :=
  if l0.length < 4398046511104 ∧ l0.all (fun e => fit e.f1) = true then
    match spRun z109 l0 SpSt.start with
    | none => some ([], 50)
    | some s => some (s.out, 0)
  else none
/-- The state of Right behind some spans. -/
structure RiSt where
  last : Int → Option S49
  begun : Int → Int
  used : Int → Option Int
def RiSt.start : RiSt := ⟨fun _ => none, fun _ => 0, fun _ => none⟩
def RiSt.bad (s : RiSt) (e : S49) : Bool :=
  decide (e.f2 < 0) || ((e.f3 != -1) && decide (e.f3 < e.f2)) || (e.f1 != s.begun e.f0) || ((s.last e.f0).isSome && ((((s.last e.f0).getD z49).f3 == -1) || decide (e.f2 ≤ ((s.last e.f0).getD z49).f3)))
def useBad (u : Int → Option Int) (t x : Int) : Bool := (u x).isSome && ((u x).getD 0 != t) && (x != -1)
def useUp (u : Int → Option Int) (t x : Int) : Int → Option Int := fun y => if y = x then some t else u y
def RiSt.up (s : RiSt) (e : S49) (u : Int → Option Int) : RiSt :=
  ⟨fun t => if t = e.f0 then some e else s.last t, fun t => if t = e.f0 then s.begun e.f0 + 1 else s.begun t, u⟩
def RiSt.next (s : RiSt) (e : S49) : Option RiSt :=
  if s.bad e = true then none
  else if useBad s.used e.f0 e.f2 = true then none
  else if useBad (useUp s.used e.f0 e.f2) e.f0 e.f3 = true then none
  else some (s.up e (useUp (useUp s.used e.f0 e.f2) e.f0 e.f3))
def riRun : List S49 → RiSt → Option RiSt
  | [], s => some s
  | e :: r, s => (s.next e).bind (riRun r)
def fit36 (e : S49) : Bool := fit e.f0 && fit e.f2 && fit e.f3
def hist_Right.f (l0 : List S49) : Option Int :=
  if l0.length < 4398046511104 ∧ l0.all fit36 = true then
    match riRun l0 RiSt.start with
    | none => some 50
    | some _ => some 0
  else none
end Go.Proofs.YtndgfpfcdppfgaaGreatDoor.Own
