/- What hist.First comes to, as a plain function on lists. No condition. -/
import Derived.Test.YtndgfpfcdppfgaaGreatDoorOwnx0
namespace Go.Proofs.YtndgfpfcdppfgaaGreatDoor.Own
def aheadB (a b : S49) : Bool := decide (0 ≤ a.f3) && decide (a.f3 < b.f2)
/-- Does one of the first n spans that are left go ahead of span i? -/
def stops (l : List S49) (left : List Bool) (i n : Nat) : Bool := (List.range n).any fun k => left.getD k false && (k != i && aheadB (rd_T49 l (k : Int)) (rd_T49 l (i : Int)))
/-- Those of the first n spans that stand first. -/
def firsts (l : List S49) (left : List Bool) (n : Nat) : List Int := ((List.range n).filter fun i => left.getD i false && !stops l left i l.length).map Int.ofNat
def hist_First.f (l0 : List S49) (l1 : List Bool) : Option (List Int) := if l0.length < 4398046511104 then some (firsts l0 l1 l0.length) else none
end Go.Proofs.YtndgfpfcdppfgaaGreatDoor.Own
