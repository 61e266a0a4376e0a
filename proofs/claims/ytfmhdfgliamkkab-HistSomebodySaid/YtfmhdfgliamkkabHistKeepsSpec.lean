/- What hist.Keeps comes to, as a plain function on lists. No condition. -/
import Derived.Test.YtfmhdfgliamkkabHistFirstSpec
namespace Go.Proofs.Ytfmhdfgliamkkab.Own
/-- The marks of what is left behind an order's places; pre: the places ahead. -/
def kpRun (l : List S57) : List Int → List Int → List Bool → Option (List Bool)
  | _, [], left => some left
  | pre, n :: r, left =>
    if n < 0 ∨ (l.length : Int) ≤ n ∨ left.getD n.toNat false = false then none
    else if (pre.any fun m => aheadB (rd_T57 l n) (rd_T57 l m)) = true then none
    else kpRun l (pre ++ [n]) r (left.set n.toNat false)
def lateOf (l : List S57) (left : List Bool) (i : Nat) : Bool := (List.range i).any fun i => left.getD i false && decide (0 ≤ (rd_T57 l (i : Int)).f3)
def keepsB (l : List S57) (order : List Int) : Bool :=
  match kpRun l [] order (List.replicate l.length true) with
  | none => false
  | some left => !lateOf l left l.length
def hist_Keeps.f (l0 : List S57) (l1 : List Int) : Option Bool := if l0.length < 4398046511104 ∧ l1.length < 17592186044416 then some (keepsB l0 l1) else none
end Go.Proofs.Ytfmhdfgliamkkab.Own
