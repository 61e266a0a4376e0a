/- What Split and Unpack come to. No condition. -/
import Derived.Test.YtkiofmbecjfanabDoorNumMath
import Derived.Test.YtkiofmbecjfanabDoorOwnx4
import Derived.Test.YtkiofmbecjfanabDoorOwnx5
namespace Go.Proofs.YtkiofmbecjfanabDoor.Math
open Go.RowKit
section
variable {a0 a1 : Int} (h0 : 0 ≤ a0) (h1 : 0 ≤ a1) (h2 : a1 < 18446744073709551616)
include h1 h2
theorem split_p : Own.word_Split.f a1 = some (split a1) := by
  unfold Own.word_Split.f split
  rw [and_1 h1 h2]
  repeat' (first | split | rfl)
end
section
variable {k g s w : Int}
theorem unpack_p (h0 : 0 ≤ w) (h1 : w < 18446744073709551616) : Own.word_Unpack.f w = some (unpack w) := by
  unfold Own.word_Unpack.f unpack
  rw [and_3 h0 h1, and_gen (by omega) (by omega)]
  have e1 : w % 4 % 256 = w % 4 := by omega
  rw [e1]
end
end Go.Proofs.YtkiofmbecjfanabDoor.Math
