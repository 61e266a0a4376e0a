/- What the reference's Pack comes to. No condition. -/
import Derived.Test.YtkiofmbecjfanaaDoorNumMath
import Derived.Test.YtkiofmbecjfanaaDoorOwnx5
import Derived.Test.YtkiofmbecjfanaaDoorOwnx4
namespace Go.Proofs.YtkiofmbecjfanaaDoor.Math
open Go.RowKit
section
variable {k g s w : Int}
theorem pack_r (k0 : 0 ≤ k) (g0 : 0 ≤ g) (s0 : 0 ≤ s) : Own.shutterref01_Pack.f k g s = some (pack k g s) := by
  unfold Own.shutterref01_Pack.f pack Own.shutterref01_Word.f
  by_cases c : k > 3 ∨ g ≥ 1048576 ∨ s > 1099511627776
  · rw [if_pos c]
    repeat' split
    all_goals first | rfl | (exfalso; omega)
  · rw [if_neg c, if_neg (by omega), if_neg (by omega), if_neg (by omega)]
    have e1 : IntKind.u64.wrap k = k := u64_of (by omega) (by omega)
    have e2 : Int.tmod k 4 = k := by rw [Int.tmod_eq_emod_of_nonneg k0]; omega
    have e3 : Int.tmod g 1048576 = g := by rw [Int.tmod_eq_emod_of_nonneg g0]; omega
    have e4 : IntKind.u64.wrap (4 * g) = 4 * g := u64_of (by omega) (by omega)
    have e5 : IntKind.u64.wrap (k + 4 * g) = k + 4 * g := u64_of (by omega) (by omega)
    have e6 : IntKind.u64.wrap (s * 4) = s * 4 := u64_of (by omega) (by omega)
    have e7 : IntKind.u64.wrap (s * 4 * 1048576) = 4194304 * s := by rw [u64_of (by omega) (by omega)]; omega
    rw [e1, e2, e3, e4, e5, e6, e7, u64_of (by omega) (by omega)]
    rfl
end
end Go.Proofs.YtkiofmbecjfanaaDoor.Math
