/- What Pack and Unpack come to, of the program and of the reference. No condition. -/
import Derived.Test.YtkiofmbecjfanaaPWordSlotsx2
import Derived.Test.YtkiofmbecjfanaaWordMath
namespace Go.Proofs.Ytkiofmbecjfanaa.Math
open Go.RowKit

/-- The word of a slot. -/
def pack (k g s : Int) : Int × Int := if k > 3 ∨ g ≥ 1048576 ∨ s > 1099511627776 then (0, 2) else (k + 4 * g + 4194304 * s, 0)
/-- What a slot's word tells. -/
def unpack (w : Int) : Int × Int × Int := (w % 4, w / 4 % 1048576, w / 4194304)

section
variable {k g s w : Int}
theorem pack_p (k0 : 0 ≤ k) (g0 : 0 ≤ g) (s0 : 0 ≤ s) : PWordSlots.word_Pack.f k g s = some (pack k g s) := by
  unfold PWordSlots.word_Pack.f pack
  by_cases c : k > 3 ∨ g ≥ 1048576 ∨ s > 1099511627776
  · rw [if_pos c]
    repeat' split
    all_goals first | rfl | (exfalso; omega)
  · rw [if_neg c, if_neg (by omega), if_neg (by omega), if_neg (by omega)]
    have e1 : IntKind.u64.wrap k = k := u64_of (by omega) (by omega)
    have e2 : IntKind.u64.wrap (g * 4) = 4 * g := by rw [u64_of (by omega) (by omega)]; omega
    have e3 : IntKind.u64.wrap (s * 4194304) = 4194304 * s := by rw [u64_of (by omega) (by omega)]; omega
    have e4 : bits .or .u64 k (4 * g) = 4 * g + k := by
      rw [or_comm]
      exact or_join 2 (by omega) (by omega) (by omega) (by omega) (by omega) (by omega)
    have e5 : bits .or .u64 (4 * g + k) (4194304 * s) = 4194304 * s + (4 * g + k) := by
      rw [or_comm]
      exact or_join 22 (by omega) (by omega) (by omega) (by omega) (by omega) (by omega)
    rw [e1, e2, e3, e4, e5]
    congr 2
    omega
theorem pack_r (k0 : 0 ≤ k) (g0 : 0 ≤ g) (s0 : 0 ≤ s) : PWordSlots.shutterref01_Pack.f k g s = some (pack k g s) := by
  unfold PWordSlots.shutterref01_Pack.f pack PWordSlots.shutterref01_Word.f
  by_cases c : k > 3 ∨ g ≥ 1048576 ∨ s > 1099511627776
  · rw [if_pos c]
    repeat' split
    all_goals first | rfl | (exfalso; omega)
  · rw [if_neg c, if_neg (by omega), if_neg (by omega), if_neg (by omega)]
    have e1 : IntKind.u64.wrap k = k := u64_of (by omega) (by omega)
    have e2 : Int.tmod k 4 = k := by rw [Int.tmod_eq_emod_of_nonneg k0]; omega
    have e3 : Int.tmod g 1048576 = g := by rw [Int.tmod_eq_emod_of_nonneg g0]; omega
    have e4 : IntKind.u64.wrap (4 * g) = 4 * g := u64_of (by omega) (by omega)
    have e5 : IntKind.u64.wrap (k + 4 * g) = k + 4 * g := u64_of (by omega) (by omega)
    have e6 : IntKind.u64.wrap (s * 4) = s * 4 := u64_of (by omega) (by omega)
    have e7 : IntKind.u64.wrap (s * 4 * 1048576) = 4194304 * s := by rw [u64_of (by omega) (by omega)]; omega
    rw [e1, e2, e3, e4, e5, e6, e7, u64_of (by omega) (by omega)]
    rfl
theorem unpack_p (h0 : 0 ≤ w) (h1 : w < 18446744073709551616) : PWordSlots.word_Unpack.f w = some (unpack w) := by
  unfold PWordSlots.word_Unpack.f unpack
  rw [and_3 h0 h1, and_gen (by omega) (by omega)]
  have e1 : w % 4 % 256 = w % 4 := by omega
  rw [e1]
theorem unpack_r (h0 : 0 ≤ w) (h1 : w < 18446744073709551616) : PWordSlots.shutterref01_Unpack.f w = some (unpack w) := by
  unfold PWordSlots.shutterref01_Unpack.f unpack
  have e1 : Int.tmod w 4 % 256 = w % 4 := by rw [Int.tmod_eq_emod_of_nonneg h0]; omega
  have e2 : IntKind.u64.wrap (Int.tdiv w 4) = w / 4 := by rw [Int.tdiv_eq_ediv_of_nonneg h0]; exact u64_of (by omega) (by omega)
  have e3 : Int.tmod (w / 4) 1048576 = w / 4 % 1048576 := Int.tmod_eq_emod_of_nonneg (by omega)
  have e4 : IntKind.u64.wrap (Int.tdiv (w / 4) 1048576) = w / 4194304 := by rw [Int.tdiv_eq_ediv_of_nonneg (by omega), u64_of (by omega) (by omega)]; omega
  rw [e1, e2, e3, e4]
end
theorem live_true_s (k : Nat) : PWordSlots.shutterlaw01_live.f (k + 2) = some true := live_true k
theorem wordSlots_true {k g s w : Int} (k0 : 0 ≤ k) (g0 : 0 ≤ g) (s0 : 0 ≤ s) (h0 : 0 ≤ w) (h1 : w < 18446744073709551616) : PWordSlots.shutterlaw01_WordSlots.f 2 k g s w = some true := by
  unfold PWordSlots.shutterlaw01_WordSlots.f
  rw [pack_p k0 g0 s0, pack_r k0 g0 s0, unpack_p h0 h1, unpack_r h0 h1, live_true_s 0]
  simp
end Go.Proofs.Ytkiofmbecjfanaa.Math
