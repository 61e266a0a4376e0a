/- Plain facts on slots' words, and the contracts of the small functions: Unpack, pack, count, cell, Handle, Unhandle. -/
import Derived.Test.YtcbndfmbpojppaaGreatOwnx5
import Derived.Test.YtcbndfmbpojppaaGreatOwnx6
import Derived.Test.YtcbndfmbpojppaaGreatOwnx3
import Derived.Test.YtcbndfmbpojppaaGreatOwnx4
import Derived.Test.YtcbndfmbpojppaaGreatOwnx7
import Derived.Test.YtcbndfmbpojppaaGreatOwnx8
import Derived.Test.YtcbndfmbpojppaaGreatOwnx9
import Derived.Laws.BitsLemmas
import Derived.Laws.BitsAllLaws
import Derived.OpenShut
set_option linter.unusedVariables false
namespace Go.Proofs.YtcbndfmbpojppaaGreat.Math
open Go.RowKit Go.Proofs.YtcbndfmbpojppaaGreatW.PrintWords
theorem wrap_u64 (n : Int) : IntKind.u64.wrap n = n % 18446744073709551616 := by simp [IntKind.wrap, IntKind.bits, IntKind.signed]
theorem u64_of {n : Int} (h0 : 0 ≤ n) (h1 : n < 18446744073709551616) : IntKind.u64.wrap n = n := by rw [wrap_u64]; omega
theorem fits_u64 (n : Int) (h0 : 0 ≤ n) (h1 : n < 2 ^ 64) : IntKind.u64.wrap n = n := by rw [wrap_u64]; omega
theorem and_mask (i : Nat) (hi : i ≤ 64) {x : Int} (h0 : 0 ≤ x) (h1 : x < 18446744073709551616) : bits .and .u64 x (2 ^ i - 1) = x % 2 ^ i :=
  bits_mask .u64 64 (by decide) fits_u64 i hi x h0 (by simpa using h1)
theorem and_3 {x : Int} (h0 : 0 ≤ x) (h1 : x < 18446744073709551616) : bits .and .u64 x 3 = x % 4 := by simpa using and_mask 2 (by omega) h0 h1
theorem and_gen {x : Int} (h0 : 0 ≤ x) (h1 : x < 18446744073709551616) : bits .and .u64 x 1048575 = x % 1048576 := by simpa using and_mask 20 (by omega) h0 h1
theorem or_join (i : Nat) {x y : Int} (hx₀ : 0 ≤ x) (hx : x % 2 ^ i = 0) (hx₁ : x < 18446744073709551616) (hy₀ : 0 ≤ y) (hy : y < 2 ^ i) (hy₁ : y < 18446744073709551616) :
    bits .or .u64 x y = x + y := bits_join .u64 64 (by decide) fits_u64 i x y hx₀ hx (by simpa using hx₁) hy₀ hy (by simpa using hy₁)
theorem or_comm (x y : Int) : bits .or .u64 x y = bits .or .u64 y x := by simp [bits, BitVec.or_comm]
/-- A slot's word. -/
def wd (k g s : Int) : Int := k + 4 * g + 4194304 * s
theorem wpack (k g s : Int) (k0 : 0 ≤ k) (k1 : k ≤ 3) (g0 : 0 ≤ g) (g1 : g < 1048576) (s0 : 0 ≤ s) (s1 : s ≤ 1099511627776) : Own.word_Pack.f k g s = some (wd k g s, 0) := by
  unfold Own.word_Pack.f wd
  rw [if_neg (by omega), if_neg (by omega), if_neg (by omega)]
  have e1 : IntKind.u64.wrap k = k := u64_of (by omega) (by omega)
  have e2 : IntKind.u64.wrap (g * 4) = 4 * g := by rw [u64_of (by omega) (by omega)]; omega
  have e3 : IntKind.u64.wrap (s * 4194304) = 4194304 * s := by rw [u64_of (by omega) (by omega)]; omega
  have e4 : bits .or .u64 k (4 * g) = 4 * g + k := by
    rw [or_comm]
    exact or_join 2 (by omega) (by omega) (by omega) (by omega) (by omega) (by omega)
  have e5 : bits .or .u64 (4 * g + k) (4194304 * s) = 4194304 * s + (4 * g + k) := by
    rw [or_comm]
    exact or_join 22 (by omega) (by omega) (by omega) (by omega) (by omega) (by omega)
  rw [e1, e2, e3, e4, e5]
  congr 2
  omega
theorem apack (k g s : Int) (k0 : 0 ≤ k) (k1 : k ≤ 3) (g0 : 0 ≤ g) (g1 : g < 1048576) (s0 : 0 ≤ s) (s1 : s ≤ 1099511627776) : Own.announce_pack.f k g s = some (wd k g s) := by
  unfold Own.announce_pack.f
  have e1 : Int.tmod g 1048576 = g := by rw [Int.tmod_eq_emod_of_nonneg g0]; omega
  rw [e1, wpack k g 0 k0 k1 g0 g1 (by omega) (by omega), wpack 0 0 1 (by omega) (by omega) (by omega) (by omega) (by omega) (by omega)]
  simp only [Option.bind_some]
  unfold wd
  have e2 : IntKind.u64.wrap ((0 + 4 * 0 + 4194304 * 1) * s) = 4194304 * s := by rw [u64_of (by omega) (by omega)]; omega
  rw [e2, u64_of (by omega) (by omega)]
  congr 1
  omega
theorem unpack_p {w : Int} (h0 : 0 ≤ w) (h1 : w < 18446744073709551616) : Own.word_Unpack.f w = some (w % 4, w / 4 % 1048576, w / 4194304) := by
  unfold Own.word_Unpack.f
  rw [and_3 h0 h1, and_gen (by omega) (by omega)]
  have e1 : w % 4 % 256 = w % 4 := by omega
  rw [e1]
theorem unpack_wd (k g s : Int) (k0 : 0 ≤ k) (k1 : k ≤ 3) (g0 : 0 ≤ g) (g1 : g < 1048576) : wd k g s % 4 = k ∧ wd k g s / 4 % 1048576 = g ∧ wd k g s / 4194304 = s := by
  unfold wd
  omega
theorem handle_p (i g : Int) (i0 : 0 ≤ i) (i1 : i < 256) (g0 : 0 ≤ g) (g1 : g < 1048576) : Own.word_Handle.f i g = some (i + 1 + 65536 * g, 0) := by
  unfold Own.word_Handle.f
  rw [if_neg (by omega), if_neg (by omega), if_neg (by omega), u64_of (n := i) (by omega) (by omega), u64_of (n := i + 1) (by omega) (by omega), u64_of (n := 65536 * g) (by omega) (by omega), u64_of (by omega) (by omega)]
theorem unhandle_p (i g : Int) (i0 : 0 ≤ i) (i1 : i < 256) (g0 : 0 ≤ g) (g1 : g < 1048576) : Own.word_Unhandle.f (i + 1 + 65536 * g) = some (i, g, 0) := by
  unfold Own.word_Unhandle.f
  have e1 : Int.tmod (i + 1 + 65536 * g) 65536 = i + 1 := by rw [Int.tmod_eq_emod_of_nonneg (by omega)]; omega
  have e2 : Int.tdiv (i + 1 + 65536 * g) 65536 = g := by rw [Int.tdiv_eq_ediv_of_nonneg (by omega)]; omega
  have e3 : wrap64 (i + 1) = i + 1 := by unfold wrap64; omega
  have e4 : wrap64 (i + 1 - 1) = i := by unfold wrap64; omega
  rw [e1, e2, e3, e4, u64_of (n := g) (by omega) (by omega), handle_p i g i0 i1 g0 g1]
  simp
end Go.Proofs.YtcbndfmbpojppaaGreat.Math
namespace Go.Proofs.YtcbndfmbpojppaaGreat
open Go.RowKit Go.Proofs.YtcbndfmbpojppaaGreatW.PrintWords Go.Proofs.YtcbndfmbpojppaaGreatW.PrintMore Go.Proofs.YtcbndfmbpojppaaGreat.Math
section
variable (w : World)
theorem unpack_calls (x : Int) (h0 : 0 ≤ x) (h1 : x < 18446744073709551616) : Calls Tryz.prog 35 #[.int .u64 x] w fun e w' => e = .returned (.agg #[.int .u8 (x % 4), .int .u64 (x / 4 % 1048576), .int .u64 (x / 4194304)]) ∧ Below w.heap.size w w' := Own.word_Unpack.calls _ _ _ _ w (unpack_p h0 h1)
theorem pack_calls (k g s : Int) (k0 : 0 ≤ k) (k1 : k ≤ 3) (g0 : 0 ≤ g) (g1 : g < 1048576) (s0 : 0 ≤ s) (s1 : s ≤ 1099511627776) : Calls Tryz.prog 88 #[.agg #[.int .u8 k, .int .u64 g, .int .u64 s]] w fun e w' => e = .returned (.int .u64 (wd k g s)) ∧ Below w.heap.size w w' := Own.announce_pack.calls _ _ _ _ w (apack k g s k0 k1 g0 g1 s0 s1)
theorem count_calls (a b c d : Int) (h0 : 0 ≤ c) (h1 : c ≤ 256) : Calls Tryz.prog 34 #[.agg #[.int .u64 a, .int .u64 b, .int .i64 c, .int .u64 d]] w fun e w' => e = .returned (.int .i64 c) ∧ Below w.heap.size w w' := Own.announce_count.calls _ _ _ _ _ w (by
  unfold Own.announce_count.f
  have e1 : mn c 256 = c := by unfold mn; rw [if_neg (by omega)]
  have e2 : mx 0 c = c := by unfold mx; split <;> omega
  rw [e1, e2])
theorem cell_calls (a b c d i : Int) (h0 : 0 ≤ b) (h1 : 0 ≤ i) (h2 : b + i < 18446744073709551616) : Calls Tryz.prog 36 #[.agg #[.int .u64 a, .int .u64 b, .int .i64 c, .int .u64 d], .int .i64 i] w fun e w' => e = .returned (.int .u64 (b + i)) ∧ Below w.heap.size w w' := Own.announce_cell.calls _ _ _ _ _ _ w (by
  unfold Own.announce_cell.f
  rw [u64_of (n := i) (by omega) (by omega), u64_of (by omega) (by omega)])
end
end Go.Proofs.YtcbndfmbpojppaaGreat
