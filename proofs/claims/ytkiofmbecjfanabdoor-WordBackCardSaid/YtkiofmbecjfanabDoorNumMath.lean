/- Plain facts on whole numbers of 64 bits, and what Child, Pack and live come to. No condition. -/
import Derived.Test.YtkiofmbecjfanabDoorOwnx1
import Derived.Test.YtkiofmbecjfanabDoorOwnx3
import Derived.Test.YtkiofmbecjfanabDoorOwnx2
import Derived.Laws.BitsLemmas
import Derived.Laws.BitsAllLaws
import Derived.OpenShut
namespace Go.Proofs.YtkiofmbecjfanabDoor.Math
open Go.RowKit
theorem wrap_u64 (n : Int) : IntKind.u64.wrap n = n % 18446744073709551616 := by simp [IntKind.wrap, IntKind.bits, IntKind.signed]
theorem u64_of {n : Int} (h0 : 0 ≤ n) (h1 : n < 18446744073709551616) : IntKind.u64.wrap n = n := by rw [wrap_u64]; omega
theorem fits_u64 (n : Int) (h0 : 0 ≤ n) (h1 : n < 2 ^ 64) : IntKind.u64.wrap n = n := by rw [wrap_u64]; omega
theorem and_mask (i : Nat) (hi : i ≤ 64) {x : Int} (h0 : 0 ≤ x) (h1 : x < 18446744073709551616) : bits .and .u64 x (2 ^ i - 1) = x % 2 ^ i :=
  bits_mask .u64 64 (by decide) fits_u64 i hi x h0 (by simpa using h1)
theorem and_1 {x : Int} (h0 : 0 ≤ x) (h1 : x < 18446744073709551616) : bits .and .u64 x 1 = x % 2 := by simpa using and_mask 1 (by omega) h0 h1
theorem and_3 {x : Int} (h0 : 0 ≤ x) (h1 : x < 18446744073709551616) : bits .and .u64 x 3 = x % 4 := by simpa using and_mask 2 (by omega) h0 h1
theorem and_gen {x : Int} (h0 : 0 ≤ x) (h1 : x < 18446744073709551616) : bits .and .u64 x 1048575 = x % 1048576 := by simpa using and_mask 20 (by omega) h0 h1
theorem or_join (i : Nat) {x y : Int} (hx₀ : 0 ≤ x) (hx : x % 2 ^ i = 0) (hx₁ : x < 18446744073709551616) (hy₀ : 0 ≤ y) (hy : y < 2 ^ i) (hy₁ : y < 18446744073709551616) :
    bits .or .u64 x y = x + y := bits_join .u64 64 (by decide) fits_u64 i x y hx₀ hx (by simpa using hx₁) hy₀ hy (by simpa using hy₁)
theorem or_comm (x y : Int) : bits .or .u64 x y = bits .or .u64 y x := by simp [bits, BitVec.or_comm]

/-- What the word of a child is. -/
def child (a0 a1 : Int) : Int × Int :=
  if a0 = 0 ∧ a1 = 0 then (0, 0) else if (a0 = 1 ∨ a0 = 2) ∧ 1 ≤ a1 ∧ a1 ≤ 4611686018427387904 then (if a0 = 1 then 2 * a1 + 1 else 2 * a1, 0) else (0, 2)
/-- What a child's word tells. -/
def split (w : Int) : Int × Int := if w = 0 then (0, 0) else if w % 2 = 1 then (1, w / 2) else (2, w / 2)
/-- The word of a slot. -/
def pack (k g s : Int) : Int × Int := if k > 3 ∨ g ≥ 1048576 ∨ s > 1099511627776 then (0, 2) else (k + 4 * g + 4194304 * s, 0)
/-- What a slot's word tells. -/
def unpack (w : Int) : Int × Int × Int := (w % 4, w / 4 % 1048576, w / 4194304)

theorem some_ite {α : Type} {c : Prop} [Decidable c] {x a b : α} (h1 : c → x = a) (h2 : ¬ c → x = b) : (if c then some a else some b) = some x := by
  by_cases h : c
  · rw [if_pos h, h1 h]
  · rw [if_neg h, h2 h]

section
variable {a0 a1 : Int} (h0 : 0 ≤ a0) (h1 : 0 ≤ a1) (h2 : a1 < 18446744073709551616)
include h1 h2
theorem child_p (k : Nat) : Own.word_Child.f (k + 2) a0 a1 = some (child a0 a1) := by
  unfold child
  by_cases c0 : a0 = 0 ∧ a1 = 0
  · obtain ⟨rfl, rfl⟩ := c0
    rfl
  rw [if_neg c0]
  have e0 : Own.word_Child.f (k + 2) a0 a1 = Own.word_Child.j0 (k + 2) a0 a1 false := by
    unfold Own.word_Child.f
    by_cases c : a0 = 0
    · rw [if_pos c]
      have : (a1 == 0) = false := beq_eq_false_iff_ne.2 (fun e => c0 ⟨c, e⟩)
      rw [this]
    · rw [if_neg c]
  rw [e0]
  simp only [Own.word_Child.j0, Bool.false_eq_true, if_false]
  by_cases c : (a0 = 1 ∨ a0 = 2) ∧ 1 ≤ a1 ∧ a1 ≤ 4611686018427387904
  · rw [if_pos c]
    obtain ⟨c1, c2, c3⟩ := c
    have d0 : ¬ a1 = 0 := by omega
    have d1 : ¬ a1 > 4611686018427387904 := by omega
    have e1 : IntKind.u64.wrap (a1 * 2) = 2 * a1 := by rw [u64_of (by omega) (by omega)]; omega
    have e2 : bits .or .u64 (2 * a1) 1 = 2 * a1 + 1 := or_join 1 (by omega) (by omega) (by omega) (by omega) (by omega) (by omega)
    rcases c1 with rfl | rfl <;> simp [Own.word_Child.j1, d0, d1, e1, e2]
  · rw [if_neg c]
    have key : ∀ b : Bool, b = true → Own.word_Child.j1 (k + 1) a0 a1 b = some (0, 2) := by rintro b rfl; simp [Own.word_Child.j1]
    repeat' split
    all_goals apply key
    all_goals first | rfl | (simp only [decide_eq_true_eq]; omega)
end
theorem live_true (k : Nat) : Own.shutterlaw01_live.f (k + 2) = some true := by
  unfold Own.shutterlaw01_live.f
  rw [child_p (by omega) (by omega), child_p (by omega) (by omega)]
  rfl
section
variable {k g s w : Int}
theorem pack_p (k0 : 0 ≤ k) (g0 : 0 ≤ g) (s0 : 0 ≤ s) : Own.word_Pack.f k g s = some (pack k g s) := by
  unfold Own.word_Pack.f pack
  by_cases c : k > 3 ∨ g ≥ 1048576 ∨ s > 1099511627776
  · rw [if_pos c]
    repeat' split
    all_goals first | rfl | (exfalso; omega)
  · rw [if_neg c, if_neg (by omega), if_neg (by omega), if_neg (by omega)]
    have e1 : IntKind.u64.wrap k = k := u64_of (by omega) (by omega)
    have e2 : IntKind.u64.wrap (g * 4) = 4 * g := by rw [u64_of (by omega) (by omega)]; omega
    have e3 : IntKind.u64.wrap (s * 4194304) = 4194304 * s := by rw [u64_of (by omega) (by omega)]; omega
    have e4 : bits .or .u64 k (4 * g) = 4 * g + k := by
      rw [or_comm]
      exact or_join 2 (by omega) (by omega) (by omega) (by omega) (by omega) (by omega)
    have e5 : bits .or .u64 (4 * g + k) (4194304 * s) = 4194304 * s + (4 * g + k) := by
      rw [or_comm]
      exact or_join 22 (by omega) (by omega) (by omega) (by omega) (by omega) (by omega)
    rw [e1, e2, e3, e4, e5]
    congr 2
    omega
end
end Go.Proofs.YtkiofmbecjfanabDoor.Math
