/- Plain facts on whole numbers of 64 bits, and what Child, Split, Handle and Unhandle come to. No condition. -/
import Derived.Test.YtkiofmbecjfanaaPWordChildrenx1
import Derived.Test.YtkiofmbecjfanaaPWordHandlesx1
import Derived.Laws.BitsLemmas
import Derived.Laws.BitsAllLaws
import Derived.OpenShut
namespace Go.Proofs.Ytkiofmbecjfanaa.Math
open Go.RowKit

theorem wrap_u64 (n : Int) : IntKind.u64.wrap n = n % 18446744073709551616 := by simp [IntKind.wrap, IntKind.bits, IntKind.signed]
theorem u64_of {n : Int} (h0 : 0 ≤ n) (h1 : n < 18446744073709551616) : IntKind.u64.wrap n = n := by rw [wrap_u64]; omega
theorem fits_u64 (n : Int) (h0 : 0 ≤ n) (h1 : n < 2 ^ 64) : IntKind.u64.wrap n = n := by rw [wrap_u64]; omega
theorem and_mask (i : Nat) (hi : i ≤ 64) {x : Int} (h0 : 0 ≤ x) (h1 : x < 18446744073709551616) : bits .and .u64 x (2 ^ i - 1) = x % 2 ^ i :=
  bits_mask .u64 64 (by decide) fits_u64 i hi x h0 (by simpa using h1)
theorem and_1 {x : Int} (h0 : 0 ≤ x) (h1 : x < 18446744073709551616) : bits .and .u64 x 1 = x % 2 := by simpa using and_mask 1 (by omega) h0 h1
theorem and_3 {x : Int} (h0 : 0 ≤ x) (h1 : x < 18446744073709551616) : bits .and .u64 x 3 = x % 4 := by simpa using and_mask 2 (by omega) h0 h1
theorem and_gen {x : Int} (h0 : 0 ≤ x) (h1 : x < 18446744073709551616) : bits .and .u64 x 1048575 = x % 1048576 := by simpa using and_mask 20 (by omega) h0 h1
theorem or_join (i : Nat) {x y : Int} (hx₀ : 0 ≤ x) (hx : x % 2 ^ i = 0) (hx₁ : x < 18446744073709551616) (hy₀ : 0 ≤ y) (hy : y < 2 ^ i) (hy₁ : y < 18446744073709551616) :
    bits .or .u64 x y = x + y := bits_join .u64 64 (by decide) fits_u64 i x y hx₀ hx (by simpa using hx₁) hy₀ hy (by simpa using hy₁)
theorem or_comm (x y : Int) : bits .or .u64 x y = bits .or .u64 y x := by simp [bits, BitVec.or_comm]

/-- What the word of a child is. -/
def child (a0 a1 : Int) : Int × Int :=
  if a0 = 0 ∧ a1 = 0 then (0, 0) else if (a0 = 1 ∨ a0 = 2) ∧ 1 ≤ a1 ∧ a1 ≤ 4611686018427387904 then (if a0 = 1 then 2 * a1 + 1 else 2 * a1, 0) else (0, 2)
/-- What a child's word tells. -/
def split (w : Int) : Int × Int := if w = 0 then (0, 0) else if w % 2 = 1 then (1, w / 2) else (2, w / 2)
/-- What a handle is. -/
def handle (s g : Int) : Int × Int := if s < 0 ∨ s ≥ 256 ∨ g ≥ 1048576 then (0, 2) else (s + 1 + 65536 * g, 0)
/-- What a handle tells. -/
def unhandle (h : Int) : Int × Int × Int := if h % 65536 < 1 ∨ h % 65536 > 256 ∨ h / 65536 ≥ 1048576 then (0, 0, 33) else (h % 65536 - 1, h / 65536, 0)

theorem some_ite {α : Type} {c : Prop} [Decidable c] {x a b : α} (h1 : c → x = a) (h2 : ¬ c → x = b) : (if c then some a else some b) = some x := by
  by_cases h : c
  · rw [if_pos h, h1 h]
  · rw [if_neg h, h2 h]

section
variable {a0 a1 : Int} (h0 : 0 ≤ a0) (h1 : 0 ≤ a1) (h2 : a1 < 18446744073709551616)
include h1 h2
theorem split_p : PWordChildren.word_Split.f a1 = some (split a1) := by
  unfold PWordChildren.word_Split.f split
  rw [and_1 h1 h2]
  repeat' (first | split | rfl)
theorem split_r : PWordChildren.shutterref01_Split.f a1 = some (split a1) := by
  unfold PWordChildren.shutterref01_Split.f split
  have e1 : Int.tmod a1 2 = a1 % 2 := Int.tmod_eq_emod_of_nonneg h1
  have e2 : IntKind.u64.wrap (Int.tdiv a1 2) = a1 / 2 := by rw [Int.tdiv_eq_ediv_of_nonneg h1]; exact u64_of (by omega) (by omega)
  rw [e1, e2]
  repeat' (first | split | rfl)
theorem child_p (k : Nat) : PWordChildren.word_Child.f (k + 2) a0 a1 = some (child a0 a1) := by
  unfold child
  by_cases c0 : a0 = 0 ∧ a1 = 0
  · obtain ⟨rfl, rfl⟩ := c0
    rfl
  rw [if_neg c0]
  have e0 : PWordChildren.word_Child.f (k + 2) a0 a1 = PWordChildren.word_Child.j0 (k + 2) a0 a1 false := by
    unfold PWordChildren.word_Child.f
    by_cases c : a0 = 0
    · rw [if_pos c]
      have : (a1 == 0) = false := beq_eq_false_iff_ne.2 (fun e => c0 ⟨c, e⟩)
      rw [this]
    · rw [if_neg c]
  rw [e0]
  simp only [PWordChildren.word_Child.j0, Bool.false_eq_true, if_false]
  by_cases c : (a0 = 1 ∨ a0 = 2) ∧ 1 ≤ a1 ∧ a1 ≤ 4611686018427387904
  · rw [if_pos c]
    obtain ⟨c1, c2, c3⟩ := c
    have d0 : ¬ a1 = 0 := by omega
    have d1 : ¬ a1 > 4611686018427387904 := by omega
    have e1 : IntKind.u64.wrap (a1 * 2) = 2 * a1 := by rw [u64_of (by omega) (by omega)]; omega
    have e2 : bits .or .u64 (2 * a1) 1 = 2 * a1 + 1 := or_join 1 (by omega) (by omega) (by omega) (by omega) (by omega) (by omega)
    rcases c1 with rfl | rfl <;> simp [PWordChildren.word_Child.j1, d0, d1, e1, e2]
  · rw [if_neg c]
    have key : ∀ b : Bool, b = true → PWordChildren.word_Child.j1 (k + 1) a0 a1 b = some (0, 2) := by rintro b rfl; simp [PWordChildren.word_Child.j1]
    repeat' split
    all_goals apply key
    all_goals first | rfl | (simp only [decide_eq_true_eq]; omega)
theorem child_r (k : Nat) : PWordChildren.shutterref01_Child.f (k + 2) a0 a1 = some (child a0 a1) := by
  unfold child
  by_cases c0 : a0 = 0 ∧ a1 = 0
  · obtain ⟨rfl, rfl⟩ := c0
    rfl
  rw [if_neg c0]
  have e0 : PWordChildren.shutterref01_Child.f (k + 2) a0 a1 = PWordChildren.shutterref01_Child.j0 (k + 2) a0 a1 false := by
    unfold PWordChildren.shutterref01_Child.f
    by_cases c : a0 = 0
    · rw [if_pos c]
      have : (a1 == 0) = false := beq_eq_false_iff_ne.2 (fun e => c0 ⟨c, e⟩)
      rw [this]
    · rw [if_neg c]
  rw [e0]
  simp only [PWordChildren.shutterref01_Child.j0, Bool.false_eq_true, if_false]
  by_cases c : (a0 = 1 ∨ a0 = 2) ∧ 1 ≤ a1 ∧ a1 ≤ 4611686018427387904
  · rw [if_pos c]
    obtain ⟨c1, c2, c3⟩ := c
    have d0 : a1 ≥ 1 := by omega
    have e1 : IntKind.u64.wrap (2 * a1) = 2 * a1 := u64_of (by omega) (by omega)
    have e2 : IntKind.u64.wrap (2 * a1 + 1) = 2 * a1 + 1 := u64_of (by omega) (by omega)
    rcases c1 with rfl | rfl <;> simp [PWordChildren.shutterref01_Child.j1, d0, c3, e1, e2]
  · rw [if_neg c]
    have key : ∀ b : Bool, (b = true → a0 = 1 ∧ a1 ≥ 1 ∧ a1 ≤ 4611686018427387904) → PWordChildren.shutterref01_Child.j1 (k + 1) a0 a1 b = some (0, 2) := by
      intro b hb
      have : b = false := by
        cases b with
        | false => rfl
        | true => obtain ⟨x, y, z⟩ := hb rfl; exact absurd ⟨.inl x, y, z⟩ c
      subst this
      simp only [PWordChildren.shutterref01_Child.j1, Bool.false_eq_true, if_false]
      repeat' split
      all_goals first | rfl | (exfalso; omega)
    repeat' split
    all_goals apply key
    all_goals first | (simp only [decide_eq_true_eq]; omega) | (intro h; cases h)
end

theorem live_true (k : Nat) : PWordChildren.shutterlaw01_live.f (k + 2) = some true := by
  unfold PWordChildren.shutterlaw01_live.f
  rw [child_p (by omega) (by omega), child_p (by omega) (by omega)]
  rfl
theorem live_true' (k : Nat) : PWordHandles.shutterlaw01_live.f (k + 2) = some true := live_true k
section
variable {s g h : Int}
theorem handle_p (g0 : 0 ≤ g) (g1 : g < 18446744073709551616) : PWordHandles.word_Handle.f s g = some (handle s g) := by
  unfold PWordHandles.word_Handle.f handle
  by_cases c : s < 0 ∨ s ≥ 256 ∨ g ≥ 1048576
  · rw [if_pos c]
    repeat' split
    all_goals first | rfl | (exfalso; omega)
  · rw [if_neg c, if_neg (by omega), if_neg (by omega), if_neg (by omega)]
    have e1 : IntKind.u64.wrap s = s := u64_of (by omega) (by omega)
    have e2 : IntKind.u64.wrap (s + 1) = s + 1 := u64_of (by omega) (by omega)
    have e3 : IntKind.u64.wrap (65536 * g) = 65536 * g := u64_of (by omega) (by omega)
    rw [e1, e2, e3, u64_of (by omega) (by omega)]
theorem handle_r (g0 : 0 ≤ g) (g1 : g < 18446744073709551616) : PWordHandles.shutterref01_Handle.f s g = some (handle s g) := by
  unfold PWordHandles.shutterref01_Handle.f handle
  by_cases c : s < 0 ∨ s ≥ 256 ∨ g ≥ 1048576
  · rw [if_pos c]
    repeat' split
    all_goals first | rfl | (exfalso; omega)
  · rw [if_neg c, if_neg (by omega), if_neg (by omega), if_neg (by omega)]
    have e1 : IntKind.u64.wrap s = s := u64_of (by omega) (by omega)
    have e2 : IntKind.u64.wrap (s + 1) = s + 1 := u64_of (by omega) (by omega)
    have e3 : IntKind.u64.wrap (g * 65536) = 65536 * g := by rw [u64_of (by omega) (by omega)]; omega
    rw [e1, e2, e3, u64_of (by omega) (by omega)]
theorem unhandle_p (h0 : 0 ≤ h) (h1 : h < 18446744073709551616) : PWordHandles.word_Unhandle.f h = some (unhandle h) := by
  unfold PWordHandles.word_Unhandle.f unhandle
  have e1 : Int.tmod h 65536 = h % 65536 := Int.tmod_eq_emod_of_nonneg h0
  have e2 : IntKind.u64.wrap (Int.tdiv h 65536) = h / 65536 := by rw [Int.tdiv_eq_ediv_of_nonneg h0]; exact u64_of (by omega) (by omega)
  have e3 : wrap64 (h % 65536) = h % 65536 := by unfold wrap64; omega
  have e4 : wrap64 (h % 65536 - 1) = h % 65536 - 1 := by unfold wrap64; omega
  rw [e1, e2, e3, e4, handle_p (by omega) (by omega)]
  simp only [Option.bind_some]
  by_cases c : h % 65536 < 1 ∨ h % 65536 > 256 ∨ h / 65536 ≥ 1048576
  · have hh : handle (h % 65536 - 1) (h / 65536) = (0, 2) := if_pos (by omega)
    rw [if_pos c, hh]
    simp
  · have hh : handle (h % 65536 - 1) (h / 65536) = (h % 65536 - 1 + 1 + 65536 * (h / 65536), 0) := if_neg (by omega)
    rw [if_neg c, hh]
    simp only [if_true]
    rw [if_pos (by omega)]
theorem unhandle_r (h0 : 0 ≤ h) (h1 : h < 18446744073709551616) : PWordHandles.shutterref01_Unhandle.f h = some (unhandle h) := by
  unfold PWordHandles.shutterref01_Unhandle.f unhandle
  have e1 : Int.tmod h 65536 = h % 65536 := Int.tmod_eq_emod_of_nonneg h0
  have e2 : IntKind.u64.wrap (Int.tdiv h 65536) = h / 65536 := by rw [Int.tdiv_eq_ediv_of_nonneg h0]; exact u64_of (by omega) (by omega)
  have e3 : wrap64 (h % 65536) = h % 65536 := by unfold wrap64; omega
  have e4 : wrap64 (h % 65536 - 1) = h % 65536 - 1 := by unfold wrap64; omega
  rw [e1, e2, e3, e4]
  by_cases c : h % 65536 < 1 ∨ h % 65536 > 256 ∨ h / 65536 ≥ 1048576
  · rw [if_pos c]
    repeat' split
    all_goals first | rfl | (exfalso; omega)
  · rw [if_neg c, if_neg (by omega), if_neg (by omega), if_neg (by omega)]
end
end Go.Proofs.Ytkiofmbecjfanaa.Math
