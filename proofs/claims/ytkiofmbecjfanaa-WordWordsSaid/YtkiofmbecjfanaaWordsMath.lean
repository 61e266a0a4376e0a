/- What a word says makes that word again: the plain law. No condition. -/
import Derived.Test.YtkiofmbecjfanaaWordMath
namespace Go.Proofs.Ytkiofmbecjfanaa.Math
open Go.RowKit

theorem split_child (a0 : Int) (h0 : 0 ≤ a0) (h1 : a0 < 18446744073709551616) : ∃ k a x e, 0 ≤ a ∧ a < 18446744073709551616 ∧ split a0 = (k, a) ∧ child k a = (x, e) ∧
    ((a0 = 1 ∧ e = 2) ∨ (a0 ≠ 1 ∧ 4611686018427387904 < a0 / 2 ∧ e = 2) ∨ (a0 ≠ 1 ∧ a0 / 2 ≤ 4611686018427387904 ∧ e = 0 ∧ x = a0)) := by
  unfold split child
  by_cases c0 : a0 = 0
  · subst c0
    exact ⟨0, 0, 0, 0, by omega, by omega, rfl, rfl, .inr (.inr ⟨by omega, by omega, rfl, rfl⟩)⟩
  rw [if_neg c0]
  by_cases c1 : a0 % 2 = 1
  · rw [if_pos c1]
    by_cases c2 : a0 = 1
    · subst c2
      exact ⟨1, 0, 0, 2, by omega, by omega, rfl, rfl, .inl ⟨rfl, rfl⟩⟩
    · by_cases c3 : a0 / 2 ≤ 4611686018427387904
      · refine ⟨1, a0 / 2, a0, 0, by omega, by omega, rfl, ?_, .inr (.inr ⟨c2, c3, rfl, rfl⟩)⟩
        rw [if_neg (by omega), if_pos (by omega), if_pos rfl]
        congr 1
        omega
      · refine ⟨1, a0 / 2, 0, 2, by omega, by omega, rfl, ?_, .inr (.inl ⟨c2, by omega, rfl⟩)⟩
        rw [if_neg (by omega), if_neg (by omega)]
  · rw [if_neg c1]
    by_cases c3 : a0 / 2 ≤ 4611686018427387904
    · refine ⟨2, a0 / 2, a0, 0, by omega, by omega, rfl, ?_, .inr (.inr ⟨by omega, c3, rfl, rfl⟩)⟩
      rw [if_neg (by omega), if_pos (by omega), if_neg (by omega)]
      congr 1
      omega
    · refine ⟨2, a0 / 2, 0, 2, by omega, by omega, rfl, ?_, .inr (.inl ⟨by omega, by omega, rfl⟩)⟩
      rw [if_neg (by omega), if_neg (by omega)]
theorem unhandle_handle (h : Int) (h0 : 0 ≤ h) (h1 : h < 18446744073709551616) : ∃ s g f, 0 ≤ g ∧ g < 18446744073709551616 ∧ unhandle h = (s, g, f) ∧ ((f = 33 ∧ s = 0 ∧ g = 0) ∨ (f = 0 ∧ handle s g = (h, 0))) := by
  unfold unhandle handle
  by_cases c : h % 65536 < 1 ∨ h % 65536 > 256 ∨ h / 65536 ≥ 1048576
  · rw [if_pos c]
    exact ⟨0, 0, 33, by omega, by omega, rfl, .inl ⟨rfl, rfl, rfl⟩⟩
  · rw [if_neg c]
    refine ⟨_, _, _, by omega, by omega, rfl, .inr ⟨rfl, ?_⟩⟩
    rw [if_neg (by omega)]
    congr 1
    omega
end Go.Proofs.Ytkiofmbecjfanaa.Math
