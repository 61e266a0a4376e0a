/- The reference's First tells the list that 'firsts' says; SameInts of a list and itself. No condition. -/
import Derived.Test.YtfmhdfgliamkkaaHistFirstG
import Derived.Test.YtfmhdfgliamkkaaOwnx17
import Derived.Test.YtfmhdfgliamkkaaOwnx18
import Derived.Test.YtfmhdfgliamkkaaOwnx19
import Derived.Test.YtfmhdfgliamkkaaOwnx20
namespace Go.Proofs.Ytfmhdfgliamkkaa.Own
namespace FM
open HF
theorem ints_l0 (l : List Int) (hl : l.length < 9223372036854775807) : ∀ (d k i : Nat), i + d = l.length → d < k → shuttermem_SameInts.l0 k l l (i : Int) = some true
  | 0, k, i, h, hk => by
    obtain ⟨k, rfl⟩ : ∃ m, k = m + 1 := ⟨k - 1, by omega⟩
    simp only [shuttermem_SameInts.l0]
    rw [if_neg (by omega)]
  | d + 1, k, i, h, hk => by
    obtain ⟨k, rfl⟩ : ∃ m, k = m + 1 := ⟨k - 1, by omega⟩
    have hw : RowKit.wrap64 ((i : Int) + 1) = ((i + 1 : Nat) : Int) := by unfold RowKit.wrap64; omega
    simp only [shuttermem_SameInts.l0]
    rw [if_pos (by omega), if_pos (by omega), if_pos (by omega), if_pos trivial, hw]
    exact ints_l0 l hl d k (i + 1) (by omega) (by omega)
theorem ints (l : List Int) (hl : l.length < 9223372036854775807) : shuttermem_SameInts.f (l.length + 1) l l = some true := by
  unfold shuttermem_SameInts.f
  rw [if_pos rfl]
  exact ints_l0 l hl l.length (l.length + 1) 0 (by omega) (by omega)

theorem left_is (l1 : List Bool) (i : Nat) : shutterref05_isLeft.f l1 (i : Int) = some (l1.getD i false) := by
  unfold shutterref05_isLeft.f
  by_cases h : i < l1.length
  · rw [if_pos (by omega), if_pos (by omega)]; rfl
  · rw [if_neg (by omega), List.getD_eq_getElem?_getD, List.getElem?_eq_none (by omega)]; rfl
theorem ahead_is (a b : S36) : shutterref05_Ahead.f a.f0 a.f1 a.f2 a.f3 b.f0 b.f1 b.f2 b.f3 = some (aheadB a b) := by
  unfold shutterref05_Ahead.f aheadB
  by_cases h : a.f3 ≥ 0
  · rw [if_pos h, decide_eq_true (show 0 ≤ a.f3 from h)]; simp
  · rw [if_neg h, decide_eq_false (show ¬ 0 ≤ a.f3 from h)]; simp
def cond (l : List S36) (left : List Bool) (i k : Nat) : Bool := left.getD k false && (k != i && aheadB (rd_T36 l (k : Int)) (rd_T36 l (i : Int)))
theorem inner (l : List S36) (left : List Bool) (hl : l.length < 4398046511104) (out : List Int) (i : Nat) (hi : i < l.length) (ho : out.length < 17592186044416) (K : Nat) : ∀ (d j : Nat) (fr : Bool), j + d = l.length →
    shutterref05_First.l1 (K + d + 1) l left out (i : Int) fr (j : Int) = shutterref05_First.l0 K l left (if (fr && !((List.range' j d).any (cond l left i))) = true then out ++ [(i : Int)] else out) ((i + 1 : Nat) : Int)
  | 0, j, fr, h => by
    have hw : RowKit.wrap64 ((i : Int) + 1) = ((i + 1 : Nat) : Int) := by unfold RowKit.wrap64; omega
    simp only [shutterref05_First.l1]
    rw [if_neg (by omega), hw]
    cases fr
    · simp
    · simp [ho]
  | d + 1, j, fr, h => by
    have hw : RowKit.wrap64 ((j : Int) + 1) = ((j + 1 : Nat) : Int) := by unfold RowKit.wrap64; omega
    have e1 : K + (d + 1) + 1 = (K + d + 1) + 1 := by omega
    rw [e1]
    simp only [shutterref05_First.l1]
    rw [if_pos (by omega), left_is]
    simp only [Option.bind_some]
    have e2 : (List.range' j (d + 1)).any (cond l left i) = (cond l left i j || (List.range' (j + 1) d).any (cond l left i)) := by
      rw [List.range'_succ, List.any_cons]
    rw [e2, hw]
    have hc : cond l left i j = (left.getD j false && (j != i && aheadB (rd_T36 l (j : Int)) (rd_T36 l (i : Int)))) := rfl
    rw [hc]
    cases hlf : left.getD j false with
    | false =>
      simp only [Bool.false_eq_true, if_false, Bool.false_and, Bool.false_or]
      exact inner l left hl out i hi ho K d (j + 1) fr (by omega)
    | true =>
      simp only [if_true, Bool.true_and]
      by_cases hji : j = i
      · subst hji
        rw [if_pos rfl]
        simp only [bne_self_eq_false, Bool.false_and, Bool.false_or]
        exact inner l left hl out j hi ho K d (j + 1) fr (by omega)
      · rw [if_neg (by omega), if_pos (by omega), if_pos (by omega), if_pos (by omega), ahead_is]
        have hb : (j != i) = true := by simpa using hji
        rw [hb]
        simp only [Option.bind_some, Bool.true_and]
        cases aheadB (rd_T36 l (j : Int)) (rd_T36 l (i : Int)) with
        | false =>
          simp only [Bool.false_eq_true, if_false, Bool.false_or]
          exact inner l left hl out i hi ho K d (j + 1) fr (by omega)
        | true =>
          simp only [if_true, Bool.true_or, Bool.not_true, Bool.and_false, Bool.false_eq_true, if_false]
          have h2 := inner l left hl out i hi ho K d (j + 1) false (by omega)
          simp only [Bool.false_and, Bool.false_eq_true, if_false] at h2
          exact h2
theorem stops_range (l : List S36) (left : List Bool) (i n : Nat) : stops l left i n = (List.range' 0 n).any (cond l left i) := by
  unfold stops
  rw [List.range_eq_range']
  rfl
def fuel (n : Nat) : Nat → Nat
  | 0 => 1
  | m + 1 => fuel n m + n + 2
theorem outer (l : List S36) (left : List Bool) (hl : l.length < 4398046511104) : ∀ (d i : Nat), i + d = l.length →
    shutterref05_First.l0 (fuel l.length d) l left (firsts l left i) (i : Int) = some (firsts l left l.length)
  | 0, i, h => by
    obtain rfl : i = l.length := by omega
    simp only [fuel, shutterref05_First.l0]
    rw [if_neg (by omega)]
  | d + 1, i, h => by
    have e1 : fuel l.length (d + 1) = (fuel l.length d + l.length + 1) + 1 := by simp only [fuel]
    have hle := len_firsts l left i
    rw [e1]
    simp only [shutterref05_First.l0]
    rw [if_pos (by omega), left_is]
    simp only [Option.bind_some]
    have hin := inner l left hl (firsts l left i) i (by omega) (by omega) (fuel l.length d) l.length 0 (left.getD i false) (by omega)
    rw [show ((0 : Nat) : Int) = 0 from rfl] at hin
    rw [hin, ← stops_range]
    have hs := firsts_succ l left i
    have e2 : (if (left.getD i false && !stops l left i l.length) = true then firsts l left i ++ [(i : Int)] else firsts l left i) = firsts l left (i + 1) := by
      rw [hs]
      by_cases hb : (left.getD i false && !stops l left i l.length) = true
      · rw [if_pos hb, if_pos hb]; rfl
      · rw [if_neg hb, if_neg hb, List.append_nil]
    rw [e2]
    exact outer l left hl d (i + 1) (by omega)
theorem ref (l : List S36) (left : List Bool) (hl : l.length < 4398046511104) : shutterref05_First.f (fuel l.length l.length) l left = some (firsts l left l.length) := by
  unfold shutterref05_First.f
  exact outer l left hl l.length 0 (by omega)
end FM
end Go.Proofs.Ytfmhdfgliamkkaa.Own
