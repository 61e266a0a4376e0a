/- The reference's Own and Longest tell what the program's tell. No condition but that the rows are no longer than memory. -/
import Derived.Test.YtncdajjmaabcnaaOwnG
import Derived.Test.YtncdajjmaabcnaaBoundMath
import Derived.Test.YtncdajjmaabcnaaOwnx16
import Derived.Test.YtncdajjmaabcnaaOwnx19
import Derived.Test.YtncdajjmaabcnaaOwnx13
import Derived.Test.YtncdajjmaabcnaaOwnx20
namespace Go.Proofs.Ytncdajjmaabcnaa.Own
open Go.RowKit Go.Proofs.YtncdajjmaabcnaaW.PrintWords Go.Proofs.YtncdajjmaabcnaaW.PrintLast Go.Proofs.YtncdajjmaabcnaaW.PrintMore
set_option linter.unusedVariables false
set_option linter.unusedSimpArgs false
namespace LG
theorem ints_l0 (l : List Int) (hl : l.length < 9223372036854775807) : ∀ (d k i : Nat), i + d = l.length → d < k → shuttermem_SameInts.l0 k l l (i : Int) = some true
  | 0, k, i, h, hk => by
    obtain ⟨k, rfl⟩ : ∃ m, k = m + 1 := ⟨k - 1, by omega⟩
    simp only [shuttermem_SameInts.l0]
    rw [if_neg (by omega)]
  | d + 1, k, i, h, hk => by
    obtain ⟨k, rfl⟩ : ∃ m, k = m + 1 := ⟨k - 1, by omega⟩
    have hw : RowKit.wrap64 ((i : Int) + 1) = ((i + 1 : Nat) : Int) := by unfold RowKit.wrap64; omega
    simp only [shuttermem_SameInts.l0]
    rw [if_pos (by omega), if_pos (by omega), if_pos (by omega), if_pos trivial, hw]
    exact ints_l0 l hl d k (i + 1) (by omega) (by omega)
theorem ints (l : List Int) (hl : l.length < 9223372036854775807) (K : Nat) (hK : l.length < K) : shuttermem_SameInts.f K l l = some true := by
  unfold shuttermem_SameInts.f
  rw [if_pos rfl]
  exact ints_l0 l hl l.length K 0 (by omega) hK
theorem stepOf_is (l0 : List S63) (l1 : List S66) (l2 : List Int) (i : Nat) : shutterref19_stepOf.f l0 l1 l2 (i : Int) = some (stepAt l2 i) := by
  unfold shutterref19_stepOf.f stepAt
  by_cases h : i < l2.length
  · rw [if_pos (by omega), if_pos (by omega), if_pos h]
  · rw [if_neg (by omega), if_neg h]
theorem own_l1 (l0 : List S63) (l1 : List S66) (l2 : List Int) (hl1 : l1.length < 4398046511104) (x3 : List Int) (hx : x3.length < 17592186044416) (i : Nat) (hi : i < 4398046511104) (D : S63) (K : Nat) : ∀ (d j : Nat), j + d = l1.length →
    shutterref19_Own.l1 (K + d + 1) x3 (i : Int) (cntT D l1 l2 j) (j : Int) l0 l1 l2 D.f0.f0 D.f0.f1 D.f0.f2 D.f0.f3 = shutterref19_Own.l0 K (x3 ++ [mx (cntT D l1 l2 l1.length) 1]) ((i + 1 : Nat) : Int) l0 l1 l2
  | 0, j, h => by
    have hw : RowKit.wrap64 ((i : Int) + 1) = ((i + 1 : Nat) : Int) := by unfold RowKit.wrap64; omega
    have hj : j = l1.length := by omega
    subst hj
    have hc := (cnt_le D l1 l2 l1.length).1
    generalize cntT D l1 l2 l1.length = c at hc
    simp only [shutterref19_Own.l1]
    rw [if_neg (by omega), hw]
    by_cases h0 : c = 0
    · rw [if_pos h0, if_pos hx, show mx c 1 = 1 from by unfold mx; rw [if_pos (by omega)]]
    · rw [if_neg h0, if_pos hx, show mx c 1 = c from by unfold mx; rw [if_neg (by omega)]]
  | d + 1, j, h => by
    have hw : RowKit.wrap64 ((j : Int) + 1) = ((j + 1 : Nat) : Int) := by unfold RowKit.wrap64; omega
    have hc := cnt_le D l1 l2 j
    have hw2 : RowKit.wrap64 (cntT D l1 l2 j + 1) = cntT D l1 l2 j + 1 := by
      generalize cntT D l1 l2 j = c at hc
      unfold RowKit.wrap64
      omega
    have ih := own_l1 l0 l1 l2 hl1 x3 hx i hi D K d (j + 1) (by omega)
    have hs : cntT D l1 l2 (j + 1) = cntT D l1 l2 j + (if hit D (rd_T66 l1 (j : Int)) (stepAt l2 j) = true then 1 else 0) := rfl
    rw [hs] at ih
    have e1 : K + (d + 1) + 1 = (K + d + 1) + 1 := by omega
    rw [e1]
    generalize K + d + 1 = K2 at ih ⊢
    have b1 : (j : Int) < (l1.length : Int) := by omega
    have b2 : (0 : Int) ≤ (j : Int) := by omega
    unfold hit at ih
    simp only [shutterref19_Own.l1]
    rw [if_pos b1, stepOf_is]
    simp only [Option.bind_some]
    rw [if_pos b2, hw, hw2]
    clear hw hw2 hs hc b1 b2
    generalize cntT D l1 l2 j = c at ih ⊢
    generalize stepAt l2 j = st at ih ⊢
    by_cases h1 : (rd_T66 l1 (j : Int)).f0 = D.f0.f0
    · have p1 : ((rd_T66 l1 (j : Int)).f0 == D.f0.f0) = true := by simpa using h1
      rw [p1] at ih
      rw [if_pos h1]
      by_cases h2 : st ≥ D.f0.f2
      · rw [decide_eq_true (show D.f0.f2 ≤ st from h2)] at ih
        rw [if_pos h2]
        by_cases h3 : D.f0.f3 < 0
        · rw [decide_eq_true h3] at ih
          rw [if_pos h3]
          exact ih
        · rw [decide_eq_false h3] at ih
          rw [if_neg h3]
          by_cases h4 : st ≤ D.f0.f3
          · rw [decide_eq_true h4] at ih
            rw [if_pos h4]
            exact ih
          · rw [decide_eq_false h4] at ih
            rw [if_neg h4]
            simpa using ih
      · rw [decide_eq_false (show ¬ D.f0.f2 ≤ st from h2)] at ih
        rw [if_neg h2]
        simpa using ih
    · have p1 : ((rd_T66 l1 (j : Int)).f0 == D.f0.f0) = false := by simpa using h1
      rw [p1] at ih
      rw [if_neg h1]
      simpa using ih
theorem own_l0 (l0 : List S63) (l1 : List S66) (l2 : List Int) (hl0 : l0.length < 4398046511104) (hl1 : l1.length < 4398046511104) : ∀ (d K i : Nat), i + d = l0.length → d * (l1.length + 2) + 1 ≤ K →
    shutterref19_Own.l0 K (owns l0 l1 l2 i) (i : Int) l0 l1 l2 = some (owns l0 l1 l2 l0.length)
  | 0, K, i, h, hK => by
    obtain ⟨K, rfl⟩ : ∃ m, K = m + 1 := ⟨K - 1, by omega⟩
    have hi : i = l0.length := by omega
    subst hi
    simp only [shutterref19_Own.l0]
    rw [if_neg (by omega)]
  | d + 1, K, i, h, hK => by
    rw [Nat.succ_mul] at hK
    obtain ⟨K, rfl⟩ : ∃ m, K = m + l1.length + 1 + 1 := ⟨K - l1.length - 2, by omega⟩
    have ih := own_l0 l0 l1 l2 hl0 hl1 d K (i + 1) (by omega) (by omega)
    have hol := owns_len l0 l1 l2 i
    have h1 := own_l1 l0 l1 l2 hl1 (owns l0 l1 l2 i) (by omega) i (by omega) (rd_T63 l0 (i : Int)) K l1.length 0 (by omega)
    rw [← owns_succ, ih] at h1
    generalize K + l1.length + 1 = K2 at h1 ⊢
    simp only [shutterref19_Own.l0]
    rw [if_pos (by omega), if_pos (by omega)]
    exact h1
theorem own_ref (l0 : List S63) (l1 : List S66) (l2 : List Int) (hl0 : l0.length < 4398046511104) (hl1 : l1.length < 4398046511104) (K : Nat) (hK : l0.length * (l1.length + 2) + 1 ≤ K) : shutterref19_Own.f K l0 l1 l2 = some (owns l0 l1 l2 l0.length) :=
  own_l0 l0 l1 l2 hl0 hl1 l0.length K 0 (by omega) hK
theorem ret_l0 (l0 : List S63) (l1 : List S66) (l2 : List Int) (t : Int) (hl0 : l0.length < 4398046511104) : ∀ (d K i : Nat), i + d = l0.length → d < K → shutterref19_returns.l0 K t (i : Int) l0 l1 l2 = some (retAny (l0.drop i) t)
  | 0, K, i, h, hK => by
    obtain ⟨K, rfl⟩ : ∃ m, K = m + 1 := ⟨K - 1, by omega⟩
    simp only [shutterref19_returns.l0]
    rw [if_neg (by omega), List.drop_eq_nil_of_le (by omega)]
    rfl
  | d + 1, K, i, h, hK => by
    obtain ⟨K, rfl⟩ : ∃ m, K = m + 1 := ⟨K - 1, by omega⟩
    have hw : RowKit.wrap64 ((i : Int) + 1) = ((i + 1 : Nat) : Int) := by unfold RowKit.wrap64; omega
    have ih := ret_l0 l0 l1 l2 t hl0 d K (i + 1) (by omega) (by omega)
    have hd : l0.drop i = rd_T63 l0 (i : Int) :: l0.drop (i + 1) := by
      rw [List.drop_eq_getElem_cons (by omega)]
      congr 1
      unfold rd_T63
      rw [Int.toNat_natCast, List.getD_eq_getElem?_getD, List.getElem?_eq_getElem (by omega)]
      rfl
    have hr : retAny (l0.drop i) t = ((decide (0 ≤ (rd_T63 l0 (i : Int)).f0.f3) && ((rd_T63 l0 (i : Int)).f0.f3 == t)) || retAny (l0.drop (i + 1)) t) := by
      rw [hd]
      rfl
    rw [hr]
    simp only [shutterref19_returns.l0]
    rw [if_pos (by omega), if_pos (by omega), hw, ih]
    by_cases h1 : (rd_T63 l0 (i : Int)).f0.f3 ≥ 0
    · rw [if_pos h1, decide_eq_true (show 0 ≤ (rd_T63 l0 (i : Int)).f0.f3 from h1)]
      by_cases h2 : (rd_T63 l0 (i : Int)).f0.f3 = t
      · rw [if_pos h2]
        simp [h2]
      · rw [if_neg h2]
        simp [h2]
    · rw [if_neg h1, decide_eq_false (show ¬ 0 ≤ (rd_T63 l0 (i : Int)).f0.f3 from h1)]
      simp
theorem long_l0 (l0 : List S63) (l1 : List S66) (l2 : List Int) (hl0 : l0.length < 4398046511104) (hl1 : l1.length < 4398046511104) : ∀ (d K i : Nat), i + d = l1.length → d + l0.length + 2 ≤ K →
    shutterref19_Longest.l0 K (run l0 l2 i).1 (run l0 l2 i).2 (i : Int) l0 l1 l2 = some (run l0 l2 l1.length).1
  | 0, K, i, h, hK => by
    obtain ⟨K, rfl⟩ : ∃ m, K = m + 1 := ⟨K - 1, by omega⟩
    have hi : i = l1.length := by omega
    subst hi
    simp only [shutterref19_Longest.l0]
    rw [if_neg (by omega)]
  | d + 1, K, i, h, hK => by
    obtain ⟨K, rfl⟩ : ∃ m, K = m + 1 := ⟨K - 1, by omega⟩
    have hw : RowKit.wrap64 ((i : Int) + 1) = ((i + 1 : Nat) : Int) := by unfold RowKit.wrap64; omega
    have ih := long_l0 l0 l1 l2 hl0 hl1 d K (i + 1) (by omega) (by omega)
    have hle := run_le l0 l2 i
    have hrun : run l0 l2 (i + 1) = (mx (run l0 l2 i).1 (if retAny l0 (stepAt l2 i) = true then 0 else (run l0 l2 i).2 + 1), if retAny l0 (stepAt l2 i) = true then 0 else (run l0 l2 i).2 + 1) := rfl
    have hret : shutterref19_returns.f K l0 l1 l2 (stepAt l2 i) = some (retAny l0 (stepAt l2 i)) := by
      have := ret_l0 l0 l1 l2 (stepAt l2 i) hl0 l0.length K 0 (by omega) (by omega)
      rw [List.drop_zero] at this
      exact this
    rw [hrun] at ih
    generalize (run l0 l2 i).1 = a at hle ih ⊢
    generalize (run l0 l2 i).2 = b at hle ih ⊢
    have hw2 : RowKit.wrap64 (b + 1) = b + 1 := by unfold RowKit.wrap64; omega
    simp only [shutterref19_Longest.l0]
    rw [if_pos (by omega), stepOf_is]
    simp only [Option.bind_some]
    rw [hret]
    simp only [Option.bind_some]
    rw [hw, hw2]
    simp only [PB.most_is, Option.bind_some]
    cases hq : retAny l0 (stepAt l2 i) with
    | true =>
      rw [hq] at ih
      rw [if_pos rfl]
      exact ih
    | false =>
      rw [hq] at ih
      rw [if_neg (by simp)]
      exact ih
theorem long_ref (l0 : List S63) (l1 : List S66) (l2 : List Int) (hl0 : l0.length < 4398046511104) (hl1 : l1.length < 4398046511104) (K : Nat) (hK : l1.length + l0.length + 2 ≤ K) : shutterref19_Longest.f K l0 l1 l2 = some (run l0 l2 l1.length).1 :=
  long_l0 l0 l1 l2 hl0 hl1 l1.length K 0 (by omega) hK
theorem live_true : shutterlaw19_live.f = some true := by decide +kernel
theorem f_is (l0 : List S63) (l1 : List S66) (l2 : List Int) (hl0 : l0.length < 4398046511104) (hl1 : l1.length < 4398046511104) (hf0 : (l0.all fun d => fitI d.f0.f3) = true) (hf2 : l2.all fitI = true) : ∃ K, shutterlaw19_ProgressOwn.f K l0 l1 l2 = some true := by
  refine ⟨l0.length * (l1.length + 2) + l1.length + l0.length + 2, ?_⟩
  have h1 : progress_Own.f l0 l1 l2 = some (owns l0 l1 l2 l0.length) := by
    unfold progress_Own.f
    rw [if_pos ⟨hl0, hl1⟩]
  have h2 := own_ref l0 l1 l2 hl0 hl1 (l0.length * (l1.length + 2) + l1.length + l0.length + 2) (by omega)
  have h3 := ints (owns l0 l1 l2 l0.length) (by rw [owns_len]; omega) (l0.length * (l1.length + 2) + l1.length + l0.length + 2) (by rw [owns_len]; omega)
  have h4 : progress_Longest.f l0 l1 l2 = some (run l0 l2 l1.length).1 := by
    unfold progress_Longest.f
    rw [if_pos ⟨hl0, hl1, hf0, hf2⟩]
  have h5 := long_ref l0 l1 l2 hl0 hl1 (l0.length * (l1.length + 2) + l1.length + l0.length + 2) (by omega)
  unfold shutterlaw19_ProgressOwn.f
  rw [live_true, h1, h2, h4, h5]
  simp only [Option.bind_some]
  rw [if_pos trivial, h3]
  simp
end LG
end Go.Proofs.Ytncdajjmaabcnaa.Own
