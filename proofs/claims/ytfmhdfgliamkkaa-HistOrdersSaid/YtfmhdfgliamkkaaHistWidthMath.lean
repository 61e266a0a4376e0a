/- The program's Width and the reference's tell the same number. No condition. -/
import Derived.Test.YtfmhdfgliamkkaaHistFirstMath
import Derived.Test.YtfmhdfgliamkkaaOwnx27
import Derived.Test.YtfmhdfgliamkkaaOwnx28
import Derived.Test.YtfmhdfgliamkkaaOwnx29
set_option linter.unusedVariables false
set_option linter.unusedSimpArgs false
namespace Go.Proofs.Ytfmhdfgliamkkaa.Own
open Go.RowKit Go.Proofs.YtfmhdfgliamkkaaW.PrintWords Go.Proofs.YtfmhdfgliamkkaaW.PrintLast Go.Proofs.YtfmhdfgliamkkaaW.PrintMore
namespace WM
def F (l : List S36) (i : Nat) : Int := (rd_T36 l (i : Int)).f2
def T (l : List S36) (i : Nat) : Int := (rd_T36 l (i : Int)).f3
def cov (l : List S36) (s : Int) (k : Nat) : Bool := decide (F l k ≤ s) && (decide (T l k < 0) || decide (s ≤ T l k))
/-- How many spans lie over a step. -/
def W (l : List S36) (s : Int) : Nat := (List.range l.length).countP (cov l s)
def good (l : List S36) (i : Nat) : Prop := ¬ (0 ≤ T l i ∧ T l i < F l i)
theorem in1 (l : List S36) (hl : l.length < 4398046511104) (i : Nat) (hi : i < l.length) (m : Int) (K : Nat) (f0 f1 f2 f3 : Int) : ∀ (d q c : Nat), q + d = l.length → c ≤ q →
    hist_Width.l1 (K + d + 1) l m (c : Int) l (l.length : Int) (i : Int) l (l.length : Int) (q : Int) f0 f1 f2 f3 = hist_Width.l0 K l (mx m ((c + (List.range' q d).countP (cov l f2) : Nat) : Int)) l (l.length : Int) ((i + 1 : Nat) : Int)
  | 0, q, c, h, hc => by
    have hw : wrap64 ((i : Int) + 1) = ((i + 1 : Nat) : Int) := by unfold wrap64; omega
    simp only [hist_Width.l1]
    rw [if_neg (by omega), hw]
    rfl
  | d + 1, q, c, h, hc => by
    have hw : wrap64 ((q : Int) + 1) = ((q + 1 : Nat) : Int) := by unfold wrap64; omega
    have hwc : wrap64 ((c : Int) + 1) = ((c + 1 : Nat) : Int) := by unfold wrap64; omega
    have e1 : K + (d + 1) + 1 = (K + d + 1) + 1 := by omega
    have ih1 := in1 l hl i hi m K f0 f1 f2 f3 d (q + 1) (c + 1) (by omega) (by omega)
    have ih0 := in1 l hl i hi m K f0 f1 f2 f3 d (q + 1) c (by omega) (by omega)
    rw [e1]
    generalize K + d + 1 = K2 at ih0 ih1 ⊢
    simp only [hist_Width.l1]
    rw [if_pos (by omega), if_pos (by omega), if_pos (by omega), hw, hwc, List.range'_succ, List.countP_cons]
    have hcv : cov l f2 q = (decide ((rd_T36 l (q : Int)).f2 ≤ f2) && (decide ((rd_T36 l (q : Int)).f3 < 0) || decide (f2 ≤ (rd_T36 l (q : Int)).f3))) := rfl
    rw [hcv]
    by_cases h1 : (rd_T36 l (q : Int)).f2 ≤ f2
    · rw [if_pos h1, decide_eq_true h1]
      by_cases h2 : (rd_T36 l (q : Int)).f3 < 0
      · rw [if_pos h2, decide_eq_true h2, ih1]
        simp [Nat.add_assoc, Nat.add_comm, Nat.add_left_comm]
      · rw [if_neg h2, decide_eq_false h2]
        by_cases h3 : (rd_T36 l (q : Int)).f3 ≥ f2
        · rw [if_pos h3, decide_eq_true (show f2 ≤ (rd_T36 l (q : Int)).f3 from h3), ih1]
          simp [Nat.add_assoc, Nat.add_comm, Nat.add_left_comm]
        · rw [if_neg h3, decide_eq_false (show ¬ f2 ≤ (rd_T36 l (q : Int)).f3 from h3), ih0]
          simp
    · rw [if_neg h1, decide_eq_false h1, ih0]
      simp
theorem W_le (l : List S36) (s : Int) : W l s ≤ l.length := by
  unfold W
  have := List.countP_le_length (p := cov l s) (l := List.range l.length)
  rwa [List.length_range] at this
theorem out1 (l : List S36) (hl : l.length < 4398046511104) : ∀ (d K i m : Nat), i + d = l.length → d * (l.length + 2) + 1 ≤ K →
    ∃ r : Nat, hist_Width.l0 K l (m : Int) l (l.length : Int) (i : Int) = some (r : Int) ∧ m ≤ r ∧ (∀ j, i ≤ j → j < l.length → W l (F l j) ≤ r) ∧ (r = m ∨ ∃ j, j < l.length ∧ r = W l (F l j))
  | 0, K, i, m, h, hK => by
    obtain ⟨K, rfl⟩ : ∃ k, K = k + 1 := ⟨K - 1, by omega⟩
    simp only [hist_Width.l0]
    rw [if_neg (by omega)]
    exact ⟨m, rfl, Nat.le_refl _, fun j h1 h2 => by omega, Or.inl rfl⟩
  | d + 1, K, i, m, h, hK => by
    rw [Nat.succ_mul] at hK
    obtain ⟨K, rfl⟩ : ∃ k, K = k + l.length + 1 + 1 := ⟨K - l.length - 1 - 1, by omega⟩
    have hin := in1 l hl i (by omega) (m : Int) K (rd_T36 l (i : Int)).f0 (rd_T36 l (i : Int)).f1 (rd_T36 l (i : Int)).f2 (rd_T36 l (i : Int)).f3 l.length 0 0 (by omega) (Nat.le_refl _)
    have hW : (List.range' 0 l.length).countP (cov l (rd_T36 l (i : Int)).f2) = W l (F l i) := by rw [← List.range_eq_range']; rfl
    have hmx : mx (m : Int) ((W l (F l i) : Nat) : Int) = ((max m (W l (F l i)) : Nat) : Int) := by unfold mx; split <;> omega
    rw [hW, Nat.zero_add, hmx] at hin
    obtain ⟨r, h1, h2, h3, h4⟩ := out1 l hl d K (i + 1) (max m (W l (F l i))) (by omega) (by omega)
    rw [h1] at hin
    generalize K + l.length + 1 = K2 at hin ⊢
    simp only [hist_Width.l0]
    rw [if_pos (by omega), if_pos (by omega), if_pos (by omega)]
    refine ⟨r, hin, by omega, fun j h5 h6 => ?_, ?_⟩
    · rcases Nat.eq_or_lt_of_le h5 with h7 | h7
      · subst h7; omega
      · exact h3 j h7 h6
    · rcases h4 with h5 | h5
      · by_cases h6 : m ≤ W l (F l i)
        · exact Or.inr ⟨i, by omega, by omega⟩
        · exact Or.inl (by omega)
      · exact Or.inr h5
theorem at_is (l : List S36) (k : Nat) (s : Int) : shutterref05_at.f (rd_T36 l (k : Int)).f0 (rd_T36 l (k : Int)).f1 (rd_T36 l (k : Int)).f2 (rd_T36 l (k : Int)).f3 s = some (cov l s k) := by
  unfold shutterref05_at.f cov F T
  by_cases h1 : (rd_T36 l (k : Int)).f2 ≤ s
  · rw [if_pos h1, decide_eq_true h1]
    by_cases h2 : (rd_T36 l (k : Int)).f3 < 0
    · rw [if_pos h2, decide_eq_true h2]; rfl
    · rw [if_neg h2, decide_eq_false h2]; simp
  · rw [if_neg h1, decide_eq_false h1]; rfl
theorem in2 (l : List S36) (hl : l.length < 4398046511104) (i : Nat) (hi : i < l.length) (m : Nat) (K : Nat) : ∀ (d q c : Nat), q + d = l.length → c ≤ q →
    shutterref05_Width.l1 (K + d + 1) l (m : Int) (i : Int) (c : Int) (q : Int) = shutterref05_Width.l0 K l ((max m (c + (List.range' q d).countP (cov l (F l i))) : Nat) : Int) ((i + 1 : Nat) : Int)
  | 0, q, c, h, hc => by
    have hw : wrap64 ((i : Int) + 1) = ((i + 1 : Nat) : Int) := by unfold wrap64; omega
    simp only [shutterref05_Width.l1]
    rw [if_neg (by omega), hw]
    have e0 : c + (List.range' q 0).countP (cov l (F l i)) = c := rfl
    rw [e0]
    by_cases hcm : (c : Int) > (m : Int)
    · rw [if_pos hcm]
      congr 1
      omega
    · rw [if_neg hcm]
      congr 1
      omega
  | d + 1, q, c, h, hc => by
    have hw : wrap64 ((q : Int) + 1) = ((q + 1 : Nat) : Int) := by unfold wrap64; omega
    have hwc : wrap64 ((c : Int) + 1) = ((c + 1 : Nat) : Int) := by unfold wrap64; omega
    have e1 : K + (d + 1) + 1 = (K + d + 1) + 1 := by omega
    have ih1 := in2 l hl i hi m K d (q + 1) (c + 1) (by omega) (by omega)
    have ih0 := in2 l hl i hi m K d (q + 1) c (by omega) (by omega)
    rw [e1]
    generalize K + d + 1 = K2 at ih0 ih1 ⊢
    simp only [shutterref05_Width.l1]
    rw [if_pos (by omega), if_pos (by omega), if_pos (by omega), if_pos (by omega), hw, hwc, List.range'_succ, List.countP_cons, at_is l q]
    simp only [Option.bind_some]
    have hF : (rd_T36 l (i : Int)).f2 = F l i := rfl
    rw [hF]
    cases cov l (F l i) q with
    | true =>
      rw [if_pos rfl, if_pos rfl, ih1]
      congr 2
      omega
    | false =>
      rw [if_neg (by simp), if_neg (by simp), ih0]
      rfl
theorem out2 (l : List S36) (hl : l.length < 4398046511104) : ∀ (d K i m : Nat), i + d = l.length → d * (l.length + 3) + 1 ≤ K →
    ∃ r : Nat, shutterref05_Width.l0 K l (m : Int) (i : Int) = some (r : Int) ∧ m ≤ r ∧ (∀ j, i ≤ j → j < l.length → good l j → W l (F l j) ≤ r) ∧ (r = m ∨ ∃ j, j < l.length ∧ r = W l (F l j))
  | 0, K, i, m, h, hK => by
    obtain ⟨K, rfl⟩ : ∃ k, K = k + 1 := ⟨K - 1, by omega⟩
    simp only [shutterref05_Width.l0]
    rw [if_neg (by omega)]
    exact ⟨m, rfl, Nat.le_refl _, fun j h1 h2 => by omega, Or.inl rfl⟩
  | d + 1, K, i, m, h, hK => by
    rw [Nat.succ_mul] at hK
    obtain ⟨K, rfl⟩ : ∃ k, K = k + l.length + 1 + 1 + 1 := ⟨K - l.length - 1 - 1 - 1, by omega⟩
    have hw : wrap64 ((i : Int) + 1) = ((i + 1 : Nat) : Int) := by unfold wrap64; omega
    have hj : ∀ b : Bool, shutterref05_Width.j1 (K + l.length + 1 + 1) l (m : Int) (i : Int) b = if b = true then shutterref05_Width.l0 (K + l.length + 1) l (m : Int) ((i + 1 : Nat) : Int) else shutterref05_Width.l0 K l ((max m (W l (F l i)) : Nat) : Int) ((i + 1 : Nat) : Int) := fun b => by
      have hin := in2 l hl i (by omega) m K l.length 0 0 (by omega) (Nat.le_refl _)
      have hW : (List.range' 0 l.length).countP (cov l (F l i)) = W l (F l i) := by rw [← List.range_eq_range']; rfl
      rw [hW, Nat.zero_add] at hin
      generalize K + l.length + 1 = K2 at hin ⊢
      simp only [shutterref05_Width.j1]
      rw [hw]
      cases b
      · rw [if_neg (by simp), if_neg (by simp)]; exact hin
      · rw [if_pos rfl, if_pos rfl]
    obtain ⟨r, h1, h2, h3, h4⟩ := out2 l hl d K (i + 1) (max m (W l (F l i))) (by omega) (by omega)
    obtain ⟨r', g1, g2, g3, g4⟩ := out2 l hl d (K + l.length + 1) (i + 1) m (by omega) (by omega)
    have hil : i < l.length := by clear h4 g4; omega
    have hyes : ∀ x, x = some (r : Int) → ∃ r : Nat, x = some (r : Int) ∧ m ≤ r ∧ (∀ j, i ≤ j → j < l.length → good l j → W l (F l j) ≤ r) ∧ (r = m ∨ ∃ j, j < l.length ∧ r = W l (F l j)) := fun x hx => by
      refine ⟨r, hx, Nat.le_trans (Nat.le_max_left _ _) h2, fun j h5 h6 h9 => ?_, ?_⟩
      · rcases Nat.eq_or_lt_of_le h5 with h7 | h7
        · subst h7; exact Nat.le_trans (Nat.le_max_right _ _) h2
        · exact h3 j h7 h6 h9
      · rcases h4 with h5 | h5
        · by_cases h6 : m ≤ W l (F l i)
          · exact Or.inr ⟨i, hil, h5.trans (Nat.max_eq_right h6)⟩
          · exact Or.inl (h5.trans (Nat.max_eq_left (Nat.le_of_not_le h6)))
        · exact Or.inr h5
    generalize K + l.length + 1 + 1 = K3 at hj ⊢
    simp only [shutterref05_Width.l0]
    rw [if_pos (by omega), if_pos (by omega)]
    by_cases p1 : (rd_T36 l (i : Int)).f3 ≥ 0
    · rw [if_pos p1, hj]
      by_cases p2 : (rd_T36 l (i : Int)).f3 < (rd_T36 l (i : Int)).f2
      · rw [decide_eq_true p2, if_pos rfl]
        refine ⟨r', g1, g2, fun j h5 h6 h9 => ?_, g4⟩
        rcases Nat.eq_or_lt_of_le h5 with h7 | h7
        · subst h7
          exact absurd ⟨p1, p2⟩ h9
        · exact g3 j h7 h6 h9
      · rw [decide_eq_false p2, if_neg (by simp)]
        exact hyes _ h1
    · rw [if_neg p1, hj, if_neg (by simp)]
      exact hyes _ h1
/-- The step of a begin is no less covered than any other. -/
theorem high (l : List S36) (s : Int) : W l s = 0 ∨ ∃ k, k < l.length ∧ good l k ∧ W l s ≤ W l (F l k) := by
  by_cases h0 : ∃ k, k < l.length ∧ cov l s k = true
  · right
    -- the covering span that begins last
    have hmax : ∀ n, n ≤ l.length → (∃ k, k < n ∧ cov l s k = true) → ∃ k, k < n ∧ cov l s k = true ∧ ∀ j, j < n → cov l s j = true → F l j ≤ F l k := by
      intro n
      induction n with
      | zero => intro _ ⟨k, h, _⟩; omega
      | succ n ih =>
        intro hn hx
        by_cases hp : ∃ k, k < n ∧ cov l s k = true
        · obtain ⟨k, k1, k2, k3⟩ := ih (by omega) hp
          by_cases hc : cov l s n = true
          · by_cases hf : F l n ≤ F l k
            · refine ⟨k, by omega, k2, fun j hj hj2 => ?_⟩
              rcases Nat.lt_or_ge j n with h | h
              · exact k3 j h hj2
              · obtain rfl : j = n := by omega
                exact hf
            · refine ⟨n, by omega, hc, fun j hj hj2 => ?_⟩
              rcases Nat.lt_or_ge j n with h | h
              · have := k3 j h hj2; omega
              · obtain rfl : j = n := by omega
                exact Int.le_refl _
          · refine ⟨k, by omega, k2, fun j hj hj2 => ?_⟩
            rcases Nat.lt_or_ge j n with h | h
            · exact k3 j h hj2
            · obtain rfl : j = n := by omega
              exact absurd hj2 hc
        · obtain ⟨k, k1, k2⟩ := hx
          have hkn : k = n := by
            rcases Nat.lt_or_ge k n with h | h
            · exact absurd ⟨k, h, k2⟩ hp
            · omega
          subst hkn
          refine ⟨k, by omega, k2, fun j hj hj2 => ?_⟩
          rcases Nat.lt_or_ge j k with h | h
          · exact absurd ⟨j, h, hj2⟩ hp
          · obtain rfl : j = k := by omega
            exact Int.le_refl _
    obtain ⟨k, k1, k2, k3⟩ := hmax l.length (Nat.le_refl _) h0
    have hk : F l k ≤ s ∧ (T l k < 0 ∨ s ≤ T l k) := by
      unfold cov at k2
      simpa using k2
    refine ⟨k, k1, fun h => by omega, ?_⟩
    unfold W
    refine List.countP_mono_left fun j hj hc => ?_
    have hj2 := List.mem_range.1 hj
    have h3 := k3 j hj2 hc
    have h4 : F l j ≤ s ∧ (T l j < 0 ∨ s ≤ T l j) := by
      unfold cov at hc
      simpa using hc
    unfold cov
    simp only [Bool.and_eq_true, Bool.or_eq_true, decide_eq_true_eq]
    exact ⟨h3, by omega⟩
  · left
    unfold W
    rw [List.countP_eq_zero]
    intro j hj hc
    exact h0 ⟨j, List.mem_range.1 hj, hc⟩
theorem width (l : List S36) (hl : l.length < 4398046511104) : ∃ (K : Nat) (r : Int), hist_Width.f K l = some r ∧ shutterref05_Width.f K l = some r := by
  refine ⟨l.length * (l.length + 2) + 1 + (l.length * (l.length + 3) + 1), ?_⟩
  obtain ⟨r, h1, h2, h3, h4⟩ := out1 l hl l.length (l.length * (l.length + 2) + 1 + (l.length * (l.length + 3) + 1)) 0 0 (by omega) (by omega)
  obtain ⟨q, g1, g2, g3, g4⟩ := out2 l hl l.length (l.length * (l.length + 2) + 1 + (l.length * (l.length + 3) + 1)) 0 0 (by omega) (by omega)
  refine ⟨(r : Int), h1, ?_⟩
  have hrq : r = q := by
    refine Nat.le_antisymm ?_ ?_
    · rcases h4 with h5 | ⟨j, h5, h6⟩
      · omega
      · rcases high l (F l j) with h7 | ⟨k, k1, k2, k3⟩
        · omega
        · have := g3 k (Nat.zero_le _) k1 k2
          omega
    · rcases g4 with h5 | ⟨j, h5, h6⟩
      · omega
      · have := h3 j (Nat.zero_le _) h5
        omega
  rw [hrq]
  exact g1
end WM
end Go.Proofs.Ytfmhdfgliamkkaa.Own
