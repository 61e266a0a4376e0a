/- strings.Split at a blank and strings.Cut at a line's end, as the plain words and lines. No condition. -/
import Derived.Test.YtfmhdfgliamkkabDoorHistTextMath
import Derived.Lib.IndexMore
namespace Go.Proofs.YtfmhdfgliamkkabDoor.HT
open Go.Lib Go.Proofs.YtfmhdfgliamkkabDoor.Own
set_option linter.unusedVariables false
set_option linter.unusedSimpArgs false
theorem idx_miss (b : UInt8) : ∀ {a : List UInt8}, b ∉ a → Lib.indexByte a b = -1
  | [], _ => rfl
  | c :: a, h => by
    have h1 : ¬ (c == b) = true := fun e => h (by rw [eq_of_beq e]; exact List.mem_cons_self ..)
    rw [Lib.indexByte, if_neg h1, if_pos]
    rw [idx_miss b fun e => h (List.mem_cons_of_mem _ e)]
    rfl
theorem idx_hit (b : UInt8) : ∀ {a : List UInt8} (r : List UInt8), b ∉ a → Lib.indexByte (a ++ b :: r) b = a.length
  | [], r, _ => by
    rw [List.nil_append, Lib.indexByte, if_pos (beq_self_eq_true b)]
    rfl
  | c :: a, r, h => by
    have h1 : ¬ (c == b) = true := fun e => h (by rw [eq_of_beq e]; exact List.mem_cons_self ..)
    have ih := idx_hit b (a := a) r fun e => h (List.mem_cons_of_mem _ e)
    rw [List.cons_append, Lib.indexByte, if_neg h1, ih, if_neg (fun e => by have := eq_of_beq e; omega), List.length_cons]
    omega
theorem first_of (b : UInt8) : ∀ {s : List UInt8}, b ∈ s → ∃ a r, s = a ++ b :: r ∧ b ∉ a
  | [], h => by simp at h
  | c :: s, h => by
    by_cases e : c = b
    · subst e
      exact ⟨[], s, rfl, by simp⟩
    · obtain ⟨a, r, h1, h2⟩ := first_of b (s := s) ((List.mem_cons.1 h).resolve_left fun x => e x.symm)
      refine ⟨c :: a, r, by rw [h1]; rfl, fun hm => ?_⟩
      rcases List.mem_cons.1 hm with x | x
      · exact e x.symm
      · exact h2 x
theorem cut_hit (a r : List UInt8) (h : (10 : UInt8) ∉ a) : Lib.cut (a ++ 10 :: r) [10] = (a, r, true) := by
  unfold Lib.cut
  have e : Lib.index (a ++ 10 :: r) [10] = a.length := by rw [Lib.index_one]; exact idx_hit 10 r h
  rw [e, if_pos (by omega)]
  have e2 : ((a.length : Nat) : Int).toNat = a.length := by omega
  rw [e2]
  simp
theorem cut_miss (s : List UInt8) (h : (10 : UInt8) ∉ s) : Lib.cut s [10] = (s, [], false) := by
  unfold Lib.cut
  have e : Lib.index s [10] = -1 := by rw [Lib.index_one]; exact idx_miss 10 h
  rw [e, if_neg (by omega)]
theorem split_once (a r : List UInt8) (n : Nat) (h : (32 : UInt8) ∉ a) : Lib.splitB ⟨#[32]⟩ 0 (n + 1) ⟨(a ++ 32 :: r).toArray⟩ = ⟨a.toArray⟩ :: Lib.splitB ⟨#[32]⟩ 0 n ⟨r.toArray⟩ := by
  have hi : Lib.indexB ⟨(a ++ 32 :: r).toArray⟩ ⟨#[32]⟩ = a.length := by
    show Lib.index (a ++ 32 :: r) [32] = a.length
    rw [Lib.index_one]
    exact idx_hit 32 r h
  rw [Lib.splitB_hit _ _ _ _ _ hi]
  congr 1
  · apply bytes_ext
    rw [Lib.extract_from_zero]
    simp
  · congr 1
    apply bytes_ext
    rw [Lib.extract_to_end]
    show ((a ++ 32 :: r)).drop (a.length + 1) = r
    rw [List.drop_append]
    simp
theorem split_words : ∀ (n : Nat) (s : List UInt8), s.length ≤ n → Lib.splitB ⟨#[32]⟩ 0 (s.count 32) ⟨s.toArray⟩ = (wordsL s).map fun l => ⟨l.toArray⟩
  | 0, s, h => by
    have : s = [] := List.length_eq_zero_iff.1 (by omega)
    subst this
    rfl
  | n + 1, s, h => by
    by_cases hm : (32 : UInt8) ∈ s
    · obtain ⟨a, r, rfl, ha⟩ := first_of 32 hm
      have hc : (a ++ 32 :: r).count (32 : UInt8) = r.count 32 + 1 := by
        rw [List.count_append, List.count_cons_self, List.count_eq_zero.2 ha]
        omega
      rw [hc, split_once a r _ ha, wordsL_hit a r ha, split_words n r (by simp at h; omega)]
      rfl
    · rw [List.count_eq_zero.2 hm, wordsL_miss s hm]
      rfl
theorem count_words (s : ByteArray) : Lib.countB s ⟨#[32]⟩ = (s.data.toList.count 32 : Nat) := by
  show Lib.count s.data.toList [32] = _
  rw [Lib.count_one]
end Go.Proofs.YtfmhdfgliamkkabDoor.HT
