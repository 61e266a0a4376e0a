/- Of right spans that are left some stand first, and to take one away each time gives an order that keeps them. No condition. -/
import Derived.Test.YtfmhdfgliamkkabHistKeepsG
import Derived.Test.YtfmhdfgliamkkabHistRightRef
import Derived.Test.YtfmhdfgliamkkabOwnx7
set_option linter.unusedVariables false
set_option linter.unusedSimpArgs false
namespace Go.Proofs.Ytfmhdfgliamkkab.Own
open Go.RowKit Go.Proofs.YtfmhdfgliamkkabW.PrintWords Go.Proofs.YtfmhdfgliamkkabW.PrintLast Go.Proofs.YtfmhdfgliamkkabW.PrintMore
namespace SB
open RM
theorem live_true : shutterlaw05_live.f = some true := by decide +kernel
theorem kp_snoc (l : List S57) (n : Int) : ∀ (o pre : List Int) (left : List Bool), kpRun l pre (o ++ [n]) left = (kpRun l pre o left).bind (fun left2 => kpRun l (pre ++ o) [n] left2)
  | [], pre, left => by simp [kpRun]
  | m :: r, pre, left => by
    rw [List.cons_append, kpRun, kpRun]
    by_cases h1 : m < 0 ∨ (l.length : Int) ≤ m ∨ left.getD m.toNat false = false
    · rw [if_pos h1, if_pos h1]; rfl
    · rw [if_neg h1, if_neg h1]
      by_cases h2 : (pre.any fun x => aheadB (rd_T57 l m) (rd_T57 l x)) = true
      · rw [if_pos h2, if_pos h2]; rfl
      · rw [if_neg h2, if_neg h2, kp_snoc l n r (pre ++ [m]) _]
        congr 1
        funext left2
        rw [List.append_assoc]
        rfl
/-- Behind the picks o. -/
structure BI (l : List S57) (o : List Int) (left : List Bool) : Prop where
  run : kpRun l [] o (List.replicate l.length true) = some left
  len : left.length = l.length
  cnt : left.countP id + o.length = l.length
  free : ∀ m ∈ o, ∀ k : Nat, k < l.length → left.getD k false = true → aheadB (rd_T57 l (k : Int)) (rd_T57 l m) = false
theorem bi_start (l : List S57) : BI l [] (List.replicate l.length true) := by
  refine ⟨rfl, by simp, ?_, fun m hm => absurd hm (by simp)⟩
  rw [List.countP_replicate]
  simp
theorem getD_set (l : List Bool) (i k : Nat) (hi : i < l.length) : (l.set i false).getD k false = if k = i then false else l.getD k false := by
  rw [List.getD_eq_getElem?_getD, List.getD_eq_getElem?_getD, List.getElem?_set]
  by_cases h : k = i
  · subst h
    rw [if_pos rfl, if_pos hi, if_pos rfl]
    rfl
  · rw [if_neg (fun e => h e.symm), if_neg h]
theorem bi_step {l : List S57} {o : List Int} {left : List Bool} (hB : BI l o left) {i : Nat} (hi : i < l.length) (hl : left.getD i false = true) (hs : stops l left i l.length = false) :
    BI l (o ++ [(i : Int)]) (left.set i false) := by
  have hil : i < left.length := by rw [hB.len]; exact hi
  refine ⟨?_, by rw [List.length_set]; exact hB.len, ?_, ?_⟩
  · rw [kp_snoc, hB.run]
    simp only [Option.bind_some, List.nil_append, kpRun]
    rw [if_neg, if_neg, Int.toNat_natCast]
    · intro h
      rw [List.any_eq_true] at h
      obtain ⟨m, hm, ha⟩ := h
      rw [hB.free m hm i hi hl] at ha
      cases ha
    · rintro (h | h | h)
      · omega
      · omega
      · rw [Int.toNat_natCast, hl] at h
        cases h
  · have hge : left[i] = true := by
      rw [List.getD_eq_getElem?_getD, List.getElem?_eq_getElem hil] at hl
      exact hl
    have hpos : 0 < left.countP id := List.countP_pos_iff.2 ⟨true, by rw [← hge]; exact List.getElem_mem hil, rfl⟩
    have hc := hB.cnt
    rw [List.countP_set hil, hge]
    simp only [id, List.length_append, List.length_singleton, if_true, Bool.false_eq_true, if_false]
    omega
  · intro m hm k hk hlk
    rw [getD_set _ _ _ hil] at hlk
    by_cases hki : k = i
    · rw [if_pos hki] at hlk; cases hlk
    · rw [if_neg hki] at hlk
      rcases List.mem_append.1 hm with h | h
      · exact hB.free m h k hk hlk
      · have hm2 : m = (i : Int) := by simpa using h
        subst hm2
        cases ha : aheadB (rd_T57 l (k : Int)) (rd_T57 l (i : Int)) with
        | false => rfl
        | true =>
          have : stops l left i l.length = true := by
            unfold stops
            rw [List.any_eq_true]
            refine ⟨k, List.mem_range.2 hk, ?_⟩
            rw [hlk, ha]
            simp [hki]
          rw [hs] at this
          cases this
/-- The left one that begins first. -/
theorem least (l : List S57) (left : List Bool) : ∀ n : Nat, (∀ k, k < n → left.getD k false = false) ∨ ∃ i, i < n ∧ left.getD i false = true ∧ ∀ k, k < n → left.getD k false = true → (g l i).f2 ≤ (g l k).f2
  | 0 => Or.inl (fun k h => absurd h (Nat.not_lt_zero _))
  | n + 1 => by
    cases hn : left.getD n false with
    | false =>
      rcases least l left n with h | ⟨i, h1, h2, h3⟩
      · refine Or.inl (fun k hk => ?_)
        rcases Nat.lt_or_ge k n with h4 | h4
        · exact h k h4
        · obtain rfl : k = n := by omega
          exact hn
      · refine Or.inr ⟨i, by omega, h2, fun k hk hlk => ?_⟩
        rcases Nat.lt_or_ge k n with h4 | h4
        · exact h3 k h4 hlk
        · obtain rfl : k = n := by omega
          rw [hn] at hlk; cases hlk
    | true =>
      rcases least l left n with h | ⟨i, h1, h2, h3⟩
      · refine Or.inr ⟨n, by omega, hn, fun k hk hlk => ?_⟩
        rcases Nat.lt_or_ge k n with h4 | h4
        · rw [h k h4] at hlk; cases hlk
        · obtain rfl : k = n := by omega
          exact Int.le_refl _
      · by_cases hle : (g l i).f2 ≤ (g l n).f2
        · refine Or.inr ⟨i, by omega, h2, fun k hk hlk => ?_⟩
          rcases Nat.lt_or_ge k n with h4 | h4
          · exact h3 k h4 hlk
          · obtain rfl : k = n := by omega
            exact hle
        · refine Or.inr ⟨n, by omega, hn, fun k hk hlk => ?_⟩
          rcases Nat.lt_or_ge k n with h4 | h4
          · have := h3 k h4 hlk
            omega
          · obtain rfl : k = n := by omega
            exact Int.le_refl _
/-- Of right spans some stand first. -/
theorem some_first {l : List S57} (hR : RP l) {o : List Int} {left : List Bool} (hB : BI l o left) (ho : o.length < l.length) : ∃ (i : Nat) (r : List Int), firsts l left l.length = (i : Int) :: r ∧ i < l.length ∧ left.getD i false = true ∧ stops l left i l.length = false := by
  obtain ⟨i, h1, h2, h3⟩ : ∃ i, i < l.length ∧ left.getD i false = true ∧ ∀ k, k < l.length → left.getD k false = true → (g l i).f2 ≤ (g l k).f2 := by
    rcases least l left l.length with h | h
    · have hc : left.countP id = 0 := by
        rw [List.countP_eq_zero]
        intro b hb
        obtain ⟨k, hk, rfl⟩ := List.mem_iff_getElem.1 hb
        have := h k (by rw [← hB.len]; exact hk)
        rw [List.getD_eq_getElem?_getD, List.getElem?_eq_getElem hk] at this
        intro hx
        rw [Option.getD_some] at this
        rw [this] at hx
        cases hx
      have := hB.cnt
      omega
    · exact h
  have hs : stops l left i l.length = false := by
    cases hs : stops l left i l.length with
    | false => rfl
    | true =>
      unfold stops at hs
      rw [List.any_eq_true] at hs
      obtain ⟨k, hk, hx⟩ := hs
      have hk2 := List.mem_range.1 hk
      rw [Bool.and_eq_true, Bool.and_eq_true] at hx
      obtain ⟨q1, q2, q3⟩ := hx
      unfold aheadB at q3
      rw [Bool.and_eq_true, decide_eq_true_eq, decide_eq_true_eq] at q3
      have q4 := h3 k hk2 q1
      have q5 := (hR k hk2).1.2
      have e1 : (g l k).f3 = (rd_T57 l (k : Int)).f3 := rfl
      have e2 : (g l i).f2 = (rd_T57 l (i : Int)).f2 := rfl
      rcases q5 with h | h <;> omega
  have hm : (i : Int) ∈ firsts l left l.length := by
    unfold firsts
    refine List.mem_map.2 ⟨i, List.mem_filter.2 ⟨List.mem_range.2 h1, ?_⟩, rfl⟩
    rw [h2, hs]
    rfl
  cases hf : firsts l left l.length with
  | nil => rw [hf] at hm; cases hm
  | cons x r =>
    have hx : x ∈ firsts l left l.length := by rw [hf]; simp
    unfold firsts at hx
    obtain ⟨j, hj, rfl⟩ := List.mem_map.1 hx
    obtain ⟨hj1, hj2⟩ := List.mem_filter.1 hj
    rw [Bool.and_eq_true] at hj2
    refine ⟨j, r, rfl, List.mem_range.1 hj1, hj2.1, ?_⟩
    have := hj2.2
    cases hq : stops l left j l.length with
    | false => rfl
    | true => rw [hq] at this; cases this
theorem l1_run {l : List S57} (hR : RP l) (hl : l.length < 4398046511104) : ∀ (d K : Nat) (o : List Int) (left : List Bool), d + o.length = l.length → d < K → BI l o left → shutterlaw05_HistSomebody.l1 K l left o = some true
  | 0, K, o, left, h, hK, hB => by
    obtain ⟨K, rfl⟩ : ∃ m, K = m + 1 := ⟨K - 1, by omega⟩
    simp only [shutterlaw05_HistSomebody.l1]
    have hk : keepsB l o = true := by
      unfold keepsB
      rw [hB.run]
      have hlate : lateOf l left l.length = false := by
        cases hq : lateOf l left l.length with
        | false => rfl
        | true =>
          unfold lateOf at hq
          rw [List.any_eq_true] at hq
          obtain ⟨k, hk, hx⟩ := hq
          rw [Bool.and_eq_true] at hx
          have hc : left.countP id = 0 := by have := hB.cnt; omega
          rw [List.countP_eq_zero] at hc
          have hk2 : k < left.length := by rw [hB.len]; exact List.mem_range.1 hk
          have h1 := hx.1
          rw [List.getD_eq_getElem?_getD, List.getElem?_eq_getElem hk2, Option.getD_some] at h1
          exact absurd h1 (hc _ (List.getElem_mem hk2))
      show (!lateOf l left l.length) = true
      rw [hlate]
      rfl
    have hkf : hist_Keeps.f l o = some true := by
      unfold hist_Keeps.f
      rw [if_pos ⟨hl, by omega⟩, hk]
    rw [if_neg (by omega), live_true]
    simp only [Option.bind_some]
    rw [if_pos trivial, hkf]
    rfl
  | d + 1, K, o, left, h, hK, hB => by
    obtain ⟨K, rfl⟩ : ∃ m, K = m + 1 := ⟨K - 1, by omega⟩
    obtain ⟨i, r, hf, hi, hli, hs⟩ := some_first hR hB (by omega)
    have hff : hist_First.f l left = some ((i : Int) :: r) := by
      unfold hist_First.f
      rw [if_pos hl, hf]
    have hrd : rd ((i : Int) :: r) 0 = (i : Int) := rfl
    have hrdO : rdOf false left (i : Int) = true := by
      unfold rdOf
      rw [Int.toNat_natCast]
      exact hli
    have hlen := hB.len
    have ih := l1_run hR hl d K (o ++ [(i : Int)]) (left.set i false) (by simp; omega) (by omega) (bi_step hB hi hli hs)
    clear hB hs hli hf
    simp only [shutterlaw05_HistSomebody.l1]
    rw [if_pos (by omega), hff]
    simp only [Option.bind_some, hrd, List.length_cons]
    rw [if_neg (by omega), if_pos (by omega), if_neg (by omega), if_neg (by omega), if_pos (by omega), if_pos (by omega), if_pos hrdO, if_pos (by omega), Int.toNat_natCast]
    exact ih
theorem l0_run {l : List S57} (hR : RP l) (hl : l.length < 4398046511104) : ∀ (d K i : Nat) (left : List Bool), i + d = l.length → d + l.length + 2 ≤ K → left.length = l.length → (∀ k, k < i → left.getD k false = true) → shutterlaw05_HistSomebody.l0 K l left (i : Int) = some true
  | 0, K, i, left, h, hK, hle, hx => by
    obtain ⟨K, rfl⟩ : ∃ m, K = m + 1 := ⟨K - 1, by omega⟩
    have hrep : left = List.replicate l.length true := by
      refine List.ext_getElem (by simp [hle]) (fun n h1 h2 => ?_)
      have := hx n (by omega)
      rw [List.getD_eq_getElem?_getD, List.getElem?_eq_getElem h1, Option.getD_some] at this
      rw [this]
      simp
    simp only [shutterlaw05_HistSomebody.l0]
    rw [if_neg (by omega), hrep]
    exact l1_run hR hl l.length K [] _ (by simp) (by omega) (bi_start l)
  | d + 1, K, i, left, h, hK, hle, hx => by
    obtain ⟨K, rfl⟩ : ∃ m, K = m + 1 := ⟨K - 1, by omega⟩
    have hw : RowKit.wrap64 ((i : Int) + 1) = ((i + 1 : Nat) : Int) := by unfold RowKit.wrap64; omega
    simp only [shutterlaw05_HistSomebody.l0]
    rw [if_pos (by omega), if_pos (by omega), if_pos (by omega), hw, Int.toNat_natCast]
    refine l0_run hR hl d K (i + 1) _ (by omega) (by omega) (by rw [List.length_set]; exact hle) (fun k hk => ?_)
    rw [List.getD_eq_getElem?_getD, List.getElem?_set]
    by_cases hki : i = k
    · rw [if_pos hki, if_pos (by omega)]
      rfl
    · rw [if_neg hki, ← List.getD_eq_getElem?_getD]
      exact hx k (by omega)
theorem f_is (l : List S57) (hl : l.length < 4398046511104) (hf : l.all fit36 = true) : ∃ K, shutterlaw05_HistSomebody.f K l = some true := by
  obtain ⟨K, r, h1, h2⟩ := right_ref l hl hf
  by_cases hr : r = 0
  · subst hr
    have hR : RP l := by
      unfold hist_Right.f at h1
      rw [if_pos ⟨hl, hf⟩] at h1
      cases hq : riRun l RiSt.start with
      | none => rw [hq] at h1; cases h1
      | some s => exact ri_rp hq
    refine ⟨2 * l.length + 2, ?_⟩
    unfold shutterlaw05_HistSomebody.f
    rw [h1]
    simp only [Option.bind_some]
    rw [if_pos trivial, if_pos (by omega), if_pos (by omega), Int.toNat_natCast]
    exact l0_run hR hl l.length _ 0 _ (by omega) (by omega) (by simp) (fun k hk => absurd hk (Nat.not_lt_zero _))
  · refine ⟨K, ?_⟩
    unfold shutterlaw05_HistSomebody.f
    rw [h1, h2, live_true]
    simp only [Option.bind_some]
    rw [if_neg hr, if_pos trivial]
    simp [hr]
end SB
end Go.Proofs.Ytfmhdfgliamkkab.Own
