/- The reference's Keeps tells what 'keepsB' says; what an order that keeps a history has. No condition. -/
import Derived.Test.YtfmhdfgliamkkaaHistKeepsG
import Derived.Test.YtfmhdfgliamkkaaOwnx23
import Derived.Test.YtfmhdfgliamkkaaOwnx24
import Derived.Test.YtfmhdfgliamkkaaHistFirstMath
namespace Go.Proofs.Ytfmhdfgliamkkaa.Own
open Go.RowKit Go.Proofs.YtfmhdfgliamkkaaW.PrintWords Go.Proofs.YtfmhdfgliamkkaaW.PrintLast Go.Proofs.YtfmhdfgliamkkaaW.PrintMore
set_option linter.unusedVariables false
namespace KM
def okAt (l : List S36) (o : List Int) (i : Nat) : Bool := decide (0 ≤ rd o (i : Int)) && (decide (rd o (i : Int) < (l.length : Int)) && (!(o.take i).contains (rd o (i : Int)) && !(o.take i).any fun m => aheadB (rd_T36 l (rd o (i : Int))) (rd_T36 l m)))
def hasAt (l : List S36) (o : List Int) (p : Nat) : Bool := !(decide (0 ≤ (rd_T36 l (p : Int)).f3) && !o.contains (p : Int))
theorem mem_take {o : List Int} {i : Nat} (hi : i ≤ o.length) (x : Int) : x ∈ o.take i ↔ ∃ q : Nat, q < i ∧ rd o (q : Int) = x := by
  constructor
  · intro h
    obtain ⟨q, hq, rfl⟩ := List.mem_iff_getElem.1 h
    have hq2 : q < i := by rw [List.length_take] at hq; omega
    refine ⟨q, hq2, ?_⟩
    rw [List.getElem_take]
    unfold rd
    rw [List.getD_eq_getElem?_getD, Int.toNat_natCast, List.getElem?_eq_getElem (by omega)]
    rfl
  · rintro ⟨q, hq, rfl⟩
    exact HK.rd_mem hq hi
theorem place_is (o : List Int) (x : Int) (ho : o.length < 9223372036854775807) : ∀ (d K i : Nat), i + d = o.length → d < K → ∃ r, shutterref05_place.l0 K o x (i : Int) = some r ∧ ((r = -1 ∧ ∀ p : Nat, i ≤ p → p < o.length → rd o (p : Int) ≠ x) ∨ ∃ q : Nat, r = (q : Int) ∧ i ≤ q ∧ q < o.length ∧ rd o (q : Int) = x ∧ ∀ p : Nat, i ≤ p → p < q → rd o (p : Int) ≠ x)
  | 0, K, i, h, hK => by
    obtain ⟨K, rfl⟩ : ∃ m, K = m + 1 := ⟨K - 1, by omega⟩
    simp only [shutterref05_place.l0]
    rw [if_neg (by omega)]
    exact ⟨-1, rfl, Or.inl ⟨rfl, fun p h1 h2 => by omega⟩⟩
  | d + 1, K, i, h, hK => by
    obtain ⟨K, rfl⟩ : ∃ m, K = m + 1 := ⟨K - 1, by omega⟩
    have hw : RowKit.wrap64 ((i : Int) + 1) = ((i + 1 : Nat) : Int) := by unfold RowKit.wrap64; omega
    simp only [shutterref05_place.l0]
    rw [if_pos (by omega), if_pos (by omega)]
    by_cases hx : rd o (i : Int) = x
    · rw [if_pos hx]
      exact ⟨_, rfl, Or.inr ⟨i, rfl, Nat.le_refl _, by omega, hx, fun p h1 h2 => by omega⟩⟩
    · rw [if_neg hx, hw]
      obtain ⟨r, hr, hc⟩ := place_is o x ho d K (i + 1) (by omega) (by omega)
      refine ⟨r, hr, ?_⟩
      rcases hc with ⟨h1, h2⟩ | ⟨q, h1, h2, h3, h4, h5⟩
      · refine Or.inl ⟨h1, fun p h6 h7 => ?_⟩
        rcases Nat.eq_or_lt_of_le h6 with e | e
        · subst e; exact hx
        · exact h2 p e h7
      · refine Or.inr ⟨q, h1, by omega, h3, h4, fun p h6 h7 => ?_⟩
        rcases Nat.eq_or_lt_of_le h6 with e | e
        · subst e; exact hx
        · exact h5 p e h7
theorem place_own (o : List Int) (ho : o.length < 9223372036854775807) (i K : Nat) (hi : i < o.length) (hK : o.length < K) : ∃ r, shutterref05_place.f K o (rd o (i : Int)) = some r ∧ (r != (i : Int)) = (o.take i).contains (rd o (i : Int)) := by
  obtain ⟨r, hr, hc⟩ := place_is o (rd o (i : Int)) ho o.length K 0 (by omega) hK
  refine ⟨r, hr, ?_⟩
  rcases hc with ⟨h1, h2⟩ | ⟨q, h1, h2, h3, h4, h5⟩
  · exact absurd rfl (h2 i (Nat.zero_le _) hi)
  · by_cases hq : q < i
    · have h6 : (o.take i).contains (rd o (i : Int)) = true := List.contains_iff_mem.2 ((mem_take (by omega) _).2 ⟨q, hq, h4⟩)
      rw [h6, h1]
      simp
      omega
    · have hqi : q = i := by
        rcases Nat.lt_or_ge i q with h | h
        · exact absurd rfl (h5 i (Nat.zero_le _) h)
        · omega
      subst hqi
      have h6 : (o.take q).contains (rd o (q : Int)) = false := by
        cases hb : (o.take q).contains (rd o (q : Int)) with
        | false => rfl
        | true =>
          obtain ⟨p, hp, hp2⟩ := (mem_take (by omega) _).1 (List.contains_iff_mem.1 hb)
          exact absurd hp2 (h5 p (Nat.zero_le _) hp)
      rw [h6, h1]
      simp
theorem place_has (o : List Int) (x : Int) (ho : o.length < 9223372036854775807) (K : Nat) (hK : o.length < K) : ∃ r, shutterref05_place.f K o x = some r ∧ decide (r < 0) = !o.contains x := by
  obtain ⟨r, hr, hc⟩ := place_is o x ho o.length K 0 (by omega) hK
  refine ⟨r, hr, ?_⟩
  have ht : o.take o.length = o := List.take_length
  rcases hc with ⟨h1, h2⟩ | ⟨q, h1, h2, h3, h4, h5⟩
  · have h6 : o.contains x = false := by
      cases hb : o.contains x with
      | false => rfl
      | true =>
        have h7 := List.contains_iff_mem.1 hb
        rw [← ht] at h7
        obtain ⟨p, hp, hp2⟩ := (mem_take (Nat.le_refl _) _).1 h7
        exact absurd hp2 (h2 p (Nat.zero_le _) hp)
    rw [h6, h1]
    rfl
  · have h6 : o.contains x = true := by
      refine List.contains_iff_mem.2 ?_
      rw [← ht]
      exact (mem_take (Nat.le_refl _) _).2 ⟨q, h3, h4⟩
    rw [h6, h1]
    simp
theorem ref_l2 (l : List S36) (o : List Int) (hl : l.length < 4398046511104) (ho : o.length < 17592186044416) : ∀ (d K m : Nat), m + d = l.length → d + o.length + 2 ≤ K → shutterref05_Keeps.l2 K l o (m : Int) = some ((List.range' m d).all (hasAt l o))
  | 0, K, m, h, hK => by
    obtain ⟨K, rfl⟩ : ∃ m, K = m + 1 := ⟨K - 1, by omega⟩
    simp only [shutterref05_Keeps.l2]
    rw [if_neg (by omega)]
    rfl
  | d + 1, K, m, h, hK => by
    obtain ⟨K, rfl⟩ : ∃ m, K = m + 1 := ⟨K - 1, by omega⟩
    have hw : RowKit.wrap64 ((m : Int) + 1) = ((m + 1 : Nat) : Int) := by unfold RowKit.wrap64; omega
    have ih := ref_l2 l o hl ho d K (m + 1) (by omega) (by omega)
    simp only [shutterref05_Keeps.l2]
    rw [if_pos (by omega), if_pos (by omega), List.range'_succ, List.all_cons]
    obtain ⟨r, hr, hc⟩ := place_has o (m : Int) (by omega) K (by omega)
    have hh : hasAt l o m = !(decide (0 ≤ (rd_T36 l (m : Int)).f3) && decide (r < 0)) := by rw [hc]; rfl
    rw [hh]
    by_cases hf : (rd_T36 l (m : Int)).f3 ≥ 0
    · rw [if_pos hf, hr, decide_eq_true (show 0 ≤ (rd_T36 l (m : Int)).f3 from hf)]
      simp only [Option.bind_some]
      by_cases hr0 : r < 0
      · rw [if_pos hr0, decide_eq_true hr0]; rfl
      · rw [if_neg hr0, decide_eq_false hr0, hw, ih]; rfl
    · rw [if_neg hf, decide_eq_false (show ¬ 0 ≤ (rd_T36 l (m : Int)).f3 from hf), hw, ih]
      rfl
theorem ref_l1 (l : List S36) (o : List Int) (hl : l.length < 4398046511104) (ho : o.length < 17592186044416) (i : Nat) (hi : i < o.length) (h0 : 0 ≤ rd o (i : Int)) (h1 : rd o (i : Int) < (l.length : Int)) (hr : ∀ q : Nat, q < i → 0 ≤ rd o (q : Int) ∧ rd o (q : Int) < (l.length : Int)) (K : Nat) : ∀ (d q : Nat), q + d = i →
    shutterref05_Keeps.l1 (K + d + 1) l o (i : Int) (q : Int) = if (((o.take i).drop q).any fun m => aheadB (rd_T36 l (rd o (i : Int))) (rd_T36 l m)) = true then some false else shutterref05_Keeps.l0 K l o ((i + 1 : Nat) : Int)
  | 0, q, h => by
    have hw : RowKit.wrap64 ((i : Int) + 1) = ((i + 1 : Nat) : Int) := by unfold RowKit.wrap64; omega
    simp only [shutterref05_Keeps.l1]
    rw [if_neg (by omega), List.drop_eq_nil_of_le (by rw [List.length_take]; omega), hw]
    simp
  | d + 1, q, h => by
    have hw : RowKit.wrap64 ((q : Int) + 1) = ((q + 1 : Nat) : Int) := by unfold RowKit.wrap64; omega
    have e1 : K + (d + 1) + 1 = (K + d + 1) + 1 := by omega
    obtain ⟨g0, g1⟩ := hr q (by omega)
    have ih := ref_l1 l o hl ho i hi h0 h1 hr K d (q + 1) (by omega)
    rw [e1]
    generalize K + d + 1 = K2 at ih ⊢
    simp only [shutterref05_Keeps.l1]
    rw [if_pos (by omega), if_pos (by omega), if_pos (by omega), if_pos h0, if_pos h1, if_pos (by omega), if_pos (by omega), if_pos g0, if_pos g1, FM.ahead_is]
    have hd : (o.take i).drop q = rd o (q : Int) :: (o.take i).drop (q + 1) := by
      rw [HK.drop_step (by rw [List.length_take]; omega), HK.rd_take (by omega) (by omega)]
    rw [hd, List.any_cons, hw, ih]
    simp only [Option.bind_some]
    cases aheadB (rd_T36 l (rd o (i : Int))) (rd_T36 l (rd o (q : Int))) <;> simp
theorem ref_l0 (l : List S36) (o : List Int) (hl : l.length < 4398046511104) (ho : o.length < 17592186044416) : ∀ (d K i : Nat), i + d = o.length → (∀ q : Nat, q < i → 0 ≤ rd o (q : Int) ∧ rd o (q : Int) < (l.length : Int)) → d * (o.length + 4) + (l.length + o.length + 4) ≤ K →
    shutterref05_Keeps.l0 K l o (i : Int) = some ((List.range' i d).all (okAt l o) && (List.range' 0 l.length).all (hasAt l o))
  | 0, K, i, h, hr, hK => by
    obtain ⟨K, rfl⟩ : ∃ m, K = m + 1 := ⟨K - 1, by omega⟩
    simp only [shutterref05_Keeps.l0]
    rw [if_neg (by omega)]
    have := ref_l2 l o hl ho l.length K 0 (by omega) (by omega)
    rw [show ((0 : Nat) : Int) = 0 from rfl] at this
    rw [this]
    rfl
  | d + 1, K, i, h, hr, hK => by
    rw [Nat.succ_mul] at hK
    obtain ⟨K, rfl⟩ : ∃ m, K = m + 1 := ⟨K - 1, by omega⟩
    have ht : ∀ b : Bool, shutterref05_Keeps.j1 K l o (i : Int) b = if b = true then some false else shutterref05_Keeps.l1 (K - 1) l o (i : Int) 0 := fun b => by
      obtain ⟨K, rfl⟩ : ∃ m, K = m + 1 := ⟨K - 1, by omega⟩
      simp only [shutterref05_Keeps.j1, Nat.add_sub_cancel]
    simp only [shutterref05_Keeps.l0]
    rw [if_pos (by omega), if_pos (by omega), List.range'_succ, List.all_cons]
    have hok : okAt l o i = (decide (0 ≤ rd o (i : Int)) && (decide (rd o (i : Int) < (l.length : Int)) && (!(o.take i).contains (rd o (i : Int)) && !(o.take i).any fun m => aheadB (rd_T36 l (rd o (i : Int))) (rd_T36 l m)))) := rfl
    by_cases g0 : rd o (i : Int) < 0
    · rw [if_pos g0, ht, if_pos rfl, hok, decide_eq_false (show ¬ 0 ≤ rd o (i : Int) by omega)]
      rfl
    · by_cases g1 : rd o (i : Int) ≥ (l.length : Int)
      · rw [if_neg g0, if_pos g1, ht, if_pos rfl, hok, decide_eq_false (show ¬ rd o (i : Int) < (l.length : Int) by omega)]
        simp
      · obtain ⟨r, hrr, hc⟩ := place_own o (by omega) i K (by omega) (by omega)
        rw [if_neg g0, if_neg g1, hrr]
        simp only [Option.bind_some]
        rw [ht, hc, hok, decide_eq_true (show 0 ≤ rd o (i : Int) by omega), decide_eq_true (show rd o (i : Int) < (l.length : Int) by omega)]
        cases hcc : (o.take i).contains (rd o (i : Int)) with
        | true => simp
        | false =>
          have hll := ref_l1 l o hl ho i (by omega) (by omega) (by omega) hr (K - 1 - i - 1) i 0 (by omega)
          rw [show K - 1 - i - 1 + i + 1 = K - 1 from by omega, List.drop_zero, show ((0 : Nat) : Int) = 0 from rfl] at hll
          rw [if_neg (by simp), hll, ref_l0 l o hl ho d (K - 1 - i - 1) (i + 1) (by omega) (fun q hq => by
            rcases Nat.lt_or_ge q i with h2 | h2
            · exact hr q h2
            · obtain rfl : q = i := by omega
              exact ⟨by omega, by omega⟩) (by omega)]
          cases ((o.take i).any fun m => aheadB (rd_T36 l (rd o (i : Int))) (rd_T36 l m)) <;> simp
/-- The marks behind an order's first places. -/
def Inv (l : List S36) (o : List Int) (j : Nat) (left : List Bool) : Prop := left.length = l.length ∧ ∀ m : Nat, m < l.length → left.getD m false = !(o.take j).contains (m : Int)
theorem kp (l : List S36) (o : List Int) : ∀ (d j : Nat) (left : List Bool), j + d = o.length → Inv l o j left →
    match kpRun l (o.take j) (o.drop j) left with
    | none => (List.range' j d).all (okAt l o) = false
    | some out => (List.range' j d).all (okAt l o) = true ∧ Inv l o o.length out
  | 0, j, left, h, hI => by
    obtain rfl : j = o.length := by omega
    rw [List.drop_eq_nil_of_le (Nat.le_refl _), kpRun]
    exact ⟨rfl, hI⟩
  | d + 1, j, left, h, hI => by
    rw [HK.drop_step (by omega), kpRun, List.range'_succ, List.all_cons]
    have hok : okAt l o j = (decide (0 ≤ rd o (j : Int)) && (decide (rd o (j : Int) < (l.length : Int)) && (!(o.take j).contains (rd o (j : Int)) && !(o.take j).any fun m => aheadB (rd_T36 l (rd o (j : Int))) (rd_T36 l m)))) := rfl
    rw [hok]
    by_cases g0 : rd o (j : Int) < 0
    · rw [if_pos (Or.inl g0), decide_eq_false (show ¬ 0 ≤ rd o (j : Int) by omega)]
      rfl
    · by_cases g1 : (l.length : Int) ≤ rd o (j : Int)
      · rw [if_pos (Or.inr (Or.inl g1)), decide_eq_false (show ¬ rd o (j : Int) < (l.length : Int) by omega)]
        simp
      · have hj := hI.2 (rd o (j : Int)).toNat (by omega)
        rw [show (((rd o (j : Int)).toNat : Nat) : Int) = rd o (j : Int) from by omega] at hj
        rw [decide_eq_true (show 0 ≤ rd o (j : Int) by omega), decide_eq_true (show rd o (j : Int) < (l.length : Int) by omega)]
        cases hcc : (o.take j).contains (rd o (j : Int)) with
        | true =>
          rw [hcc] at hj
          rw [if_pos (Or.inr (Or.inr (show left.getD (rd o (j : Int)).toNat false = false from hj)))]
          simp
        | false =>
          rw [hcc] at hj
          rw [if_neg (by rintro (h9 | h9 | h9); exact g0 h9; exact g1 h9; rw [hj] at h9; cases h9)]
          cases haa : ((o.take j).any fun m => aheadB (rd_T36 l (rd o (j : Int))) (rd_T36 l m)) with
          | true =>
            rw [if_pos rfl]
            simp
          | false =>
            rw [if_neg (by simp), ← HK.take_step (by omega)]
            have hI2 : Inv l o (j + 1) (left.set (rd o (j : Int)).toNat false) := by
              refine ⟨by rw [List.length_set]; exact hI.1, fun m hm => ?_⟩
              rw [HK.take_step (by omega), List.getD_eq_getElem?_getD, List.getElem?_set]
              by_cases he : (rd o (j : Int)).toNat = m
              · rw [if_pos he, if_pos (by rw [hI.1]; omega)]
                have : (m : Int) = rd o (j : Int) := by omega
                rw [this]
                simp
              · rw [if_neg he, ← List.getD_eq_getElem?_getD, hI.2 m hm]
                have : (m : Int) ≠ rd o (j : Int) := by omega
                simp [this]
            have ih := kp l o d (j + 1) _ (by omega) hI2
            cases hk : kpRun l (o.take (j + 1)) (o.drop (j + 1)) (left.set (rd o (j : Int)).toNat false) with
            | none => rw [hk] at ih; simpa using ih
            | some out => rw [hk] at ih; simpa using ih
theorem late_all (l : List S36) (o : List Int) (left : List Bool) (hI : Inv l o o.length left) : (!lateOf l left l.length) = (List.range' 0 l.length).all (hasAt l o) := by
  unfold lateOf
  rw [← List.range_eq_range', Bool.eq_iff_iff, Bool.not_eq_true', List.any_eq_false, List.all_eq_true]
  have ht : o.take o.length = o := List.take_length
  refine forall_congr' fun m => forall_congr' fun hm => ?_
  have hm2 := List.mem_range.1 hm
  rw [hI.2 m hm2, ht]
  unfold hasAt
  cases o.contains (m : Int) <;> cases decide (0 ≤ (rd_T36 l (m : Int)).f3) <;> simp
theorem inv_zero (l : List S36) (o : List Int) : Inv l o 0 (List.replicate l.length true) := by
  refine ⟨List.length_replicate, fun m hm => ?_⟩
  rw [List.getD_eq_getElem?_getD, List.getElem?_replicate, if_pos hm]
  rfl
theorem keeps_is (l : List S36) (o : List Int) : keepsB l o = ((List.range' 0 o.length).all (okAt l o) && (List.range' 0 l.length).all (hasAt l o)) := by
  have h := kp l o o.length 0 (List.replicate l.length true) (by omega) (inv_zero l o)
  rw [List.take_zero, List.drop_zero] at h
  unfold keepsB
  cases hk : kpRun l [] o (List.replicate l.length true) with
  | none => rw [hk] at h; simp only at h ⊢; rw [h]; rfl
  | some out => rw [hk] at h; simp only at h ⊢; rw [h.1, late_all l o out h.2]; rfl
theorem ref (l : List S36) (o : List Int) (hl : l.length < 4398046511104) (ho : o.length < 17592186044416) (K : Nat) (hK : o.length * (o.length + 4) + (l.length + o.length + 4) ≤ K) : shutterref05_Keeps.f K l o = some (keepsB l o) := by
  unfold shutterref05_Keeps.f
  rw [keeps_is]
  exact ref_l0 l o hl ho o.length K 0 (by omega) (fun q hq => by omega) hK
/-- P5.5. -/
theorem there (l : List S36) (o : List Int) (hk : keepsB l o = true) (hg : ∀ m : Nat, m < l.length → ¬ (0 ≤ (rd_T36 l (m : Int)).f3 ∧ (rd_T36 l (m : Int)).f3 < (rd_T36 l (m : Int)).f2)) (i k : Nat) (hi : i < o.length) (hkl : k < l.length) (ha : aheadB (rd_T36 l (k : Int)) (rd_T36 l (rd o (i : Int))) = true) : ∃ q : Nat, q < i ∧ rd o (q : Int) = (k : Int) := by
  rw [keeps_is, Bool.and_eq_true, List.all_eq_true, List.all_eq_true] at hk
  have ha2 : 0 ≤ (rd_T36 l (k : Int)).f3 ∧ (rd_T36 l (k : Int)).f3 < (rd_T36 l (rd o (i : Int))).f2 := by
    unfold aheadB at ha
    simpa using ha
  have h1 := hk.2 k (by rw [← List.range_eq_range']; exact List.mem_range.2 hkl)
  unfold hasAt at h1
  rw [decide_eq_true ha2.1] at h1
  have h2 : (k : Int) ∈ o := by simpa using h1
  rw [← List.take_length (l := o)] at h2
  obtain ⟨q, hq, hq2⟩ := (mem_take (Nat.le_refl _) _).1 h2
  rcases Nat.lt_or_ge q i with h3 | h3
  · exact ⟨q, h3, hq2⟩
  · exfalso
    rcases Nat.eq_or_lt_of_le h3 with h4 | h4
    · subst h4
      rw [hq2] at ha2
      exact hg k hkl ha2
    · have h5 := hk.1 q (by rw [← List.range_eq_range']; exact List.mem_range.2 hq)
      unfold okAt at h5
      simp only [Bool.and_eq_true, Bool.not_eq_true', List.any_eq_false] at h5
      exact h5.2.2.2 (rd o (i : Int)) (HK.rd_mem h4 (by omega)) (by rw [hq2]; exact ha)
/-- An order that keeps a history names spans alone. -/
theorem inside (l : List S36) (o : List Int) (hk : keepsB l o = true) (i : Nat) (hi : i < o.length) : 0 ≤ rd o (i : Int) ∧ rd o (i : Int) < (l.length : Int) := by
  rw [keeps_is, Bool.and_eq_true, List.all_eq_true] at hk
  have h5 := hk.1 i (by rw [← List.range_eq_range']; exact List.mem_range.2 hi)
  unfold okAt at h5
  simp only [Bool.and_eq_true, decide_eq_true_eq] at h5
  exact ⟨h5.1, h5.2.1⟩
end KM
end Go.Proofs.Ytfmhdfgliamkkaa.Own
