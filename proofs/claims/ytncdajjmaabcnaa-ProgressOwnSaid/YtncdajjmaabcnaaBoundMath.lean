/- The reference's bound and constant are the program's. No condition but that the numbers are ints. -/
import Derived.Test.YtncdajjmaabcnaaBoundG
import Derived.Test.YtncdajjmaabcnaaOwnx9
import Derived.Test.YtncdajjmaabcnaaOwnx10
import Derived.Test.YtncdajjmaabcnaaOwnx3
namespace Go.Proofs.Ytncdajjmaabcnaa.Own
open Go.RowKit Go.Proofs.YtncdajjmaabcnaaW.PrintWords Go.Proofs.YtncdajjmaabcnaaW.PrintLast Go.Proofs.YtncdajjmaabcnaaW.PrintMore
set_option linter.unusedVariables false
set_option linter.unusedSimpArgs false
namespace PB
theorem least_is (a : Int) : shutterref19_least.f a = some (mx a 0) := by
  unfold shutterref19_least.f mx
  by_cases h : a < 0
  · rw [if_pos h, if_pos h]
  · rw [if_neg h, if_neg h]
theorem plus_is {a b : Int} (ha : ok a) (hb : ok b) : shutterref19_plus.f a b = some (sa a b) := by
  obtain ⟨a0, a1⟩ := ha
  obtain ⟨b0, b1⟩ := hb
  have e1 : wrap64 (9223372036854775807 - b) = 9223372036854775807 - b := by unfold wrap64; omega
  unfold shutterref19_plus.f sa
  rw [e1]
  by_cases h : 9223372036854775807 - b < a
  · rw [if_pos h, if_pos (by omega)]
  · have e2 : wrap64 (a + b) = a + b := by unfold wrap64; omega
    rw [if_neg h, if_neg (by omega), e2]
theorem times_is {a b : Int} (ha : ok a) (hb : ok b) : shutterref19_times.f a b = some (sm a b) := by
  obtain ⟨a0, a1⟩ := ha
  obtain ⟨b0, b1⟩ := hb
  unfold shutterref19_times.f sm
  by_cases h : a = 0
  · subst h
    rw [if_pos rfl, Int.zero_mul, if_neg (by decide), show wrap64 0 = 0 from by unfold wrap64; omega]
  · have hq0 : 0 ≤ (9223372036854775807 : Int) / a := Int.ediv_nonneg (by decide) a0
    have hq1 : (9223372036854775807 : Int) / a ≤ 9223372036854775807 := Int.ediv_le_self _ (by decide)
    have e1 : wrap64 ((9223372036854775807 : Int) / a) = (9223372036854775807 : Int) / a := by
      generalize (9223372036854775807 : Int) / a = x at hq0 hq1
      unfold wrap64
      omega
    have hd : b ≤ (9223372036854775807 : Int) / a ↔ b * a ≤ 9223372036854775807 := Int.le_ediv_iff_mul_le (by omega)
    rw [Int.mul_comm b a] at hd
    have hm := Int.mul_nonneg a0 b0
    rw [if_neg h, e1]
    generalize (9223372036854775807 : Int) / a = x at hd
    generalize a * b = y at hd hm
    by_cases hx : b > x
    · rw [if_pos hx, if_pos (by omega)]
    · have e2 : wrap64 y = y := by unfold wrap64; omega
      rw [if_neg hx, if_neg (by omega), e2]
theorem most_is (a b : Int) : shutterref19_most.f a b = some (mx a b) := by
  unfold shutterref19_most.f mx
  by_cases h : a > b
  · rw [if_pos h, if_neg (by omega)]
  · by_cases h2 : a < b
    · rw [if_neg h, if_pos h2]
    · rw [if_neg h, if_neg h2]
      congr 1
      omega
theorem bs {α β : Type} {x : Option α} {a : α} {f : α → Option β} {r : Option β} (h : x = some a) (h2 : f a = r) : x.bind f = r := by
  rw [h]
  exact h2
theorem ref_bound {a0 a1 a2 a3 a4 : Int} (h0 : a0 ≤ 9223372036854775807) (h1 : a1 ≤ 9223372036854775807) (h2 : a2 ≤ 9223372036854775807) (h3 : a3 ≤ 9223372036854775807) (h4 : a4 ≤ 9223372036854775807) :
    shutterref19_Bound.f a0 a1 a2 a3 a4 = some (bound a0 a1 a2 a3 a4) := by
  have ht := m0_ok h0
  have hb := m0_ok h1
  have hv := m0_ok h2
  have hs := m0_ok h3
  have hm := m0_ok h4
  unfold shutterref19_Bound.f bound q walk objs key vers
  refine bs (least_is _) ?_
  refine bs (plus_is (by repeat (first | assumption | (with_reducible apply sa_ok) | (with_reducible apply sm_ok) | (with_reducible apply mx_ok) | with_reducible exact ok_1 | with_reducible exact ok_2 | with_reducible exact ok_3 | with_reducible exact ok_4 | with_reducible exact ok_5 | with_reducible exact ok_6 | with_reducible exact ok_11 | with_reducible exact ok_64 | with_reducible exact ok_96)) (by repeat (first | assumption | (with_reducible apply sa_ok) | (with_reducible apply sm_ok) | (with_reducible apply mx_ok) | with_reducible exact ok_1 | with_reducible exact ok_2 | with_reducible exact ok_3 | with_reducible exact ok_4 | with_reducible exact ok_5 | with_reducible exact ok_6 | with_reducible exact ok_11 | with_reducible exact ok_64 | with_reducible exact ok_96))) ?_
  refine bs (least_is _) ?_
  refine bs (times_is (by repeat (first | assumption | (with_reducible apply sa_ok) | (with_reducible apply sm_ok) | (with_reducible apply mx_ok) | with_reducible exact ok_1 | with_reducible exact ok_2 | with_reducible exact ok_3 | with_reducible exact ok_4 | with_reducible exact ok_5 | with_reducible exact ok_6 | with_reducible exact ok_11 | with_reducible exact ok_64 | with_reducible exact ok_96)) (by repeat (first | assumption | (with_reducible apply sa_ok) | (with_reducible apply sm_ok) | (with_reducible apply mx_ok) | with_reducible exact ok_1 | with_reducible exact ok_2 | with_reducible exact ok_3 | with_reducible exact ok_4 | with_reducible exact ok_5 | with_reducible exact ok_6 | with_reducible exact ok_11 | with_reducible exact ok_64 | with_reducible exact ok_96))) ?_
  refine bs (times_is (by repeat (first | assumption | (with_reducible apply sa_ok) | (with_reducible apply sm_ok) | (with_reducible apply mx_ok) | with_reducible exact ok_1 | with_reducible exact ok_2 | with_reducible exact ok_3 | with_reducible exact ok_4 | with_reducible exact ok_5 | with_reducible exact ok_6 | with_reducible exact ok_11 | with_reducible exact ok_64 | with_reducible exact ok_96)) (by repeat (first | assumption | (with_reducible apply sa_ok) | (with_reducible apply sm_ok) | (with_reducible apply mx_ok) | with_reducible exact ok_1 | with_reducible exact ok_2 | with_reducible exact ok_3 | with_reducible exact ok_4 | with_reducible exact ok_5 | with_reducible exact ok_6 | with_reducible exact ok_11 | with_reducible exact ok_64 | with_reducible exact ok_96))) ?_
  refine bs (plus_is (by repeat (first | assumption | (with_reducible apply sa_ok) | (with_reducible apply sm_ok) | (with_reducible apply mx_ok) | with_reducible exact ok_1 | with_reducible exact ok_2 | with_reducible exact ok_3 | with_reducible exact ok_4 | with_reducible exact ok_5 | with_reducible exact ok_6 | with_reducible exact ok_11 | with_reducible exact ok_64 | with_reducible exact ok_96)) (by repeat (first | assumption | (with_reducible apply sa_ok) | (with_reducible apply sm_ok) | (with_reducible apply mx_ok) | with_reducible exact ok_1 | with_reducible exact ok_2 | with_reducible exact ok_3 | with_reducible exact ok_4 | with_reducible exact ok_5 | with_reducible exact ok_6 | with_reducible exact ok_11 | with_reducible exact ok_64 | with_reducible exact ok_96))) ?_
  refine bs (times_is (by repeat (first | assumption | (with_reducible apply sa_ok) | (with_reducible apply sm_ok) | (with_reducible apply mx_ok) | with_reducible exact ok_1 | with_reducible exact ok_2 | with_reducible exact ok_3 | with_reducible exact ok_4 | with_reducible exact ok_5 | with_reducible exact ok_6 | with_reducible exact ok_11 | with_reducible exact ok_64 | with_reducible exact ok_96)) (by repeat (first | assumption | (with_reducible apply sa_ok) | (with_reducible apply sm_ok) | (with_reducible apply mx_ok) | with_reducible exact ok_1 | with_reducible exact ok_2 | with_reducible exact ok_3 | with_reducible exact ok_4 | with_reducible exact ok_5 | with_reducible exact ok_6 | with_reducible exact ok_11 | with_reducible exact ok_64 | with_reducible exact ok_96))) ?_
  refine bs (plus_is (by repeat (first | assumption | (with_reducible apply sa_ok) | (with_reducible apply sm_ok) | (with_reducible apply mx_ok) | with_reducible exact ok_1 | with_reducible exact ok_2 | with_reducible exact ok_3 | with_reducible exact ok_4 | with_reducible exact ok_5 | with_reducible exact ok_6 | with_reducible exact ok_11 | with_reducible exact ok_64 | with_reducible exact ok_96)) (by repeat (first | assumption | (with_reducible apply sa_ok) | (with_reducible apply sm_ok) | (with_reducible apply mx_ok) | with_reducible exact ok_1 | with_reducible exact ok_2 | with_reducible exact ok_3 | with_reducible exact ok_4 | with_reducible exact ok_5 | with_reducible exact ok_6 | with_reducible exact ok_11 | with_reducible exact ok_64 | with_reducible exact ok_96))) ?_
  refine bs (times_is (by repeat (first | assumption | (with_reducible apply sa_ok) | (with_reducible apply sm_ok) | (with_reducible apply mx_ok) | with_reducible exact ok_1 | with_reducible exact ok_2 | with_reducible exact ok_3 | with_reducible exact ok_4 | with_reducible exact ok_5 | with_reducible exact ok_6 | with_reducible exact ok_11 | with_reducible exact ok_64 | with_reducible exact ok_96)) (by repeat (first | assumption | (with_reducible apply sa_ok) | (with_reducible apply sm_ok) | (with_reducible apply mx_ok) | with_reducible exact ok_1 | with_reducible exact ok_2 | with_reducible exact ok_3 | with_reducible exact ok_4 | with_reducible exact ok_5 | with_reducible exact ok_6 | with_reducible exact ok_11 | with_reducible exact ok_64 | with_reducible exact ok_96))) ?_
  refine bs (plus_is (by repeat (first | assumption | (with_reducible apply sa_ok) | (with_reducible apply sm_ok) | (with_reducible apply mx_ok) | with_reducible exact ok_1 | with_reducible exact ok_2 | with_reducible exact ok_3 | with_reducible exact ok_4 | with_reducible exact ok_5 | with_reducible exact ok_6 | with_reducible exact ok_11 | with_reducible exact ok_64 | with_reducible exact ok_96)) (by repeat (first | assumption | (with_reducible apply sa_ok) | (with_reducible apply sm_ok) | (with_reducible apply mx_ok) | with_reducible exact ok_1 | with_reducible exact ok_2 | with_reducible exact ok_3 | with_reducible exact ok_4 | with_reducible exact ok_5 | with_reducible exact ok_6 | with_reducible exact ok_11 | with_reducible exact ok_64 | with_reducible exact ok_96))) ?_
  refine bs (times_is (by repeat (first | assumption | (with_reducible apply sa_ok) | (with_reducible apply sm_ok) | (with_reducible apply mx_ok) | with_reducible exact ok_1 | with_reducible exact ok_2 | with_reducible exact ok_3 | with_reducible exact ok_4 | with_reducible exact ok_5 | with_reducible exact ok_6 | with_reducible exact ok_11 | with_reducible exact ok_64 | with_reducible exact ok_96)) (by repeat (first | assumption | (with_reducible apply sa_ok) | (with_reducible apply sm_ok) | (with_reducible apply mx_ok) | with_reducible exact ok_1 | with_reducible exact ok_2 | with_reducible exact ok_3 | with_reducible exact ok_4 | with_reducible exact ok_5 | with_reducible exact ok_6 | with_reducible exact ok_11 | with_reducible exact ok_64 | with_reducible exact ok_96))) ?_
  refine bs (least_is _) ?_
  refine bs (times_is (by repeat (first | assumption | (with_reducible apply sa_ok) | (with_reducible apply sm_ok) | (with_reducible apply mx_ok) | with_reducible exact ok_1 | with_reducible exact ok_2 | with_reducible exact ok_3 | with_reducible exact ok_4 | with_reducible exact ok_5 | with_reducible exact ok_6 | with_reducible exact ok_11 | with_reducible exact ok_64 | with_reducible exact ok_96)) (by repeat (first | assumption | (with_reducible apply sa_ok) | (with_reducible apply sm_ok) | (with_reducible apply mx_ok) | with_reducible exact ok_1 | with_reducible exact ok_2 | with_reducible exact ok_3 | with_reducible exact ok_4 | with_reducible exact ok_5 | with_reducible exact ok_6 | with_reducible exact ok_11 | with_reducible exact ok_64 | with_reducible exact ok_96))) ?_
  refine bs (plus_is (by repeat (first | assumption | (with_reducible apply sa_ok) | (with_reducible apply sm_ok) | (with_reducible apply mx_ok) | with_reducible exact ok_1 | with_reducible exact ok_2 | with_reducible exact ok_3 | with_reducible exact ok_4 | with_reducible exact ok_5 | with_reducible exact ok_6 | with_reducible exact ok_11 | with_reducible exact ok_64 | with_reducible exact ok_96)) (by repeat (first | assumption | (with_reducible apply sa_ok) | (with_reducible apply sm_ok) | (with_reducible apply mx_ok) | with_reducible exact ok_1 | with_reducible exact ok_2 | with_reducible exact ok_3 | with_reducible exact ok_4 | with_reducible exact ok_5 | with_reducible exact ok_6 | with_reducible exact ok_11 | with_reducible exact ok_64 | with_reducible exact ok_96))) ?_
  refine bs (most_is _ _) ?_
  refine bs (plus_is (by repeat (first | assumption | (with_reducible apply sa_ok) | (with_reducible apply sm_ok) | (with_reducible apply mx_ok) | with_reducible exact ok_1 | with_reducible exact ok_2 | with_reducible exact ok_3 | with_reducible exact ok_4 | with_reducible exact ok_5 | with_reducible exact ok_6 | with_reducible exact ok_11 | with_reducible exact ok_64 | with_reducible exact ok_96)) (by repeat (first | assumption | (with_reducible apply sa_ok) | (with_reducible apply sm_ok) | (with_reducible apply mx_ok) | with_reducible exact ok_1 | with_reducible exact ok_2 | with_reducible exact ok_3 | with_reducible exact ok_4 | with_reducible exact ok_5 | with_reducible exact ok_6 | with_reducible exact ok_11 | with_reducible exact ok_64 | with_reducible exact ok_96))) ?_
  refine bs (times_is (by repeat (first | assumption | (with_reducible apply sa_ok) | (with_reducible apply sm_ok) | (with_reducible apply mx_ok) | with_reducible exact ok_1 | with_reducible exact ok_2 | with_reducible exact ok_3 | with_reducible exact ok_4 | with_reducible exact ok_5 | with_reducible exact ok_6 | with_reducible exact ok_11 | with_reducible exact ok_64 | with_reducible exact ok_96)) (by repeat (first | assumption | (with_reducible apply sa_ok) | (with_reducible apply sm_ok) | (with_reducible apply mx_ok) | with_reducible exact ok_1 | with_reducible exact ok_2 | with_reducible exact ok_3 | with_reducible exact ok_4 | with_reducible exact ok_5 | with_reducible exact ok_6 | with_reducible exact ok_11 | with_reducible exact ok_64 | with_reducible exact ok_96))) ?_
  refine bs (plus_is (by repeat (first | assumption | (with_reducible apply sa_ok) | (with_reducible apply sm_ok) | (with_reducible apply mx_ok) | with_reducible exact ok_1 | with_reducible exact ok_2 | with_reducible exact ok_3 | with_reducible exact ok_4 | with_reducible exact ok_5 | with_reducible exact ok_6 | with_reducible exact ok_11 | with_reducible exact ok_64 | with_reducible exact ok_96)) (by repeat (first | assumption | (with_reducible apply sa_ok) | (with_reducible apply sm_ok) | (with_reducible apply mx_ok) | with_reducible exact ok_1 | with_reducible exact ok_2 | with_reducible exact ok_3 | with_reducible exact ok_4 | with_reducible exact ok_5 | with_reducible exact ok_6 | with_reducible exact ok_11 | with_reducible exact ok_64 | with_reducible exact ok_96))) ?_
  refine bs (most_is _ _) ?_
  refine bs (least_is _) ?_
  refine bs (plus_is (by repeat (first | assumption | (with_reducible apply sa_ok) | (with_reducible apply sm_ok) | (with_reducible apply mx_ok) | with_reducible exact ok_1 | with_reducible exact ok_2 | with_reducible exact ok_3 | with_reducible exact ok_4 | with_reducible exact ok_5 | with_reducible exact ok_6 | with_reducible exact ok_11 | with_reducible exact ok_64 | with_reducible exact ok_96)) (by repeat (first | assumption | (with_reducible apply sa_ok) | (with_reducible apply sm_ok) | (with_reducible apply mx_ok) | with_reducible exact ok_1 | with_reducible exact ok_2 | with_reducible exact ok_3 | with_reducible exact ok_4 | with_reducible exact ok_5 | with_reducible exact ok_6 | with_reducible exact ok_11 | with_reducible exact ok_64 | with_reducible exact ok_96))) ?_
  refine bs (plus_is (by repeat (first | assumption | (with_reducible apply sa_ok) | (with_reducible apply sm_ok) | (with_reducible apply mx_ok) | with_reducible exact ok_1 | with_reducible exact ok_2 | with_reducible exact ok_3 | with_reducible exact ok_4 | with_reducible exact ok_5 | with_reducible exact ok_6 | with_reducible exact ok_11 | with_reducible exact ok_64 | with_reducible exact ok_96)) (by repeat (first | assumption | (with_reducible apply sa_ok) | (with_reducible apply sm_ok) | (with_reducible apply mx_ok) | with_reducible exact ok_1 | with_reducible exact ok_2 | with_reducible exact ok_3 | with_reducible exact ok_4 | with_reducible exact ok_5 | with_reducible exact ok_6 | with_reducible exact ok_11 | with_reducible exact ok_64 | with_reducible exact ok_96))) ?_
  refine bs (times_is (by repeat (first | assumption | (with_reducible apply sa_ok) | (with_reducible apply sm_ok) | (with_reducible apply mx_ok) | with_reducible exact ok_1 | with_reducible exact ok_2 | with_reducible exact ok_3 | with_reducible exact ok_4 | with_reducible exact ok_5 | with_reducible exact ok_6 | with_reducible exact ok_11 | with_reducible exact ok_64 | with_reducible exact ok_96)) (by repeat (first | assumption | (with_reducible apply sa_ok) | (with_reducible apply sm_ok) | (with_reducible apply mx_ok) | with_reducible exact ok_1 | with_reducible exact ok_2 | with_reducible exact ok_3 | with_reducible exact ok_4 | with_reducible exact ok_5 | with_reducible exact ok_6 | with_reducible exact ok_11 | with_reducible exact ok_64 | with_reducible exact ok_96))) ?_
  refine bs (plus_is (by repeat (first | assumption | (with_reducible apply sa_ok) | (with_reducible apply sm_ok) | (with_reducible apply mx_ok) | with_reducible exact ok_1 | with_reducible exact ok_2 | with_reducible exact ok_3 | with_reducible exact ok_4 | with_reducible exact ok_5 | with_reducible exact ok_6 | with_reducible exact ok_11 | with_reducible exact ok_64 | with_reducible exact ok_96)) (by repeat (first | assumption | (with_reducible apply sa_ok) | (with_reducible apply sm_ok) | (with_reducible apply mx_ok) | with_reducible exact ok_1 | with_reducible exact ok_2 | with_reducible exact ok_3 | with_reducible exact ok_4 | with_reducible exact ok_5 | with_reducible exact ok_6 | with_reducible exact ok_11 | with_reducible exact ok_64 | with_reducible exact ok_96))) ?_
  refine bs (most_is _ _) ?_
  refine bs (least_is _) ?_
  refine bs (times_is (by repeat (first | assumption | (with_reducible apply sa_ok) | (with_reducible apply sm_ok) | (with_reducible apply mx_ok) | with_reducible exact ok_1 | with_reducible exact ok_2 | with_reducible exact ok_3 | with_reducible exact ok_4 | with_reducible exact ok_5 | with_reducible exact ok_6 | with_reducible exact ok_11 | with_reducible exact ok_64 | with_reducible exact ok_96)) (by repeat (first | assumption | (with_reducible apply sa_ok) | (with_reducible apply sm_ok) | (with_reducible apply mx_ok) | with_reducible exact ok_1 | with_reducible exact ok_2 | with_reducible exact ok_3 | with_reducible exact ok_4 | with_reducible exact ok_5 | with_reducible exact ok_6 | with_reducible exact ok_11 | with_reducible exact ok_64 | with_reducible exact ok_96))) ?_
  refine bs (plus_is (by repeat (first | assumption | (with_reducible apply sa_ok) | (with_reducible apply sm_ok) | (with_reducible apply mx_ok) | with_reducible exact ok_1 | with_reducible exact ok_2 | with_reducible exact ok_3 | with_reducible exact ok_4 | with_reducible exact ok_5 | with_reducible exact ok_6 | with_reducible exact ok_11 | with_reducible exact ok_64 | with_reducible exact ok_96)) (by repeat (first | assumption | (with_reducible apply sa_ok) | (with_reducible apply sm_ok) | (with_reducible apply mx_ok) | with_reducible exact ok_1 | with_reducible exact ok_2 | with_reducible exact ok_3 | with_reducible exact ok_4 | with_reducible exact ok_5 | with_reducible exact ok_6 | with_reducible exact ok_11 | with_reducible exact ok_64 | with_reducible exact ok_96))) ?_
  refine bs (most_is _ _) ?_
  refine bs (least_is _) ?_
  refine bs (plus_is (by repeat (first | assumption | (with_reducible apply sa_ok) | (with_reducible apply sm_ok) | (with_reducible apply mx_ok) | with_reducible exact ok_1 | with_reducible exact ok_2 | with_reducible exact ok_3 | with_reducible exact ok_4 | with_reducible exact ok_5 | with_reducible exact ok_6 | with_reducible exact ok_11 | with_reducible exact ok_64 | with_reducible exact ok_96)) (by repeat (first | assumption | (with_reducible apply sa_ok) | (with_reducible apply sm_ok) | (with_reducible apply mx_ok) | with_reducible exact ok_1 | with_reducible exact ok_2 | with_reducible exact ok_3 | with_reducible exact ok_4 | with_reducible exact ok_5 | with_reducible exact ok_6 | with_reducible exact ok_11 | with_reducible exact ok_64 | with_reducible exact ok_96))) ?_
  refine bs (times_is (by repeat (first | assumption | (with_reducible apply sa_ok) | (with_reducible apply sm_ok) | (with_reducible apply mx_ok) | with_reducible exact ok_1 | with_reducible exact ok_2 | with_reducible exact ok_3 | with_reducible exact ok_4 | with_reducible exact ok_5 | with_reducible exact ok_6 | with_reducible exact ok_11 | with_reducible exact ok_64 | with_reducible exact ok_96)) (by repeat (first | assumption | (with_reducible apply sa_ok) | (with_reducible apply sm_ok) | (with_reducible apply mx_ok) | with_reducible exact ok_1 | with_reducible exact ok_2 | with_reducible exact ok_3 | with_reducible exact ok_4 | with_reducible exact ok_5 | with_reducible exact ok_6 | with_reducible exact ok_11 | with_reducible exact ok_64 | with_reducible exact ok_96))) ?_
  refine bs (times_is (by repeat (first | assumption | (with_reducible apply sa_ok) | (with_reducible apply sm_ok) | (with_reducible apply mx_ok) | with_reducible exact ok_1 | with_reducible exact ok_2 | with_reducible exact ok_3 | with_reducible exact ok_4 | with_reducible exact ok_5 | with_reducible exact ok_6 | with_reducible exact ok_11 | with_reducible exact ok_64 | with_reducible exact ok_96)) (by repeat (first | assumption | (with_reducible apply sa_ok) | (with_reducible apply sm_ok) | (with_reducible apply mx_ok) | with_reducible exact ok_1 | with_reducible exact ok_2 | with_reducible exact ok_3 | with_reducible exact ok_4 | with_reducible exact ok_5 | with_reducible exact ok_6 | with_reducible exact ok_11 | with_reducible exact ok_64 | with_reducible exact ok_96))) ?_
  rfl
theorem bound_is {a0 a1 a2 a3 a4 : Int} (h0 : a0 ≤ 9223372036854775807) (h1 : a1 ≤ 9223372036854775807) (h2 : a2 ≤ 9223372036854775807) (h3 : a3 ≤ 9223372036854775807) (h4 : a4 ≤ 9223372036854775807) :
    progress_Bound.f a0 a1 a2 a3 a4 = some (bound a0 a1 a2 a3 a4) := by
  unfold progress_Bound.f
  rw [if_pos ⟨h0, h1, h2, h3, h4⟩]
def const (s k : Int) : Int := if k = 5 then 2 * mx 0 (mn s 256) + 5 else if k = 6 then 2 else if 1 ≤ k ∧ k ≤ 10 then -1 else 1
theorem const_is (c0 s c2 c3 k : Int) : progress_Constant.f c0 s c2 c3 k = some (const s k) := by
  unfold progress_Constant.f const
  by_cases h5 : k = 5
  · rw [if_pos h5, if_pos h5]
  rw [if_neg h5, if_neg h5]
  by_cases h6 : k = 6
  · rw [if_pos h6, if_pos h6]
  rw [if_neg h6, if_neg h6]
  by_cases hr : 1 ≤ k ∧ k ≤ 10
  · rw [if_pos hr]
    (repeat' split) <;> first | rfl | omega
  · rw [if_neg hr]
    (repeat' split) <;> first | rfl | omega
theorem ref_const (c0 s c2 c3 k : Int) (n : Nat) : shutterref19_Constant.f (n + 1) c0 s c2 c3 k = some (const s k) := by
  unfold shutterref19_Constant.f const
  simp only [shutterref19_Constant.j0, least_is, Option.bind_some]
  by_cases h5 : k = 5
  · subst h5
    rw [if_pos rfl, if_pos rfl]
    by_cases h : s > 256
    · rw [decide_eq_true h, if_pos rfl]
      have : mx 0 (mn s 256) = 256 := by unfold mx mn; (repeat' split) <;> omega
      rw [this]
      rfl
    · rw [decide_eq_false h, if_neg (by decide), if_pos rfl]
      have h1 : mx s 0 = mx 0 (mn s 256) := by unfold mx mn; (repeat' split) <;> omega
      have h2 : 0 ≤ mx 0 (mn s 256) ∧ mx 0 (mn s 256) ≤ 256 := by unfold mx mn; (repeat' split) <;> omega
      rw [h1]
      generalize mx 0 (mn s 256) = x at h2
      congr 1
      unfold wrap64
      omega
  rw [if_neg h5, if_neg (by decide), if_neg h5, if_neg h5]
  by_cases h6 : k = 6
  · rw [if_pos h6, if_pos h6]
  rw [if_neg h6, if_neg h6]
  by_cases h1 : k ≥ 1
  · rw [if_pos h1]
    by_cases h2 : k ≤ 10
    · rw [if_pos h2, if_pos ⟨h1, h2⟩]
    · rw [if_neg h2, if_neg (fun h => h2 h.2)]
  · rw [if_neg h1, if_neg (fun h => h1 h.1)]
end PB
end Go.Proofs.Ytncdajjmaabcnaa.Own
