/- progress.Bound, called with any bounds, tells what 'progress_Bound.f' says. No condition but that its numbers are ints. -/
import Derived.Test.YtncdajjmaabcnaaBoundA
import Derived.Lib.Hide
import Derived.Outline
import Derived.BigFrameIn
import Derived.BigQuiet
import Derived.OpenShut
namespace Go.Proofs.Ytncdajjmaabcnaa.Own
open Go.RowKit Go.Proofs.YtncdajjmaabcnaaW.PrintWords Go.Proofs.YtncdajjmaabcnaaW.PrintLast Go.Proofs.YtncdajjmaabcnaaW.PrintMore
attribute [local go_sem] max2_int min2_int max_two min_two max_three min_three max_four min_four PB.run_max_int5
set_option linter.unusedVariables false
set_option linter.unusedSimpArgs false
def progress_Bound.f (a0_0 : Int) (a0_1 : Int) (a0_2 : Int) (a0_3 : Int) (a0_4 : Int) : Option Int :=
  if a0_0 ≤ 9223372036854775807 ∧ a0_1 ≤ 9223372036854775807 ∧ a0_2 ≤ 9223372036854775807 ∧ a0_3 ≤ 9223372036854775807 ∧ a0_4 ≤ 9223372036854775807 then some (PB.bound a0_0 a0_1 a0_2 a0_3 a0_4) else none
namespace PB
theorem ok_1 : ok 1 := by unfold ok; decide
theorem ok_2 : ok 2 := by unfold ok; decide
theorem ok_3 : ok 3 := by unfold ok; decide
theorem ok_4 : ok 4 := by unfold ok; decide
theorem ok_5 : ok 5 := by unfold ok; decide
theorem ok_6 : ok 6 := by unfold ok; decide
theorem ok_11 : ok 11 := by unfold ok; decide
theorem ok_64 : ok 64 := by unfold ok; decide
theorem ok_96 : ok 96 := by unfold ok; decide
theorem cells_C (w : World) (g : Nat) (l : List Int) (h : w.heap[g]? = some (.cells (l.map (Value.int .i64)).toArray 43 (0, 0))) (hl : l.length < 1000) : Kd.C (Kd.int .i64) w (some ⟨g, 0, none⟩) l.length l := by
  refine Kd.C_of_reads (enc := Value.int .i64) (d := (0 : Int)) ⟨rfl, by omega, fun hn => ⟨⟨g, 0, none⟩, rfl, fun j hj => ?_⟩⟩
  have hp : (⟨g, 0, none⟩ : Addr).add j = ⟨g, j, none⟩ := by
    rw [add_plain]
  rw [hp, blk_cell h]
  simp [List.getElem?_map, List.getD_eq_getElem?_getD, List.getElem?_eq_getElem hj]
theorem sum1 (a x : Int) (w : World) (ha : ok a) (hx : ok x) :
    Calls Try.prog 17 #[.int .i64 a, .slice (some ⟨w.heap.size, 0, none⟩) 1 1] (w.alloc (.cells #[.int .i64 x] 43)) fun e w' => e = .returned (.int .i64 (sa a x)) ∧ Below w.heap.size w w' := by
  have hC : Kd.C (Kd.int .i64) (w.alloc (.cells #[.int .i64 x] 43)) (some ⟨w.heap.size, 0, none⟩) [x].length [x] := cells_C _ _ _ (by simpa using heap_alloc_new w _) (by simp)
  refine (cl_plus a _ 1 [x] _ ha (by simp [*]) hC (by simp)).mono ?_
  rintro e w' ⟨rfl, rfl⟩
  exact ⟨rfl, (Below.refl _ _).alloc (Nat.le_refl _) _⟩
theorem sum2 (a x y : Int) (w : World) (ha : ok a) (hx : ok x) (hy : ok y) :
    Calls Try.prog 17 #[.int .i64 a, .slice (some ⟨w.heap.size, 0, none⟩) 2 2] (w.alloc (.cells #[.int .i64 x, .int .i64 y] 43)) fun e w' => e = .returned (.int .i64 (sa (sa a x) y)) ∧ Below w.heap.size w w' := by
  have hC : Kd.C (Kd.int .i64) (w.alloc (.cells #[.int .i64 x, .int .i64 y] 43)) (some ⟨w.heap.size, 0, none⟩) [x, y].length [x, y] := cells_C _ _ _ (by simpa using heap_alloc_new w _) (by simp)
  refine (cl_plus a _ 2 [x, y] _ ha (by simp [*]) hC (by simp)).mono ?_
  rintro e w' ⟨rfl, rfl⟩
  exact ⟨rfl, (Below.refl _ _).alloc (Nat.le_refl _) _⟩
theorem sum3 (a x y z : Int) (w : World) (ha : ok a) (hx : ok x) (hy : ok y) (hz : ok z) :
    Calls Try.prog 17 #[.int .i64 a, .slice (some ⟨w.heap.size, 0, none⟩) 3 3] (w.alloc (.cells #[.int .i64 x, .int .i64 y, .int .i64 z] 43)) fun e w' => e = .returned (.int .i64 (sa (sa (sa a x) y) z)) ∧ Below w.heap.size w w' := by
  have hC : Kd.C (Kd.int .i64) (w.alloc (.cells #[.int .i64 x, .int .i64 y, .int .i64 z] 43)) (some ⟨w.heap.size, 0, none⟩) [x, y, z].length [x, y, z] := cells_C _ _ _ (by simpa using heap_alloc_new w _) (by simp)
  refine (cl_plus a _ 3 [x, y, z] _ ha (by simp [*]) hC (by simp)).mono ?_
  rintro e w' ⟨rfl, rfl⟩
  exact ⟨rfl, (Below.refl _ _).alloc (Nat.le_refl _) _⟩
theorem prod1 (a x : Int) (w : World) (ha : ok a) (hx : ok x) :
    Calls Try.prog 20 #[.int .i64 a, .slice (some ⟨w.heap.size, 0, none⟩) 1 1] (w.alloc (.cells #[.int .i64 x] 43)) fun e w' => e = .returned (.int .i64 (sm a x)) ∧ Below w.heap.size w w' := by
  have hC : Kd.C (Kd.int .i64) (w.alloc (.cells #[.int .i64 x] 43)) (some ⟨w.heap.size, 0, none⟩) [x].length [x] := cells_C _ _ _ (by simpa using heap_alloc_new w _) (by simp)
  refine (cl_times a _ 1 [x] _ ha (by simp [*]) hC (by simp)).mono ?_
  rintro e w' ⟨rfl, rfl⟩
  exact ⟨rfl, (Below.refl _ _).alloc (Nat.le_refl _) _⟩
theorem prod2 (a x y : Int) (w : World) (ha : ok a) (hx : ok x) (hy : ok y) :
    Calls Try.prog 20 #[.int .i64 a, .slice (some ⟨w.heap.size, 0, none⟩) 2 2] (w.alloc (.cells #[.int .i64 x, .int .i64 y] 43)) fun e w' => e = .returned (.int .i64 (sm (sm a x) y)) ∧ Below w.heap.size w w' := by
  have hC : Kd.C (Kd.int .i64) (w.alloc (.cells #[.int .i64 x, .int .i64 y] 43)) (some ⟨w.heap.size, 0, none⟩) [x, y].length [x, y] := cells_C _ _ _ (by simpa using heap_alloc_new w _) (by simp)
  refine (cl_times a _ 2 [x, y] _ ha (by simp [*]) hC (by simp)).mono ?_
  rintro e w' ⟨rfl, rfl⟩
  exact ⟨rfl, (Below.refl _ _).alloc (Nat.le_refl _) _⟩
theorem from_ (a : Int) (w : World) : Calls Try.prog 22 #[.int .i64 a] w fun e w' => e = .returned (.int .i64 (mx a 0)) ∧ Below w.heap.size w w' := by
  obtain ⟨j, hj⟩ : ∃ j : Int, (if a < 0 then 0 else a) = j := ⟨_, rfl⟩
  have hm : mx a 0 = j := hj
  rw [hm]
  clear hm
  go_enter Try.func22, Try.ntmps22
  go_wp2
  go_ret
  exact ⟨rfl, Below.refl _ _⟩
end PB
open PB in
set_option maxHeartbeats 4000000 in
set_option maxRecDepth 100000 in
theorem progress_Bound.calls (a0_0 : Int) (a0_1 : Int) (a0_2 : Int) (a0_3 : Int) (a0_4 : Int) (r : Int) (w : World) (h : progress_Bound.f a0_0 a0_1 a0_2 a0_3 a0_4 = some r) :
    Calls Try.prog 7 #[.agg #[.int .i64 a0_0, .int .i64 a0_1, .int .i64 a0_2, .int .i64 a0_3, .int .i64 a0_4]] w fun e w' => e = .returned (.int .i64 r) ∧ Below w.heap.size w w' := by
  have hu23 := Try.underlying23
  have hr : (ok (mx a0_0 0) ∧ ok (mx a0_1 0) ∧ ok (mx a0_2 0) ∧ ok (mx a0_3 0) ∧ ok (mx a0_4 0)) ∧ r = bound a0_0 a0_1 a0_2 a0_3 a0_4 := by
    unfold progress_Bound.f at h
    split at h
    · rename_i hc
      injection h with h
      exact ⟨⟨m0_ok hc.1, m0_ok hc.2.1, m0_ok hc.2.2.1, m0_ok hc.2.2.2.1, m0_ok hc.2.2.2.2⟩, h.symm⟩
    · cases h
  clear h
  obtain ⟨⟨ht, hb_, hv, hs, hm⟩, rfl⟩ := hr
  have f0 := fun wx => from_ a0_0 wx
  have f1 := fun wx => from_ a0_1 wx
  have f2 := fun wx => from_ a0_2 wx
  have f3 := fun wx => from_ a0_3 wx
  have f4 := fun wx => from_ a0_4 wx
  unfold bound q walk objs key vers
  generalize mx a0_0 0 = T at ht f0 ⊢
  generalize mx a0_1 0 = B at hb_ f1 ⊢
  generalize mx a0_2 0 = V at hv f2 ⊢
  generalize mx a0_3 0 = S at hs f3 ⊢
  generalize mx a0_4 0 = M at hm f4 ⊢
  have F0 := Lib.hid f0
  have F1 := Lib.hid f1
  have F2 := Lib.hid f2
  have F3 := Lib.hid f3
  have F4 := Lib.hid f4
  clear f0 f1 f2 f3 f4
  go_enter Try.func7, Try.ntmps7
  go_upto_region 3 with (fail)
  have hBL : Below w.heap.size w (w.alloc (.cells #[.int .i64 a0_0, .int .i64 a0_1, .int .i64 a0_2, .int .i64 a0_3, .int .i64 a0_4] 23)) := (Below.refl _ _).alloc (Nat.le_refl _) _
  have hK : (w.alloc (.cells #[.int .i64 a0_0, .int .i64 a0_1, .int .i64 a0_2, .int .i64 a0_3, .int .i64 a0_4] 23)).heap[w.heap.size]? = some (.cells #[.int .i64 a0_0, .int .i64 a0_1, .int .i64 a0_2, .int .i64 a0_3, .int .i64 a0_4] 23 (0, 0)) := by simpa using heap_alloc_new w _
  generalize w.alloc (.cells #[.int .i64 a0_0, .int .i64 a0_1, .int .i64 a0_2, .int .i64 a0_3, .int .i64 a0_4] 23) = w1 at hBL hK ⊢
  have hgl : w.heap.size < w1.heap.size := (Array.getElem?_eq_some_iff.1 hK).1
  generalize w.heap.size = g at hK hgl ⊢
  have hkk : ∀ wx, Below w1.heap.size w1 wx → wx.heap[g]? = some (.cells #[.int .i64 a0_0, .int .i64 a0_1, .int .i64 a0_2, .int .i64 a0_3, .int .i64 a0_4] 23 (0, 0)) := fun wx h => (h.block g hgl).trans hK
  have y0 : ∀ wx, Below w1.heap.size w1 wx → wx.cell? ⟨g, 0, none⟩ = some (.int .i64 a0_0) := fun wx h => (blk_cell (hkk wx h) 0).trans rfl
  have y1 : ∀ wx, Below w1.heap.size w1 wx → wx.cell? ⟨g, 1, none⟩ = some (.int .i64 a0_1) := fun wx h => (blk_cell (hkk wx h) 1).trans rfl
  have y2 : ∀ wx, Below w1.heap.size w1 wx → wx.cell? ⟨g, 2, none⟩ = some (.int .i64 a0_2) := fun wx h => (blk_cell (hkk wx h) 2).trans rfl
  have y3 : ∀ wx, Below w1.heap.size w1 wx → wx.cell? ⟨g, 3, none⟩ = some (.int .i64 a0_3) := fun wx h => (blk_cell (hkk wx h) 3).trans rfl
  have y4 : ∀ wx, Below w1.heap.size w1 wx → wx.cell? ⟨g, 4, none⟩ = some (.int .i64 a0_4) := fun wx h => (blk_cell (hkk wx h) 4).trans rfl
  have HBL := Aside0.mk hBL
  clear hBL hK hkk hgl
  have hwd : Below w1.heap.size w1 w1.drew := (Below.refl _ _).drew
  go_region_held3 (fun w' => Below w1.heap.size w1 w') (assumption) (first
    | (go_at_call 22; with_reducible refine (F0.out _).mono ?_; rintro e w' ⟨rfl, hb⟩; have hs_ : Below w1.heap.size w1 w' := below_step (by assumption) hb; clear hb)
    | (go_at_call 22; with_reducible refine (F1.out _).mono ?_; rintro e w' ⟨rfl, hb⟩; have hs_ : Below w1.heap.size w1 w' := below_step (by assumption) hb; clear hb)
    | (go_at_call 22; with_reducible refine (F3.out _).mono ?_; rintro e w' ⟨rfl, hb⟩; have hs_ : Below w1.heap.size w1 w' := below_step (by assumption) hb; clear hb)
    | (go_at_call 22; with_reducible refine (F4.out _).mono ?_; rintro e w' ⟨rfl, hb⟩; have hs_ : Below w1.heap.size w1 w' := below_step (by assumption) hb; clear hb))
  all_goals (
    have hc := (show Below w1.heap.size w1 _ by assumption)
    have z2 := y2 _ hc
    have hWN := HBL.out.trans (hc.mono HBL.out.size)
    clear y0 y1 y2 y3 y4 hwd F0 F1 F3 F4
    clear hc
    go_wp2_with (first | (go_at_call 22; with_reducible refine (F2.out _).mono ?_; rintro e w' ⟨rfl, hb⟩; have hs_ : Below w.heap.size w w' := below_step (by assumption) hb; clear hb) | (go_at_call 17; (with_reducible refine (sum1 _ _ _ ?ok0 ?ok1).mono ?_; (case ok0 => (repeat (first | assumption | (with_reducible apply sa_ok) | (with_reducible apply sm_ok) | (with_reducible apply mx_ok) | with_reducible exact ok_1 | with_reducible exact ok_2 | with_reducible exact ok_3 | with_reducible exact ok_4 | with_reducible exact ok_5 | with_reducible exact ok_6 | with_reducible exact ok_11 | with_reducible exact ok_64 | with_reducible exact ok_96))); (case ok1 => (repeat (first | assumption | (with_reducible apply sa_ok) | (with_reducible apply sm_ok) | (with_reducible apply mx_ok) | with_reducible exact ok_1 | with_reducible exact ok_2 | with_reducible exact ok_3 | with_reducible exact ok_4 | with_reducible exact ok_5 | with_reducible exact ok_6 | with_reducible exact ok_11 | with_reducible exact ok_64 | with_reducible exact ok_96))); rintro e w' ⟨rfl, hb⟩; have hs_ : Below w.heap.size w w' := below_step (by assumption) hb; clear hb)) | (go_at_call 17; (with_reducible refine (sum2 _ _ _ _ ?ok0 ?ok1 ?ok2).mono ?_; (case ok0 => (repeat (first | assumption | (with_reducible apply sa_ok) | (with_reducible apply sm_ok) | (with_reducible apply mx_ok) | with_reducible exact ok_1 | with_reducible exact ok_2 | with_reducible exact ok_3 | with_reducible exact ok_4 | with_reducible exact ok_5 | with_reducible exact ok_6 | with_reducible exact ok_11 | with_reducible exact ok_64 | with_reducible exact ok_96))); (case ok1 => (repeat (first | assumption | (with_reducible apply sa_ok) | (with_reducible apply sm_ok) | (with_reducible apply mx_ok) | with_reducible exact ok_1 | with_reducible exact ok_2 | with_reducible exact ok_3 | with_reducible exact ok_4 | with_reducible exact ok_5 | with_reducible exact ok_6 | with_reducible exact ok_11 | with_reducible exact ok_64 | with_reducible exact ok_96))); (case ok2 => (repeat (first | assumption | (with_reducible apply sa_ok) | (with_reducible apply sm_ok) | (with_reducible apply mx_ok) | with_reducible exact ok_1 | with_reducible exact ok_2 | with_reducible exact ok_3 | with_reducible exact ok_4 | with_reducible exact ok_5 | with_reducible exact ok_6 | with_reducible exact ok_11 | with_reducible exact ok_64 | with_reducible exact ok_96))); rintro e w' ⟨rfl, hb⟩; have hs_ : Below w.heap.size w w' := below_step (by assumption) hb; clear hb)) | (go_at_call 17; (with_reducible refine (sum3 _ _ _ _ _ ?ok0 ?ok1 ?ok2 ?ok3).mono ?_; (case ok0 => (repeat (first | assumption | (with_reducible apply sa_ok) | (with_reducible apply sm_ok) | (with_reducible apply mx_ok) | with_reducible exact ok_1 | with_reducible exact ok_2 | with_reducible exact ok_3 | with_reducible exact ok_4 | with_reducible exact ok_5 | with_reducible exact ok_6 | with_reducible exact ok_11 | with_reducible exact ok_64 | with_reducible exact ok_96))); (case ok1 => (repeat (first | assumption | (with_reducible apply sa_ok) | (with_reducible apply sm_ok) | (with_reducible apply mx_ok) | with_reducible exact ok_1 | with_reducible exact ok_2 | with_reducible exact ok_3 | with_reducible exact ok_4 | with_reducible exact ok_5 | with_reducible exact ok_6 | with_reducible exact ok_11 | with_reducible exact ok_64 | with_reducible exact ok_96))); (case ok2 => (repeat (first | assumption | (with_reducible apply sa_ok) | (with_reducible apply sm_ok) | (with_reducible apply mx_ok) | with_reducible exact ok_1 | with_reducible exact ok_2 | with_reducible exact ok_3 | with_reducible exact ok_4 | with_reducible exact ok_5 | with_reducible exact ok_6 | with_reducible exact ok_11 | with_reducible exact ok_64 | with_reducible exact ok_96))); (case ok3 => (repeat (first | assumption | (with_reducible apply sa_ok) | (with_reducible apply sm_ok) | (with_reducible apply mx_ok) | with_reducible exact ok_1 | with_reducible exact ok_2 | with_reducible exact ok_3 | with_reducible exact ok_4 | with_reducible exact ok_5 | with_reducible exact ok_6 | with_reducible exact ok_11 | with_reducible exact ok_64 | with_reducible exact ok_96))); rintro e w' ⟨rfl, hb⟩; have hs_ : Below w.heap.size w w' := below_step (by assumption) hb; clear hb)) | (go_at_call 20; (with_reducible refine (prod1 _ _ _ ?ok0 ?ok1).mono ?_; (case ok0 => (repeat (first | assumption | (with_reducible apply sa_ok) | (with_reducible apply sm_ok) | (with_reducible apply mx_ok) | with_reducible exact ok_1 | with_reducible exact ok_2 | with_reducible exact ok_3 | with_reducible exact ok_4 | with_reducible exact ok_5 | with_reducible exact ok_6 | with_reducible exact ok_11 | with_reducible exact ok_64 | with_reducible exact ok_96))); (case ok1 => (repeat (first | assumption | (with_reducible apply sa_ok) | (with_reducible apply sm_ok) | (with_reducible apply mx_ok) | with_reducible exact ok_1 | with_reducible exact ok_2 | with_reducible exact ok_3 | with_reducible exact ok_4 | with_reducible exact ok_5 | with_reducible exact ok_6 | with_reducible exact ok_11 | with_reducible exact ok_64 | with_reducible exact ok_96))); rintro e w' ⟨rfl, hb⟩; have hs_ : Below w.heap.size w w' := below_step (by assumption) hb; clear hb)) | (go_at_call 20; (with_reducible refine (prod2 _ _ _ _ ?ok0 ?ok1 ?ok2).mono ?_; (case ok0 => (repeat (first | assumption | (with_reducible apply sa_ok) | (with_reducible apply sm_ok) | (with_reducible apply mx_ok) | with_reducible exact ok_1 | with_reducible exact ok_2 | with_reducible exact ok_3 | with_reducible exact ok_4 | with_reducible exact ok_5 | with_reducible exact ok_6 | with_reducible exact ok_11 | with_reducible exact ok_64 | with_reducible exact ok_96))); (case ok1 => (repeat (first | assumption | (with_reducible apply sa_ok) | (with_reducible apply sm_ok) | (with_reducible apply mx_ok) | with_reducible exact ok_1 | with_reducible exact ok_2 | with_reducible exact ok_3 | with_reducible exact ok_4 | with_reducible exact ok_5 | with_reducible exact ok_6 | with_reducible exact ok_11 | with_reducible exact ok_64 | with_reducible exact ok_96))); (case ok2 => (repeat (first | assumption | (with_reducible apply sa_ok) | (with_reducible apply sm_ok) | (with_reducible apply mx_ok) | with_reducible exact ok_1 | with_reducible exact ok_2 | with_reducible exact ok_3 | with_reducible exact ok_4 | with_reducible exact ok_5 | with_reducible exact ok_6 | with_reducible exact ok_11 | with_reducible exact ok_64 | with_reducible exact ok_96))); rintro e w' ⟨rfl, hb⟩; have hs_ : Below w.heap.size w w' := below_step (by assumption) hb; clear hb)))
    go_ret
    exact ⟨rfl, by assumption⟩)
end Go.Proofs.Ytncdajjmaabcnaa.Own
