/- trial -/
import Derived.Test.YtncdajjmaabcnaaBoundMath
import Derived.Test.YtncdajjmaabcnaaOwnx3
import Derived.Test.YtncdajjmaabcnaaOwnx11
import Derived.Lib.Hide
import Derived.Outline
import Derived.BigFrameIn
import Derived.BigQuiet
import Derived.OpenShut
import Derived.Deep.RegionHeld3
namespace Go.Proofs.Ytncdajjmaabcnaa.Own
open Go.RowKit Go.Proofs.YtncdajjmaabcnaaW.PrintWords Go.Proofs.YtncdajjmaabcnaaW.PrintLast Go.Proofs.YtncdajjmaabcnaaW.PrintMore
set_option linter.unusedVariables false
set_option linter.unusedSimpArgs false
namespace PB
theorem up (a b : Int) (w : World) : Calls Try.prog 11 #[.int .i64 a, .int .i64 b] w fun e w' => e = .returned (.int .i64 (if a > b then a else b)) ∧ w = w' := by
  by_cases h : a > b
  · rw [if_pos h]
    go_enter Try.func11, Try.ntmps11
    go_wp2
    go_ret
    exact ⟨rfl, rfl⟩
  · rw [if_neg h]
    go_enter Try.func11, Try.ntmps11
    go_wp2
    go_ret
    exact ⟨rfl, rfl⟩
theorem sa_mono {a b a2 b2 : Int} (ha : a ≤ a2) (hb : b ≤ b2) : sa a b ≤ sa a2 b2 := by
  unfold sa
  by_cases h1 : 9223372036854775807 < a + b
  · rw [if_pos h1, if_pos (by omega)]; exact Int.le_refl _
  · by_cases h2 : 9223372036854775807 < a2 + b2
    · rw [if_neg h1, if_pos h2]; omega
    · rw [if_neg h1, if_neg h2]; omega
theorem sm_mono {a b a2 b2 : Int} (h0 : ok a) (h02 : ok b) (ha : a ≤ a2) (hb : b ≤ b2) : sm a b ≤ sm a2 b2 := by
  have h3 : a * b ≤ a2 * b2 := Int.mul_le_mul ha hb h02.1 (Int.le_trans h0.1 ha)
  unfold sm
  generalize a * b = x at h3
  generalize a2 * b2 = y at h3
  by_cases h1 : 9223372036854775807 < x
  · rw [if_pos h1, if_pos (by omega)]; exact Int.le_refl _
  · by_cases h2 : 9223372036854775807 < y
    · rw [if_neg h1, if_pos h2]; omega
    · rw [if_neg h1, if_neg h2]; omega
theorem mx_mono {a b a2 b2 : Int} (ha : a ≤ a2) (hb : b ≤ b2) : mx a b ≤ mx a2 b2 := by
  unfold mx
  (repeat' split) <;> omega
theorem bound_mono {a0 a1 a2 a3 a4 c0 c1 c2 c3 c4 : Int} (h0 : a0 ≤ c0) (h1 : a1 ≤ c1) (h2 : a2 ≤ c2) (h3 : a3 ≤ c3) (h4 : a4 ≤ c4)
    (m0 : a0 ≤ 9223372036854775807) (m1 : a1 ≤ 9223372036854775807) (m2 : a2 ≤ 9223372036854775807) (m3 : a3 ≤ 9223372036854775807) (m4 : a4 ≤ 9223372036854775807) :
    bound a0 a1 a2 a3 a4 ≤ bound c0 c1 c2 c3 c4 ∧ ok (bound a0 a1 a2 a3 a4) := by
  have ht := m0_ok m0
  have hb := m0_ok m1
  have hv := m0_ok m2
  have hs := m0_ok m3
  have hm := m0_ok m4
  have gt := mx_mono h0 (Int.le_refl 0)
  have gb := mx_mono h1 (Int.le_refl 0)
  have gv := mx_mono h2 (Int.le_refl 0)
  have gs := mx_mono h3 (Int.le_refl 0)
  have gm := mx_mono h4 (Int.le_refl 0)
  unfold bound q walk objs key vers
  generalize mx a0 0 = T at ht gt ⊢
  generalize mx a1 0 = B at hb gb ⊢
  generalize mx a2 0 = V at hv gv ⊢
  generalize mx a3 0 = S at hs gs ⊢
  generalize mx a4 0 = M at hm gm ⊢
  refine ⟨?_, ?_⟩
  · (repeat (first | assumption | with_reducible exact Int.le_refl _ | (with_reducible apply sa_mono) | (with_reducible apply sm_mono) | (with_reducible apply mx_mono) | (with_reducible apply sa_ok) | (with_reducible apply sm_ok) | (with_reducible apply mx_ok) | with_reducible exact ok_1 | with_reducible exact ok_2 | with_reducible exact ok_3 | with_reducible exact ok_4 | with_reducible exact ok_5 | with_reducible exact ok_6 | with_reducible exact ok_11 | with_reducible exact ok_64 | with_reducible exact ok_96))
  · (repeat (first | assumption | (with_reducible apply sa_ok) | (with_reducible apply sm_ok) | (with_reducible apply mx_ok) | with_reducible exact ok_1 | with_reducible exact ok_2 | with_reducible exact ok_3 | with_reducible exact ok_4 | with_reducible exact ok_5 | with_reducible exact ok_6 | with_reducible exact ok_11 | with_reducible exact ok_64 | with_reducible exact ok_96))
theorem live_true : shutterlaw19_live.f = some true := by decide +kernel
set_option maxHeartbeats 4000000 in
set_option maxRecDepth 100000 in
theorem rises (a0 a1 a2 a3 a4 b0 b1 b2 b3 b4 : Int) (w : World) (ha : a0 ≤ 9223372036854775807 ∧ a1 ≤ 9223372036854775807 ∧ a2 ≤ 9223372036854775807 ∧ a3 ≤ 9223372036854775807 ∧ a4 ≤ 9223372036854775807) (hb : b0 ≤ 9223372036854775807 ∧ b1 ≤ 9223372036854775807 ∧ b2 ≤ 9223372036854775807 ∧ b3 ≤ 9223372036854775807 ∧ b4 ≤ 9223372036854775807) :
    Calls Try.prog 4 #[.agg #[.int .i64 a0, .int .i64 a1, .int .i64 a2, .int .i64 a3, .int .i64 a4], .agg #[.int .i64 b0, .int .i64 b1, .int .i64 b2, .int .i64 b3, .int .i64 b4]] w fun e w' => e = .returned (.bool true) ∧ Below w.heap.size w w' := by
  have hu23 := Try.underlying23
  have u0 := fun wx => up a0 b0 wx
  have u1 := fun wx => up a1 b1 wx
  have u2 := fun wx => up a2 b2 wx
  have u3 := fun wx => up a3 b3 wx
  have u4 := fun wx => up a4 b4 wx
  obtain ⟨c0, hc0⟩ : ∃ c, (if a0 > b0 then a0 else b0) = c := ⟨_, rfl⟩
  obtain ⟨c1, hc1⟩ : ∃ c, (if a1 > b1 then a1 else b1) = c := ⟨_, rfl⟩
  obtain ⟨c2, hc2⟩ : ∃ c, (if a2 > b2 then a2 else b2) = c := ⟨_, rfl⟩
  obtain ⟨c3, hc3⟩ : ∃ c, (if a3 > b3 then a3 else b3) = c := ⟨_, rfl⟩
  obtain ⟨c4, hc4⟩ : ∃ c, (if a4 > b4 then a4 else b4) = c := ⟨_, rfl⟩
  rw [hc0] at u0
  rw [hc1] at u1
  rw [hc2] at u2
  rw [hc3] at u3
  rw [hc4] at u4
  have U0 := Lib.hid u0
  have U1 := Lib.hid u1
  have U2 := Lib.hid u2
  have U3 := Lib.hid u3
  have U4 := Lib.hid u4
  obtain ⟨hx1, hx2⟩ := bound_mono (a0 := a0) (a1 := a1) (a2 := a2) (a3 := a3) (a4 := a4) (c0 := c0) (c1 := c1) (c2 := c2) (c3 := c3) (c4 := c4) (by rw [← hc0]; split <;> omega) (by rw [← hc1]; split <;> omega) (by rw [← hc2]; split <;> omega) (by rw [← hc3]; split <;> omega) (by rw [← hc4]; split <;> omega) ha.1 ha.2.1 ha.2.2.1 ha.2.2.2.1 ha.2.2.2.2
  have e1 := bound_is ha.1 ha.2.1 ha.2.2.1 ha.2.2.2.1 ha.2.2.2.2
  have e2 : progress_Bound.f c0 c1 c2 c3 c4 = some (bound c0 c1 c2 c3 c4) := bound_is (by rw [← hc0]; split <;> omega) (by rw [← hc1]; split <;> omega) (by rw [← hc2]; split <;> omega) (by rw [← hc3]; split <;> omega) (by rw [← hc4]; split <;> omega)
  have v1 := fun wx => progress_Bound.calls a0 a1 a2 a3 a4 _ wx e1
  have v2 := fun wx => progress_Bound.calls c0 c1 c2 c3 c4 _ wx e2
  have v0 := fun wx => shutterlaw19_live.calls true wx live_true
  generalize bound a0 a1 a2 a3 a4 = X at hx1 hx2 v1
  generalize bound c0 c1 c2 c3 c4 = Y at hx1 v2
  have hx3 : decide (X ≤ Y) = true := decide_eq_true hx1
  have hx4 : decide (0 ≤ X) = true := decide_eq_true hx2.1
  have HX3 := Aside0.mk hx3
  have HX4 := Aside0.mk hx4
  have V0 := Lib.hid v0
  have V1 := Lib.hid v1
  have V2 := Lib.hid v2
  clear e1 e2 v0 v1 v2 hx1 hx2 hx3 hx4
  have HC0 := Aside0.mk hc0
  have HC1 := Aside0.mk hc1
  have HC2 := Aside0.mk hc2
  have HC3 := Aside0.mk hc3
  have HC4 := Aside0.mk hc4
  have HA := Aside0.mk ha
  have HB := Aside0.mk hb
  clear u0 u1 u2 u3 u4 hc0 hc1 hc2 hc3 hc4 ha hb
  go_enter Try.func4, Try.ntmps4
  go_upto_region 1 with (fail)
  have hBL : Below w.heap.size w ((w.alloc (.cells #[.int .i64 a0, .int .i64 a1, .int .i64 a2, .int .i64 a3, .int .i64 a4] 23)).alloc (.cells #[.int .i64 b0, .int .i64 b1, .int .i64 b2, .int .i64 b3, .int .i64 b4] 23)) := ((Below.refl _ _).alloc (Nat.le_refl _) _).alloc (by simp) _
  have hK0 : ((w.alloc (.cells #[.int .i64 a0, .int .i64 a1, .int .i64 a2, .int .i64 a3, .int .i64 a4] 23)).alloc (.cells #[.int .i64 b0, .int .i64 b1, .int .i64 b2, .int .i64 b3, .int .i64 b4] 23)).heap[w.heap.size]? = some (.cells #[.int .i64 a0, .int .i64 a1, .int .i64 a2, .int .i64 a3, .int .i64 a4] 23 (0, 0)) := blk_alloc (by simpa using heap_alloc_new w _) _
  have hK1 : ((w.alloc (.cells #[.int .i64 a0, .int .i64 a1, .int .i64 a2, .int .i64 a3, .int .i64 a4] 23)).alloc (.cells #[.int .i64 b0, .int .i64 b1, .int .i64 b2, .int .i64 b3, .int .i64 b4] 23)).heap[w.heap.size + 1]? = some (.cells #[.int .i64 b0, .int .i64 b1, .int .i64 b2, .int .i64 b3, .int .i64 b4] 23 (0, 0)) := by simpa using heap_alloc_new (w.alloc (.cells #[.int .i64 a0, .int .i64 a1, .int .i64 a2, .int .i64 a3, .int .i64 a4] 23)) (.cells #[.int .i64 b0, .int .i64 b1, .int .i64 b2, .int .i64 b3, .int .i64 b4] 23 (0, 0))
  generalize (w.alloc (.cells #[.int .i64 a0, .int .i64 a1, .int .i64 a2, .int .i64 a3, .int .i64 a4] 23)).alloc (.cells #[.int .i64 b0, .int .i64 b1, .int .i64 b2, .int .i64 b3, .int .i64 b4] 23) = w1 at hBL hK0 hK1 ⊢
  have hg0 : w.heap.size < w1.heap.size := (Array.getElem?_eq_some_iff.1 hK0).1
  have hg1 : w.heap.size + 1 < w1.heap.size := (Array.getElem?_eq_some_iff.1 hK1).1
  generalize w.heap.size + 1 = g1 at hK1 hg1 ⊢
  generalize hg : w.heap.size = g0 at hK0 hg0 ⊢
  have hk0 : ∀ wx, Below w1.heap.size w1 wx → wx.heap[g0]? = some (.cells #[.int .i64 a0, .int .i64 a1, .int .i64 a2, .int .i64 a3, .int .i64 a4] 23 (0, 0)) := fun wx h => (h.block g0 hg0).trans hK0
  have hk1 : ∀ wx, Below w1.heap.size w1 wx → wx.heap[g1]? = some (.cells #[.int .i64 b0, .int .i64 b1, .int .i64 b2, .int .i64 b3, .int .i64 b4] 23 (0, 0)) := fun wx h => (h.block g1 hg1).trans hK1
  have y0 : ∀ wx, Below w1.heap.size w1 wx → wx.cell? ⟨g0, 0, none⟩ = some (.int .i64 a0) := fun wx h => (blk_cell (hk0 wx h) 0).trans rfl
  have z0 : ∀ wx, Below w1.heap.size w1 wx → wx.cell? ⟨g1, 0, none⟩ = some (.int .i64 b0) := fun wx h => (blk_cell (hk1 wx h) 0).trans rfl
  have y1 : ∀ wx, Below w1.heap.size w1 wx → wx.cell? ⟨g0, 1, none⟩ = some (.int .i64 a1) := fun wx h => (blk_cell (hk0 wx h) 1).trans rfl
  have z1 : ∀ wx, Below w1.heap.size w1 wx → wx.cell? ⟨g1, 1, none⟩ = some (.int .i64 b1) := fun wx h => (blk_cell (hk1 wx h) 1).trans rfl
  have y2 : ∀ wx, Below w1.heap.size w1 wx → wx.cell? ⟨g0, 2, none⟩ = some (.int .i64 a2) := fun wx h => (blk_cell (hk0 wx h) 2).trans rfl
  have z2 : ∀ wx, Below w1.heap.size w1 wx → wx.cell? ⟨g1, 2, none⟩ = some (.int .i64 b2) := fun wx h => (blk_cell (hk1 wx h) 2).trans rfl
  have y3 : ∀ wx, Below w1.heap.size w1 wx → wx.cell? ⟨g0, 3, none⟩ = some (.int .i64 a3) := fun wx h => (blk_cell (hk0 wx h) 3).trans rfl
  have z3 : ∀ wx, Below w1.heap.size w1 wx → wx.cell? ⟨g1, 3, none⟩ = some (.int .i64 b3) := fun wx h => (blk_cell (hk1 wx h) 3).trans rfl
  have y4 : ∀ wx, Below w1.heap.size w1 wx → wx.cell? ⟨g0, 4, none⟩ = some (.int .i64 a4) := fun wx h => (blk_cell (hk0 wx h) 4).trans rfl
  have z4 : ∀ wx, Below w1.heap.size w1 wx → wx.cell? ⟨g1, 4, none⟩ = some (.int .i64 b4) := fun wx h => (blk_cell (hk1 wx h) 4).trans rfl
  have p0 := y0 w1 (Below.refl _ _)
  have q0 := z0 w1 (Below.refl _ _)
  have p1 := y1 w1 (Below.refl _ _)
  have q1 := z1 w1 (Below.refl _ _)
  have p2 := y2 w1 (Below.refl _ _)
  have q2 := z2 w1 (Below.refl _ _)
  have p3 := y3 w1 (Below.refl _ _)
  have q3 := z3 w1 (Below.refl _ _)
  have p4 := y4 w1 (Below.refl _ _)
  have q4 := z4 w1 (Below.refl _ _)
  have n0 := World.new_ne w1 ⟨g0, 0, none⟩ p0
  have n1 := World.new_ne w1 ⟨g1, 0, none⟩ q0
  simp only at n0 n1
  have HK0 := Aside0.mk hk0
  have HK1 := Aside0.mk hk1
  have HBL := Aside0.mk hBL
  have HGG := Aside0.mk hg
  have HG0 := Aside0.mk hg0
  have HG1 := Aside0.mk hg1
  clear hBL hK0 hK1 hk0 hk1 hg0 hg1 hg y0 y1 y2 y3 y4 z0 z1 z2 z3 z4
  go_cut [5] from 6 to 31 (fun v5 wc => v5 = .pointer (some ⟨w1.heap.size, 0, none⟩) ∧ wc = (w1.alloc (.cells #[.int .i64 c0, .int .i64 c1, .int .i64 c2, .int .i64 c3, .int .i64 c4] 23)).drew)
  case first =>
    go_region_held3 (fun w' => w'.cell? ⟨g0, 0, none⟩ = some (.int .i64 a0) ∧ w'.cell? ⟨g1, 0, none⟩ = some (.int .i64 b0) ∧ w'.cell? ⟨g0, 1, none⟩ = some (.int .i64 a1) ∧ w'.cell? ⟨g1, 1, none⟩ = some (.int .i64 b1) ∧ w'.cell? ⟨g0, 2, none⟩ = some (.int .i64 a2) ∧ w'.cell? ⟨g1, 2, none⟩ = some (.int .i64 b2) ∧ w'.cell? ⟨g0, 3, none⟩ = some (.int .i64 a3) ∧ w'.cell? ⟨g1, 3, none⟩ = some (.int .i64 b3) ∧ w'.cell? ⟨g0, 4, none⟩ = some (.int .i64 a4) ∧ w'.cell? ⟨g1, 4, none⟩ = some (.int .i64 b4)) (go_keep) (first
      | (go_at_call 11; with_reducible refine (U0.out _).mono ?_; rintro e w' ⟨rfl, rfl⟩)
      | (go_at_call 11; with_reducible refine (U1.out _).mono ?_; rintro e w' ⟨rfl, rfl⟩)
      | (go_at_call 11; with_reducible refine (U2.out _).mono ?_; rintro e w' ⟨rfl, rfl⟩)
      | (go_at_call 11; with_reducible refine (U3.out _).mono ?_; rintro e w' ⟨rfl, rfl⟩)
      | (go_at_call 11; with_reducible refine (U4.out _).mono ?_; rintro e w' ⟨rfl, rfl⟩))
    all_goals (go_wp2_with fail; go_meet; exact ⟨rfl, rfl⟩)
  case rest =>
    obtain ⟨rfl, rfl⟩ := hcut
    go_upto_region 2 with (fail)
    have hB2 : Below w1.heap.size w1 (w1.alloc (.cells #[.int .i64 c0, .int .i64 c1, .int .i64 c2, .int .i64 c3, .int .i64 c4] 23)).drew := ((Below.refl _ _).alloc (Nat.le_refl _) _).drew
    have hK2 : (w1.alloc (.cells #[.int .i64 c0, .int .i64 c1, .int .i64 c2, .int .i64 c3, .int .i64 c4] 23)).drew.heap[w1.heap.size]? = some (.cells #[.int .i64 c0, .int .i64 c1, .int .i64 c2, .int .i64 c3, .int .i64 c4] 23 (0, 0)) := blk_drew (by first | exact heap_alloc_new w1 _ | simpa using heap_alloc_new w1 _)
    have hk0 := HK0.out _ hB2
    have HBW : Aside0 (Below w.heap.size w (w1.alloc (.cells #[.int .i64 c0, .int .i64 c1, .int .i64 c2, .int .i64 c3, .int .i64 c4] 23)).drew) := ⟨HBL.out.trans (hB2.mono HBL.out.size)⟩
    clear hB2
    generalize (w1.alloc (.cells #[.int .i64 c0, .int .i64 c1, .int .i64 c2, .int .i64 c3, .int .i64 c4] 23)).drew = w2 at hK2 hk0 HBW ⊢
    have hg2 : w1.heap.size < w2.heap.size := (Array.getElem?_eq_some_iff.1 hK2).1
    have hg3 : g0 < w2.heap.size := (Array.getElem?_eq_some_iff.1 hk0).1
    generalize w1.heap.size = g2 at hK2 hg2 ⊢
    have kA : ∀ wx, Below w2.heap.size w2 wx → wx.heap[g0]? = some (.cells #[.int .i64 a0, .int .i64 a1, .int .i64 a2, .int .i64 a3, .int .i64 a4] 23 (0, 0)) := fun wx h => (h.block g0 hg3).trans hk0
    have kC : ∀ wx, Below w2.heap.size w2 wx → wx.heap[g2]? = some (.cells #[.int .i64 c0, .int .i64 c1, .int .i64 c2, .int .i64 c3, .int .i64 c4] 23 (0, 0)) := fun wx h => (h.block g2 hg2).trans hK2
    have y0 : ∀ wx, Below w2.heap.size w2 wx → wx.cell? ⟨g0, 0, none⟩ = some (.int .i64 a0) := fun wx h => (blk_cell (kA wx h) 0).trans rfl
    have z0 : ∀ wx, Below w2.heap.size w2 wx → wx.cell? ⟨g2, 0, none⟩ = some (.int .i64 c0) := fun wx h => (blk_cell (kC wx h) 0).trans rfl
    have y1 : ∀ wx, Below w2.heap.size w2 wx → wx.cell? ⟨g0, 1, none⟩ = some (.int .i64 a1) := fun wx h => (blk_cell (kA wx h) 1).trans rfl
    have z1 : ∀ wx, Below w2.heap.size w2 wx → wx.cell? ⟨g2, 1, none⟩ = some (.int .i64 c1) := fun wx h => (blk_cell (kC wx h) 1).trans rfl
    have y2 : ∀ wx, Below w2.heap.size w2 wx → wx.cell? ⟨g0, 2, none⟩ = some (.int .i64 a2) := fun wx h => (blk_cell (kA wx h) 2).trans rfl
    have z2 : ∀ wx, Below w2.heap.size w2 wx → wx.cell? ⟨g2, 2, none⟩ = some (.int .i64 c2) := fun wx h => (blk_cell (kC wx h) 2).trans rfl
    have y3 : ∀ wx, Below w2.heap.size w2 wx → wx.cell? ⟨g0, 3, none⟩ = some (.int .i64 a3) := fun wx h => (blk_cell (kA wx h) 3).trans rfl
    have z3 : ∀ wx, Below w2.heap.size w2 wx → wx.cell? ⟨g2, 3, none⟩ = some (.int .i64 c3) := fun wx h => (blk_cell (kC wx h) 3).trans rfl
    have y4 : ∀ wx, Below w2.heap.size w2 wx → wx.cell? ⟨g0, 4, none⟩ = some (.int .i64 a4) := fun wx h => (blk_cell (kA wx h) 4).trans rfl
    have z4 : ∀ wx, Below w2.heap.size w2 wx → wx.cell? ⟨g2, 4, none⟩ = some (.int .i64 c4) := fun wx h => (blk_cell (kC wx h) 4).trans rfl
    clear hK2 hk0 hg2 hg3 kA kC HK0 HK1 HBL HGG HG0 HG1 n0 n1 p0 p1 p2 p3 p4 q0 q1 q2 q3 q4
    clear U0 U1 U2 U3 U4 HC0 HC1 HC2 HC3 HC4 HA HB
    have hx3 := HX3.out
    have hx4 := HX4.out
    have hwd : Below w2.heap.size w2 w2.drew := (Below.refl _ _).drew
    go_region_held3 (fun w' => Below w2.heap.size w2 w') (assumption) (first
      | (go_at_call 6; with_reducible refine (V0.out _).mono ?_; rintro e w' ⟨rfl, hb⟩; have hs_ : Below w2.heap.size w2 w' := below_step (by assumption) hb; clear hb)
      | (go_at_call 7; with_reducible refine (V1.out _).mono ?_; rintro e w' ⟨rfl, hb⟩; have hs_ : Below w2.heap.size w2 w' := below_step (by assumption) hb; clear hb)
      | (go_at_call 7; with_reducible refine (V2.out _).mono ?_; rintro e w' ⟨rfl, hb⟩; have hs_ : Below w2.heap.size w2 w' := below_step (by assumption) hb; clear hb))
    all_goals (
      have hc := (show Below w2.heap.size w2 _ by assumption)
      have HE := Aside0.mk (HBW.out.trans (hc.mono HBW.out.size))
      clear hc hwd y0 y1 y2 y3 y4 z0 z1 z2 z3 z4
      go_wp2
      go_ret
      exact ⟨rfl, HE.out⟩)
end PB
end Go.Proofs.Ytncdajjmaabcnaa.Own
