-- Written by a program of this session (wip/tools/gprint.py: the kit's printer, some callees' contracts given by hand). Lean checks it.
import Derived.Test.YtncdajjmaabcnaaOwnx0
namespace Go.Proofs.Ytncdajjmaabcnaa.Own
open Go.RowKit Go.Proofs.YtncdajjmaabcnaaW.PrintWords Go.Proofs.YtncdajjmaabcnaaW.PrintLast Go.Proofs.YtncdajjmaabcnaaW.PrintMore
attribute [local go_sem] max2_int min2_int max_two min_two max_three min_three max_four min_four   -- for this text's walks alone
set_option linter.unusedVariables false
set_option linter.unusedSimpArgs false

/-! ### shutterref19_returns: function 29 -/
def shutterref19_returns.l0 : Nat → Int → Int → List (S63) → List (S66) → List Int → Option (Bool)
  | 0, _, _, _, _, _ => none
  | k + 1, x1, x5, x178000, x178001, x178002 => if x5 < (x178000.length : Int) then (if 0 ≤ x5 then (if ((rd_T63 x178000 x5).f0.f3) ≥ 0 then (if ((rd_T63 x178000 x5).f0.f3) = x1 then (some true) else (shutterref19_returns.l0 k x1 (wrap64 (x5 + 1)) x178000 x178001 x178002)) else (shutterref19_returns.l0 k x1 (wrap64 (x5 + 1)) x178000 x178001 x178002)) else (none)) else (some false)
def shutterref19_returns.f (k : Nat) (l0_0 : List (S63)) (l0_1 : List (S66)) (l0_2 : List Int) (a1 : Int) : Option (Bool) := shutterref19_returns.l0 k a1 0 l0_0 l0_1 l0_2
theorem shutterref19_returns.mono_l : ∀ k, (∀ y0 y1 y2 y3 y4, LeO (shutterref19_returns.l0 k y0 y1 y2 y3 y4) (shutterref19_returns.l0 (k + 1) y0 y1 y2 y3 y4))
  | 0 => fun _ _ _ _ _ r h => by simp [shutterref19_returns.l0] at h
  | k + 1 => by
    have ih0 := shutterref19_returns.mono_l k
    · intro y0 y1 y2 y3 y4
      unfold shutterref19_returns.l0
      repeat' first
      | (with_reducible exact ih0 _ _ _ _ _)
      | (with_reducible exact LeO.refl _)
      | (with_reducible exact LeO.none _)
      | (with_reducible refine LeO.ite ?_ ?_)
      | (with_reducible refine LeO.bind ?_ (fun _ => ?_))
      | exact ih0 _ _ _ _ _
      | exact LeO.none _
      | refine LeO.ite ?_ ?_
      | refine LeO.bind ?_ (fun _ => ?_)
theorem shutterref19_returns.mono : ∀ a0 a1 a2 a3 k, LeO (shutterref19_returns.f k a0 a1 a2 a3) (shutterref19_returns.f (k + 1) a0 a1 a2 a3) := by
  intro a0 a1 a2 a3 k
  have ih0 := shutterref19_returns.mono_l k
  unfold shutterref19_returns.f
  repeat' first
      | (with_reducible exact ih0 _ _ _ _ _)
      | (with_reducible exact LeO.refl _)
      | (with_reducible exact LeO.none _)
      | (with_reducible refine LeO.ite ?_ ?_)
      | (with_reducible refine LeO.bind ?_ (fun _ => ?_))
      | exact ih0 _ _ _ _ _
      | exact LeO.none _
      | refine LeO.ite ?_ ?_
      | refine LeO.bind ?_ (fun _ => ?_)
set_option maxHeartbeats 8000000 in
set_option maxRecDepth 100000 in
theorem shutterref19_returns.calls (k : Nat) (A0_0 : Option Addr) (c0_0 : Nat) (l0_0 : List (S63)) (A0_1 : Option Addr) (c0_1 : Nat) (l0_1 : List (S66)) (A0_2 : Option Addr) (c0_2 : Nat) (l0_2 : List Int) (a1 : Int) (r : Bool) (w : World) (hr0_0 : Kd.C k63 w A0_0 l0_0.length l0_0) (hc0_0 : l0_0.length ≤ c0_0) (hr0_1 : Kd.C k66 w A0_1 l0_1.length l0_1) (hc0_1 : l0_1.length ≤ c0_1) (hr0_2 : Kd.C (Kd.int .i64) w A0_2 l0_2.length l0_2) (hc0_2 : l0_2.length ≤ c0_2) (h : shutterref19_returns.f k l0_0 l0_1 l0_2 a1 = some r) :
    Calls Try.prog 29 #[.agg #[.slice A0_0 l0_0.length c0_0, .slice A0_1 l0_1.length c0_1, .slice A0_2 l0_2.length c0_2], .int .i64 a1] w fun e w' => e = .returned (.bool r) ∧ Below w.heap.size w w' := by
  have hu38 := Try.underlying38
  have HR0_0 := Aside0.mk hr0_0
  have HC0_0 := Aside0.mk hc0_0
  clear hr0_0 hc0_0
  have HR0_1 := Aside0.mk hr0_1
  have HC0_1 := Aside0.mk hc0_1
  clear hr0_1 hc0_1
  have HR0_2 := Aside0.mk hr0_2
  have HC0_2 := Aside0.mk hc0_2
  clear hr0_2 hc0_2
  have HB := Aside0.mk (Below.refl w.heap.size w)
  have H : (shutterref19_returns.l0 k a1 0 l0_0 l0_1 l0_2) = some r := h
  clear h
  have H' := Aside0.mk H
  clear H
  go_enter Try.func29, Try.ntmps29
  go_wp2_with (first | ((with_reducible refine gate_dst (N := 2) rfl ?_); refine box_event ?hg (N := 2) ?hd (cs := #[.slice A0_0 l0_0.length c0_0, .slice A0_1 l0_1.length c0_1, .slice A0_2 l0_2.length c0_2]) (t := 38) ?hr ?_; (case hd => rfl); (case hg => rfl); (case hr => first | (go_simp; done) | (go_simp; rfl)); intro gb177 hg w3 hbox hb; have n0_ := Aside0.mk (below_step (by repeat (first | (with_reducible first | exact HB.out | apply below_alloc | apply pw_below_drewN | apply below_drew1) | exact HB.out)) hb); have n1_ := Aside0.mk (hbox); have n2_ := Aside0.mk ((by rw [hg]; exact (below_size (by repeat (first | (with_reducible first | exact HB.out | apply below_alloc | apply pw_below_drewN | apply below_drew1) | exact HB.out))) : w.heap.size ≤ gb177)); have n3_ := Aside0.mk ((by rw [hg]; exact (below_size (by repeat (first | (with_reducible first | exact HB.out | apply below_alloc | apply pw_below_drewN | apply below_drew1) | exact HB.out))) : w.heap.size ≤ gb177)); clear HB; have HB := n0_; have BK177 := n1_; have GW177 := n2_; have GE177 := n3_; clear n0_ n1_ n2_ n3_; clear hb hbox hg))
  go_loopg [5] k (fun kq v5 w' => ∃ (x5_1 : Int), v5 = .int .i64 x5_1 ∧ Aside0 (shutterref19_returns.l0 kq a1 x5_1 l0_0 l0_1 l0_2 = some r) ∧ Aside0 (kq ≤ k) ∧ Aside0 (w'.heap[gb177]? = some (.cells #[(.slice A0_0 l0_0.length c0_0), (.slice A0_1 l0_1.length c0_1), (.slice A0_2 l0_2.length c0_2)] 38 (0, 0))) ∧ Aside0 (Below w.heap.size w w'))
  case atStart => exact ⟨(0), (by first | rfl | (simp; done) | (simp [*]; done)), H', ⟨Nat.le_refl _⟩, ⟨by (with_reducible repeat (first | refine blk_drewN ?_ _ | refine blk_drew ?_ | refine blk_alloc ?_ _)); exact BK177.out⟩, ⟨by repeat (first | (with_reducible first | exact HB.out | apply below_alloc | apply pw_below_drewN | apply below_drew1 | refine below_set ?_ GE177.out) | exact HB.out)⟩⟩
  case round =>
    clear H'
    try clear c2
    try clear p2
    obtain ⟨x5_1, rfl, HA, HK1, BK177, HB⟩ := hrel
    cases gk with
    | zero => exact absurd HA.out (by simp [shutterref19_returns.l0])
    | succ k1 =>
      have H := HA.out
      clear HA
      simp only [shutterref19_returns.l0] at H
      by_cases c4 : x5_1 < (l0_0.length : Int)
      · rw [if_pos c4] at H
        have c4b0 : decide (x5_1 < (l0_0.length : Int)) = true := decide_eq_true c4
        clear c4
        by_cases c5 : 0 ≤ x5_1
        · rw [if_pos c5] at H
          have c5b0 : decide (0 ≤ x5_1) = true := decide_eq_true c5
          clear c5
          by_cases c6 : ((rd_T63 l0_0 x5_1).f0.f3) ≥ 0
          · rw [if_pos c6] at H
            have c6b0 : decide (0 ≤ ((rd_T63 l0_0 x5_1).f0.f3)) = true := decide_eq_true c6
            clear c6
            by_cases c7 : ((rd_T63 l0_0 x5_1).f0.f3) = a1
            · rw [if_pos c7] at H
              have c7b0 : (((rd_T63 l0_0 x5_1).f0.f3) == a1) = true := beq_iff_eq.mpr c7
              have c7b1 : (((rd_T63 l0_0 x5_1).f0.f3) != a1) = false := bne_eq_false_iff_eq.mpr c7
              clear c7
              obtain rfl := Option.some.inj H
              have hcz8_0 : wr.cell? ⟨gb177, 0, none⟩ = some (.slice A0_0 l0_0.length c0_0) := (blk_cell BK177.out 0).trans rfl
              have hcz8_1 : wr.cell? ⟨gb177, 1, none⟩ = some (.slice A0_1 l0_1.length c0_1) := (blk_cell BK177.out 1).trans rfl
              have hcz8_2 : wr.cell? ⟨gb177, 2, none⟩ = some (.slice A0_2 l0_2.length c0_2) := (blk_cell BK177.out 2).trans rfl
              have hfz8_0 := blk_frozen BK177.out 0
              have hfz8_1 := blk_frozen BK177.out 1
              have hfz8_2 := blk_frozen BK177.out 2
              have p178 : 0 ≤ (x5_1 : Int) := of_decide_eq_true (by first | (with_reducible assumption) | assumption)
              have q178 : x5_1 < (l0_0.length : Int) := of_decide_eq_true (by first | (with_reducible assumption) | assumption)
              obtain ⟨ad178, A178_12, c178_12, A178_20, c178_20, e178, hx178_0, hx178_1, hx178_2, hx178_3, hx178_4, hx178_5, hx178_6, hx178_7, hx178_8, hx178_9, hx178_10, hx178_11, hx178_12, hx178_13, hx178_14, hx178_15, hx178_16, hx178_17, hx178_18, hx178_19, hx178_20, hx178_21, hl178_12, hi178_12, hl178_20, hi178_20⟩ := at_T63 HR0_0.out x5_1 p178 q178
              cases e178
              replace hx178_0 := (HB.out.cell (World.block_lt_of_cell? w _ hx178_0)).trans hx178_0
              replace hx178_1 := (HB.out.cell (World.block_lt_of_cell? w _ hx178_1)).trans hx178_1
              replace hx178_2 := (HB.out.cell (World.block_lt_of_cell? w _ hx178_2)).trans hx178_2
              replace hx178_3 := (HB.out.cell (World.block_lt_of_cell? w _ hx178_3)).trans hx178_3
              replace hx178_4 := (HB.out.cell (World.block_lt_of_cell? w _ hx178_4)).trans hx178_4
              replace hx178_5 := (HB.out.cell (World.block_lt_of_cell? w _ hx178_5)).trans hx178_5
              replace hx178_6 := (HB.out.cell (World.block_lt_of_cell? w _ hx178_6)).trans hx178_6
              replace hx178_7 := (HB.out.cell (World.block_lt_of_cell? w _ hx178_7)).trans hx178_7
              replace hx178_8 := (HB.out.cell (World.block_lt_of_cell? w _ hx178_8)).trans hx178_8
              replace hx178_9 := (HB.out.cell (World.block_lt_of_cell? w _ hx178_9)).trans hx178_9
              replace hx178_10 := (HB.out.cell (World.block_lt_of_cell? w _ hx178_10)).trans hx178_10
              replace hx178_11 := (HB.out.cell (World.block_lt_of_cell? w _ hx178_11)).trans hx178_11
              replace hx178_12 := (HB.out.cell (World.block_lt_of_cell? w _ hx178_12)).trans hx178_12
              replace hx178_13 := (HB.out.cell (World.block_lt_of_cell? w _ hx178_13)).trans hx178_13
              replace hx178_14 := (HB.out.cell (World.block_lt_of_cell? w _ hx178_14)).trans hx178_14
              replace hx178_15 := (HB.out.cell (World.block_lt_of_cell? w _ hx178_15)).trans hx178_15
              replace hx178_16 := (HB.out.cell (World.block_lt_of_cell? w _ hx178_16)).trans hx178_16
              replace hx178_17 := (HB.out.cell (World.block_lt_of_cell? w _ hx178_17)).trans hx178_17
              replace hx178_18 := (HB.out.cell (World.block_lt_of_cell? w _ hx178_18)).trans hx178_18
              replace hx178_19 := (HB.out.cell (World.block_lt_of_cell? w _ hx178_19)).trans hx178_19
              replace hx178_20 := (HB.out.cell (World.block_lt_of_cell? w _ hx178_20)).trans hx178_20
              replace hx178_21 := (HB.out.cell (World.block_lt_of_cell? w _ hx178_21)).trans hx178_21
              have HR178_12 := Aside0.mk hi178_12
              have HC178_12 := Aside0.mk hl178_12
              clear hi178_12 hl178_12
              have HR178_20 := Aside0.mk hi178_20
              have HC178_20 := Aside0.mk hl178_20
              clear hi178_20 hl178_20
              replace p178 := eq_true p178
              replace q178 := eq_true q178
              have p179 : 0 ≤ (x5_1 : Int) := of_decide_eq_true (by first | (with_reducible assumption) | assumption)
              have q179 : x5_1 < (l0_0.length : Int) := of_decide_eq_true (by first | (with_reducible assumption) | assumption)
              obtain ⟨ad179, A179_12, c179_12, A179_20, c179_20, e179, hx179_0, hx179_1, hx179_2, hx179_3, hx179_4, hx179_5, hx179_6, hx179_7, hx179_8, hx179_9, hx179_10, hx179_11, hx179_12, hx179_13, hx179_14, hx179_15, hx179_16, hx179_17, hx179_18, hx179_19, hx179_20, hx179_21, hl179_12, hi179_12, hl179_20, hi179_20⟩ := at_T63 HR0_0.out x5_1 p179 q179
              obtain rfl : ad178 = ad179 := (by injection e179)
              replace hx179_0 := (HB.out.cell (World.block_lt_of_cell? w _ hx179_0)).trans hx179_0
              replace hx179_1 := (HB.out.cell (World.block_lt_of_cell? w _ hx179_1)).trans hx179_1
              replace hx179_2 := (HB.out.cell (World.block_lt_of_cell? w _ hx179_2)).trans hx179_2
              replace hx179_3 := (HB.out.cell (World.block_lt_of_cell? w _ hx179_3)).trans hx179_3
              replace hx179_4 := (HB.out.cell (World.block_lt_of_cell? w _ hx179_4)).trans hx179_4
              replace hx179_5 := (HB.out.cell (World.block_lt_of_cell? w _ hx179_5)).trans hx179_5
              replace hx179_6 := (HB.out.cell (World.block_lt_of_cell? w _ hx179_6)).trans hx179_6
              replace hx179_7 := (HB.out.cell (World.block_lt_of_cell? w _ hx179_7)).trans hx179_7
              replace hx179_8 := (HB.out.cell (World.block_lt_of_cell? w _ hx179_8)).trans hx179_8
              replace hx179_9 := (HB.out.cell (World.block_lt_of_cell? w _ hx179_9)).trans hx179_9
              replace hx179_10 := (HB.out.cell (World.block_lt_of_cell? w _ hx179_10)).trans hx179_10
              replace hx179_11 := (HB.out.cell (World.block_lt_of_cell? w _ hx179_11)).trans hx179_11
              replace hx179_12 := (HB.out.cell (World.block_lt_of_cell? w _ hx179_12)).trans hx179_12
              replace hx179_13 := (HB.out.cell (World.block_lt_of_cell? w _ hx179_13)).trans hx179_13
              replace hx179_14 := (HB.out.cell (World.block_lt_of_cell? w _ hx179_14)).trans hx179_14
              replace hx179_15 := (HB.out.cell (World.block_lt_of_cell? w _ hx179_15)).trans hx179_15
              replace hx179_16 := (HB.out.cell (World.block_lt_of_cell? w _ hx179_16)).trans hx179_16
              replace hx179_17 := (HB.out.cell (World.block_lt_of_cell? w _ hx179_17)).trans hx179_17
              replace hx179_18 := (HB.out.cell (World.block_lt_of_cell? w _ hx179_18)).trans hx179_18
              replace hx179_19 := (HB.out.cell (World.block_lt_of_cell? w _ hx179_19)).trans hx179_19
              replace hx179_20 := (HB.out.cell (World.block_lt_of_cell? w _ hx179_20)).trans hx179_20
              replace hx179_21 := (HB.out.cell (World.block_lt_of_cell? w _ hx179_21)).trans hx179_21
              have HR179_12 := Aside0.mk hi179_12
              have HC179_12 := Aside0.mk hl179_12
              clear hi179_12 hl179_12
              have HR179_20 := Aside0.mk hi179_20
              have HC179_20 := Aside0.mk hl179_20
              clear hi179_20 hl179_20
              replace p179 := eq_true p179
              replace q179 := eq_true q179
              have ea_ := Option.some.inj (hx178_12.symm.trans hx179_12)
              injection ea_ with ea_ en_ ec_
              subst ea_
              subst ec_
              clear en_
              have ea_ := Option.some.inj (hx178_20.symm.trans hx179_20)
              injection ea_ with ea_ en_ ec_
              subst ea_
              subst ec_
              clear en_
              go_wp2
              go_ret
              exact ⟨by first | rfl | (simp [errW_none, errW_some] <;> rfl) | (simp [*, errW_none, errW_some] <;> rfl), by repeat (first | (with_reducible first | exact HB.out | apply below_alloc | apply pw_below_drewN | apply below_drew1 | refine below_set ?_ GE177.out) | exact HB.out)⟩
            · rw [if_neg c7] at H
              have c7b0 : (((rd_T63 l0_0 x5_1).f0.f3) == a1) = false := beq_eq_false_iff_ne.mpr c7
              have c7b1 : (((rd_T63 l0_0 x5_1).f0.f3) != a1) = true := bne_iff_ne.mpr c7
              have H' := Aside0.mk H
              clear H
              have hcz9_0 : wr.cell? ⟨gb177, 0, none⟩ = some (.slice A0_0 l0_0.length c0_0) := (blk_cell BK177.out 0).trans rfl
              have hcz9_1 : wr.cell? ⟨gb177, 1, none⟩ = some (.slice A0_1 l0_1.length c0_1) := (blk_cell BK177.out 1).trans rfl
              have hcz9_2 : wr.cell? ⟨gb177, 2, none⟩ = some (.slice A0_2 l0_2.length c0_2) := (blk_cell BK177.out 2).trans rfl
              have hfz9_0 := blk_frozen BK177.out 0
              have hfz9_1 := blk_frozen BK177.out 1
              have hfz9_2 := blk_frozen BK177.out 2
              have p178 : 0 ≤ (x5_1 : Int) := of_decide_eq_true (by first | (with_reducible assumption) | assumption)
              have q178 : x5_1 < (l0_0.length : Int) := of_decide_eq_true (by first | (with_reducible assumption) | assumption)
              obtain ⟨ad178, A178_12, c178_12, A178_20, c178_20, e178, hx178_0, hx178_1, hx178_2, hx178_3, hx178_4, hx178_5, hx178_6, hx178_7, hx178_8, hx178_9, hx178_10, hx178_11, hx178_12, hx178_13, hx178_14, hx178_15, hx178_16, hx178_17, hx178_18, hx178_19, hx178_20, hx178_21, hl178_12, hi178_12, hl178_20, hi178_20⟩ := at_T63 HR0_0.out x5_1 p178 q178
              cases e178
              replace hx178_0 := (HB.out.cell (World.block_lt_of_cell? w _ hx178_0)).trans hx178_0
              replace hx178_1 := (HB.out.cell (World.block_lt_of_cell? w _ hx178_1)).trans hx178_1
              replace hx178_2 := (HB.out.cell (World.block_lt_of_cell? w _ hx178_2)).trans hx178_2
              replace hx178_3 := (HB.out.cell (World.block_lt_of_cell? w _ hx178_3)).trans hx178_3
              replace hx178_4 := (HB.out.cell (World.block_lt_of_cell? w _ hx178_4)).trans hx178_4
              replace hx178_5 := (HB.out.cell (World.block_lt_of_cell? w _ hx178_5)).trans hx178_5
              replace hx178_6 := (HB.out.cell (World.block_lt_of_cell? w _ hx178_6)).trans hx178_6
              replace hx178_7 := (HB.out.cell (World.block_lt_of_cell? w _ hx178_7)).trans hx178_7
              replace hx178_8 := (HB.out.cell (World.block_lt_of_cell? w _ hx178_8)).trans hx178_8
              replace hx178_9 := (HB.out.cell (World.block_lt_of_cell? w _ hx178_9)).trans hx178_9
              replace hx178_10 := (HB.out.cell (World.block_lt_of_cell? w _ hx178_10)).trans hx178_10
              replace hx178_11 := (HB.out.cell (World.block_lt_of_cell? w _ hx178_11)).trans hx178_11
              replace hx178_12 := (HB.out.cell (World.block_lt_of_cell? w _ hx178_12)).trans hx178_12
              replace hx178_13 := (HB.out.cell (World.block_lt_of_cell? w _ hx178_13)).trans hx178_13
              replace hx178_14 := (HB.out.cell (World.block_lt_of_cell? w _ hx178_14)).trans hx178_14
              replace hx178_15 := (HB.out.cell (World.block_lt_of_cell? w _ hx178_15)).trans hx178_15
              replace hx178_16 := (HB.out.cell (World.block_lt_of_cell? w _ hx178_16)).trans hx178_16
              replace hx178_17 := (HB.out.cell (World.block_lt_of_cell? w _ hx178_17)).trans hx178_17
              replace hx178_18 := (HB.out.cell (World.block_lt_of_cell? w _ hx178_18)).trans hx178_18
              replace hx178_19 := (HB.out.cell (World.block_lt_of_cell? w _ hx178_19)).trans hx178_19
              replace hx178_20 := (HB.out.cell (World.block_lt_of_cell? w _ hx178_20)).trans hx178_20
              replace hx178_21 := (HB.out.cell (World.block_lt_of_cell? w _ hx178_21)).trans hx178_21
              have HR178_12 := Aside0.mk hi178_12
              have HC178_12 := Aside0.mk hl178_12
              clear hi178_12 hl178_12
              have HR178_20 := Aside0.mk hi178_20
              have HC178_20 := Aside0.mk hl178_20
              clear hi178_20 hl178_20
              replace p178 := eq_true p178
              replace q178 := eq_true q178
              have p179 : 0 ≤ (x5_1 : Int) := of_decide_eq_true (by first | (with_reducible assumption) | assumption)
              have q179 : x5_1 < (l0_0.length : Int) := of_decide_eq_true (by first | (with_reducible assumption) | assumption)
              obtain ⟨ad179, A179_12, c179_12, A179_20, c179_20, e179, hx179_0, hx179_1, hx179_2, hx179_3, hx179_4, hx179_5, hx179_6, hx179_7, hx179_8, hx179_9, hx179_10, hx179_11, hx179_12, hx179_13, hx179_14, hx179_15, hx179_16, hx179_17, hx179_18, hx179_19, hx179_20, hx179_21, hl179_12, hi179_12, hl179_20, hi179_20⟩ := at_T63 HR0_0.out x5_1 p179 q179
              obtain rfl : ad178 = ad179 := (by injection e179)
              replace hx179_0 := (HB.out.cell (World.block_lt_of_cell? w _ hx179_0)).trans hx179_0
              replace hx179_1 := (HB.out.cell (World.block_lt_of_cell? w _ hx179_1)).trans hx179_1
              replace hx179_2 := (HB.out.cell (World.block_lt_of_cell? w _ hx179_2)).trans hx179_2
              replace hx179_3 := (HB.out.cell (World.block_lt_of_cell? w _ hx179_3)).trans hx179_3
              replace hx179_4 := (HB.out.cell (World.block_lt_of_cell? w _ hx179_4)).trans hx179_4
              replace hx179_5 := (HB.out.cell (World.block_lt_of_cell? w _ hx179_5)).trans hx179_5
              replace hx179_6 := (HB.out.cell (World.block_lt_of_cell? w _ hx179_6)).trans hx179_6
              replace hx179_7 := (HB.out.cell (World.block_lt_of_cell? w _ hx179_7)).trans hx179_7
              replace hx179_8 := (HB.out.cell (World.block_lt_of_cell? w _ hx179_8)).trans hx179_8
              replace hx179_9 := (HB.out.cell (World.block_lt_of_cell? w _ hx179_9)).trans hx179_9
              replace hx179_10 := (HB.out.cell (World.block_lt_of_cell? w _ hx179_10)).trans hx179_10
              replace hx179_11 := (HB.out.cell (World.block_lt_of_cell? w _ hx179_11)).trans hx179_11
              replace hx179_12 := (HB.out.cell (World.block_lt_of_cell? w _ hx179_12)).trans hx179_12
              replace hx179_13 := (HB.out.cell (World.block_lt_of_cell? w _ hx179_13)).trans hx179_13
              replace hx179_14 := (HB.out.cell (World.block_lt_of_cell? w _ hx179_14)).trans hx179_14
              replace hx179_15 := (HB.out.cell (World.block_lt_of_cell? w _ hx179_15)).trans hx179_15
              replace hx179_16 := (HB.out.cell (World.block_lt_of_cell? w _ hx179_16)).trans hx179_16
              replace hx179_17 := (HB.out.cell (World.block_lt_of_cell? w _ hx179_17)).trans hx179_17
              replace hx179_18 := (HB.out.cell (World.block_lt_of_cell? w _ hx179_18)).trans hx179_18
              replace hx179_19 := (HB.out.cell (World.block_lt_of_cell? w _ hx179_19)).trans hx179_19
              replace hx179_20 := (HB.out.cell (World.block_lt_of_cell? w _ hx179_20)).trans hx179_20
              replace hx179_21 := (HB.out.cell (World.block_lt_of_cell? w _ hx179_21)).trans hx179_21
              have HR179_12 := Aside0.mk hi179_12
              have HC179_12 := Aside0.mk hl179_12
              clear hi179_12 hl179_12
              have HR179_20 := Aside0.mk hi179_20
              have HC179_20 := Aside0.mk hl179_20
              clear hi179_20 hl179_20
              replace p179 := eq_true p179
              replace q179 := eq_true q179
              have ea_ := Option.some.inj (hx178_12.symm.trans hx179_12)
              injection ea_ with ea_ en_ ec_
              subst ea_
              subst ec_
              clear en_
              have ea_ := Option.some.inj (hx178_20.symm.trans hx179_20)
              injection ea_ with ea_ en_ ec_
              subst ea_
              subst ec_
              clear en_
              go_wp2
              go_roundg k1
              case measure => have := HK1.out; omega
              case rel => exact ⟨(wrap64 (x5_1 + 1)), (by first | rfl | (simp; done) | (simp [*]; done)), H', ⟨by have := HK1.out; omega⟩, ⟨by (with_reducible repeat (first | refine blk_drewN ?_ _ | refine blk_drew ?_ | refine blk_alloc ?_ _)); exact BK177.out⟩, ⟨by repeat (first | (with_reducible first | exact HB.out | apply below_alloc | apply pw_below_drewN | apply below_drew1 | refine below_set ?_ GE177.out) | exact HB.out)⟩⟩
          · rw [if_neg c6] at H
            have c6b0 : decide (0 ≤ ((rd_T63 l0_0 x5_1).f0.f3)) = false := decide_eq_false c6
            clear c6
            have H' := Aside0.mk H
            clear H
            have hcz10_0 : wr.cell? ⟨gb177, 0, none⟩ = some (.slice A0_0 l0_0.length c0_0) := (blk_cell BK177.out 0).trans rfl
            have hcz10_1 : wr.cell? ⟨gb177, 1, none⟩ = some (.slice A0_1 l0_1.length c0_1) := (blk_cell BK177.out 1).trans rfl
            have hcz10_2 : wr.cell? ⟨gb177, 2, none⟩ = some (.slice A0_2 l0_2.length c0_2) := (blk_cell BK177.out 2).trans rfl
            have hfz10_0 := blk_frozen BK177.out 0
            have hfz10_1 := blk_frozen BK177.out 1
            have hfz10_2 := blk_frozen BK177.out 2
            have p178 : 0 ≤ (x5_1 : Int) := of_decide_eq_true (by first | (with_reducible assumption) | assumption)
            have q178 : x5_1 < (l0_0.length : Int) := of_decide_eq_true (by first | (with_reducible assumption) | assumption)
            obtain ⟨ad178, A178_12, c178_12, A178_20, c178_20, e178, hx178_0, hx178_1, hx178_2, hx178_3, hx178_4, hx178_5, hx178_6, hx178_7, hx178_8, hx178_9, hx178_10, hx178_11, hx178_12, hx178_13, hx178_14, hx178_15, hx178_16, hx178_17, hx178_18, hx178_19, hx178_20, hx178_21, hl178_12, hi178_12, hl178_20, hi178_20⟩ := at_T63 HR0_0.out x5_1 p178 q178
            cases e178
            replace hx178_0 := (HB.out.cell (World.block_lt_of_cell? w _ hx178_0)).trans hx178_0
            replace hx178_1 := (HB.out.cell (World.block_lt_of_cell? w _ hx178_1)).trans hx178_1
            replace hx178_2 := (HB.out.cell (World.block_lt_of_cell? w _ hx178_2)).trans hx178_2
            replace hx178_3 := (HB.out.cell (World.block_lt_of_cell? w _ hx178_3)).trans hx178_3
            replace hx178_4 := (HB.out.cell (World.block_lt_of_cell? w _ hx178_4)).trans hx178_4
            replace hx178_5 := (HB.out.cell (World.block_lt_of_cell? w _ hx178_5)).trans hx178_5
            replace hx178_6 := (HB.out.cell (World.block_lt_of_cell? w _ hx178_6)).trans hx178_6
            replace hx178_7 := (HB.out.cell (World.block_lt_of_cell? w _ hx178_7)).trans hx178_7
            replace hx178_8 := (HB.out.cell (World.block_lt_of_cell? w _ hx178_8)).trans hx178_8
            replace hx178_9 := (HB.out.cell (World.block_lt_of_cell? w _ hx178_9)).trans hx178_9
            replace hx178_10 := (HB.out.cell (World.block_lt_of_cell? w _ hx178_10)).trans hx178_10
            replace hx178_11 := (HB.out.cell (World.block_lt_of_cell? w _ hx178_11)).trans hx178_11
            replace hx178_12 := (HB.out.cell (World.block_lt_of_cell? w _ hx178_12)).trans hx178_12
            replace hx178_13 := (HB.out.cell (World.block_lt_of_cell? w _ hx178_13)).trans hx178_13
            replace hx178_14 := (HB.out.cell (World.block_lt_of_cell? w _ hx178_14)).trans hx178_14
            replace hx178_15 := (HB.out.cell (World.block_lt_of_cell? w _ hx178_15)).trans hx178_15
            replace hx178_16 := (HB.out.cell (World.block_lt_of_cell? w _ hx178_16)).trans hx178_16
            replace hx178_17 := (HB.out.cell (World.block_lt_of_cell? w _ hx178_17)).trans hx178_17
            replace hx178_18 := (HB.out.cell (World.block_lt_of_cell? w _ hx178_18)).trans hx178_18
            replace hx178_19 := (HB.out.cell (World.block_lt_of_cell? w _ hx178_19)).trans hx178_19
            replace hx178_20 := (HB.out.cell (World.block_lt_of_cell? w _ hx178_20)).trans hx178_20
            replace hx178_21 := (HB.out.cell (World.block_lt_of_cell? w _ hx178_21)).trans hx178_21
            have HR178_12 := Aside0.mk hi178_12
            have HC178_12 := Aside0.mk hl178_12
            clear hi178_12 hl178_12
            have HR178_20 := Aside0.mk hi178_20
            have HC178_20 := Aside0.mk hl178_20
            clear hi178_20 hl178_20
            replace p178 := eq_true p178
            replace q178 := eq_true q178
            go_wp2
            go_roundg k1
            case measure => have := HK1.out; omega
            case rel => exact ⟨(wrap64 (x5_1 + 1)), (by first | rfl | (simp; done) | (simp [*]; done)), H', ⟨by have := HK1.out; omega⟩, ⟨by (with_reducible repeat (first | refine blk_drewN ?_ _ | refine blk_drew ?_ | refine blk_alloc ?_ _)); exact BK177.out⟩, ⟨by repeat (first | (with_reducible first | exact HB.out | apply below_alloc | apply pw_below_drewN | apply below_drew1 | refine below_set ?_ GE177.out) | exact HB.out)⟩⟩
        · rw [if_neg c5] at H
          exact absurd H (by simp)
      · rw [if_neg c4] at H
        have c4b0 : decide (x5_1 < (l0_0.length : Int)) = false := decide_eq_false c4
        clear c4
        obtain rfl := Option.some.inj H
        have hcz11_0 : wr.cell? ⟨gb177, 0, none⟩ = some (.slice A0_0 l0_0.length c0_0) := (blk_cell BK177.out 0).trans rfl
        have hcz11_1 : wr.cell? ⟨gb177, 1, none⟩ = some (.slice A0_1 l0_1.length c0_1) := (blk_cell BK177.out 1).trans rfl
        have hcz11_2 : wr.cell? ⟨gb177, 2, none⟩ = some (.slice A0_2 l0_2.length c0_2) := (blk_cell BK177.out 2).trans rfl
        have hfz11_0 := blk_frozen BK177.out 0
        have hfz11_1 := blk_frozen BK177.out 1
        have hfz11_2 := blk_frozen BK177.out 2
        go_wp2
        go_ret
        exact ⟨by first | rfl | (simp [errW_none, errW_some] <;> rfl) | (simp [*, errW_none, errW_some] <;> rfl), by repeat (first | (with_reducible first | exact HB.out | apply below_alloc | apply pw_below_drewN | apply below_drew1 | refine below_set ?_ GE177.out) | exact HB.out)⟩

end Go.Proofs.Ytncdajjmaabcnaa.Own
