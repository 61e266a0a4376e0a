/- For every three spans HistAhead answers true, and its arguments read as they did. No condition. -/
import Derived.Test.YtfmhdfgliamkkaaRows
import Derived.Test.YtfmhdfgliamkkaaHistFirstG
import Derived.Test.YtfmhdfgliamkkaaOwnx2
import Derived.WalkKit
import Derived.ProofKit
import Derived.OpenShut
import Derived.ShutString
import Derived.ChangeOld
import Derived.Below
import Derived.SizedLaws
import Derived.Lib.SmallJoins
import Derived.Lib.Hide
namespace Go.Proofs.Ytfmhdfgliamkkaa.histAhead
open Go.ChangeShapes Go.WideShapes Go.ChangeAt Go.RowKit Go.Joins
open Go.Proofs.YtfmhdfgliamkkaaW.PrintWords Go.Proofs.YtfmhdfgliamkkaaW.PrintLast Go.Proofs.YtfmhdfgliamkkaaW.PrintMore Go.Proofs.Ytfmhdfgliamkkaa.Own
set_option linter.unusedVariables false
set_option linter.unusedSimpArgs false
theorem bcell {W w1 : World} (hb : Below W.heap.size W w1) : (∀ b o, b < W.heap.size → w1.cell? ⟨b, o, none⟩ = W.cell? ⟨b, o, none⟩) :=
  fun b o h => hb.cell (p := ⟨b, o, none⟩) h
/-- The three boxes of the law's arguments hold what they held. -/
structure Held (w w1 : World) (a b c : S36) : Prop where
  below : Below w.heap.size w w1
  ba : w1.heap[w.heap.size]? = some (.cells #[.int .i64 a.f0, .int .i64 a.f1, .int .i64 a.f2, .int .i64 a.f3] 36 (0, 0))
  bb : w1.heap[w.heap.size + 1]? = some (.cells #[.int .i64 b.f0, .int .i64 b.f1, .int .i64 b.f2, .int .i64 b.f3] 36 (0, 0))
  bc : w1.heap[w.heap.size + 1 + 1]? = some (.cells #[.int .i64 c.f0, .int .i64 c.f1, .int .i64 c.f2, .int .i64 c.f3] 36 (0, 0))
theorem Held.start (w : World) (a b c : S36) : Held w (((w.alloc (.cells #[.int .i64 a.f0, .int .i64 a.f1, .int .i64 a.f2, .int .i64 a.f3] 36)).alloc (.cells #[.int .i64 b.f0, .int .i64 b.f1, .int .i64 b.f2, .int .i64 b.f3] 36)).alloc (.cells #[.int .i64 c.f0, .int .i64 c.f1, .int .i64 c.f2, .int .i64 c.f3] 36)) a b c := by
  have e1 : (w.alloc (.cells #[.int .i64 a.f0, .int .i64 a.f1, .int .i64 a.f2, .int .i64 a.f3] 36)).heap.size = w.heap.size + 1 := by simp
  have e2 : ((w.alloc (.cells #[.int .i64 a.f0, .int .i64 a.f1, .int .i64 a.f2, .int .i64 a.f3] 36)).alloc (.cells #[.int .i64 b.f0, .int .i64 b.f1, .int .i64 b.f2, .int .i64 b.f3] 36)).heap.size = w.heap.size + 1 + 1 := by simp
  refine ⟨(((Below.refl _ _).alloc (Nat.le_refl _) _).alloc (by simp) _).alloc (by simp; omega) _, ?_, ?_, ?_⟩
  · exact HF.blk_grown (World.grownBy_alloc _ _ none) (HF.blk_grown (World.grownBy_alloc _ _ none) (heap_alloc_new w _) (by simp)) (by simp)
  · have h := heap_alloc_new (w.alloc (.cells #[.int .i64 a.f0, .int .i64 a.f1, .int .i64 a.f2, .int .i64 a.f3] 36)) (.cells #[.int .i64 b.f0, .int .i64 b.f1, .int .i64 b.f2, .int .i64 b.f3] 36)
    rw [e1] at h
    exact HF.blk_grown (World.grownBy_alloc _ _ none) h (by simp)
  · have h := heap_alloc_new ((w.alloc (.cells #[.int .i64 a.f0, .int .i64 a.f1, .int .i64 a.f2, .int .i64 a.f3] 36)).alloc (.cells #[.int .i64 b.f0, .int .i64 b.f1, .int .i64 b.f2, .int .i64 b.f3] 36)) (.cells #[.int .i64 c.f0, .int .i64 c.f1, .int .i64 c.f2, .int .i64 c.f3] 36)
    rw [e2] at h
    exact h
theorem Held.step {w w1 w2 : World} {a b c : S36} (h : Held w w1 a b c) (hb : Below w1.heap.size w1 w2) : Held w w2 a b c :=
  ⟨h.below.trans (hb.mono h.below.size), HF.blk_at h.ba hb, HF.blk_at h.bb hb, HF.blk_at h.bc hb⟩
/-- The cells of a span in a box, one by one. -/
theorem cells_of {w : World} {g : Nat} {a : S36} (h : w.heap[g]? = some (.cells #[.int .i64 a.f0, .int .i64 a.f1, .int .i64 a.f2, .int .i64 a.f3] 36 (0, 0))) :
    w.cell? ⟨g, 0, none⟩ = some (.int .i64 a.f0) ∧ w.cell? ⟨g, 1, none⟩ = some (.int .i64 a.f1) ∧ w.cell? ⟨g, 2, none⟩ = some (.int .i64 a.f2) ∧ w.cell? ⟨g, 3, none⟩ = some (.int .i64 a.f3) :=
  ⟨(blk_cell h 0).trans rfl, (blk_cell h 1).trans rfl, (blk_cell h 2).trans rfl, (blk_cell h 3).trans rfl⟩
def bad (a : S36) : Bool := decide (0 ≤ a.f3) && decide (a.f3 < a.f2)
theorem math (a b c : S36) (h : (bad a || bad b || bad c) = false) : aheadB a b = false ∨ (aheadB a b = true ∧ aheadB b a = false ∧ aheadB b c = false) ∨ (aheadB a b = true ∧ aheadB b a = false ∧ aheadB b c = true ∧ aheadB a c = true) := by
  simp only [bad, Bool.or_eq_false_iff, Bool.and_eq_false_iff, decide_eq_false_iff_not] at h
  simp only [aheadB, Bool.and_eq_false_iff, Bool.and_eq_true, decide_eq_false_iff_not, decide_eq_true_eq]
  omega
theorem live_true : shutterlaw05_live.f = some true := by decide +kernel
set_option maxHeartbeats 4000000 in
set_option maxRecDepth 100000 in
theorem walk (a b c : S36) (w : World) : Calls Try.prog 5 #[.agg #[.int .i64 a.f0, .int .i64 a.f1, .int .i64 a.f2, .int .i64 a.f3], .agg #[.int .i64 b.f0, .int .i64 b.f1, .int .i64 b.f2, .int .i64 b.f3], .agg #[.int .i64 c.f0, .int .i64 c.f1, .int .i64 c.f2, .int .i64 c.f3]] w fun e w' => e = .returned (.bool true) ∧ Below w.heap.size w w' := by
  have hlive := fun w => shutterlaw05_live.calls true w live_true
  have HL := Lib.hid hlive
  clear hlive
  have hu36 := Try.underlying36
  go_enter Try.func5, Try.ntmps5
  go_upto_region 1 with (fail)
  have H1 := Aside0.mk (Held.start w a b c)
  generalize ((w.alloc (.cells #[.int .i64 a.f0, .int .i64 a.f1, .int .i64 a.f2, .int .i64 a.f3] 36)).alloc (.cells #[.int .i64 b.f0, .int .i64 b.f1, .int .i64 b.f2, .int .i64 b.f3] 36)).alloc (.cells #[.int .i64 c.f0, .int .i64 c.f1, .int .i64 c.f2, .int .i64 c.f3] 36) = w1 at H1 ⊢
  obtain ⟨x0, x1, x2, x3⟩ := cells_of H1.out.ba
  obtain ⟨y0, y1, y2, y3⟩ := cells_of H1.out.bb
  obtain ⟨z0, z1, z2, z3⟩ := cells_of H1.out.bc
  have HBAD : Aside0 ((bad a || bad b || bad c) = ((decide (0 ≤ a.f3) && decide (a.f3 < a.f2)) || (decide (0 ≤ b.f3) && decide (b.f3 < b.f2)) || (decide (0 ≤ c.f3) && decide (c.f3 < c.f2)))) := ⟨rfl⟩
  generalize hbb : (bad a || bad b || bad c) = bb at HBAD
  have HBB := Aside0.mk hbb
  clear hbb
  go_cut [40] (fun v40 wc => v40 = .bool bb ∧ w1 = wc)
  case first =>
    have hB := HBAD.out
    clear x0 x1 y0 y1 z0 z1
    by_cases p1 : 0 ≤ a.f3
    · have q1 : decide (0 ≤ a.f3) = true := decide_eq_true p1
      by_cases p2 : a.f3 < a.f2
      · have q2 : decide (a.f3 < a.f2) = true := decide_eq_true p2
        simp only [q1, q2, Bool.true_and, Bool.false_and, Bool.true_or, Bool.false_or, Bool.or_false, Bool.or_true, Bool.or_self] at hB
        subst hB
        go_wp2
        go_meet
        case rel => exact ⟨rfl, rfl⟩
      · have q2 : decide (a.f3 < a.f2) = false := decide_eq_false p2
        by_cases p3 : 0 ≤ b.f3
        · have q3 : decide (0 ≤ b.f3) = true := decide_eq_true p3
          by_cases p4 : b.f3 < b.f2
          · have q4 : decide (b.f3 < b.f2) = true := decide_eq_true p4
            simp only [q1, q2, q3, q4, Bool.true_and, Bool.false_and, Bool.true_or, Bool.false_or, Bool.or_false, Bool.or_true, Bool.or_self] at hB
            subst hB
            go_wp2
            go_meet
            case rel => exact ⟨rfl, rfl⟩
          · have q4 : decide (b.f3 < b.f2) = false := decide_eq_false p4
            by_cases p5 : 0 ≤ c.f3
            · have q5 : decide (0 ≤ c.f3) = true := decide_eq_true p5
              by_cases p6 : c.f3 < c.f2
              · have q6 : decide (c.f3 < c.f2) = true := decide_eq_true p6
                simp only [q1, q2, q3, q4, q5, q6, Bool.true_and, Bool.false_and, Bool.true_or, Bool.false_or, Bool.or_false, Bool.or_true, Bool.or_self] at hB
                subst hB
                go_wp2
                go_meet
                case rel => exact ⟨rfl, rfl⟩
              · have q6 : decide (c.f3 < c.f2) = false := decide_eq_false p6
                simp only [q1, q2, q3, q4, q5, q6, Bool.true_and, Bool.false_and, Bool.true_or, Bool.false_or, Bool.or_false, Bool.or_true, Bool.or_self] at hB
                subst hB
                go_wp2
                go_meet
                case rel => exact ⟨rfl, rfl⟩
            · have q5 : decide (0 ≤ c.f3) = false := decide_eq_false p5
              simp only [q1, q2, q3, q4, q5, Bool.true_and, Bool.false_and, Bool.true_or, Bool.false_or, Bool.or_false, Bool.or_true, Bool.or_self] at hB
              subst hB
              go_wp2
              go_meet
              case rel => exact ⟨rfl, rfl⟩
        · have q3 : decide (0 ≤ b.f3) = false := decide_eq_false p3
          by_cases p7 : 0 ≤ c.f3
          · have q7 : decide (0 ≤ c.f3) = true := decide_eq_true p7
            by_cases p8 : c.f3 < c.f2
            · have q8 : decide (c.f3 < c.f2) = true := decide_eq_true p8
              simp only [q1, q2, q3, q7, q8, Bool.true_and, Bool.false_and, Bool.true_or, Bool.false_or, Bool.or_false, Bool.or_true, Bool.or_self] at hB
              subst hB
              go_wp2
              go_meet
              case rel => exact ⟨rfl, rfl⟩
            · have q8 : decide (c.f3 < c.f2) = false := decide_eq_false p8
              simp only [q1, q2, q3, q7, q8, Bool.true_and, Bool.false_and, Bool.true_or, Bool.false_or, Bool.or_false, Bool.or_true, Bool.or_self] at hB
              subst hB
              go_wp2
              go_meet
              case rel => exact ⟨rfl, rfl⟩
          · have q7 : decide (0 ≤ c.f3) = false := decide_eq_false p7
            simp only [q1, q2, q3, q7, Bool.true_and, Bool.false_and, Bool.true_or, Bool.false_or, Bool.or_false, Bool.or_true, Bool.or_self] at hB
            subst hB
            go_wp2
            go_meet
            case rel => exact ⟨rfl, rfl⟩
    · have q1 : decide (0 ≤ a.f3) = false := decide_eq_false p1
      by_cases p9 : 0 ≤ b.f3
      · have q9 : decide (0 ≤ b.f3) = true := decide_eq_true p9
        by_cases p10 : b.f3 < b.f2
        · have q10 : decide (b.f3 < b.f2) = true := decide_eq_true p10
          simp only [q1, q9, q10, Bool.true_and, Bool.false_and, Bool.true_or, Bool.false_or, Bool.or_false, Bool.or_true, Bool.or_self] at hB
          subst hB
          go_wp2
          go_meet
          case rel => exact ⟨rfl, rfl⟩
        · have q10 : decide (b.f3 < b.f2) = false := decide_eq_false p10
          by_cases p11 : 0 ≤ c.f3
          · have q11 : decide (0 ≤ c.f3) = true := decide_eq_true p11
            by_cases p12 : c.f3 < c.f2
            · have q12 : decide (c.f3 < c.f2) = true := decide_eq_true p12
              simp only [q1, q9, q10, q11, q12, Bool.true_and, Bool.false_and, Bool.true_or, Bool.false_or, Bool.or_false, Bool.or_true, Bool.or_self] at hB
              subst hB
              go_wp2
              go_meet
              case rel => exact ⟨rfl, rfl⟩
            · have q12 : decide (c.f3 < c.f2) = false := decide_eq_false p12
              simp only [q1, q9, q10, q11, q12, Bool.true_and, Bool.false_and, Bool.true_or, Bool.false_or, Bool.or_false, Bool.or_true, Bool.or_self] at hB
              subst hB
              go_wp2
              go_meet
              case rel => exact ⟨rfl, rfl⟩
          · have q11 : decide (0 ≤ c.f3) = false := decide_eq_false p11
            simp only [q1, q9, q10, q11, Bool.true_and, Bool.false_and, Bool.true_or, Bool.false_or, Bool.or_false, Bool.or_true, Bool.or_self] at hB
            subst hB
            go_wp2
            go_meet
            case rel => exact ⟨rfl, rfl⟩
      · have q9 : decide (0 ≤ b.f3) = false := decide_eq_false p9
        by_cases p13 : 0 ≤ c.f3
        · have q13 : decide (0 ≤ c.f3) = true := decide_eq_true p13
          by_cases p14 : c.f3 < c.f2
          · have q14 : decide (c.f3 < c.f2) = true := decide_eq_true p14
            simp only [q1, q9, q13, q14, Bool.true_and, Bool.false_and, Bool.true_or, Bool.false_or, Bool.or_false, Bool.or_true, Bool.or_self] at hB
            subst hB
            go_wp2
            go_meet
            case rel => exact ⟨rfl, rfl⟩
          · have q14 : decide (c.f3 < c.f2) = false := decide_eq_false p14
            simp only [q1, q9, q13, q14, Bool.true_and, Bool.false_and, Bool.true_or, Bool.false_or, Bool.or_false, Bool.or_true, Bool.or_self] at hB
            subst hB
            go_wp2
            go_meet
            case rel => exact ⟨rfl, rfl⟩
        · have q13 : decide (0 ≤ c.f3) = false := decide_eq_false p13
          simp only [q1, q9, q13, Bool.true_and, Bool.false_and, Bool.true_or, Bool.false_or, Bool.or_false, Bool.or_true, Bool.or_self] at hB
          subst hB
          go_wp2
          go_meet
          case rel => exact ⟨rfl, rfl⟩
  case rest =>
    obtain ⟨rfl, rfl⟩ := hcut
    clear HBAD
    cases bb with
    | true =>
      go_wp2_with fail
      refine (HL.out _).mono ?_
      rintro e2 w2 ⟨rfl, hb2⟩
      have H2 := Aside0.mk (H1.out.step hb2)
      clear hb2 x0 x1 x2 x3 y0 y1 y2 y3 z0 z1 z2 z3
      go_wp2
      go_ret
      exact ⟨rfl, H2.out.below⟩
    | false =>
      have hm := math a b c HBB.out
      have Hab := Lib.hid (fun w => HF.ahead a b w)
      have Hba := Lib.hid (fun w => HF.ahead b a w)
      have Hbc := Lib.hid (fun w => HF.ahead b c w)
      have Hac := Lib.hid (fun w => HF.ahead a c w)
      generalize aheadB a b = ab at hm Hab
      generalize aheadB b a = ba at hm Hba
      generalize aheadB b c = bc at hm Hbc
      generalize aheadB a c = ac at hm Hac
      clear x0 x1 x2 x3 y0 y1 y2 y3 z0 z1 z2 z3
      rcases hm with rfl | ⟨rfl, rfl, rfl⟩ | ⟨rfl, rfl, rfl, rfl⟩
      · go_wp2_with fail
        refine (HL.out _).mono ?_
        rintro e2 w2 ⟨rfl, hb2⟩
        have H2 := Aside0.mk (H1.out.step hb2)
        clear hb2 H1
        try clear x0 x1 x2 x3 y0 y1 y2 y3 z0 z1 z2 z3
        obtain ⟨x0, x1, x2, x3⟩ := cells_of H2.out.ba
        obtain ⟨y0, y1, y2, y3⟩ := cells_of H2.out.bb
        obtain ⟨z0, z1, z2, z3⟩ := cells_of H2.out.bc
        go_wp2_with fail
        refine (Hab.out _).mono ?_
        rintro e3 w3 ⟨rfl, hb3⟩
        have H3 := Aside0.mk (H2.out.step hb3)
        clear hb3 H2
        try clear x0 x1 x2 x3 y0 y1 y2 y3 z0 z1 z2 z3
        obtain ⟨x0, x1, x2, x3⟩ := cells_of H3.out.ba
        obtain ⟨y0, y1, y2, y3⟩ := cells_of H3.out.bb
        obtain ⟨z0, z1, z2, z3⟩ := cells_of H3.out.bc
        go_wp2_with fail
        refine (Hab.out _).mono ?_
        rintro e4 w4 ⟨rfl, hb4⟩
        have H4 := Aside0.mk (H3.out.step hb4)
        clear hb4 H3
        try clear x0 x1 x2 x3 y0 y1 y2 y3 z0 z1 z2 z3
        obtain ⟨x0, x1, x2, x3⟩ := cells_of H4.out.ba
        obtain ⟨y0, y1, y2, y3⟩ := cells_of H4.out.bb
        obtain ⟨z0, z1, z2, z3⟩ := cells_of H4.out.bc
        go_wp2_with fail
        go_ret
        exact ⟨by simp, H4.out.below⟩
      · go_wp2_with fail
        refine (HL.out _).mono ?_
        rintro e2 w2 ⟨rfl, hb2⟩
        have H2 := Aside0.mk (H1.out.step hb2)
        clear hb2 H1
        try clear x0 x1 x2 x3 y0 y1 y2 y3 z0 z1 z2 z3
        obtain ⟨x0, x1, x2, x3⟩ := cells_of H2.out.ba
        obtain ⟨y0, y1, y2, y3⟩ := cells_of H2.out.bb
        obtain ⟨z0, z1, z2, z3⟩ := cells_of H2.out.bc
        go_wp2_with fail
        refine (Hab.out _).mono ?_
        rintro e3 w3 ⟨rfl, hb3⟩
        have H3 := Aside0.mk (H2.out.step hb3)
        clear hb3 H2
        try clear x0 x1 x2 x3 y0 y1 y2 y3 z0 z1 z2 z3
        obtain ⟨x0, x1, x2, x3⟩ := cells_of H3.out.ba
        obtain ⟨y0, y1, y2, y3⟩ := cells_of H3.out.bb
        obtain ⟨z0, z1, z2, z3⟩ := cells_of H3.out.bc
        go_wp2_with fail
        refine (Hba.out _).mono ?_
        rintro e4 w4 ⟨rfl, hb4⟩
        have H4 := Aside0.mk (H3.out.step hb4)
        clear hb4 H3
        try clear x0 x1 x2 x3 y0 y1 y2 y3 z0 z1 z2 z3
        obtain ⟨x0, x1, x2, x3⟩ := cells_of H4.out.ba
        obtain ⟨y0, y1, y2, y3⟩ := cells_of H4.out.bb
        obtain ⟨z0, z1, z2, z3⟩ := cells_of H4.out.bc
        go_wp2_with fail
        refine (Hab.out _).mono ?_
        rintro e5 w5 ⟨rfl, hb5⟩
        have H5 := Aside0.mk (H4.out.step hb5)
        clear hb5 H4
        try clear x0 x1 x2 x3 y0 y1 y2 y3 z0 z1 z2 z3
        obtain ⟨x0, x1, x2, x3⟩ := cells_of H5.out.ba
        obtain ⟨y0, y1, y2, y3⟩ := cells_of H5.out.bb
        obtain ⟨z0, z1, z2, z3⟩ := cells_of H5.out.bc
        go_wp2_with fail
        refine (Hbc.out _).mono ?_
        rintro e6 w6 ⟨rfl, hb6⟩
        have H6 := Aside0.mk (H5.out.step hb6)
        clear hb6 H5
        try clear x0 x1 x2 x3 y0 y1 y2 y3 z0 z1 z2 z3
        obtain ⟨x0, x1, x2, x3⟩ := cells_of H6.out.ba
        obtain ⟨y0, y1, y2, y3⟩ := cells_of H6.out.bb
        obtain ⟨z0, z1, z2, z3⟩ := cells_of H6.out.bc
        go_wp2_with fail
        go_ret
        exact ⟨by simp, H6.out.below⟩
      · go_wp2_with fail
        refine (HL.out _).mono ?_
        rintro e2 w2 ⟨rfl, hb2⟩
        have H2 := Aside0.mk (H1.out.step hb2)
        clear hb2 H1
        try clear x0 x1 x2 x3 y0 y1 y2 y3 z0 z1 z2 z3
        obtain ⟨x0, x1, x2, x3⟩ := cells_of H2.out.ba
        obtain ⟨y0, y1, y2, y3⟩ := cells_of H2.out.bb
        obtain ⟨z0, z1, z2, z3⟩ := cells_of H2.out.bc
        go_wp2_with fail
        refine (Hab.out _).mono ?_
        rintro e3 w3 ⟨rfl, hb3⟩
        have H3 := Aside0.mk (H2.out.step hb3)
        clear hb3 H2
        try clear x0 x1 x2 x3 y0 y1 y2 y3 z0 z1 z2 z3
        obtain ⟨x0, x1, x2, x3⟩ := cells_of H3.out.ba
        obtain ⟨y0, y1, y2, y3⟩ := cells_of H3.out.bb
        obtain ⟨z0, z1, z2, z3⟩ := cells_of H3.out.bc
        go_wp2_with fail
        refine (Hba.out _).mono ?_
        rintro e4 w4 ⟨rfl, hb4⟩
        have H4 := Aside0.mk (H3.out.step hb4)
        clear hb4 H3
        try clear x0 x1 x2 x3 y0 y1 y2 y3 z0 z1 z2 z3
        obtain ⟨x0, x1, x2, x3⟩ := cells_of H4.out.ba
        obtain ⟨y0, y1, y2, y3⟩ := cells_of H4.out.bb
        obtain ⟨z0, z1, z2, z3⟩ := cells_of H4.out.bc
        go_wp2_with fail
        refine (Hab.out _).mono ?_
        rintro e5 w5 ⟨rfl, hb5⟩
        have H5 := Aside0.mk (H4.out.step hb5)
        clear hb5 H4
        try clear x0 x1 x2 x3 y0 y1 y2 y3 z0 z1 z2 z3
        obtain ⟨x0, x1, x2, x3⟩ := cells_of H5.out.ba
        obtain ⟨y0, y1, y2, y3⟩ := cells_of H5.out.bb
        obtain ⟨z0, z1, z2, z3⟩ := cells_of H5.out.bc
        go_wp2_with fail
        refine (Hbc.out _).mono ?_
        rintro e6 w6 ⟨rfl, hb6⟩
        have H6 := Aside0.mk (H5.out.step hb6)
        clear hb6 H5
        try clear x0 x1 x2 x3 y0 y1 y2 y3 z0 z1 z2 z3
        obtain ⟨x0, x1, x2, x3⟩ := cells_of H6.out.ba
        obtain ⟨y0, y1, y2, y3⟩ := cells_of H6.out.bb
        obtain ⟨z0, z1, z2, z3⟩ := cells_of H6.out.bc
        go_wp2_with fail
        refine (Hac.out _).mono ?_
        rintro e7 w7 ⟨rfl, hb7⟩
        have H7 := Aside0.mk (H6.out.step hb7)
        clear hb7 H6
        try clear x0 x1 x2 x3 y0 y1 y2 y3 z0 z1 z2 z3
        obtain ⟨x0, x1, x2, x3⟩ := cells_of H7.out.ba
        obtain ⟨y0, y1, y2, y3⟩ := cells_of H7.out.bb
        obtain ⟨z0, z1, z2, z3⟩ := cells_of H7.out.bc
        go_wp2_with fail
        go_ret
        exact ⟨by simp, H7.out.below⟩
theorem own : ownKnob Try.prog.godebug = none := by kernel_rfl
theorem cells36 : Try.prog.cellsOf 36 = 4 := by kernel_rfl
theorem int_mk {H : Type} {enc : TypeId × Value → H} {P : Program} {w : World} {base : Nat} {spare : Nat → Bool} {held : Bool} {t : TypeId} {k : IntKind} {x : Int}
    (hu : P.underlying t = some (.int k)) (wx : (Lit.int k x).wf = true) : ∃ n, DataW.trod enc P w base spare held n t [.int k x] = some (.lit (.int k x), []) :=
  ⟨1, by simp [DataW.trod, hu, wx]⟩
set_option maxRecDepth 100000 in
theorem lifted (os : Os) (started : os.Started) (H : Type) (enc : TypeId × Value → H) :
    ReturnsInHanded {} Try.checked os 5 .any (Rows.histAheadSpec.pre6 enc Try.prog Try.f5 Rows.histAheadRow.domain false) (Rows.histAheadSpec.post enc Try.prog Try.f5 false true false false) := by
  refine returnsInHanded_of_change_sized (C := Try.checked) own started (by kernel_rfl) Try.func5
    (ChangeSpec.witness6 (enc := enc) (C := Try.checked) false ⟨#[], #[.agg #[.int .i64 0, .int .i64 0, .int .i64 0, .int .i64 0], .agg #[.int .i64 0, .int .i64 0, .int .i64 0, .int .i64 0], .agg #[.int .i64 0, .int .i64 0, .int .i64 0, .int .i64 0]], []⟩ 8 (by kernel_rfl) (by kernel_rfl) (by kernel_rfl) (by kernel_rfl)) ?_
  intro W base args ds gs before hval0 hW hcnd _ _
  have hval : ∀ (j : Nat) t v, Try.f5.params[j]? = some t → args[j]? = some v → Value.okWide Try.prog W .any base t v := hval0
  have hW' := hW
  obtain ⟨p, q, hA0, hV, rfl, hfz, hnd⟩ := hW
  have hA : DataW.TrodAll enc Try.prog W 0 (fun _ => true) true Try.f5.params.toList args.toList ds p := hA0
  rw [Try.params5] at hA hval
  obtain ⟨v0, vs0, d0, ds0, p0, q0, hargs, rfl, rfl, h0, r0⟩ := trodAll_cons hA
  obtain ⟨v1, vs1, d1, ds1, p1, q1, rfl, rfl, rfl, h1, r1⟩ := trodAll_cons r0
  obtain ⟨v2, vs2, d2, ds2, p2, q2, rfl, rfl, rfl, h2, r2⟩ := trodAll_cons r1
  obtain ⟨rfl, rfl, rfl⟩ := trodAll_nil r2
  obtain rfl : args = #[v0, v1, v2] := by cases args; simp_all
  obtain ⟨rfl, rfl⟩ := trodVars_none hV
  obtain ⟨c0_0, c0_1, c0_2, c0_3, y0_0, y0_1, y0_2, y0_3, m0, rfl, rfl, rfl, hy0_0, hy0_1, hy0_2, hy0_3⟩ := open_agg4 Try.underlying36 (by kernel_rfl) cells36 (hval 0 36 v0 rfl rfl) h0
  obtain ⟨a0_0, e0_0, rfl, w0_0⟩ := DataW.trod_int Try.underlying3 hy0_0
  obtain ⟨a0_1, e0_1, rfl, w0_1⟩ := DataW.trod_int Try.underlying3 hy0_1
  obtain ⟨a0_2, e0_2, rfl, w0_2⟩ := DataW.trod_int Try.underlying3 hy0_2
  obtain ⟨a0_3, e0_3, rfl, w0_3⟩ := DataW.trod_int Try.underlying3 hy0_3
  simp only [List.cons.injEq, and_true] at e0_0 e0_1 e0_2 e0_3
  subst e0_0 e0_1 e0_2 e0_3
  obtain ⟨lo0_0, hi0_0⟩ := bounds_i64 w0_0
  obtain ⟨lo0_1, hi0_1⟩ := bounds_i64 w0_1
  obtain ⟨lo0_2, hi0_2⟩ := bounds_i64 w0_2
  obtain ⟨lo0_3, hi0_3⟩ := bounds_i64 w0_3
  obtain ⟨c1_0, c1_1, c1_2, c1_3, y1_0, y1_1, y1_2, y1_3, m1, rfl, rfl, rfl, hy1_0, hy1_1, hy1_2, hy1_3⟩ := open_agg4 Try.underlying36 (by kernel_rfl) cells36 (hval 1 36 v1 rfl rfl) h1
  obtain ⟨a1_0, e1_0, rfl, w1_0⟩ := DataW.trod_int Try.underlying3 hy1_0
  obtain ⟨a1_1, e1_1, rfl, w1_1⟩ := DataW.trod_int Try.underlying3 hy1_1
  obtain ⟨a1_2, e1_2, rfl, w1_2⟩ := DataW.trod_int Try.underlying3 hy1_2
  obtain ⟨a1_3, e1_3, rfl, w1_3⟩ := DataW.trod_int Try.underlying3 hy1_3
  simp only [List.cons.injEq, and_true] at e1_0 e1_1 e1_2 e1_3
  subst e1_0 e1_1 e1_2 e1_3
  obtain ⟨lo1_0, hi1_0⟩ := bounds_i64 w1_0
  obtain ⟨lo1_1, hi1_1⟩ := bounds_i64 w1_1
  obtain ⟨lo1_2, hi1_2⟩ := bounds_i64 w1_2
  obtain ⟨lo1_3, hi1_3⟩ := bounds_i64 w1_3
  obtain ⟨c2_0, c2_1, c2_2, c2_3, y2_0, y2_1, y2_2, y2_3, m2, rfl, rfl, rfl, hy2_0, hy2_1, hy2_2, hy2_3⟩ := open_agg4 Try.underlying36 (by kernel_rfl) cells36 (hval 2 36 v2 rfl rfl) h2
  obtain ⟨a2_0, e2_0, rfl, w2_0⟩ := DataW.trod_int Try.underlying3 hy2_0
  obtain ⟨a2_1, e2_1, rfl, w2_1⟩ := DataW.trod_int Try.underlying3 hy2_1
  obtain ⟨a2_2, e2_2, rfl, w2_2⟩ := DataW.trod_int Try.underlying3 hy2_2
  obtain ⟨a2_3, e2_3, rfl, w2_3⟩ := DataW.trod_int Try.underlying3 hy2_3
  simp only [List.cons.injEq, and_true] at e2_0 e2_1 e2_2 e2_3
  subst e2_0 e2_1 e2_2 e2_3
  obtain ⟨lo2_0, hi2_0⟩ := bounds_i64 w2_0
  obtain ⟨lo2_1, hi2_1⟩ := bounds_i64 w2_1
  obtain ⟨lo2_2, hi2_2⟩ := bounds_i64 w2_2
  obtain ⟨lo2_3, hi2_3⟩ := bounds_i64 w2_3
  clear hA0 hval0
  refine (walk ⟨a0_0, a0_1, a0_2, a0_3⟩ ⟨a1_0, a1_1, a1_2, a1_3⟩ ⟨a2_0, a2_1, a2_2, a2_3⟩ W).mono fun e W' ⟨he, bel⟩ => ?_
  subst he
  exact ⟨_, rfl, _, _, _, [], _, [], hW', trodAll_mk1 (shut_bool Try.underlying4 _), (trodAll_cons_mk (shut_agg4 (y0 := (.lit (.int .i64 a0_0), [])) (y1 := (.lit (.int .i64 a0_1), [])) (y2 := (.lit (.int .i64 a0_2), [])) (y3 := (.lit (.int .i64 a0_3), [])) Try.underlying36 (by kernel_rfl) cells36 (int_mk Try.underlying3 w0_0) (int_mk Try.underlying3 w0_1) (int_mk Try.underlying3 w0_2) (int_mk Try.underlying3 w0_3)) (trodAll_cons_mk (shut_agg4 (y0 := (.lit (.int .i64 a1_0), [])) (y1 := (.lit (.int .i64 a1_1), [])) (y2 := (.lit (.int .i64 a1_2), [])) (y3 := (.lit (.int .i64 a1_3), [])) Try.underlying36 (by kernel_rfl) cells36 (int_mk Try.underlying3 w1_0) (int_mk Try.underlying3 w1_1) (int_mk Try.underlying3 w1_2) (int_mk Try.underlying3 w1_3)) (trodAll_cons_mk (shut_agg4 (y0 := (.lit (.int .i64 a2_0), [])) (y1 := (.lit (.int .i64 a2_1), [])) (y2 := (.lit (.int .i64 a2_2), [])) (y3 := (.lit (.int .i64 a2_3), [])) Try.underlying36 (by kernel_rfl) cells36 (int_mk Try.underlying3 w2_0) (int_mk Try.underlying3 w2_1) (int_mk Try.underlying3 w2_2) (int_mk Try.underlying3 w2_3)) trodAll_mk0))), rfl, bel.frame _, fun h => by cases h⟩
theorem over : Rows.histAheadRow.holds Try.pinned (OpenSpec.ofChange Rows.histAheadSpec) :=
  OpenClaim.holds_of_wide 5 Try.f5 rfl rfl rfl rfl rfl rfl rfl ⟨rfl, rfl, rfl, rfl, rfl⟩ rfl rfl rfl rfl rfl (by kernel_rfl) Try.func5 (by kernel_rfl)
    (of_decide_eq_true (by kernel_rfl)) (by unfold Func.isWrapper; first | (rw [if_pos (by decide +kernel)]; kernel_rfl) | (rw [if_neg (by decide +kernel)]; exact ⟨rfl, rfl⟩))
    (fun os started H enc _ => lifted os started H enc)
end Go.Proofs.Ytfmhdfgliamkkaa.histAhead
namespace Go.Proofs.Ytfmhdfgliamkkaa
theorem histAhead_holds : Rows.HistAheadSaid := histAhead.over
end Go.Proofs.Ytfmhdfgliamkkaa
