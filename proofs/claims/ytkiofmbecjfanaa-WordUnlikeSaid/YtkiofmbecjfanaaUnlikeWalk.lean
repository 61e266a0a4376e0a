/- The walk of WordUnlike. -/
import Derived.Test.YtkiofmbecjfanaaPWordSlotsx2
import Derived.Test.YtkiofmbecjfanaaPWordHandlesx1
import Derived.WalkKit
import Derived.Below
import Derived.Lib.Hide
import Derived.Outline
import Derived.BigQuiet
import Derived.Deep.QuietTactic
namespace Go.Proofs.Ytkiofmbecjfanaa.wordUnlike
open Go.RowKit
open Go.Proofs.YtkiofmbecjfanaaW.PrintWords Go.Proofs.YtkiofmbecjfanaaW.PrintLast Go.Proofs.YtkiofmbecjfanaaW.PrintMore
set_option linter.unusedVariables false
theorem below_drewN {B : Nat} {a w : World} (h : Below B a w) (n : Nat) : Below B a (w.drewN n) := ⟨h.os, h.tape, h.output, h.size, h.block⟩
theorem bcell {W w1 : World} (hb : Below W.heap.size W w1) : (∀ b o, b < W.heap.size → w1.cell? ⟨b, o, none⟩ = W.cell? ⟨b, o, none⟩) ∧ (∀ b o, b < W.heap.size → w1.frozen? ⟨b, o, none⟩ = W.frozen? ⟨b, o, none⟩) :=
  ⟨fun b o h => hb.cell (p := ⟨b, o, none⟩) h, fun b o h => hb.frozen (p := ⟨b, o, none⟩) h⟩
theorem eql33 (w : World) (x0 y0 : Int) (x1 y1 : Int) (x2 y2 : Int) :
    (binOp .eql 33 (.agg #[.int .u8 x0, .int .u64 x1, .int .u64 x2]) (.agg #[.int .u8 y0, .int .u64 y1, .int .u64 y2])).run Try.prog w = .ok (.bool (x0 == y0 && (x1 == y1 && (x2 == y2)))) w := by
  simp only [binOp]
  simp [Op.equal, Op.maxDepth, PWordSlots.eqA33 9998]

/-- The three boxes of the law's arguments hold what they held. -/
structure Held (w w1 : World) (k0 g0 s0 k1 g1 s1 x y : Int) : Prop where
  below : Below w.heap.size w w1
  size : w.heap.size + 2 < w1.heap.size
  c00 : w1.cell? ⟨w.heap.size, 0, none⟩ = some (.int .u8 k0)
  c01 : w1.cell? ⟨w.heap.size, 1, none⟩ = some (.int .u64 g0)
  c02 : w1.cell? ⟨w.heap.size, 2, none⟩ = some (.int .u64 s0)
  c10 : w1.cell? ⟨w.heap.size + 1, 0, none⟩ = some (.int .u8 k1)
  c11 : w1.cell? ⟨w.heap.size + 1, 1, none⟩ = some (.int .u64 g1)
  c12 : w1.cell? ⟨w.heap.size + 1, 2, none⟩ = some (.int .u64 s1)
  c20 : w1.cell? ⟨w.heap.size + 2, 0, none⟩ = some (.int .u64 x)
  c21 : w1.cell? ⟨w.heap.size + 2, 1, none⟩ = some (.int .u64 y)
theorem Held.start (w : World) (k0 g0 s0 k1 g1 s1 x y : Int) : Held w (((w.alloc (.cells #[.int .u8 k0, .int .u64 g0, .int .u64 s0] 33)).alloc (.cells #[.int .u8 k1, .int .u64 g1, .int .u64 s1] 33)).alloc (.cells #[.int .u64 x, .int .u64 y] 41)) k0 g0 s0 k1 g1 s1 x y := by
  refine ⟨(((Below.refl _ _).alloc (Nat.le_refl _) _).alloc (by simp) _).alloc (by simp; omega) _, by simp, ?_, ?_, ?_, ?_, ?_, ?_, ?_, ?_⟩ <;> go_simp
theorem Held.step {w w1 w2 : World} {k0 g0 s0 k1 g1 s1 x y : Int} (h : Held w w1 k0 g0 s0 k1 g1 s1 x y) (hb : Below w1.heap.size w1 w2) : Held w w2 k0 g0 s0 k1 g1 s1 x y := by
  have hs := h.size
  obtain ⟨hc, _⟩ := bcell hb
  exact ⟨h.below.trans (hb.mono (by omega)), Nat.lt_of_lt_of_le hs hb.size, (hc _ _ (by omega)).trans h.c00, (hc _ _ (by omega)).trans h.c01, (hc _ _ (by omega)).trans h.c02, (hc _ _ (by omega)).trans h.c10, (hc _ _ (by omega)).trans h.c11, (hc _ _ (by omega)).trans h.c12, (hc _ _ (by omega)).trans h.c20, (hc _ _ (by omega)).trans h.c21⟩
set_option maxHeartbeats 1000000 in
set_option maxRecDepth 100000 in
theorem walk_a1 (k0 g0 s0 k1 g1 s1 x y a e b f u1 u2 u3 v1 v2 v3 z1 z2 : Int) (w : World)
    (hp : Hid (PWordSlots.word_Pack.f k0 g0 s0 = some (a, e))) (hq : Hid (PWordSlots.word_Pack.f k1 g1 s1 = some (b, f)))
    (hu : Hid (PWordHandles.word_Unhandle.f x = some (u1, u2, u3))) (hv : Hid (PWordHandles.word_Unhandle.f y = some (v1, v2, v3))) (hz : Hid (PWordHandles.word_Unhandle.f 0 = some (z1, z2, 33)))
    (hl : Hid (PWordHandles.shutterlaw01_live.f 2 = some true)) (he : (e == 0) = false) (hu3 : (u3 != 0) = true) :
    Calls Try.prog 6 #[.agg #[.int .u8 k0, .int .u64 g0, .int .u64 s0], .agg #[.int .u8 k1, .int .u64 g1, .int .u64 s1], .agg #[.int .u64 x, .int .u64 y]] w fun e w' => e = .returned (.bool true) ∧ Below w.heap.size w w' := by
  go_enter Try.func6, Try.ntmps6
  go_wp2_with fail
  refine (PWordSlots.word_Pack.calls k0 g0 s0 a e _ hp.out).mono ?_
  rintro e1 w1 ⟨rfl, hb1⟩
  have H1 := (Held.start w k0 g0 s0 k1 g1 s1 x y).step hb1
  clear hb1
  obtain ⟨-, -, -, -, -, c10, c11, c12, -, -⟩ := id H1
  go_wp2_with fail
  refine (PWordSlots.word_Pack.calls k1 g1 s1 b f _ hq.out).mono ?_
  clear c10 c11 c12
  rintro e1 w2 ⟨rfl, hb1⟩
  have H2 := H1.step hb1
  clear hb1 H1
  obtain ⟨-, -, c00, c01, c02, c10, c11, c12, c20, c21⟩ := id H2
  go_wp2_with fail
  refine (PWordHandles.word_Unhandle.calls x u1 u2 u3 _ hu.out).mono ?_
  rintro e1 w3 ⟨rfl, ⟨n1, rfl⟩⟩
  go_wp2_with fail
  refine (PWordHandles.word_Unhandle.calls y v1 v2 v3 _ hv.out).mono ?_
  rintro e1 w3 ⟨rfl, ⟨n2, rfl⟩⟩
  go_wp2_with fail
  refine (PWordHandles.word_Unhandle.calls 0 z1 z2 33 _ hz.out).mono ?_
  rintro e1 w3 ⟨rfl, ⟨n3, rfl⟩⟩
  go_wp2_with fail
  refine (PWordHandles.shutterlaw01_live.calls 2 true _ hl.out).mono ?_
  rintro e1 w3 ⟨rfl, ⟨n4, rfl⟩⟩
  go_wp2_with fail
  go_ret
  exact ⟨by simp, by first | exact H2.below | exact below_drewN H2.below _⟩
set_option maxHeartbeats 1000000 in
set_option maxRecDepth 100000 in
theorem walk_a2 (k0 g0 s0 k1 g1 s1 x y a e b f u1 u2 u3 v1 v2 v3 z1 z2 : Int) (w : World)
    (hp : Hid (PWordSlots.word_Pack.f k0 g0 s0 = some (a, e))) (hq : Hid (PWordSlots.word_Pack.f k1 g1 s1 = some (b, f)))
    (hu : Hid (PWordHandles.word_Unhandle.f x = some (u1, u2, u3))) (hv : Hid (PWordHandles.word_Unhandle.f y = some (v1, v2, v3))) (hz : Hid (PWordHandles.word_Unhandle.f 0 = some (z1, z2, 33)))
    (hl : Hid (PWordHandles.shutterlaw01_live.f 2 = some true)) (he : (e == 0) = false) (hu3 : (u3 != 0) = false) (hv3 : (v3 != 0) = true) :
    Calls Try.prog 6 #[.agg #[.int .u8 k0, .int .u64 g0, .int .u64 s0], .agg #[.int .u8 k1, .int .u64 g1, .int .u64 s1], .agg #[.int .u64 x, .int .u64 y]] w fun e w' => e = .returned (.bool true) ∧ Below w.heap.size w w' := by
  go_enter Try.func6, Try.ntmps6
  go_wp2_with fail
  refine (PWordSlots.word_Pack.calls k0 g0 s0 a e _ hp.out).mono ?_
  rintro e1 w1 ⟨rfl, hb1⟩
  have H1 := (Held.start w k0 g0 s0 k1 g1 s1 x y).step hb1
  clear hb1
  obtain ⟨-, -, -, -, -, c10, c11, c12, -, -⟩ := id H1
  go_wp2_with fail
  refine (PWordSlots.word_Pack.calls k1 g1 s1 b f _ hq.out).mono ?_
  clear c10 c11 c12
  rintro e1 w2 ⟨rfl, hb1⟩
  have H2 := H1.step hb1
  clear hb1 H1
  obtain ⟨-, -, c00, c01, c02, c10, c11, c12, c20, c21⟩ := id H2
  go_wp2_with fail
  refine (PWordHandles.word_Unhandle.calls x u1 u2 u3 _ hu.out).mono ?_
  rintro e1 w3 ⟨rfl, ⟨n1, rfl⟩⟩
  go_wp2_with fail
  refine (PWordHandles.word_Unhandle.calls y v1 v2 v3 _ hv.out).mono ?_
  rintro e1 w3 ⟨rfl, ⟨n2, rfl⟩⟩
  go_wp2_with fail
  refine (PWordHandles.word_Unhandle.calls 0 z1 z2 33 _ hz.out).mono ?_
  rintro e1 w3 ⟨rfl, ⟨n3, rfl⟩⟩
  go_wp2_with fail
  refine (PWordHandles.shutterlaw01_live.calls 2 true _ hl.out).mono ?_
  rintro e1 w3 ⟨rfl, ⟨n4, rfl⟩⟩
  go_wp2_with fail
  go_ret
  exact ⟨by simp, by first | exact H2.below | exact below_drewN H2.below _⟩
set_option maxHeartbeats 1000000 in
set_option maxRecDepth 100000 in
theorem walk_a3 (k0 g0 s0 k1 g1 s1 x y a e b f u1 u2 u3 v1 v2 v3 z1 z2 : Int) (w : World)
    (hp : Hid (PWordSlots.word_Pack.f k0 g0 s0 = some (a, e))) (hq : Hid (PWordSlots.word_Pack.f k1 g1 s1 = some (b, f)))
    (hu : Hid (PWordHandles.word_Unhandle.f x = some (u1, u2, u3))) (hv : Hid (PWordHandles.word_Unhandle.f y = some (v1, v2, v3))) (hz : Hid (PWordHandles.word_Unhandle.f 0 = some (z1, z2, 33)))
    (hl : Hid (PWordHandles.shutterlaw01_live.f 2 = some true)) (he : (e == 0) = false) (hu3 : (u3 != 0) = false) (hv3 : (v3 != 0) = false) (h1 : (u1 == v1) = false) (hxy : (x == y) = false) :
    Calls Try.prog 6 #[.agg #[.int .u8 k0, .int .u64 g0, .int .u64 s0], .agg #[.int .u8 k1, .int .u64 g1, .int .u64 s1], .agg #[.int .u64 x, .int .u64 y]] w fun e w' => e = .returned (.bool true) ∧ Below w.heap.size w w' := by
  go_enter Try.func6, Try.ntmps6
  go_wp2_with fail
  refine (PWordSlots.word_Pack.calls k0 g0 s0 a e _ hp.out).mono ?_
  rintro e1 w1 ⟨rfl, hb1⟩
  have H1 := (Held.start w k0 g0 s0 k1 g1 s1 x y).step hb1
  clear hb1
  obtain ⟨-, -, -, -, -, c10, c11, c12, -, -⟩ := id H1
  go_wp2_with fail
  refine (PWordSlots.word_Pack.calls k1 g1 s1 b f _ hq.out).mono ?_
  clear c10 c11 c12
  rintro e1 w2 ⟨rfl, hb1⟩
  have H2 := H1.step hb1
  clear hb1 H1
  obtain ⟨-, -, c00, c01, c02, c10, c11, c12, c20, c21⟩ := id H2
  go_wp2_with fail
  refine (PWordHandles.word_Unhandle.calls x u1 u2 u3 _ hu.out).mono ?_
  rintro e1 w3 ⟨rfl, ⟨n1, rfl⟩⟩
  go_wp2_with fail
  refine (PWordHandles.word_Unhandle.calls y v1 v2 v3 _ hv.out).mono ?_
  rintro e1 w3 ⟨rfl, ⟨n2, rfl⟩⟩
  go_wp2_with fail
  refine (PWordHandles.word_Unhandle.calls 0 z1 z2 33 _ hz.out).mono ?_
  rintro e1 w3 ⟨rfl, ⟨n3, rfl⟩⟩
  go_wp2_with fail
  refine (PWordHandles.shutterlaw01_live.calls 2 true _ hl.out).mono ?_
  rintro e1 w3 ⟨rfl, ⟨n4, rfl⟩⟩
  go_wp2_with fail
  go_ret
  exact ⟨by simp, by first | exact H2.below | exact below_drewN H2.below _⟩
set_option maxHeartbeats 1000000 in
set_option maxRecDepth 100000 in
theorem walk_a4 (k0 g0 s0 k1 g1 s1 x y a e b f u1 u2 u3 v1 v2 v3 z1 z2 : Int) (w : World)
    (hp : Hid (PWordSlots.word_Pack.f k0 g0 s0 = some (a, e))) (hq : Hid (PWordSlots.word_Pack.f k1 g1 s1 = some (b, f)))
    (hu : Hid (PWordHandles.word_Unhandle.f x = some (u1, u2, u3))) (hv : Hid (PWordHandles.word_Unhandle.f y = some (v1, v2, v3))) (hz : Hid (PWordHandles.word_Unhandle.f 0 = some (z1, z2, 33)))
    (hl : Hid (PWordHandles.shutterlaw01_live.f 2 = some true)) (he : (e == 0) = false) (hu3 : (u3 != 0) = false) (hv3 : (v3 != 0) = false) (h1 : (u1 == v1) = true) (h2 : (u2 == v2) = false) (hxy : (x == y) = false) :
    Calls Try.prog 6 #[.agg #[.int .u8 k0, .int .u64 g0, .int .u64 s0], .agg #[.int .u8 k1, .int .u64 g1, .int .u64 s1], .agg #[.int .u64 x, .int .u64 y]] w fun e w' => e = .returned (.bool true) ∧ Below w.heap.size w w' := by
  go_enter Try.func6, Try.ntmps6
  go_wp2_with fail
  refine (PWordSlots.word_Pack.calls k0 g0 s0 a e _ hp.out).mono ?_
  rintro e1 w1 ⟨rfl, hb1⟩
  have H1 := (Held.start w k0 g0 s0 k1 g1 s1 x y).step hb1
  clear hb1
  obtain ⟨-, -, -, -, -, c10, c11, c12, -, -⟩ := id H1
  go_wp2_with fail
  refine (PWordSlots.word_Pack.calls k1 g1 s1 b f _ hq.out).mono ?_
  clear c10 c11 c12
  rintro e1 w2 ⟨rfl, hb1⟩
  have H2 := H1.step hb1
  clear hb1 H1
  obtain ⟨-, -, c00, c01, c02, c10, c11, c12, c20, c21⟩ := id H2
  go_wp2_with fail
  refine (PWordHandles.word_Unhandle.calls x u1 u2 u3 _ hu.out).mono ?_
  rintro e1 w3 ⟨rfl, ⟨n1, rfl⟩⟩
  go_wp2_with fail
  refine (PWordHandles.word_Unhandle.calls y v1 v2 v3 _ hv.out).mono ?_
  rintro e1 w3 ⟨rfl, ⟨n2, rfl⟩⟩
  go_wp2_with fail
  refine (PWordHandles.word_Unhandle.calls 0 z1 z2 33 _ hz.out).mono ?_
  rintro e1 w3 ⟨rfl, ⟨n3, rfl⟩⟩
  go_wp2_with fail
  refine (PWordHandles.shutterlaw01_live.calls 2 true _ hl.out).mono ?_
  rintro e1 w3 ⟨rfl, ⟨n4, rfl⟩⟩
  go_wp2_with fail
  go_ret
  exact ⟨by simp, by first | exact H2.below | exact below_drewN H2.below _⟩
set_option maxHeartbeats 1000000 in
set_option maxRecDepth 100000 in
theorem walk_a5 (k0 g0 s0 k1 g1 s1 x y a e b f u1 u2 u3 v1 v2 v3 z1 z2 : Int) (w : World)
    (hp : Hid (PWordSlots.word_Pack.f k0 g0 s0 = some (a, e))) (hq : Hid (PWordSlots.word_Pack.f k1 g1 s1 = some (b, f)))
    (hu : Hid (PWordHandles.word_Unhandle.f x = some (u1, u2, u3))) (hv : Hid (PWordHandles.word_Unhandle.f y = some (v1, v2, v3))) (hz : Hid (PWordHandles.word_Unhandle.f 0 = some (z1, z2, 33)))
    (hl : Hid (PWordHandles.shutterlaw01_live.f 2 = some true)) (he : (e == 0) = false) (hu3 : (u3 != 0) = false) (hv3 : (v3 != 0) = false) (h1 : (u1 == v1) = true) (h2 : (u2 == v2) = true) (hxy : (x == y) = true) :
    Calls Try.prog 6 #[.agg #[.int .u8 k0, .int .u64 g0, .int .u64 s0], .agg #[.int .u8 k1, .int .u64 g1, .int .u64 s1], .agg #[.int .u64 x, .int .u64 y]] w fun e w' => e = .returned (.bool true) ∧ Below w.heap.size w w' := by
  go_enter Try.func6, Try.ntmps6
  go_wp2_with fail
  refine (PWordSlots.word_Pack.calls k0 g0 s0 a e _ hp.out).mono ?_
  rintro e1 w1 ⟨rfl, hb1⟩
  have H1 := (Held.start w k0 g0 s0 k1 g1 s1 x y).step hb1
  clear hb1
  obtain ⟨-, -, -, -, -, c10, c11, c12, -, -⟩ := id H1
  go_wp2_with fail
  refine (PWordSlots.word_Pack.calls k1 g1 s1 b f _ hq.out).mono ?_
  clear c10 c11 c12
  rintro e1 w2 ⟨rfl, hb1⟩
  have H2 := H1.step hb1
  clear hb1 H1
  obtain ⟨-, -, c00, c01, c02, c10, c11, c12, c20, c21⟩ := id H2
  go_wp2_with fail
  refine (PWordHandles.word_Unhandle.calls x u1 u2 u3 _ hu.out).mono ?_
  rintro e1 w3 ⟨rfl, ⟨n1, rfl⟩⟩
  go_wp2_with fail
  refine (PWordHandles.word_Unhandle.calls y v1 v2 v3 _ hv.out).mono ?_
  rintro e1 w3 ⟨rfl, ⟨n2, rfl⟩⟩
  go_wp2_with fail
  refine (PWordHandles.word_Unhandle.calls 0 z1 z2 33 _ hz.out).mono ?_
  rintro e1 w3 ⟨rfl, ⟨n3, rfl⟩⟩
  go_wp2_with fail
  refine (PWordHandles.shutterlaw01_live.calls 2 true _ hl.out).mono ?_
  rintro e1 w3 ⟨rfl, ⟨n4, rfl⟩⟩
  go_wp2_with fail
  go_ret
  exact ⟨by simp, by first | exact H2.below | exact below_drewN H2.below _⟩
set_option maxHeartbeats 1000000 in
set_option maxRecDepth 100000 in
theorem walk_b1 (k0 g0 s0 k1 g1 s1 x y a e b f u1 u2 u3 v1 v2 v3 z1 z2 : Int) (w : World)
    (hp : Hid (PWordSlots.word_Pack.f k0 g0 s0 = some (a, e))) (hq : Hid (PWordSlots.word_Pack.f k1 g1 s1 = some (b, f)))
    (hu : Hid (PWordHandles.word_Unhandle.f x = some (u1, u2, u3))) (hv : Hid (PWordHandles.word_Unhandle.f y = some (v1, v2, v3))) (hz : Hid (PWordHandles.word_Unhandle.f 0 = some (z1, z2, 33)))
    (hl : Hid (PWordHandles.shutterlaw01_live.f 2 = some true)) (he : (e == 0) = true) (hf : (f == 0) = false) (hu3 : (u3 != 0) = true) :
    Calls Try.prog 6 #[.agg #[.int .u8 k0, .int .u64 g0, .int .u64 s0], .agg #[.int .u8 k1, .int .u64 g1, .int .u64 s1], .agg #[.int .u64 x, .int .u64 y]] w fun e w' => e = .returned (.bool true) ∧ Below w.heap.size w w' := by
  go_enter Try.func6, Try.ntmps6
  go_wp2_with fail
  refine (PWordSlots.word_Pack.calls k0 g0 s0 a e _ hp.out).mono ?_
  rintro e1 w1 ⟨rfl, hb1⟩
  have H1 := (Held.start w k0 g0 s0 k1 g1 s1 x y).step hb1
  clear hb1
  obtain ⟨-, -, -, -, -, c10, c11, c12, -, -⟩ := id H1
  go_wp2_with fail
  refine (PWordSlots.word_Pack.calls k1 g1 s1 b f _ hq.out).mono ?_
  clear c10 c11 c12
  rintro e1 w2 ⟨rfl, hb1⟩
  have H2 := H1.step hb1
  clear hb1 H1
  obtain ⟨-, -, c00, c01, c02, c10, c11, c12, c20, c21⟩ := id H2
  go_wp2_with fail
  refine (PWordHandles.word_Unhandle.calls x u1 u2 u3 _ hu.out).mono ?_
  rintro e1 w3 ⟨rfl, ⟨n1, rfl⟩⟩
  go_wp2_with fail
  refine (PWordHandles.word_Unhandle.calls y v1 v2 v3 _ hv.out).mono ?_
  rintro e1 w3 ⟨rfl, ⟨n2, rfl⟩⟩
  go_wp2_with fail
  refine (PWordHandles.word_Unhandle.calls 0 z1 z2 33 _ hz.out).mono ?_
  rintro e1 w3 ⟨rfl, ⟨n3, rfl⟩⟩
  go_wp2_with fail
  refine (PWordHandles.shutterlaw01_live.calls 2 true _ hl.out).mono ?_
  rintro e1 w3 ⟨rfl, ⟨n4, rfl⟩⟩
  go_wp2_with fail
  go_ret
  exact ⟨by simp, by first | exact H2.below | exact below_drewN H2.below _⟩
set_option maxHeartbeats 1000000 in
set_option maxRecDepth 100000 in
theorem walk_b2 (k0 g0 s0 k1 g1 s1 x y a e b f u1 u2 u3 v1 v2 v3 z1 z2 : Int) (w : World)
    (hp : Hid (PWordSlots.word_Pack.f k0 g0 s0 = some (a, e))) (hq : Hid (PWordSlots.word_Pack.f k1 g1 s1 = some (b, f)))
    (hu : Hid (PWordHandles.word_Unhandle.f x = some (u1, u2, u3))) (hv : Hid (PWordHandles.word_Unhandle.f y = some (v1, v2, v3))) (hz : Hid (PWordHandles.word_Unhandle.f 0 = some (z1, z2, 33)))
    (hl : Hid (PWordHandles.shutterlaw01_live.f 2 = some true)) (he : (e == 0) = true) (hf : (f == 0) = false) (hu3 : (u3 != 0) = false) (hv3 : (v3 != 0) = true) :
    Calls Try.prog 6 #[.agg #[.int .u8 k0, .int .u64 g0, .int .u64 s0], .agg #[.int .u8 k1, .int .u64 g1, .int .u64 s1], .agg #[.int .u64 x, .int .u64 y]] w fun e w' => e = .returned (.bool true) ∧ Below w.heap.size w w' := by
  go_enter Try.func6, Try.ntmps6
  go_wp2_with fail
  refine (PWordSlots.word_Pack.calls k0 g0 s0 a e _ hp.out).mono ?_
  rintro e1 w1 ⟨rfl, hb1⟩
  have H1 := (Held.start w k0 g0 s0 k1 g1 s1 x y).step hb1
  clear hb1
  obtain ⟨-, -, -, -, -, c10, c11, c12, -, -⟩ := id H1
  go_wp2_with fail
  refine (PWordSlots.word_Pack.calls k1 g1 s1 b f _ hq.out).mono ?_
  clear c10 c11 c12
  rintro e1 w2 ⟨rfl, hb1⟩
  have H2 := H1.step hb1
  clear hb1 H1
  obtain ⟨-, -, c00, c01, c02, c10, c11, c12, c20, c21⟩ := id H2
  go_wp2_with fail
  refine (PWordHandles.word_Unhandle.calls x u1 u2 u3 _ hu.out).mono ?_
  rintro e1 w3 ⟨rfl, ⟨n1, rfl⟩⟩
  go_wp2_with fail
  refine (PWordHandles.word_Unhandle.calls y v1 v2 v3 _ hv.out).mono ?_
  rintro e1 w3 ⟨rfl, ⟨n2, rfl⟩⟩
  go_wp2_with fail
  refine (PWordHandles.word_Unhandle.calls 0 z1 z2 33 _ hz.out).mono ?_
  rintro e1 w3 ⟨rfl, ⟨n3, rfl⟩⟩
  go_wp2_with fail
  refine (PWordHandles.shutterlaw01_live.calls 2 true _ hl.out).mono ?_
  rintro e1 w3 ⟨rfl, ⟨n4, rfl⟩⟩
  go_wp2_with fail
  go_ret
  exact ⟨by simp, by first | exact H2.below | exact below_drewN H2.below _⟩
set_option maxHeartbeats 1000000 in
set_option maxRecDepth 100000 in
theorem walk_b3 (k0 g0 s0 k1 g1 s1 x y a e b f u1 u2 u3 v1 v2 v3 z1 z2 : Int) (w : World)
    (hp : Hid (PWordSlots.word_Pack.f k0 g0 s0 = some (a, e))) (hq : Hid (PWordSlots.word_Pack.f k1 g1 s1 = some (b, f)))
    (hu : Hid (PWordHandles.word_Unhandle.f x = some (u1, u2, u3))) (hv : Hid (PWordHandles.word_Unhandle.f y = some (v1, v2, v3))) (hz : Hid (PWordHandles.word_Unhandle.f 0 = some (z1, z2, 33)))
    (hl : Hid (PWordHandles.shutterlaw01_live.f 2 = some true)) (he : (e == 0) = true) (hf : (f == 0) = false) (hu3 : (u3 != 0) = false) (hv3 : (v3 != 0) = false) (h1 : (u1 == v1) = false) (hxy : (x == y) = false) :
    Calls Try.prog 6 #[.agg #[.int .u8 k0, .int .u64 g0, .int .u64 s0], .agg #[.int .u8 k1, .int .u64 g1, .int .u64 s1], .agg #[.int .u64 x, .int .u64 y]] w fun e w' => e = .returned (.bool true) ∧ Below w.heap.size w w' := by
  go_enter Try.func6, Try.ntmps6
  go_wp2_with fail
  refine (PWordSlots.word_Pack.calls k0 g0 s0 a e _ hp.out).mono ?_
  rintro e1 w1 ⟨rfl, hb1⟩
  have H1 := (Held.start w k0 g0 s0 k1 g1 s1 x y).step hb1
  clear hb1
  obtain ⟨-, -, -, -, -, c10, c11, c12, -, -⟩ := id H1
  go_wp2_with fail
  refine (PWordSlots.word_Pack.calls k1 g1 s1 b f _ hq.out).mono ?_
  clear c10 c11 c12
  rintro e1 w2 ⟨rfl, hb1⟩
  have H2 := H1.step hb1
  clear hb1 H1
  obtain ⟨-, -, c00, c01, c02, c10, c11, c12, c20, c21⟩ := id H2
  go_wp2_with fail
  refine (PWordHandles.word_Unhandle.calls x u1 u2 u3 _ hu.out).mono ?_
  rintro e1 w3 ⟨rfl, ⟨n1, rfl⟩⟩
  go_wp2_with fail
  refine (PWordHandles.word_Unhandle.calls y v1 v2 v3 _ hv.out).mono ?_
  rintro e1 w3 ⟨rfl, ⟨n2, rfl⟩⟩
  go_wp2_with fail
  refine (PWordHandles.word_Unhandle.calls 0 z1 z2 33 _ hz.out).mono ?_
  rintro e1 w3 ⟨rfl, ⟨n3, rfl⟩⟩
  go_wp2_with fail
  refine (PWordHandles.shutterlaw01_live.calls 2 true _ hl.out).mono ?_
  rintro e1 w3 ⟨rfl, ⟨n4, rfl⟩⟩
  go_wp2_with fail
  go_ret
  exact ⟨by simp, by first | exact H2.below | exact below_drewN H2.below _⟩
set_option maxHeartbeats 1000000 in
set_option maxRecDepth 100000 in
theorem walk_b4 (k0 g0 s0 k1 g1 s1 x y a e b f u1 u2 u3 v1 v2 v3 z1 z2 : Int) (w : World)
    (hp : Hid (PWordSlots.word_Pack.f k0 g0 s0 = some (a, e))) (hq : Hid (PWordSlots.word_Pack.f k1 g1 s1 = some (b, f)))
    (hu : Hid (PWordHandles.word_Unhandle.f x = some (u1, u2, u3))) (hv : Hid (PWordHandles.word_Unhandle.f y = some (v1, v2, v3))) (hz : Hid (PWordHandles.word_Unhandle.f 0 = some (z1, z2, 33)))
    (hl : Hid (PWordHandles.shutterlaw01_live.f 2 = some true)) (he : (e == 0) = true) (hf : (f == 0) = false) (hu3 : (u3 != 0) = false) (hv3 : (v3 != 0) = false) (h1 : (u1 == v1) = true) (h2 : (u2 == v2) = false) (hxy : (x == y) = false) :
    Calls Try.prog 6 #[.agg #[.int .u8 k0, .int .u64 g0, .int .u64 s0], .agg #[.int .u8 k1, .int .u64 g1, .int .u64 s1], .agg #[.int .u64 x, .int .u64 y]] w fun e w' => e = .returned (.bool true) ∧ Below w.heap.size w w' := by
  go_enter Try.func6, Try.ntmps6
  go_wp2_with fail
  refine (PWordSlots.word_Pack.calls k0 g0 s0 a e _ hp.out).mono ?_
  rintro e1 w1 ⟨rfl, hb1⟩
  have H1 := (Held.start w k0 g0 s0 k1 g1 s1 x y).step hb1
  clear hb1
  obtain ⟨-, -, -, -, -, c10, c11, c12, -, -⟩ := id H1
  go_wp2_with fail
  refine (PWordSlots.word_Pack.calls k1 g1 s1 b f _ hq.out).mono ?_
  clear c10 c11 c12
  rintro e1 w2 ⟨rfl, hb1⟩
  have H2 := H1.step hb1
  clear hb1 H1
  obtain ⟨-, -, c00, c01, c02, c10, c11, c12, c20, c21⟩ := id H2
  go_wp2_with fail
  refine (PWordHandles.word_Unhandle.calls x u1 u2 u3 _ hu.out).mono ?_
  rintro e1 w3 ⟨rfl, ⟨n1, rfl⟩⟩
  go_wp2_with fail
  refine (PWordHandles.word_Unhandle.calls y v1 v2 v3 _ hv.out).mono ?_
  rintro e1 w3 ⟨rfl, ⟨n2, rfl⟩⟩
  go_wp2_with fail
  refine (PWordHandles.word_Unhandle.calls 0 z1 z2 33 _ hz.out).mono ?_
  rintro e1 w3 ⟨rfl, ⟨n3, rfl⟩⟩
  go_wp2_with fail
  refine (PWordHandles.shutterlaw01_live.calls 2 true _ hl.out).mono ?_
  rintro e1 w3 ⟨rfl, ⟨n4, rfl⟩⟩
  go_wp2_with fail
  go_ret
  exact ⟨by simp, by first | exact H2.below | exact below_drewN H2.below _⟩
set_option maxHeartbeats 1000000 in
set_option maxRecDepth 100000 in
theorem walk_b5 (k0 g0 s0 k1 g1 s1 x y a e b f u1 u2 u3 v1 v2 v3 z1 z2 : Int) (w : World)
    (hp : Hid (PWordSlots.word_Pack.f k0 g0 s0 = some (a, e))) (hq : Hid (PWordSlots.word_Pack.f k1 g1 s1 = some (b, f)))
    (hu : Hid (PWordHandles.word_Unhandle.f x = some (u1, u2, u3))) (hv : Hid (PWordHandles.word_Unhandle.f y = some (v1, v2, v3))) (hz : Hid (PWordHandles.word_Unhandle.f 0 = some (z1, z2, 33)))
    (hl : Hid (PWordHandles.shutterlaw01_live.f 2 = some true)) (he : (e == 0) = true) (hf : (f == 0) = false) (hu3 : (u3 != 0) = false) (hv3 : (v3 != 0) = false) (h1 : (u1 == v1) = true) (h2 : (u2 == v2) = true) (hxy : (x == y) = true) :
    Calls Try.prog 6 #[.agg #[.int .u8 k0, .int .u64 g0, .int .u64 s0], .agg #[.int .u8 k1, .int .u64 g1, .int .u64 s1], .agg #[.int .u64 x, .int .u64 y]] w fun e w' => e = .returned (.bool true) ∧ Below w.heap.size w w' := by
  go_enter Try.func6, Try.ntmps6
  go_wp2_with fail
  refine (PWordSlots.word_Pack.calls k0 g0 s0 a e _ hp.out).mono ?_
  rintro e1 w1 ⟨rfl, hb1⟩
  have H1 := (Held.start w k0 g0 s0 k1 g1 s1 x y).step hb1
  clear hb1
  obtain ⟨-, -, -, -, -, c10, c11, c12, -, -⟩ := id H1
  go_wp2_with fail
  refine (PWordSlots.word_Pack.calls k1 g1 s1 b f _ hq.out).mono ?_
  clear c10 c11 c12
  rintro e1 w2 ⟨rfl, hb1⟩
  have H2 := H1.step hb1
  clear hb1 H1
  obtain ⟨-, -, c00, c01, c02, c10, c11, c12, c20, c21⟩ := id H2
  go_wp2_with fail
  refine (PWordHandles.word_Unhandle.calls x u1 u2 u3 _ hu.out).mono ?_
  rintro e1 w3 ⟨rfl, ⟨n1, rfl⟩⟩
  go_wp2_with fail
  refine (PWordHandles.word_Unhandle.calls y v1 v2 v3 _ hv.out).mono ?_
  rintro e1 w3 ⟨rfl, ⟨n2, rfl⟩⟩
  go_wp2_with fail
  refine (PWordHandles.word_Unhandle.calls 0 z1 z2 33 _ hz.out).mono ?_
  rintro e1 w3 ⟨rfl, ⟨n3, rfl⟩⟩
  go_wp2_with fail
  refine (PWordHandles.shutterlaw01_live.calls 2 true _ hl.out).mono ?_
  rintro e1 w3 ⟨rfl, ⟨n4, rfl⟩⟩
  go_wp2_with fail
  go_ret
  exact ⟨by simp, by first | exact H2.below | exact below_drewN H2.below _⟩
set_option maxHeartbeats 1000000 in
set_option maxRecDepth 100000 in
theorem walk_c1 (k0 g0 s0 k1 g1 s1 x y a e b f u1 u2 u3 v1 v2 v3 z1 z2 : Int) (w : World)
    (hp : Hid (PWordSlots.word_Pack.f k0 g0 s0 = some (a, e))) (hq : Hid (PWordSlots.word_Pack.f k1 g1 s1 = some (b, f)))
    (hu : Hid (PWordHandles.word_Unhandle.f x = some (u1, u2, u3))) (hv : Hid (PWordHandles.word_Unhandle.f y = some (v1, v2, v3))) (hz : Hid (PWordHandles.word_Unhandle.f 0 = some (z1, z2, 33)))
    (hl : Hid (PWordHandles.shutterlaw01_live.f 2 = some true)) (he : (e == 0) = true) (hf : (f == 0) = true) (hab : (a == b) = true) (hk : (k0 == k1) = true) (hg : (g0 == g1) = true) (hs : (s0 == s1) = true) (hu3 : (u3 != 0) = true) :
    Calls Try.prog 6 #[.agg #[.int .u8 k0, .int .u64 g0, .int .u64 s0], .agg #[.int .u8 k1, .int .u64 g1, .int .u64 s1], .agg #[.int .u64 x, .int .u64 y]] w fun e w' => e = .returned (.bool true) ∧ Below w.heap.size w w' := by
  have heq := fun w => eql33 w k0 k1 g0 g1 s0 s1
  go_enter Try.func6, Try.ntmps6
  go_wp2_with fail
  refine (PWordSlots.word_Pack.calls k0 g0 s0 a e _ hp.out).mono ?_
  rintro e1 w1 ⟨rfl, hb1⟩
  have H1 := (Held.start w k0 g0 s0 k1 g1 s1 x y).step hb1
  clear hb1
  obtain ⟨-, -, -, -, -, c10, c11, c12, -, -⟩ := id H1
  go_wp2_with fail
  refine (PWordSlots.word_Pack.calls k1 g1 s1 b f _ hq.out).mono ?_
  clear c10 c11 c12
  rintro e1 w2 ⟨rfl, hb1⟩
  have H2 := H1.step hb1
  clear hb1 H1
  obtain ⟨-, -, c00, c01, c02, c10, c11, c12, c20, c21⟩ := id H2
  go_wp2_with fail
  refine (PWordHandles.word_Unhandle.calls x u1 u2 u3 _ hu.out).mono ?_
  rintro e1 w3 ⟨rfl, ⟨n1, rfl⟩⟩
  go_wp2_with fail
  refine (PWordHandles.word_Unhandle.calls y v1 v2 v3 _ hv.out).mono ?_
  rintro e1 w3 ⟨rfl, ⟨n2, rfl⟩⟩
  go_wp2_with fail
  refine (PWordHandles.word_Unhandle.calls 0 z1 z2 33 _ hz.out).mono ?_
  rintro e1 w3 ⟨rfl, ⟨n3, rfl⟩⟩
  go_wp2_with fail
  refine (PWordHandles.shutterlaw01_live.calls 2 true _ hl.out).mono ?_
  rintro e1 w3 ⟨rfl, ⟨n4, rfl⟩⟩
  go_wp2_with fail
  go_ret
  exact ⟨by simp, by first | exact H2.below | exact below_drewN H2.below _⟩
set_option maxHeartbeats 1000000 in
set_option maxRecDepth 100000 in
theorem walk_c2 (k0 g0 s0 k1 g1 s1 x y a e b f u1 u2 u3 v1 v2 v3 z1 z2 : Int) (w : World)
    (hp : Hid (PWordSlots.word_Pack.f k0 g0 s0 = some (a, e))) (hq : Hid (PWordSlots.word_Pack.f k1 g1 s1 = some (b, f)))
    (hu : Hid (PWordHandles.word_Unhandle.f x = some (u1, u2, u3))) (hv : Hid (PWordHandles.word_Unhandle.f y = some (v1, v2, v3))) (hz : Hid (PWordHandles.word_Unhandle.f 0 = some (z1, z2, 33)))
    (hl : Hid (PWordHandles.shutterlaw01_live.f 2 = some true)) (he : (e == 0) = true) (hf : (f == 0) = true) (hab : (a == b) = true) (hk : (k0 == k1) = true) (hg : (g0 == g1) = true) (hs : (s0 == s1) = true) (hu3 : (u3 != 0) = false) (hv3 : (v3 != 0) = true) :
    Calls Try.prog 6 #[.agg #[.int .u8 k0, .int .u64 g0, .int .u64 s0], .agg #[.int .u8 k1, .int .u64 g1, .int .u64 s1], .agg #[.int .u64 x, .int .u64 y]] w fun e w' => e = .returned (.bool true) ∧ Below w.heap.size w w' := by
  have heq := fun w => eql33 w k0 k1 g0 g1 s0 s1
  go_enter Try.func6, Try.ntmps6
  go_wp2_with fail
  refine (PWordSlots.word_Pack.calls k0 g0 s0 a e _ hp.out).mono ?_
  rintro e1 w1 ⟨rfl, hb1⟩
  have H1 := (Held.start w k0 g0 s0 k1 g1 s1 x y).step hb1
  clear hb1
  obtain ⟨-, -, -, -, -, c10, c11, c12, -, -⟩ := id H1
  go_wp2_with fail
  refine (PWordSlots.word_Pack.calls k1 g1 s1 b f _ hq.out).mono ?_
  clear c10 c11 c12
  rintro e1 w2 ⟨rfl, hb1⟩
  have H2 := H1.step hb1
  clear hb1 H1
  obtain ⟨-, -, c00, c01, c02, c10, c11, c12, c20, c21⟩ := id H2
  go_wp2_with fail
  refine (PWordHandles.word_Unhandle.calls x u1 u2 u3 _ hu.out).mono ?_
  rintro e1 w3 ⟨rfl, ⟨n1, rfl⟩⟩
  go_wp2_with fail
  refine (PWordHandles.word_Unhandle.calls y v1 v2 v3 _ hv.out).mono ?_
  rintro e1 w3 ⟨rfl, ⟨n2, rfl⟩⟩
  go_wp2_with fail
  refine (PWordHandles.word_Unhandle.calls 0 z1 z2 33 _ hz.out).mono ?_
  rintro e1 w3 ⟨rfl, ⟨n3, rfl⟩⟩
  go_wp2_with fail
  refine (PWordHandles.shutterlaw01_live.calls 2 true _ hl.out).mono ?_
  rintro e1 w3 ⟨rfl, ⟨n4, rfl⟩⟩
  go_wp2_with fail
  go_ret
  exact ⟨by simp, by first | exact H2.below | exact below_drewN H2.below _⟩
set_option maxHeartbeats 1000000 in
set_option maxRecDepth 100000 in
theorem walk_c3 (k0 g0 s0 k1 g1 s1 x y a e b f u1 u2 u3 v1 v2 v3 z1 z2 : Int) (w : World)
    (hp : Hid (PWordSlots.word_Pack.f k0 g0 s0 = some (a, e))) (hq : Hid (PWordSlots.word_Pack.f k1 g1 s1 = some (b, f)))
    (hu : Hid (PWordHandles.word_Unhandle.f x = some (u1, u2, u3))) (hv : Hid (PWordHandles.word_Unhandle.f y = some (v1, v2, v3))) (hz : Hid (PWordHandles.word_Unhandle.f 0 = some (z1, z2, 33)))
    (hl : Hid (PWordHandles.shutterlaw01_live.f 2 = some true)) (he : (e == 0) = true) (hf : (f == 0) = true) (hab : (a == b) = true) (hk : (k0 == k1) = true) (hg : (g0 == g1) = true) (hs : (s0 == s1) = true) (hu3 : (u3 != 0) = false) (hv3 : (v3 != 0) = false) (h1 : (u1 == v1) = false) (hxy : (x == y) = false) :
    Calls Try.prog 6 #[.agg #[.int .u8 k0, .int .u64 g0, .int .u64 s0], .agg #[.int .u8 k1, .int .u64 g1, .int .u64 s1], .agg #[.int .u64 x, .int .u64 y]] w fun e w' => e = .returned (.bool true) ∧ Below w.heap.size w w' := by
  have heq := fun w => eql33 w k0 k1 g0 g1 s0 s1
  go_enter Try.func6, Try.ntmps6
  go_wp2_with fail
  refine (PWordSlots.word_Pack.calls k0 g0 s0 a e _ hp.out).mono ?_
  rintro e1 w1 ⟨rfl, hb1⟩
  have H1 := (Held.start w k0 g0 s0 k1 g1 s1 x y).step hb1
  clear hb1
  obtain ⟨-, -, -, -, -, c10, c11, c12, -, -⟩ := id H1
  go_wp2_with fail
  refine (PWordSlots.word_Pack.calls k1 g1 s1 b f _ hq.out).mono ?_
  clear c10 c11 c12
  rintro e1 w2 ⟨rfl, hb1⟩
  have H2 := H1.step hb1
  clear hb1 H1
  obtain ⟨-, -, c00, c01, c02, c10, c11, c12, c20, c21⟩ := id H2
  go_wp2_with fail
  refine (PWordHandles.word_Unhandle.calls x u1 u2 u3 _ hu.out).mono ?_
  rintro e1 w3 ⟨rfl, ⟨n1, rfl⟩⟩
  go_wp2_with fail
  refine (PWordHandles.word_Unhandle.calls y v1 v2 v3 _ hv.out).mono ?_
  rintro e1 w3 ⟨rfl, ⟨n2, rfl⟩⟩
  go_wp2_with fail
  refine (PWordHandles.word_Unhandle.calls 0 z1 z2 33 _ hz.out).mono ?_
  rintro e1 w3 ⟨rfl, ⟨n3, rfl⟩⟩
  go_wp2_with fail
  refine (PWordHandles.shutterlaw01_live.calls 2 true _ hl.out).mono ?_
  rintro e1 w3 ⟨rfl, ⟨n4, rfl⟩⟩
  go_wp2_with fail
  go_ret
  exact ⟨by simp, by first | exact H2.below | exact below_drewN H2.below _⟩
set_option maxHeartbeats 1000000 in
set_option maxRecDepth 100000 in
theorem walk_c4 (k0 g0 s0 k1 g1 s1 x y a e b f u1 u2 u3 v1 v2 v3 z1 z2 : Int) (w : World)
    (hp : Hid (PWordSlots.word_Pack.f k0 g0 s0 = some (a, e))) (hq : Hid (PWordSlots.word_Pack.f k1 g1 s1 = some (b, f)))
    (hu : Hid (PWordHandles.word_Unhandle.f x = some (u1, u2, u3))) (hv : Hid (PWordHandles.word_Unhandle.f y = some (v1, v2, v3))) (hz : Hid (PWordHandles.word_Unhandle.f 0 = some (z1, z2, 33)))
    (hl : Hid (PWordHandles.shutterlaw01_live.f 2 = some true)) (he : (e == 0) = true) (hf : (f == 0) = true) (hab : (a == b) = true) (hk : (k0 == k1) = true) (hg : (g0 == g1) = true) (hs : (s0 == s1) = true) (hu3 : (u3 != 0) = false) (hv3 : (v3 != 0) = false) (h1 : (u1 == v1) = true) (h2 : (u2 == v2) = false) (hxy : (x == y) = false) :
    Calls Try.prog 6 #[.agg #[.int .u8 k0, .int .u64 g0, .int .u64 s0], .agg #[.int .u8 k1, .int .u64 g1, .int .u64 s1], .agg #[.int .u64 x, .int .u64 y]] w fun e w' => e = .returned (.bool true) ∧ Below w.heap.size w w' := by
  have heq := fun w => eql33 w k0 k1 g0 g1 s0 s1
  go_enter Try.func6, Try.ntmps6
  go_wp2_with fail
  refine (PWordSlots.word_Pack.calls k0 g0 s0 a e _ hp.out).mono ?_
  rintro e1 w1 ⟨rfl, hb1⟩
  have H1 := (Held.start w k0 g0 s0 k1 g1 s1 x y).step hb1
  clear hb1
  obtain ⟨-, -, -, -, -, c10, c11, c12, -, -⟩ := id H1
  go_wp2_with fail
  refine (PWordSlots.word_Pack.calls k1 g1 s1 b f _ hq.out).mono ?_
  clear c10 c11 c12
  rintro e1 w2 ⟨rfl, hb1⟩
  have H2 := H1.step hb1
  clear hb1 H1
  obtain ⟨-, -, c00, c01, c02, c10, c11, c12, c20, c21⟩ := id H2
  go_wp2_with fail
  refine (PWordHandles.word_Unhandle.calls x u1 u2 u3 _ hu.out).mono ?_
  rintro e1 w3 ⟨rfl, ⟨n1, rfl⟩⟩
  go_wp2_with fail
  refine (PWordHandles.word_Unhandle.calls y v1 v2 v3 _ hv.out).mono ?_
  rintro e1 w3 ⟨rfl, ⟨n2, rfl⟩⟩
  go_wp2_with fail
  refine (PWordHandles.word_Unhandle.calls 0 z1 z2 33 _ hz.out).mono ?_
  rintro e1 w3 ⟨rfl, ⟨n3, rfl⟩⟩
  go_wp2_with fail
  refine (PWordHandles.shutterlaw01_live.calls 2 true _ hl.out).mono ?_
  rintro e1 w3 ⟨rfl, ⟨n4, rfl⟩⟩
  go_wp2_with fail
  go_ret
  exact ⟨by simp, by first | exact H2.below | exact below_drewN H2.below _⟩
set_option maxHeartbeats 1000000 in
set_option maxRecDepth 100000 in
theorem walk_c5 (k0 g0 s0 k1 g1 s1 x y a e b f u1 u2 u3 v1 v2 v3 z1 z2 : Int) (w : World)
    (hp : Hid (PWordSlots.word_Pack.f k0 g0 s0 = some (a, e))) (hq : Hid (PWordSlots.word_Pack.f k1 g1 s1 = some (b, f)))
    (hu : Hid (PWordHandles.word_Unhandle.f x = some (u1, u2, u3))) (hv : Hid (PWordHandles.word_Unhandle.f y = some (v1, v2, v3))) (hz : Hid (PWordHandles.word_Unhandle.f 0 = some (z1, z2, 33)))
    (hl : Hid (PWordHandles.shutterlaw01_live.f 2 = some true)) (he : (e == 0) = true) (hf : (f == 0) = true) (hab : (a == b) = true) (hk : (k0 == k1) = true) (hg : (g0 == g1) = true) (hs : (s0 == s1) = true) (hu3 : (u3 != 0) = false) (hv3 : (v3 != 0) = false) (h1 : (u1 == v1) = true) (h2 : (u2 == v2) = true) (hxy : (x == y) = true) :
    Calls Try.prog 6 #[.agg #[.int .u8 k0, .int .u64 g0, .int .u64 s0], .agg #[.int .u8 k1, .int .u64 g1, .int .u64 s1], .agg #[.int .u64 x, .int .u64 y]] w fun e w' => e = .returned (.bool true) ∧ Below w.heap.size w w' := by
  have heq := fun w => eql33 w k0 k1 g0 g1 s0 s1
  go_enter Try.func6, Try.ntmps6
  go_wp2_with fail
  refine (PWordSlots.word_Pack.calls k0 g0 s0 a e _ hp.out).mono ?_
  rintro e1 w1 ⟨rfl, hb1⟩
  have H1 := (Held.start w k0 g0 s0 k1 g1 s1 x y).step hb1
  clear hb1
  obtain ⟨-, -, -, -, -, c10, c11, c12, -, -⟩ := id H1
  go_wp2_with fail
  refine (PWordSlots.word_Pack.calls k1 g1 s1 b f _ hq.out).mono ?_
  clear c10 c11 c12
  rintro e1 w2 ⟨rfl, hb1⟩
  have H2 := H1.step hb1
  clear hb1 H1
  obtain ⟨-, -, c00, c01, c02, c10, c11, c12, c20, c21⟩ := id H2
  go_wp2_with fail
  refine (PWordHandles.word_Unhandle.calls x u1 u2 u3 _ hu.out).mono ?_
  rintro e1 w3 ⟨rfl, ⟨n1, rfl⟩⟩
  go_wp2_with fail
  refine (PWordHandles.word_Unhandle.calls y v1 v2 v3 _ hv.out).mono ?_
  rintro e1 w3 ⟨rfl, ⟨n2, rfl⟩⟩
  go_wp2_with fail
  refine (PWordHandles.word_Unhandle.calls 0 z1 z2 33 _ hz.out).mono ?_
  rintro e1 w3 ⟨rfl, ⟨n3, rfl⟩⟩
  go_wp2_with fail
  refine (PWordHandles.shutterlaw01_live.calls 2 true _ hl.out).mono ?_
  rintro e1 w3 ⟨rfl, ⟨n4, rfl⟩⟩
  go_wp2_with fail
  go_ret
  exact ⟨by simp, by first | exact H2.below | exact below_drewN H2.below _⟩
set_option maxHeartbeats 1000000 in
set_option maxRecDepth 100000 in
theorem walk_d1 (k0 g0 s0 k1 g1 s1 x y a e b f u1 u2 u3 v1 v2 v3 z1 z2 : Int) (w : World)
    (hp : Hid (PWordSlots.word_Pack.f k0 g0 s0 = some (a, e))) (hq : Hid (PWordSlots.word_Pack.f k1 g1 s1 = some (b, f)))
    (hu : Hid (PWordHandles.word_Unhandle.f x = some (u1, u2, u3))) (hv : Hid (PWordHandles.word_Unhandle.f y = some (v1, v2, v3))) (hz : Hid (PWordHandles.word_Unhandle.f 0 = some (z1, z2, 33)))
    (hl : Hid (PWordHandles.shutterlaw01_live.f 2 = some true)) (he : (e == 0) = true) (hf : (f == 0) = true) (hab : (a == b) = false) (hst : (k0 == k1 && (g0 == g1 && s0 == s1)) = false) (hu3 : (u3 != 0) = true) :
    Calls Try.prog 6 #[.agg #[.int .u8 k0, .int .u64 g0, .int .u64 s0], .agg #[.int .u8 k1, .int .u64 g1, .int .u64 s1], .agg #[.int .u64 x, .int .u64 y]] w fun e w' => e = .returned (.bool true) ∧ Below w.heap.size w w' := by
  have heq := fun w => eql33 w k0 k1 g0 g1 s0 s1
  go_enter Try.func6, Try.ntmps6
  go_wp2_with fail
  refine (PWordSlots.word_Pack.calls k0 g0 s0 a e _ hp.out).mono ?_
  rintro e1 w1 ⟨rfl, hb1⟩
  have H1 := (Held.start w k0 g0 s0 k1 g1 s1 x y).step hb1
  clear hb1
  obtain ⟨-, -, -, -, -, c10, c11, c12, -, -⟩ := id H1
  go_wp2_with fail
  refine (PWordSlots.word_Pack.calls k1 g1 s1 b f _ hq.out).mono ?_
  clear c10 c11 c12
  rintro e1 w2 ⟨rfl, hb1⟩
  have H2 := H1.step hb1
  clear hb1 H1
  obtain ⟨-, -, c00, c01, c02, c10, c11, c12, c20, c21⟩ := id H2
  go_wp2_with fail
  refine (PWordHandles.word_Unhandle.calls x u1 u2 u3 _ hu.out).mono ?_
  rintro e1 w3 ⟨rfl, ⟨n1, rfl⟩⟩
  go_wp2_with fail
  refine (PWordHandles.word_Unhandle.calls y v1 v2 v3 _ hv.out).mono ?_
  rintro e1 w3 ⟨rfl, ⟨n2, rfl⟩⟩
  go_wp2_with fail
  refine (PWordHandles.word_Unhandle.calls 0 z1 z2 33 _ hz.out).mono ?_
  rintro e1 w3 ⟨rfl, ⟨n3, rfl⟩⟩
  go_wp2_with fail
  refine (PWordHandles.shutterlaw01_live.calls 2 true _ hl.out).mono ?_
  rintro e1 w3 ⟨rfl, ⟨n4, rfl⟩⟩
  go_wp2_with fail
  go_ret
  exact ⟨by simp, by first | exact H2.below | exact below_drewN H2.below _⟩
set_option maxHeartbeats 1000000 in
set_option maxRecDepth 100000 in
theorem walk_d2 (k0 g0 s0 k1 g1 s1 x y a e b f u1 u2 u3 v1 v2 v3 z1 z2 : Int) (w : World)
    (hp : Hid (PWordSlots.word_Pack.f k0 g0 s0 = some (a, e))) (hq : Hid (PWordSlots.word_Pack.f k1 g1 s1 = some (b, f)))
    (hu : Hid (PWordHandles.word_Unhandle.f x = some (u1, u2, u3))) (hv : Hid (PWordHandles.word_Unhandle.f y = some (v1, v2, v3))) (hz : Hid (PWordHandles.word_Unhandle.f 0 = some (z1, z2, 33)))
    (hl : Hid (PWordHandles.shutterlaw01_live.f 2 = some true)) (he : (e == 0) = true) (hf : (f == 0) = true) (hab : (a == b) = false) (hst : (k0 == k1 && (g0 == g1 && s0 == s1)) = false) (hu3 : (u3 != 0) = false) (hv3 : (v3 != 0) = true) :
    Calls Try.prog 6 #[.agg #[.int .u8 k0, .int .u64 g0, .int .u64 s0], .agg #[.int .u8 k1, .int .u64 g1, .int .u64 s1], .agg #[.int .u64 x, .int .u64 y]] w fun e w' => e = .returned (.bool true) ∧ Below w.heap.size w w' := by
  have heq := fun w => eql33 w k0 k1 g0 g1 s0 s1
  go_enter Try.func6, Try.ntmps6
  go_wp2_with fail
  refine (PWordSlots.word_Pack.calls k0 g0 s0 a e _ hp.out).mono ?_
  rintro e1 w1 ⟨rfl, hb1⟩
  have H1 := (Held.start w k0 g0 s0 k1 g1 s1 x y).step hb1
  clear hb1
  obtain ⟨-, -, -, -, -, c10, c11, c12, -, -⟩ := id H1
  go_wp2_with fail
  refine (PWordSlots.word_Pack.calls k1 g1 s1 b f _ hq.out).mono ?_
  clear c10 c11 c12
  rintro e1 w2 ⟨rfl, hb1⟩
  have H2 := H1.step hb1
  clear hb1 H1
  obtain ⟨-, -, c00, c01, c02, c10, c11, c12, c20, c21⟩ := id H2
  go_wp2_with fail
  refine (PWordHandles.word_Unhandle.calls x u1 u2 u3 _ hu.out).mono ?_
  rintro e1 w3 ⟨rfl, ⟨n1, rfl⟩⟩
  go_wp2_with fail
  refine (PWordHandles.word_Unhandle.calls y v1 v2 v3 _ hv.out).mono ?_
  rintro e1 w3 ⟨rfl, ⟨n2, rfl⟩⟩
  go_wp2_with fail
  refine (PWordHandles.word_Unhandle.calls 0 z1 z2 33 _ hz.out).mono ?_
  rintro e1 w3 ⟨rfl, ⟨n3, rfl⟩⟩
  go_wp2_with fail
  refine (PWordHandles.shutterlaw01_live.calls 2 true _ hl.out).mono ?_
  rintro e1 w3 ⟨rfl, ⟨n4, rfl⟩⟩
  go_wp2_with fail
  go_ret
  exact ⟨by simp, by first | exact H2.below | exact below_drewN H2.below _⟩
set_option maxHeartbeats 1000000 in
set_option maxRecDepth 100000 in
theorem walk_d3 (k0 g0 s0 k1 g1 s1 x y a e b f u1 u2 u3 v1 v2 v3 z1 z2 : Int) (w : World)
    (hp : Hid (PWordSlots.word_Pack.f k0 g0 s0 = some (a, e))) (hq : Hid (PWordSlots.word_Pack.f k1 g1 s1 = some (b, f)))
    (hu : Hid (PWordHandles.word_Unhandle.f x = some (u1, u2, u3))) (hv : Hid (PWordHandles.word_Unhandle.f y = some (v1, v2, v3))) (hz : Hid (PWordHandles.word_Unhandle.f 0 = some (z1, z2, 33)))
    (hl : Hid (PWordHandles.shutterlaw01_live.f 2 = some true)) (he : (e == 0) = true) (hf : (f == 0) = true) (hab : (a == b) = false) (hst : (k0 == k1 && (g0 == g1 && s0 == s1)) = false) (hu3 : (u3 != 0) = false) (hv3 : (v3 != 0) = false) (h1 : (u1 == v1) = false) (hxy : (x == y) = false) :
    Calls Try.prog 6 #[.agg #[.int .u8 k0, .int .u64 g0, .int .u64 s0], .agg #[.int .u8 k1, .int .u64 g1, .int .u64 s1], .agg #[.int .u64 x, .int .u64 y]] w fun e w' => e = .returned (.bool true) ∧ Below w.heap.size w w' := by
  have heq := fun w => eql33 w k0 k1 g0 g1 s0 s1
  go_enter Try.func6, Try.ntmps6
  go_wp2_with fail
  refine (PWordSlots.word_Pack.calls k0 g0 s0 a e _ hp.out).mono ?_
  rintro e1 w1 ⟨rfl, hb1⟩
  have H1 := (Held.start w k0 g0 s0 k1 g1 s1 x y).step hb1
  clear hb1
  obtain ⟨-, -, -, -, -, c10, c11, c12, -, -⟩ := id H1
  go_wp2_with fail
  refine (PWordSlots.word_Pack.calls k1 g1 s1 b f _ hq.out).mono ?_
  clear c10 c11 c12
  rintro e1 w2 ⟨rfl, hb1⟩
  have H2 := H1.step hb1
  clear hb1 H1
  obtain ⟨-, -, c00, c01, c02, c10, c11, c12, c20, c21⟩ := id H2
  go_wp2_with fail
  refine (PWordHandles.word_Unhandle.calls x u1 u2 u3 _ hu.out).mono ?_
  rintro e1 w3 ⟨rfl, ⟨n1, rfl⟩⟩
  go_wp2_with fail
  refine (PWordHandles.word_Unhandle.calls y v1 v2 v3 _ hv.out).mono ?_
  rintro e1 w3 ⟨rfl, ⟨n2, rfl⟩⟩
  go_wp2_with fail
  refine (PWordHandles.word_Unhandle.calls 0 z1 z2 33 _ hz.out).mono ?_
  rintro e1 w3 ⟨rfl, ⟨n3, rfl⟩⟩
  go_wp2_with fail
  refine (PWordHandles.shutterlaw01_live.calls 2 true _ hl.out).mono ?_
  rintro e1 w3 ⟨rfl, ⟨n4, rfl⟩⟩
  go_wp2_with fail
  go_ret
  exact ⟨by simp, by first | exact H2.below | exact below_drewN H2.below _⟩
set_option maxHeartbeats 1000000 in
set_option maxRecDepth 100000 in
theorem walk_d4 (k0 g0 s0 k1 g1 s1 x y a e b f u1 u2 u3 v1 v2 v3 z1 z2 : Int) (w : World)
    (hp : Hid (PWordSlots.word_Pack.f k0 g0 s0 = some (a, e))) (hq : Hid (PWordSlots.word_Pack.f k1 g1 s1 = some (b, f)))
    (hu : Hid (PWordHandles.word_Unhandle.f x = some (u1, u2, u3))) (hv : Hid (PWordHandles.word_Unhandle.f y = some (v1, v2, v3))) (hz : Hid (PWordHandles.word_Unhandle.f 0 = some (z1, z2, 33)))
    (hl : Hid (PWordHandles.shutterlaw01_live.f 2 = some true)) (he : (e == 0) = true) (hf : (f == 0) = true) (hab : (a == b) = false) (hst : (k0 == k1 && (g0 == g1 && s0 == s1)) = false) (hu3 : (u3 != 0) = false) (hv3 : (v3 != 0) = false) (h1 : (u1 == v1) = true) (h2 : (u2 == v2) = false) (hxy : (x == y) = false) :
    Calls Try.prog 6 #[.agg #[.int .u8 k0, .int .u64 g0, .int .u64 s0], .agg #[.int .u8 k1, .int .u64 g1, .int .u64 s1], .agg #[.int .u64 x, .int .u64 y]] w fun e w' => e = .returned (.bool true) ∧ Below w.heap.size w w' := by
  have heq := fun w => eql33 w k0 k1 g0 g1 s0 s1
  go_enter Try.func6, Try.ntmps6
  go_wp2_with fail
  refine (PWordSlots.word_Pack.calls k0 g0 s0 a e _ hp.out).mono ?_
  rintro e1 w1 ⟨rfl, hb1⟩
  have H1 := (Held.start w k0 g0 s0 k1 g1 s1 x y).step hb1
  clear hb1
  obtain ⟨-, -, -, -, -, c10, c11, c12, -, -⟩ := id H1
  go_wp2_with fail
  refine (PWordSlots.word_Pack.calls k1 g1 s1 b f _ hq.out).mono ?_
  clear c10 c11 c12
  rintro e1 w2 ⟨rfl, hb1⟩
  have H2 := H1.step hb1
  clear hb1 H1
  obtain ⟨-, -, c00, c01, c02, c10, c11, c12, c20, c21⟩ := id H2
  go_wp2_with fail
  refine (PWordHandles.word_Unhandle.calls x u1 u2 u3 _ hu.out).mono ?_
  rintro e1 w3 ⟨rfl, ⟨n1, rfl⟩⟩
  go_wp2_with fail
  refine (PWordHandles.word_Unhandle.calls y v1 v2 v3 _ hv.out).mono ?_
  rintro e1 w3 ⟨rfl, ⟨n2, rfl⟩⟩
  go_wp2_with fail
  refine (PWordHandles.word_Unhandle.calls 0 z1 z2 33 _ hz.out).mono ?_
  rintro e1 w3 ⟨rfl, ⟨n3, rfl⟩⟩
  go_wp2_with fail
  refine (PWordHandles.shutterlaw01_live.calls 2 true _ hl.out).mono ?_
  rintro e1 w3 ⟨rfl, ⟨n4, rfl⟩⟩
  go_wp2_with fail
  go_ret
  exact ⟨by simp, by first | exact H2.below | exact below_drewN H2.below _⟩
set_option maxHeartbeats 1000000 in
set_option maxRecDepth 100000 in
theorem walk_d5 (k0 g0 s0 k1 g1 s1 x y a e b f u1 u2 u3 v1 v2 v3 z1 z2 : Int) (w : World)
    (hp : Hid (PWordSlots.word_Pack.f k0 g0 s0 = some (a, e))) (hq : Hid (PWordSlots.word_Pack.f k1 g1 s1 = some (b, f)))
    (hu : Hid (PWordHandles.word_Unhandle.f x = some (u1, u2, u3))) (hv : Hid (PWordHandles.word_Unhandle.f y = some (v1, v2, v3))) (hz : Hid (PWordHandles.word_Unhandle.f 0 = some (z1, z2, 33)))
    (hl : Hid (PWordHandles.shutterlaw01_live.f 2 = some true)) (he : (e == 0) = true) (hf : (f == 0) = true) (hab : (a == b) = false) (hst : (k0 == k1 && (g0 == g1 && s0 == s1)) = false) (hu3 : (u3 != 0) = false) (hv3 : (v3 != 0) = false) (h1 : (u1 == v1) = true) (h2 : (u2 == v2) = true) (hxy : (x == y) = true) :
    Calls Try.prog 6 #[.agg #[.int .u8 k0, .int .u64 g0, .int .u64 s0], .agg #[.int .u8 k1, .int .u64 g1, .int .u64 s1], .agg #[.int .u64 x, .int .u64 y]] w fun e w' => e = .returned (.bool true) ∧ Below w.heap.size w w' := by
  have heq := fun w => eql33 w k0 k1 g0 g1 s0 s1
  go_enter Try.func6, Try.ntmps6
  go_wp2_with fail
  refine (PWordSlots.word_Pack.calls k0 g0 s0 a e _ hp.out).mono ?_
  rintro e1 w1 ⟨rfl, hb1⟩
  have H1 := (Held.start w k0 g0 s0 k1 g1 s1 x y).step hb1
  clear hb1
  obtain ⟨-, -, -, -, -, c10, c11, c12, -, -⟩ := id H1
  go_wp2_with fail
  refine (PWordSlots.word_Pack.calls k1 g1 s1 b f _ hq.out).mono ?_
  clear c10 c11 c12
  rintro e1 w2 ⟨rfl, hb1⟩
  have H2 := H1.step hb1
  clear hb1 H1
  obtain ⟨-, -, c00, c01, c02, c10, c11, c12, c20, c21⟩ := id H2
  go_wp2_with fail
  refine (PWordHandles.word_Unhandle.calls x u1 u2 u3 _ hu.out).mono ?_
  rintro e1 w3 ⟨rfl, ⟨n1, rfl⟩⟩
  go_wp2_with fail
  refine (PWordHandles.word_Unhandle.calls y v1 v2 v3 _ hv.out).mono ?_
  rintro e1 w3 ⟨rfl, ⟨n2, rfl⟩⟩
  go_wp2_with fail
  refine (PWordHandles.word_Unhandle.calls 0 z1 z2 33 _ hz.out).mono ?_
  rintro e1 w3 ⟨rfl, ⟨n3, rfl⟩⟩
  go_wp2_with fail
  refine (PWordHandles.shutterlaw01_live.calls 2 true _ hl.out).mono ?_
  rintro e1 w3 ⟨rfl, ⟨n4, rfl⟩⟩
  go_wp2_with fail
  go_ret
  exact ⟨by simp, by first | exact H2.below | exact below_drewN H2.below _⟩
end Go.Proofs.Ytkiofmbecjfanaa.wordUnlike
