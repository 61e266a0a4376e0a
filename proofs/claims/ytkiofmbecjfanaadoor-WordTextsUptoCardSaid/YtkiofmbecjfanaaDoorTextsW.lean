/- The law WordTexts, walked over the contracts of Parse and Print: true at every slot, and at every text up to 1048576 bytes. -/
import Derived.Test.YtkiofmbecjfanaaDoorParseR
import Derived.Test.YtkiofmbecjfanaaDoorOwnx2
import Derived.Test.YtkiofmbecjfanaaDoorWEqStruct
namespace Go.Proofs.YtkiofmbecjfanaaDoor
open Go.Lib Go.RowKit Go.Proofs.YtkiofmbecjfanaaDoor.Math Go.Proofs.YtkiofmbecjfanaaDoorW.PrintWords Go.Proofs.YtkiofmbecjfanaaDoorW.PrintLast Go.Proofs.YtkiofmbecjfanaaDoorW.PrintMore
set_option linter.unusedSimpArgs false
set_option linter.unusedVariables false

theorem eqSlot (d : Nat) (w : World) (x0 y0 : Int) (x1 y1 : Int) (x2 y2 : Int) :
    (Op.equalIn (d + 2) 25 (.agg #[.int .u8 x0, .int .u64 x1, .int .u64 x2]) (.agg #[.int .u8 y0, .int .u64 y1, .int .u64 y2])).run Tryd.prog w = .ok (x0 == y0 && (x1 == y1 && (x2 == y2))) w := by
  refine eqA_of Tryd.underlying25 (by kernel_rfl) ?_
  refine eqf_cons (by rfl) (by go_simp; rfl) (by go_simp; rfl) (by go_simp) ?_
  refine eqf_cons (by rfl) (by go_simp; rfl) (by go_simp; rfl) (by go_simp) ?_
  exact eqf_last (by rfl) (by go_simp; rfl) (by go_simp; rfl) (by go_simp)
theorem slot_same (x0 x1 x2 : Int) (w : World) : (binOp .eql 25 (.agg #[.int .u8 x0, .int .u64 x1, .int .u64 x2]) (.agg #[.int .u8 x0, .int .u64 x1, .int .u64 x2])).run Tryd.prog w = .ok (.bool true) w := by
  simp only [binOp]
  simp [Op.equal, Op.maxDepth, eqSlot 9998]

set_option maxHeartbeats 8000000 in
set_option maxRecDepth 100000 in
theorem texts_walk (k g s : Nat) (hk : k < 256) (hg : g < 18446744073709551616) (hs : s < 18446744073709551616) (t : ByteArray) (ht : t.size ≤ 1048576) (w : World) (T : Tabs w) :
    Calls Tryd.prog 3 #[.agg #[.int .u8 k, .int .u64 g, .int .u64 s], .string t] w fun e w' => e = .returned (.bool true) ∧ Below w.heap.size w w' := by
  have HB1 := Aside0.mk ((Below.refl w.heap.size w).alloc (Nat.le_refl _) (.cells #[.int .u8 k, .int .u64 g, .int .u64 s] 25))
  have HK1 := Aside0.mk (heap_alloc_new w (.cells #[.int .u8 k, .int .u64 g, .int .u64 s] 25))
  have HZ1 := Aside0.mk (show w.heap.size < (w.alloc (.cells #[.int .u8 k, .int .u64 g, .int .u64 s] 25)).heap.size from by rw [World.size_alloc]; omega)
  have VP := Lib.hid (parse_calls t ht _ (T.move HB1.out))
  have TT := Lib.hid T
  clear T
  go_enter Tryd.func3, Tryd.ntmps3
  go_upto_region 2 with (go_at_call 4; refine VP.out.mono ?_; rintro e2 w2 ⟨k1, g1, s1, er1, rfl, hb2, hT1⟩; have HT1 := Aside0.mk hT1; have HB2 := Aside0.mk hb2; clear hb2 hT1)
  have HB3 := Aside0.mk ((HB1.out.trans (HB2.out.mono (Nat.le_of_lt HZ1.out))).alloc (B := w.heap.size) (Nat.le_trans (Nat.le_of_lt HZ1.out) HB2.out.size) (.cells #[.int .u8 k1, .int .u64 g1, .int .u64 s1] 25))
  have K0 : (w2.alloc (.cells #[.int .u8 k1, .int .u64 g1, .int .u64 s1] 25)).heap[w.heap.size]? = some (.cells #[.int .u8 k, .int .u64 g, .int .u64 s] 25 (0, 0)) := (Below.heap_alloc _ _ _ (Nat.lt_of_lt_of_le HZ1.out HB2.out.size)).trans ((HB2.out.block _ HZ1.out).trans HK1.out)
  have K1 : (w2.alloc (.cells #[.int .u8 k1, .int .u64 g1, .int .u64 s1] 25)).heap[w2.heap.size]? = some (.cells #[.int .u8 k1, .int .u64 g1, .int .u64 s1] 25 (0, 0)) := heap_alloc_new w2 _
  have HK0 := Aside0.mk K0
  have HK1' := Aside0.mk K1
  clear K0 K1 HB2 HK1 HZ1 HB1 VP
  generalize w2.alloc (.cells #[.int .u8 k1, .int .u64 g1, .int .u64 s1] 25) = w3 at HB3 HK0 HK1' ⊢
  generalize w2.heap.size = b1 at HK1' ⊢
  have VR := Lib.hid (parser_calls t ht w3 (TT.out.move HB3.out))
  go_upto_region 3 with (go_at_call 5; refine VR.out.mono ?_; rintro e4 w4 ⟨k2, g2, s2, er2, rfl, hb4, hT2⟩; obtain ⟨rfl, rfl, rfl, rfl⟩ := told_one HT1.out hT2; have HB4 := Aside0.mk hb4; clear hb4 hT2)
  have HB5 := Aside0.mk ((HB3.out.trans (HB4.out.mono HB3.out.size)).alloc (B := w.heap.size) (Nat.le_trans HB3.out.size HB4.out.size) (.cells #[.int .u8 k1, .int .u64 g1, .int .u64 s1] 25))
  have HBB := Aside0.mk (HB4.out.alloc HB4.out.size (.cells #[.int .u8 k1, .int .u64 g1, .int .u64 s1] 25))
  have K0 : (w4.alloc (.cells #[.int .u8 k1, .int .u64 g1, .int .u64 s1] 25)).heap[w.heap.size]? = some (.cells #[.int .u8 k, .int .u64 g, .int .u64 s] 25 (0, 0)) := (HBB.out.block _ (lt_blk HK0.out)).trans HK0.out
  have K1 : (w4.alloc (.cells #[.int .u8 k1, .int .u64 g1, .int .u64 s1] 25)).heap[b1]? = some (.cells #[.int .u8 k1, .int .u64 g1, .int .u64 s1] 25 (0, 0)) := (HBB.out.block _ (lt_blk HK1'.out)).trans HK1'.out
  have K2 : (w4.alloc (.cells #[.int .u8 k1, .int .u64 g1, .int .u64 s1] 25)).heap[w4.heap.size]? = some (.cells #[.int .u8 k1, .int .u64 g1, .int .u64 s1] 25 (0, 0)) := heap_alloc_new w4 _
  clear HBB HB4 HB3 HK0 HK1' VR HT1
  generalize w4.alloc (.cells #[.int .u8 k1, .int .u64 g1, .int .u64 s1] 25) = w5 at HB5 K0 K1 K2 ⊢
  generalize w4.heap.size = b2 at K2 ⊢
  have T5 := TT.out.move HB5.out
  have VL := Lib.hid (fun wx => Own.shutterlaw01_live.calls 2 true wx (live_true 0))
  have V0 := Lib.hid (fun wx (hx : Below w5.heap.size w5 wx) => print_calls k g s hk hg hs wx (T5.move hx))
  have V1 := Lib.hid (fun wx (hx : Below w5.heap.size w5 wx) => printr_calls k g s hk hg hs wx (T5.move hx))
  have heq := slot_same (k1 : Int) (g1 : Int) (s1 : Int)
  have hr : Below w5.heap.size w5 w5 := Below.refl _ _
  have hr2 : Below w5.heap.size w5 w5.drew := hr.drew
  have z00 : ∀ wx, Below w5.heap.size w5 wx → wx.cell? ⟨w.heap.size, 0, none⟩ = some (.int .u8 k) := fun wx h => (blk_cell ((h.block _ (lt_blk K0)).trans K0) 0).trans rfl
  have z01 : ∀ wx, Below w5.heap.size w5 wx → wx.cell? ⟨w.heap.size, 1, none⟩ = some (.int .u64 g) := fun wx h => (blk_cell ((h.block _ (lt_blk K0)).trans K0) 1).trans rfl
  have z02 : ∀ wx, Below w5.heap.size w5 wx → wx.cell? ⟨w.heap.size, 2, none⟩ = some (.int .u64 s) := fun wx h => (blk_cell ((h.block _ (lt_blk K0)).trans K0) 2).trans rfl
  have z10 : ∀ wx, Below w5.heap.size w5 wx → wx.cell? ⟨b1, 0, none⟩ = some (.int .u8 k1) := fun wx h => (blk_cell ((h.block _ (lt_blk K1)).trans K1) 0).trans rfl
  have z11 : ∀ wx, Below w5.heap.size w5 wx → wx.cell? ⟨b1, 1, none⟩ = some (.int .u64 g1) := fun wx h => (blk_cell ((h.block _ (lt_blk K1)).trans K1) 1).trans rfl
  have z12 : ∀ wx, Below w5.heap.size w5 wx → wx.cell? ⟨b1, 2, none⟩ = some (.int .u64 s1) := fun wx h => (blk_cell ((h.block _ (lt_blk K1)).trans K1) 2).trans rfl
  have z20 : ∀ wx, Below w5.heap.size w5 wx → wx.cell? ⟨b2, 0, none⟩ = some (.int .u8 k1) := fun wx h => (blk_cell ((h.block _ (lt_blk K2)).trans K2) 0).trans rfl
  have z21 : ∀ wx, Below w5.heap.size w5 wx → wx.cell? ⟨b2, 1, none⟩ = some (.int .u64 g1) := fun wx h => (blk_cell ((h.block _ (lt_blk K2)).trans K2) 1).trans rfl
  have z22 : ∀ wx, Below w5.heap.size w5 wx → wx.cell? ⟨b2, 2, none⟩ = some (.int .u64 s1) := fun wx h => (blk_cell ((h.block _ (lt_blk K2)).trans K2) 2).trans rfl
  clear K0 K1 K2 T5
  go_region_held3 (fun w' => Below w5.heap.size w5 w') (assumption) (first
    | (go_at_call 6; with_reducible refine (VL.out _).mono ?_; rintro e w' ⟨rfl, hd⟩; have hs_ : Below w5.heap.size w5 w' := below_step (by assumption) hd.below; clear hd)
    | (go_at_call 7; with_reducible refine (V0.out _ (by assumption)).mono ?_; rintro e w' ⟨rfl, hb⟩; have hs_ : Below w5.heap.size w5 w' := below_step (by assumption) hb; clear hb)
    | (go_at_call 8; with_reducible refine (V1.out _ (by assumption)).mono ?_; rintro e w' ⟨rfl, hb⟩; have hs_ : Below w5.heap.size w5 w' := below_step (by assumption) hb; clear hb))
  have hc := (show Below w5.heap.size w5 _ by assumption)
  have HE := Aside0.mk (HB5.out.trans (hc.mono HB5.out.size))
  go_wp2
  go_ret
  exact ⟨rfl, HE.out⟩
end Go.Proofs.YtkiofmbecjfanaaDoor
