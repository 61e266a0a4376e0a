/- The law WordBack, walked over the contracts of Child, Split, Pack, Unpack, Print and Parse: true at every kind, address and slot. -/
import Derived.Test.YtkiofmbecjfanabDoorParseG
import Derived.Test.YtkiofmbecjfanabDoorOutMath
import Derived.Test.YtkiofmbecjfanabDoorOwnx2
import Derived.Test.YtkiofmbecjfanabDoorWEqStruct
import Derived.Deep.QuietTactic
import Derived.BigQuiet
namespace Go.Proofs.YtkiofmbecjfanabDoor
open Go.Lib Go.RowKit Go.Proofs.YtkiofmbecjfanabDoor.Math Go.Proofs.YtkiofmbecjfanabDoorW.PrintWords Go.Proofs.YtkiofmbecjfanabDoorW.PrintLast Go.Proofs.YtkiofmbecjfanabDoorW.PrintMore
set_option linter.unusedSimpArgs false
set_option linter.unusedVariables false

theorem eqSlot (d : Nat) (w : World) (x0 y0 : Int) (x1 y1 : Int) (x2 y2 : Int) :
    (Op.equalIn (d + 2) 26 (.agg #[.int .u8 x0, .int .u64 x1, .int .u64 x2]) (.agg #[.int .u8 y0, .int .u64 y1, .int .u64 y2])).run Tryd.prog w = .ok (x0 == y0 && (x1 == y1 && (x2 == y2))) w := by
  refine eqA_of Tryd.underlying26 (by kernel_rfl) ?_
  refine eqf_cons (by rfl) (by go_simp; rfl) (by go_simp; rfl) (by go_simp) ?_
  refine eqf_cons (by rfl) (by go_simp; rfl) (by go_simp; rfl) (by go_simp) ?_
  exact eqf_last (by rfl) (by go_simp; rfl) (by go_simp; rfl) (by go_simp)
theorem slot_same (x0 x1 x2 : Int) (w : World) : (binOp .eql 26 (.agg #[.int .u8 x0, .int .u64 x1, .int .u64 x2]) (.agg #[.int .u8 x0, .int .u64 x1, .int .u64 x2])).run Tryd.prog w = .ok (.bool true) w := by
  simp only [binOp]
  simp [Op.equal, Op.maxDepth, eqSlot 9998]

/-- What Child tells, and what Split tells of it. -/
theorem child_back (kd ad : Int) (h0 : 0 ≤ kd) (h1 : 0 ≤ ad) (h2 : ad < 18446744073709551616) : ∃ cw ce sk sa : Int, Own.word_Child.f 2 kd ad = some (cw, ce) ∧ Own.word_Split.f cw = some (sk, sa) ∧
    ((kd = 0 ∧ ad = 0 ∧ ce = 0 ∧ sk = 0 ∧ sa = 0) ∨ (kd = 1 ∧ 1 ≤ ad ∧ ad ≤ 4611686018427387904 ∧ ce = 0 ∧ sk = 1 ∧ sa = ad) ∨ (kd = 2 ∧ 1 ≤ ad ∧ ad ≤ 4611686018427387904 ∧ ce = 0 ∧ sk = 2 ∧ sa = ad) ∨
      (ce = 2 ∧ ¬ (kd = 0 ∧ ad = 0) ∧ ¬ ((kd = 1 ∨ kd = 2) ∧ 1 ≤ ad ∧ ad ≤ 4611686018427387904))) := by
  have hc := child_p h1 h2 (a0 := kd) 0
  unfold child at hc
  by_cases c0 : kd = 0 ∧ ad = 0
  · rw [if_pos c0] at hc
    refine ⟨0, 0, 0, 0, hc, ?_, Or.inl ⟨c0.1, c0.2, rfl, rfl, rfl⟩⟩
    rw [split_p (by omega) (by omega)]; rfl
  · rw [if_neg c0] at hc
    by_cases c : (kd = 1 ∨ kd = 2) ∧ 1 ≤ ad ∧ ad ≤ 4611686018427387904
    · rw [if_pos c] at hc
      obtain ⟨c1, c2, c3⟩ := c
      rcases c1 with rfl | rfl
      · refine ⟨2 * ad + 1, 0, 1, ad, hc, ?_, Or.inr (Or.inl ⟨rfl, c2, c3, rfl, rfl, rfl⟩)⟩
        rw [split_p (by omega) (by omega)]
        unfold Math.split
        rw [if_neg (by omega), if_pos (by omega), show (2 * ad + 1) / 2 = ad from by omega]
      · refine ⟨2 * ad, 0, 2, ad, hc, ?_, Or.inr (Or.inr (Or.inl ⟨rfl, c2, c3, rfl, rfl, rfl⟩))⟩
        rw [split_p (by omega) (by omega)]
        unfold Math.split
        rw [if_neg (by omega), if_neg (by omega), show (2 * ad) / 2 = ad from by omega]
    · rw [if_neg c] at hc
      refine ⟨0, 2, 0, 0, hc, ?_, Or.inr (Or.inr (Or.inr ⟨rfl, c0, c⟩))⟩
      rw [split_p (by omega) (by omega)]; rfl

/-- What Pack tells, what Unpack tells of it, and what Parse tells of what Print tells. -/
theorem pack_back (k g s : Nat) (k1 g1 s1 : Nat) (er : Int) (h : Told (PTB k g s) k1 g1 s1 er) : ∃ pw pe : Int, Own.word_Pack.f k g s = some (pw, pe) ∧
    ((pe = 0 ∧ er = 0 ∧ k1 = k ∧ g1 = g ∧ s1 = s ∧ Own.word_Unpack.f pw = some ((k : Int), (g : Int), (s : Int))) ∨ (pe = 2 ∧ er = 52)) := by
  have hp := pack_p (k := (k : Int)) (g := (g : Int)) (s := (s : Int)) (by omega) (by omega) (by omega)
  unfold pack at hp
  by_cases hin : k ≤ 3 ∧ g < 1048576 ∧ s ≤ 1099511627776
  · rw [if_neg (by omega)] at hp
    obtain ⟨rfl, rfl, rfl, rfl⟩ := told_one h (Or.inl ⟨rfl, ptb_text (k := k) (g := g) (s := s) rfl (by
      unfold PTB
      rw [if_pos hin]
      intro e
      have := congrArg (fun x : ByteArray => x.data.toList) e
      simp [PT] at this)⟩)
    refine ⟨_, _, hp, Or.inl ⟨rfl, rfl, rfl, rfl, rfl, ?_⟩⟩
    rw [unpack_p (by omega) (by omega)]
    unfold unpack
    rw [show ((k1 : Int) + 4 * g1 + 4194304 * s1) % 4 = k1 from by omega, show ((k1 : Int) + 4 * g1 + 4194304 * s1) / 4 % 1048576 = g1 from by omega, show ((k1 : Int) + 4 * g1 + 4194304 * s1) / 4194304 = s1 from by omega]
  · rw [if_pos (by omega)] at hp
    refine ⟨_, _, hp, Or.inr ⟨rfl, ?_⟩⟩
    rcases h with ⟨_, h⟩ | ⟨h, _⟩
    · have e := text_ptb h
      exfalso
      unfold PTB at e
      rw [if_neg hin, if_pos ⟨h.1, h.2.1, h.2.2.1⟩] at e
      have := congrArg (fun x : ByteArray => x.data.toList) e
      simp [PT] at this
    · exact h

theorem PTB_size (k g s : Nat) (hg : g < 18446744073709551616) (hs : s < 18446744073709551616) : (PTB k g s).size ≤ 1048576 := by
  unfold PTB
  split
  · have h1 := Lib.decDigits_length g
    have h2 := Lib.decDigits_length s
    have h3 := Lib.nDigits_le20 g hg
    have h4 := Lib.nDigits_le20 s hs
    have h5 : (KL k).length ≤ 7 := KB_size k
    show (PT k g s).length ≤ _
    unfold PT
    simp only [List.length_append, List.length_cons, List.length_nil]
    omega
  · exact Nat.zero_le _

set_option maxHeartbeats 8000000 in
set_option maxRecDepth 100000 in
theorem back_walk (kd ad : Int) (h0 : 0 ≤ kd) (h0' : kd ≤ 255) (h1 : 0 ≤ ad) (h2 : ad < 18446744073709551616) (k g s : Nat) (hk : k < 256) (hg : g < 18446744073709551616) (hs : s < 18446744073709551616) (w : World) (T : Tabs w) :
    Calls Tryd.prog 3 #[.int .u8 kd, .int .u64 ad, .agg #[.int .u8 k, .int .u64 g, .int .u64 s]] w fun e w' => e = .returned (.bool true) ∧ Below w.heap.size w w' := by
  obtain ⟨cw, ce, sk, sa, hc, hsp, hcase⟩ := child_back kd ad h0 h1 h2
  have HC := Lib.hid hc
  have HS := Lib.hid hsp
  have HK := Aside0.mk hcase
  have HB1 := Aside0.mk ((Below.refl w.heap.size w).alloc (Nat.le_refl _) (.cells #[.int .u8 k, .int .u64 g, .int .u64 s] 26))
  have HK1 := Aside0.mk (heap_alloc_new w (.cells #[.int .u8 k, .int .u64 g, .int .u64 s] 26))
  have HZ1 := Aside0.mk (show w.heap.size < (w.alloc (.cells #[.int .u8 k, .int .u64 g, .int .u64 s] 26)).heap.size from by rw [World.size_alloc]; omega)
  have TT := Lib.hid T
  clear T hc hsp hcase
  go_enter Tryd.func3, Tryd.ntmps3
  go_upto_region 3 with (first
    | (go_at_call 4; refine (Own.word_Child.calls 2 _ _ _ _ _ HC.out).mono ?_; rintro e1 w1 ⟨rfl, hd1⟩; have HD1 := Aside0.mk hd1.below; clear hd1)
    | (go_at_call 5; refine (Own.word_Split.calls _ _ _ _ HS.out).mono ?_; rintro e2 w2 ⟨rfl, hd2⟩; have HD2 := Aside0.mk hd2.below; clear hd2))
  have HB3 := Aside0.mk (HB1.out.trans ((HD1.out.trans (HD2.out.mono HD1.out.size)).mono (Nat.le_of_lt HZ1.out)))
  have K0 := Aside0.mk (((HD1.out.trans (HD2.out.mono HD1.out.size)).block _ HZ1.out).trans HK1.out)
  clear HD1 HD2 HB1 HK1 HZ1 HC HS
  go_cut [63] (fun v63 wc => v63 = .bool false ∧ w2 = wc)
  case first =>
    rcases HK.out with ⟨rfl, rfl, rfl, rfl, rfl⟩ | ⟨rfl, q1, q2, rfl, rfl, rfl⟩ | ⟨rfl, q1, q2, rfl, rfl, rfl⟩ | ⟨rfl, q1, q2⟩
    · go_wp2
      go_meet
      case rel => exact ⟨rfl, rfl⟩
    · go_wp2
      go_meet
      case rel => exact ⟨rfl, rfl⟩
    · go_wp2
      go_meet
      case rel => exact ⟨rfl, rfl⟩
    · by_cases r0 : kd = 0
      · subst r0
        have q3 : 0 < ad := by omega
        clear q1 q2
        go_wp2
        go_meet
        case rel => exact ⟨congrArg Value.bool (by first | rfl | (exact beq_eq_false_iff_ne.2 (by omega)) | (rw [decide_eq_false (by omega)]; exact Bool.and_false _)), rfl⟩
      · have r1 : 0 < kd := by omega
        by_cases r2 : kd ≤ 2
        · by_cases r3 : 1 ≤ ad
          · have r4 : 4611686018427387904 < ad := by omega
            clear q1 q2 r0
            go_wp2
            go_meet
            case rel => exact ⟨congrArg Value.bool (by first | rfl | (exact beq_eq_false_iff_ne.2 (by omega)) | (rw [decide_eq_false (by omega)]; exact Bool.and_false _)), rfl⟩
          · clear q1 q2 r0
            go_wp2
            go_meet
            case rel => exact ⟨congrArg Value.bool (by first | rfl | (exact beq_eq_false_iff_ne.2 (by omega)) | (rw [decide_eq_false (by omega)]; exact Bool.and_false _)), rfl⟩
        · clear q1 q2 r0
          go_wp2
          go_meet
          case rel => exact ⟨congrArg Value.bool (by first | rfl | (exact beq_eq_false_iff_ne.2 (by omega)) | (rw [decide_eq_false (by omega)]; exact Bool.and_false _)), rfl⟩
  case rest =>
    obtain ⟨rfl, rfl⟩ := hcut
    clear HK
    have VP := Lib.hid (fun wx (hx : Below w2.heap.size w2 wx) => print_calls k g s hk hg hs wx ((TT.out.move HB3.out).move hx))
    have z0 : ∀ wx, Below w2.heap.size w2 wx → wx.cell? ⟨w.heap.size, 0, none⟩ = some (.int .u8 k) := fun wx h => (blk_cell ((h.block _ (lt_blk K0.out)).trans K0.out) 0).trans rfl
    have z1 : ∀ wx, Below w2.heap.size w2 wx → wx.cell? ⟨w.heap.size, 1, none⟩ = some (.int .u64 g) := fun wx h => (blk_cell ((h.block _ (lt_blk K0.out)).trans K0.out) 1).trans rfl
    have z2 : ∀ wx, Below w2.heap.size w2 wx → wx.cell? ⟨w.heap.size, 2, none⟩ = some (.int .u64 s) := fun wx h => (blk_cell ((h.block _ (lt_blk K0.out)).trans K0.out) 2).trans rfl
    have y0 := z0 w2 (Below.refl _ _)
    have y1 := z1 w2 (Below.refl _ _)
    have y2 := z2 w2 (Below.refl _ _)
    have HZ := Aside0.mk (And.intro z0 (And.intro z1 z2))
    clear z0 z1 z2
    obtain ⟨pw0, pe0, hpk0⟩ : ∃ pw pe : Int, Own.word_Pack.f k g s = some (pw, pe) := ⟨_, _, pack_p (by omega) (by omega) (by omega)⟩
    have HPK := Lib.hid hpk0
    clear hpk0
    go_upto_region 6 with (go_at_call 6; refine (Own.word_Pack.calls _ _ _ _ _ _ HPK.out).mono ?_; rintro e3 w3 ⟨rfl, hb3⟩; have HB4 := Aside0.mk hb3; clear hb3 y0 y1 y2; have y0 := HZ.out.1 w3 HB4.out; have y1 := HZ.out.2.1 w3 HB4.out; have y2 := HZ.out.2.2 w3 HB4.out)
    have VP4 := Lib.hid (VP.out w3 HB4.out)
    have VQ := Lib.hid (fun wx (hx : Below w2.heap.size w2 wx) => parse_calls (PTB k g s) (PTB_size k g s hg hs) wx ((TT.out.move HB3.out).move hx))
    clear VP
    go_upto_region 7 with (first
      | (go_at_call 8; refine VP4.out.mono ?_; rintro e5 w5 ⟨rfl, hb5⟩; have HB5 := Aside0.mk (HB4.out.trans (hb5.mono HB4.out.size)); clear hb5)
      | (go_at_call 7; refine (VQ.out _ HB5.out).mono ?_; rintro e6 w6 ⟨k1, g1, s1, er, rfl, hb6, hT⟩; have HB6 := Aside0.mk (HB5.out.trans (hb6.mono HB5.out.size)); have HT := Aside0.mk hT; clear hb6 hT))
    have HB7 := Aside0.mk ((HB3.out.trans (HB6.out.mono HB3.out.size)).alloc (B := w.heap.size) (Nat.le_trans HB3.out.size HB6.out.size) (.cells #[.int .u8 k1, .int .u64 g1, .int .u64 s1] 26))
    have HBB := Aside0.mk (HB6.out.alloc HB6.out.size (.cells #[.int .u8 k1, .int .u64 g1, .int .u64 s1] 26))
    have K1 : (w6.alloc (.cells #[.int .u8 k1, .int .u64 g1, .int .u64 s1] 26)).heap[w6.heap.size]? = some (.cells #[.int .u8 k1, .int .u64 g1, .int .u64 s1] 26 (0, 0)) := heap_alloc_new w6 _
    have K2 : (w6.alloc (.cells #[.int .u8 k1, .int .u64 g1, .int .u64 s1] 26)).heap[w.heap.size]? = some (.cells #[.int .u8 k, .int .u64 g, .int .u64 s] 26 (0, 0)) := (HBB.out.block _ (lt_blk K0.out)).trans K0.out
    obtain ⟨pw, pe, hpk, hcase⟩ := pack_back k g s k1 g1 s1 er HT.out
    obtain ⟨rfl, rfl⟩ : pw0 = pw ∧ pe0 = pe := by
      have e := HPK.out.symm.trans hpk
      simp only [Option.some.injEq, Prod.mk.injEq] at e
      exact e
    clear hpk HPK HT VQ VP4 HBB HB6 HB5 HB4 HZ HB3 K0 y0 y1 y2
    generalize w6.alloc (.cells #[.int .u8 k1, .int .u64 g1, .int .u64 s1] 26) = w7 at HB7 K1 K2 ⊢
    generalize w6.heap.size = b1 at K1 ⊢
    have VL := Lib.hid (fun wx => Own.shutterlaw01_live.calls 2 true wx (live_true 0))
    have hr : Below w7.heap.size w7 w7 := Below.refl _ _
    have hr2 : Below w7.heap.size w7 w7.drew := hr.drew
    rcases hcase with ⟨rfl, rfl, rfl, rfl, rfl, hu⟩ | ⟨rfl, rfl⟩
    · have VU := Lib.hid (fun wx => Own.word_Unpack.calls _ _ _ _ wx hu)
      have heq := slot_same (k1 : Int) (g1 : Int) (s1 : Int)
      have z10 : ∀ wx, Below w7.heap.size w7 wx → wx.cell? ⟨b1, 0, none⟩ = some (.int .u8 k1) := fun wx h => (blk_cell ((h.block _ (lt_blk K1)).trans K1) 0).trans rfl
      have z11 : ∀ wx, Below w7.heap.size w7 wx → wx.cell? ⟨b1, 1, none⟩ = some (.int .u64 g1) := fun wx h => (blk_cell ((h.block _ (lt_blk K1)).trans K1) 1).trans rfl
      have z12 : ∀ wx, Below w7.heap.size w7 wx → wx.cell? ⟨b1, 2, none⟩ = some (.int .u64 s1) := fun wx h => (blk_cell ((h.block _ (lt_blk K1)).trans K1) 2).trans rfl
      have z20 : ∀ wx, Below w7.heap.size w7 wx → wx.cell? ⟨w.heap.size, 0, none⟩ = some (.int .u8 k1) := fun wx h => (blk_cell ((h.block _ (lt_blk K2)).trans K2) 0).trans rfl
      have z21 : ∀ wx, Below w7.heap.size w7 wx → wx.cell? ⟨w.heap.size, 1, none⟩ = some (.int .u64 g1) := fun wx h => (blk_cell ((h.block _ (lt_blk K2)).trans K2) 1).trans rfl
      have z22 : ∀ wx, Below w7.heap.size w7 wx → wx.cell? ⟨w.heap.size, 2, none⟩ = some (.int .u64 s1) := fun wx h => (blk_cell ((h.block _ (lt_blk K2)).trans K2) 2).trans rfl
      clear K1 K2 hu
      go_region_held3 (fun w' => Below w7.heap.size w7 w') (assumption) (first
        | (go_at_call 9; with_reducible refine (VL.out _).mono ?_; rintro e w' ⟨rfl, hd⟩; have hs_ : Below w7.heap.size w7 w' := below_step (by assumption) hd.below; clear hd)
        | (go_at_call 10; with_reducible refine (VU.out _).mono ?_; rintro e w' ⟨rfl, hb⟩; have hs_ : Below w7.heap.size w7 w' := below_step (by assumption) hb; clear hb))
      have hc := (show Below w7.heap.size w7 _ by assumption)
      have HE := Aside0.mk (HB7.out.trans (hc.mono HB7.out.size))
      go_wp2
      go_ret
      exact ⟨rfl, HE.out⟩
    · have VQ := Lib.hid (fun n => Calls.quiet_of ((VL.out (w7.drewN n)).mono fun e w' h => ⟨h.1, h.2.out⟩))
      clear K1 K2 hr hr2
      go_quiet ((go_at_call 9; exact VQ.out _))
      go_wp2
      go_ret
      exact ⟨rfl, pw_below_drewN HB7.out _⟩
end Go.Proofs.YtkiofmbecjfanabDoor
