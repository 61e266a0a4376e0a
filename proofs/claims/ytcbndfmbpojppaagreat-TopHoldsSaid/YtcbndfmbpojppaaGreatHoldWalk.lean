/- TopHolds, walked: it answers true, whatever comes in. No condition. -/
import Derived.Test.YtcbndfmbpojppaaGreatRows
import Derived.Test.YtcbndfmbpojppaaGreatHoldM
import Derived.RegionTactic
import Derived.BigRegion
import Derived.BigQuiet
import Derived.Deep.QuietTactic
import Derived.Deep.RegionHeld3
import Derived.Deep.AppendLies
import Derived.Deep.DeepCutAuto
namespace Go.Proofs.YtcbndfmbpojppaaGreat
open Go.RowKit Go.Proofs.YtcbndfmbpojppaaGreatW.PrintWords Go.Proofs.YtcbndfmbpojppaaGreatW.PrintMore Go.Proofs.YtcbndfmbpojppaaGreat.Math
set_option linter.unusedVariables false
set_option linter.unusedSimpArgs false

/-- The law's state ahead of round k. -/
def L1 (Z : HCt) (k : Nat) (K : Nat → Prop) (S : List Sl) (H : List Hd) (V : HVs) (w : World) : Prop := Env Z K (2 + 1100 * k) ((H.length : Int) + 1) S (XsH H) V w ∧ HInv Z.n k S H
/-- Behind the first part of round k. -/
def L2 (Z : HCt) (k j : Nat) (K : Nat → Prop) (S : List Sl) (H : List Hd) (V : HVs) (w : World) : Prop := Env Z K (2 + 1100 * k + 20 + 2 * j) ((H.length : Int) + 1) S (XsH H) V w ∧ HInv Z.n (k + 1) S H
def hV (A B C : Option Addr) (a b c m : Nat) : HVs := ⟨.slice A m a, .slice B m b, .slice C m c⟩
theorem infoBool : (Tryz.prog.info? 4).map (fun i => (i.zero, i.size, i.bytes)) = some (some (.bool false), 1, 1) := by kernel_rfl

theorem need_f0 (x : Int) (A : Option Addr) (n c : Nat) (W : World) : (Instr.field 53 (Value.agg #[.int .u64 x, .slice A n c]) 0).run Tryz.prog W = .ok (.int .u64 x) W := by kernel_rfl
theorem need_f1 (x : Int) (A : Option Addr) (n c : Nat) (W : World) : (Instr.field 53 (Value.agg #[.int .u64 x, .slice A n c]) 1).run Tryz.prog W = .ok (.slice A n c) W := by kernel_rfl
set_option maxHeartbeats 8000000 in
set_option maxRecDepth 100000 in
theorem walk (a0 : Int) (A1 : Option Addr) (c1 : Nat) (l1 : List Int) (w : World) (hr1 : Kd.C (Kd.int .i64) w A1 l1.length l1) (hc1 : l1.length ≤ c1) (hl : l1.length ≤ 4611686018427387904) :
    Calls Tryz.prog 3 #[.int .i64 a0, .slice A1 l1.length c1] w fun e w' => e = .returned (.bool true) ∧ Below w.heap.size w w' := by
  have HR1 := Aside0.mk hr1
  clear hr1
  obtain ⟨q8, hw8, q0, q1⟩ := which_in a0 8 (by omega) (by omega)
  have HW8 := Lib.hid (fun wx => Own.shuttertop_which.calls a0 8 _ wx hw8)
  obtain ⟨m, rfl⟩ : ∃ m : Nat, q8 = (m : Int) := ⟨q8.toNat, by omega⟩
  have hm8 : m + 1 ≤ 8 := by omega
  have e1 : IntKind.i64.wrap ((m : Int) + 1) = ((m + 1 : Nat) : Int) := IntWalk.i64_in _ (by omega)
  generalize hn : m + 1 = n at e1 hm8
  have hn1 : 1 ≤ n := by omega
  have HN := Lib.hid (N_new w)
  clear hw8 q0 q1
  go_enter Tryz.func3, Tryz.ntmps3
  go_wp2_with (first
    | (go_at_call 4; refine HN.out.mono ?_; rintro e2 w2 ⟨bm, bp, bc, rfl, h2⟩; have HV := Lib.hid (N_view h2); clear h2 HN)
    | (go_at_call 5; refine HV.out.mono ?_; rintro e3 w3 ⟨bv, rfl, h3⟩; have HA := Lib.hid (N_alloc h3); clear h3 HV)
    | (go_at_call 6; refine HA.out.mono ?_; rintro e4 w4 ⟨rfl, h4⟩; have HM4 := Aside0.mk h4; clear h4 HA)
    | (go_at_call 7; refine (HW8.out _).mono ?_; rintro e5 w5 ⟨rfl, h5⟩; have HM := Lib.hid (N_make (n := n) (show Bgn w bm bp bc bv 2 (alC (List.replicate 1024 0) 1 [1]) 1 w5 from HM4.out.below h5.below) hn1 hm8); clear HW8 h5)
    | (go_at_call 8; refine HM.out.mono ?_; rintro e6 w6 ⟨rfl, h6⟩; have HB6 := Aside0.mk h6; clear h6 HM))
  obtain ⟨K0, h0⟩ := env_bgn HB6.out hm8
  have HE0 := Aside0.mk h0
  have HBw := Aside0.mk (HB6.out)
  generalize hZ : (⟨w.heap.size, bm, bp, bc, bv, w6.heap.size, 2 + n, n, w⟩ : HCt) = Z at HE0
  have zn : Z.n = n := by rw [← hZ]
  have zbv : Z.bv = bv := by rw [← hZ]
  have zbm : Z.bm = bm := by rw [← hZ]
  have zb : Z.b10 = w6.heap.size := by rw [← hZ]
  have zw : Aside0 (Z.w0 = w ∧ Z.B = w.heap.size) := ⟨by rw [← hZ]; exact ⟨rfl, rfl⟩⟩
  subst zn zbv zbm
  clear h0 HB6 HBw hZ HM4
  go_loopw [11, 12, 13, 14] (fun v11 v12 v13 v14 wr => ∃ (k : Nat) (A B C : Option Addr) (a b c : Nat) (H : List Hd), v11 = .slice A H.length a ∧ v12 = .slice B H.length b ∧ v13 = .slice C H.length c ∧ v14 = .int .i64 k ∧ k ≤ l1.length ∧ k ≤ 500 ∧ H.length ≤ k ∧ Aside0 (∃ K S, L1 Z k K S H (hV A B C a b c H.length) wr)) (fun _ _ _ q _ => l1.length - (intOf q).toNat)
  case atStart =>
    exact ⟨0, none, none, none, 0, 0, 0, [], rfl, rfl, rfl, rfl, Nat.zero_le _, by omega, Nat.le_refl _, ⟨K0, _, HE0.out, hinv_bgn _⟩⟩
  case round =>
    clear HE0
    obtain ⟨k, A, B, C, a, b, c, H, rfl, rfl, rfl, rfl, hk, hk5, hHk, HL⟩ := hrel
    obtain ⟨K, S, hL⟩ := HL.out
    have HLK := Aside0.mk hL
    clear HL hL
    by_cases hlt : k < l1.length ∧ k < 500
    · obtain ⟨hlt, hlt5⟩ := hlt
      have i1 : (k : Int) < (l1.length : Int) := by omega
      have i2 : (k : Int) < 500 := by omega
      have i3 : (0 : Int) ≤ (k : Int) := by omega
      have hbw : Below w.heap.size w wr := by
        have := HLK.out.1.low
        rw [zw.out.1, zw.out.2] at this
        exact this
      obtain ⟨bl, ol, rfl, hx⟩ := int_at (Kd.C_below HR1.out hbw) k hlt
      generalize l1.getD k 0 = x at hx
      have e2 : IntKind.i64.wrap ((H.length : Int) + 2) = (H.length : Int) + 2 := IntWalk.i64_in _ (by omega)
      obtain ⟨q, hwq, q0, q1⟩ := which_in x ((H.length : Int) + 2) (by omega) (by omega)
      have HWQ := Lib.hid (fun wx => Own.shuttertop_which.calls x ((H.length : Int) + 2) _ wx hwq)
      clear hwq
      obtain ⟨j, rfl⟩ : ∃ j : Nat, q = (j : Int) := ⟨q.toNat, by omega⟩
      have HLW := Lib.hid (fun (wx : World) (h : Below wr.heap.size wr wx) => (show L1 Z k K S H (hV A B C a b c H.length) wx from ⟨HLK.out.1.below h, HLK.out.2⟩))
      go_upto_if 66 with (go_at_call 7; refine (HWQ.out _).mono ?_; rintro e7 w7 ⟨rfl, h7⟩; have HL7 := Aside0.mk (HLW.out _ h7.below); clear h7)
      go_cut [11, 12, 13] (fun v11 v12 v13 wc => ∃ (A B C : Option Addr) (a b c : Nat) (H : List Hd), v11 = .slice A H.length a ∧ v12 = .slice B H.length b ∧ v13 = .slice C H.length c ∧ H.length ≤ k + 1 ∧ Aside0 (∃ K S, L2 Z k 0 K S H (hV A B C a b c H.length) wc))
      case first =>
        by_cases hj : H.length ≤ j
        · have hjI : (j : Int) ≥ (H.length : Int) := by omega
          obtain ⟨b0, b1, b2, b3⟩ := HL7.out.1.box
          rw [zb] at b0 b1 b2 b3
          have HNS := Lib.hid (E_newsnap HL7.out.1)
          have e3 : IntKind.i64.wrap (2 * (Z.n : Int)) = 2 * (Z.n : Int) := IntWalk.i64_in _ (by omega)
          have e4 : IntKind.i64.wrap (2 * (Z.n : Int) + 5) = ((2 * Z.n + 5 : Nat) : Int) := (IntWalk.i64_in _ (by omega)).trans (by omega)
          have hI := Aside0.mk HL7.out.2
          rcases first_free S with ⟨i, s, hi, hs, hf⟩ | hf
          · have hcn : ((onH H : Nat) : Int) < (Z.n : Int) := by
              have := onS_lt hi hs
              rw [hI.out.len, hI.out.cnt] at this
              omega
            have HF := Aside0.mk (And.intro hi (And.intro hs hf))
            clear hi hs hf
            go_upto_region 21 with (first
              | (go_at_call 9; refine HNS.out.mono ?_; rintro e8 w8 ⟨bs, K2, rfl, h8, p8⟩; have HAl := Lib.hid (E_snap h8 p8 hI.out (by omega) (by omega) hn1 hm8 HF.out.1 HF.out.2.1 HF.out.2.2); clear h8 p8 b0 b1 b2 b3 HNS)
              | (go_at_call 10; refine HAl.out.mono ?_; rintro e9 w9 ⟨rfl, h9, p9⟩; have HE9 := Aside0.mk (And.intro h9 p9); have HC9 := Lib.hid (fun wx (hb : Below w9.heap.size w9 wx) => E_count (h9.below hb) rfl (by omega)); have HR9 := Lib.hid (fun wx (hb : Below w9.heap.size w9 wx) => E_snerr (p9.below hb)); clear h9 p9 HAl)
              | (go_at_call 11; refine (HR9.out _ (by first | exact Below.refl _ _ | exact H10.out | exact H11.out)).mono ?_; rintro e10 w10 ⟨rfl, h10⟩; have H10 : Aside0 (Below w9.heap.size w9 w10) := ⟨below_step (by first | exact H11.out | exact Below.refl _ _) h10⟩; clear h10)
              | (go_at_call 12; refine (HC9.out _ (by exact H10.out)).mono ?_; rintro e11 w11 ⟨rfl, h11⟩; have H11 := Aside0.mk (below_step H10.out h11); clear h11))
            have E10 := HE9.out.1.below H10.out
            have p10 := HE9.out.2.below H10.out
            have hg9 := hI.out.gen _ _ HF.out.1
            have li9 : i < Z.n := hI.out.len ▸ (List.getElem?_eq_some_iff.1 HF.out.1).1
            have HSH : Hid (Calls Tryz.prog 13 #[.pointer (some ⟨bs, 0, none⟩)] w10 fun e w' => e = .returned (.int .u64 (hdl ⟨i, s.g, true⟩)) ∧ Below w10.heap.size w10 w') := Lib.hid (E_snhandle p10 (by show (0 : Int) ≤ (i : Int); omega) (by show (i : Int) < 256; omega) (by show (0 : Int) ≤ (s.g : Int); omega) (by show (s.g : Int) < 1048576; omega))
            have HI2 := Aside0.mk (hI.out.snap HF.out.1 HF.out.2.1)
            have HEP := Aside0.mk (And.intro E10 p10)
            clear E10 p10 hg9 li9 HF hI HC9 HR9 HE9 H10 H11 HLW HLK HWQ HL7
            generalize hu : (⟨i, s.g, true⟩ : Hd) = u at HSH HI2
            have huo : u.on = true := by rw [← hu]
            generalize hhv : hdl u = hv at HSH
            obtain ⟨j0, hi0, hz0, hz1, hz2⟩ := info_parts infoU64
            obtain ⟨j1, hi1, hy0, hy1, hy2⟩ := info_parts infoBool
            go_wp2_with (first
              | (go_at_call 13; refine HSH.out.mono ?_; rintro e12 w12 ⟨rfl, h12⟩; have E12 := Aside0.mk (And.intro ((HEP.out.1.below h12).below (below_alloc (Below.refl _ _) (.cells #[.int .u64 hv] 29))) ((HEP.out.2.below h12).below (below_alloc (Below.refl _ _) (.cells #[.int .u64 hv] 29)))); clear h12 HEP HSH)
              | (go_at_call 14; refine (HST.out).mono ?_; rintro e14 w14 ⟨rfl, h14⟩; have E14 := Aside0.mk ((E13.out.1.below h14).below (below_alloc (Below.refl _ _) (.cells #[.int .u64 ((H.length : Int) + 1)] 29))); clear h14 HST)
              | (at_builtin; refine wpList_append_lies _ rfl (.tmp 90) (.tmp 93) 31 rfl Z.B 29 j0 _ 1 8 Tryz.underlying31 hi0 hz0 hz1 hz2 rfl (by omega) (.slice A H.length a) H.length _ (by rfl) E12.out.1.rows.ra ⟨w12.heap.size, 0, none⟩ 1 1 [.int .u64 hv] (by rfl) (by rfl) (World.news_of_block (cs := #[.int .u64 hv]) (t := 29) (fr := (0, 0)) (heap_alloc_new w12 _)) (by simp [Value.oneCell']) (by omega) (by unfold maxLen; omega) (by omega) E12.out.1.leB (w12.heap.size + 1) (by simp) ?_; intro g1 cp1 w13 hown1 hgrow1 hat1 hlt1; obtain ⟨K3, _, E13', P13⟩ := E12.out.1.app_a hown1 hgrow1 (hat1.imp id fun e => e.trans (World.size_alloc _ _).symm) hlt1; have E13 := Aside0.mk (And.intro E13' (P13 _ _ _ E12.out.2)); have HST := Lib.hid (E_snstamp E13.out.2); clear E13' P13 E12 hown1 hgrow1 hat1 hlt1)
              | (at_builtin; refine wpList_append_lies _ rfl (.tmp 95) (.tmp 98) 31 rfl Z.B 29 j0 _ 1 8 Tryz.underlying31 hi0 hz0 hz1 hz2 rfl (by omega) (.slice B H.length b) H.length _ (by rfl) E14.out.rows.rb ⟨w14.heap.size, 0, none⟩ 1 1 [.int .u64 ((H.length : Int) + 1)] (by rfl) (by rfl) (World.news_of_block (cs := #[.int .u64 ((H.length : Int) + 1)]) (t := 29) (fr := (0, 0)) (heap_alloc_new w14 _)) (by simp [Value.oneCell']) (by omega) (by unfold maxLen; omega) (by omega) E14.out.leB (w14.heap.size + 1) (by simp) ?_; intro g2 cp2 w15 hown2 hgrow2 hat2 hlt2; obtain ⟨K4, _, E15', _⟩ := E14.out.app_b hown2 hgrow2 (hat2.imp id fun e => e.trans (World.size_alloc _ _).symm) hlt2; have E15 := Aside0.mk (E15'.below (below_alloc (Below.refl _ _) (.cells #[.bool true] 4))); clear E15' E14 hown2 hgrow2 hat2 hlt2)
              | (at_builtin; refine wpList_append_lies _ rfl (.tmp 100) (.tmp 101) 37 rfl Z.B 4 j1 _ 1 1 Tryz.underlying37 hi1 hy0 hy1 hy2 rfl (by omega) (.slice C H.length c) H.length _ (by rfl) E15.out.rows.rc ⟨w15.heap.size, 0, none⟩ 1 1 [.bool true] (by rfl) (by rfl) (World.news_of_block (cs := #[.bool true]) (t := 4) (fr := (0, 0)) (heap_alloc_new w15 _)) (by simp [Value.oneCell']) (by omega) (by unfold maxLen; omega) (by omega) E15.out.leB (w15.heap.size + 1) (by simp) ?_; intro g3 cp3 w16 hown3 hgrow3 hat3 hlt3; obtain ⟨K5, _, E16', _⟩ := E15.out.app_c hown3 hgrow3 (hat3.imp id fun e => e.trans (World.size_alloc _ _).symm) hlt3; have E16 := Aside0.mk E16'; clear E16' E15 hown3 hgrow3 hat3 hlt3))
            go_meet
            case rel =>
              have hlen : (H ++ [u]).length = H.length + 1 := by rw [List.length_append]; rfl
              have hE : Env Z K5 (2 + 1100 * k + 20 + 2 * 0) (((H ++ [u]).length : Int) + 1) (S.set i ⟨s.g, some H.length⟩) (XsH (H ++ [u])) (hV (some ⟨g1, 0, none⟩) (some ⟨g2, 0, none⟩) (some ⟨g3, 0, none⟩) cp1 cp2 cp3 (H ++ [u]).length) w16 := by
                rw [XsH_snoc, hlen, hhv, huo]
                exact E16.out.later (by omega)
              exact ⟨_, _, _, cp1, cp2, cp3, H ++ [u], by rw [hlen], by rw [hlen], by rw [hlen], by omega, ⟨K5, _, hE, HI2.out⟩⟩
          · have hcn : ¬ ((onH H : Nat) : Int) < (Z.n : Int) := by
              have := onS_full hf
              rw [hI.out.len, hI.out.cnt] at this
              omega
            have HF := Aside0.mk hf
            clear hf
            go_wp2_with (first
              | (go_at_call 9; refine HNS.out.mono ?_; rintro e8 w8 ⟨bs, K2, rfl, h8, p8⟩; have HAl := Lib.hid (E_full h8 p8 hI.out (by omega) (by omega) hn1 hm8 HF.out); clear h8 p8 b0 b1 b2 b3 HNS)
              | (go_at_call 10; refine HAl.out.mono ?_; rintro e9 w9 ⟨rfl, h9, pw, p9⟩; have HE9 := Aside0.mk (And.intro h9 p9); have HC9 := Lib.hid (fun wx (hb : Below w9.heap.size w9 wx) => E_count (h9.below hb) rfl (by omega)); have HR9 := Lib.hid (fun wx (hb : Below w9.heap.size w9 wx) => E_snerr (p9.below hb)); clear h9 p9 HAl)
              | (go_at_call 11; refine (HR9.out _ (by first | exact Below.refl _ _ | exact H10.out | exact H11.out)).mono ?_; rintro e10 w10 ⟨rfl, h10⟩; have H10 : Aside0 (Below w9.heap.size w9 w10) := ⟨below_step (by first | exact H11.out | exact Below.refl _ _) h10⟩; clear h10)
              | (go_at_call 12; refine (HC9.out _ (by exact H10.out)).mono ?_; rintro e11 w11 ⟨rfl, h11⟩; have H11 := Aside0.mk (below_step H10.out h11); clear h11))
            go_meet
            case rel => exact ⟨A, B, C, a, b, c, H, rfl, rfl, rfl, by omega, ⟨K2, S, (HE9.out.1.below H10.out).later (by omega), hI.out.next⟩⟩
        · have hjI : ¬ (j : Int) ≥ (H.length : Int) := by omega
          obtain ⟨u, hu⟩ : ∃ u, H[j]? = some u := ⟨_, List.getElem?_eq_getElem (by omega)⟩
          obtain ⟨ga, gb, gc, rfl, rfl, rfl, hrd⟩ := HL7.out.1.rd hu
          have HRD := Lib.hid hrd
          have z0 : ∀ wx, RdP Z ga gb gc j u wx → wx.cell? ⟨w6.heap.size, 0, none⟩ = some (.int .u64 1) := fun wx h => zb ▸ h.c0
          have z1 : ∀ wx, RdP Z ga gb gc j u wx → wx.cell? ⟨w6.heap.size, 1, none⟩ = some (.int .u64 2) := fun wx h => zb ▸ h.c1
          have z2 : ∀ wx, RdP Z ga gb gc j u wx → wx.cell? ⟨w6.heap.size, 2, none⟩ = some (.int .i64 Z.n) := fun wx h => zb ▸ h.c2
          have z3 : ∀ wx, RdP Z ga gb gc j u wx → wx.cell? ⟨w6.heap.size, 3, none⟩ = some (.int .u64 1073741824) := fun wx h => zb ▸ h.c3
          have z4 : ∀ wx, RdP Z ga gb gc j u wx → wx.cell? ⟨ga, j, none⟩ = some (.int .u64 (hdl u)) := fun wx h => h.xa
          have z6 : ∀ wx, RdP Z ga gb gc j u wx → wx.cell? ⟨gc, j, none⟩ = some (.bool u.on) := fun wx h => h.xc
          have hI := Aside0.mk HL7.out.2
          have HU := Aside0.mk hu
          clear hrd hu hx hbw
          go_upto_region 22 with fail
          have hj1 : (0 : Int) ≤ (j : Int) := by omega
          have hj2 : (j : Int) < (H.length : Int) := by omega
          have hr : Below w7.heap.size w7 w7 := Below.refl _ _
          have hr2 : Below w7.heap.size w7 w7.drew := hr.drew
          have hs : RdP Z ga gb gc j u w7 := HRD.out _ _ _ _ _ HL7.out.1
          have hs2 : RdP Z ga gb gc j u w7.drew := HRD.out _ _ _ _ _ (HL7.out.1.below hr2)
          have HNR := Lib.hid (fun wx (h : Below w7.heap.size w7 wx) => E_newrel (HL7.out.1.below h) (hdl u))
          go_region_held3 (fun w' => RdP Z ga gb gc j u w') (assumption) (first
            | (go_at_call 15; with_reducible refine (HNR.out _ (by assumption)).mono ?_; rintro e8 w8 ⟨bs, K2, rfl, h8, p8⟩; have hs3 : RdP Z ga gb gc j u w8 := HRD.out _ _ _ _ _ h8; have HE8 := Aside0.mk (And.intro h8 p8); clear h8 p8))
          have hr3 : Below w8.heap.size w8 w8 := Below.refl _ _
          have hr4 : Below w8.heap.size w8 w8.drew := hr3.drew
          have hs4 : RdP Z ga gb gc j u w8.drew := HRD.out _ _ _ _ _ (HE8.out.1.below hr4)
          clear hr hr2 hs hs2 HNR HLW HWQ
          go_upto_region 23 with fail
          cases ho : u.on with
          | true =>
            rw [ho] at z6
            have HAl : Hid (∀ (wx : World) (hb : Below w8.heap.size w8 wx), _) := Lib.hid (fun wx hb => E_rel (HE8.out.1.below hb) (HE8.out.2.below hb) hI.out (by omega) (by omega) hn1 hm8 HU.out ho)
            go_region_held3 (fun w' => RdP Z ga gb gc j u w') (assumption) (first
              | (go_at_call 10; with_reducible refine (HAl.out _ (by assumption)).mono ?_; rintro e9 w9 ⟨rfl, h9, ρ, hρ, p9⟩; have hs5 : RdP Z ga gb gc j u w9 := HRD.out _ _ _ _ _ h9; have HE9 := Aside0.mk (And.intro h9 p9); have HRE := Lib.hid (E_relerr hρ p9); clear h9 p9)
              | (go_at_call 16; with_reducible refine (HRE.out).mono ?_; rintro e10 w10 ⟨rfl, hb10⟩; have HE10 := Aside0.mk (HE9.out.1.below hb10); have hs6 : RdP Z ga gb gc j u w10 := HRD.out _ _ _ _ _ HE10.out; clear hb10))
            all_goals (
              obtain ⟨hfz, hoff⟩ := HE10.out.off (gc := gc) (d := c) rfl HU.out
              have HO := Aside0.mk hoff
              clear hoff
              go_wp2_with fail
              go_meet
              case rel => exact ⟨some ⟨ga, 0, none⟩, some ⟨gb, 0, none⟩, some ⟨gc, 0, none⟩, a, b, c, H.set j { u with on := false }, by rw [List.length_set], by rw [List.length_set], by rw [List.length_set], by rw [List.length_set]; omega, ⟨K2, _, by unfold L2; rw [List.length_set]; exact ⟨HO.out.later (by omega), hI.out.rel HU.out ho⟩⟩⟩)
          | false =>
            rw [ho] at z6
            have HAl : Hid (∀ (wx : World) (hb : Below w8.heap.size w8 wx), _) := Lib.hid (fun wx hb => E_relNo (HE8.out.1.below hb) (HE8.out.2.below hb) hI.out (by omega) (by omega) hn1 hm8 HU.out ho)
            go_region_held3 (fun w' => RdP Z ga gb gc j u w') (assumption) (first
              | (go_at_call 10; with_reducible refine (HAl.out _ (by assumption)).mono ?_; rintro e9 w9 ⟨rfl, h9, ρ, hρ, p9⟩; have hs5 : RdP Z ga gb gc j u w9 := HRD.out _ _ _ _ _ h9; have HE9 := Aside0.mk (And.intro h9 p9); have HRE := Lib.hid (E_relerr hρ p9); clear h9 p9)
              | (go_at_call 16; with_reducible refine (HRE.out).mono ?_; rintro e10 w10 ⟨rfl, hb10⟩; have HE10 := Aside0.mk (HE9.out.1.below hb10); have hs6 : RdP Z ga gb gc j u w10 := HRD.out _ _ _ _ _ HE10.out; clear hb10))
            all_goals (
              obtain ⟨hfz, hoff⟩ := HE10.out.off (gc := gc) (d := c) rfl HU.out
              have hsame : H.set j { u with on := false } = H := set_same (by rw [HU.out, ← ho])
              rw [hsame] at hoff
              have HO := Aside0.mk hoff
              clear hoff
              go_wp2_with fail
              go_meet
              case rel => exact ⟨some ⟨ga, 0, none⟩, some ⟨gb, 0, none⟩, some ⟨gc, 0, none⟩, a, b, c, H, rfl, rfl, rfl, by omega, ⟨K2, S, HO.out.later (by omega), hI.out.next⟩⟩)
      case rest =>
        obtain ⟨A2, B2, C2, a2, b2, c2, H2, rfl, rfl, rfl, hH2, HL2⟩ := hcut
        clear HLW HWQ HL7 HLK hx hbw
        have HF2 : Aside0 (H2.length ≤ k + 1) := ⟨hH2⟩
        go_wp2_with fail
        go_loopw [18] (fun v18 WR => ∃ (jj : Nat), v18 = .int .i64 jj ∧ jj ≤ H2.length ∧ Aside0 (∃ K S, L2 Z k jj K S H2 (hV A2 B2 C2 a2 b2 c2 H2.length) WR)) (fun q _ => H2.length - (intOf q).toNat)
        case atStart => exact ⟨0, rfl, Nat.zero_le _, HL2⟩
        case round =>
          obtain ⟨jj, rfl, hjj, HL3⟩ := hrel
          obtain ⟨K3, S3, hL3⟩ := HL3.out
          have HLK := Aside0.mk hL3
          clear HL3 hL3 HL2
          by_cases hlt2 : jj < H2.length
          · have HF3 : Aside0 (jj < H2.length) := ⟨hlt2⟩
            have hI := Aside0.mk HLK.out.2
            obtain ⟨u, hu⟩ : ∃ u, H2[jj]? = some u := ⟨_, List.getElem?_eq_getElem hlt2⟩
            obtain ⟨ga, gb, gc, rfl, rfl, rfl, hrd⟩ := HLK.out.1.rd hu
            have HRD := Lib.hid hrd
            have z0 : ∀ wx, RdP Z ga gb gc jj u wx → wx.cell? ⟨w6.heap.size, 0, none⟩ = some (.int .u64 1) := fun wx h => zb ▸ h.c0
            have z1 : ∀ wx, RdP Z ga gb gc jj u wx → wx.cell? ⟨w6.heap.size, 1, none⟩ = some (.int .u64 2) := fun wx h => zb ▸ h.c1
            have z2 : ∀ wx, RdP Z ga gb gc jj u wx → wx.cell? ⟨w6.heap.size, 2, none⟩ = some (.int .i64 Z.n) := fun wx h => zb ▸ h.c2
            have z3 : ∀ wx, RdP Z ga gb gc jj u wx → wx.cell? ⟨w6.heap.size, 3, none⟩ = some (.int .u64 1073741824) := fun wx h => zb ▸ h.c3
            have z4 : ∀ wx, RdP Z ga gb gc jj u wx → wx.cell? ⟨ga, jj, none⟩ = some (.int .u64 (hdl u)) := fun wx h => h.xa
            have z5 : ∀ wx, RdP Z ga gb gc jj u wx → wx.cell? ⟨gb, jj, none⟩ = some (.int .u64 ((jj : Int) + 1)) := fun wx h => h.xb
            have z6 : ∀ wx, RdP Z ga gb gc jj u wx → wx.cell? ⟨gc, jj, none⟩ = some (.bool u.on) := fun wx h => h.xc
            have HU := Aside0.mk hu
            clear hrd hu
            have hj1 : (0 : Int) ≤ (jj : Int) := by omega
            have hj2 : (jj : Int) < (H2.length : Int) := by omega
            go_upto_region 29 with fail
            have hr : Below wr.heap.size wr wr := Below.refl _ _
            have hr2 : Below wr.heap.size wr wr.drew := hr.drew
            have hs : RdP Z ga gb gc jj u wr := HRD.out _ _ _ _ _ HLK.out.1
            have hs2 : RdP Z ga gb gc jj u wr.drew := HRD.out _ _ _ _ _ (HLK.out.1.below hr2)
            have HNO := Lib.hid (fun wx (h : Below wr.heap.size wr wx) => E_newopen (HLK.out.1.below h) (hdl u))
            go_region_held3 (fun w' => RdP Z ga gb gc jj u w') (assumption) (first
              | (go_at_call 17; with_reducible refine (HNO.out _ (by assumption)).mono ?_; rintro e8 w8 ⟨bo, K8, rfl, h8, p8⟩; have hs3 : RdP Z ga gb gc jj u w8 := HRD.out _ _ _ _ _ h8; have HE8 := Aside0.mk (And.intro h8 p8); clear h8 p8))
            have hr3 : Below w8.heap.size w8 w8 := Below.refl _ _
            have hr4 : Below w8.heap.size w8 w8.drew := hr3.drew
            have hs4 : RdP Z ga gb gc jj u w8.drew := HRD.out _ _ _ _ _ (HE8.out.1.below hr4)
            have HNC := Lib.hid (fun wx (h : Below w8.heap.size w8 wx) => E_newclose (HE8.out.1.below h) (HE8.out.2.below h) (hdl u) ((jj : Int) + 1))
            clear hr hr2 hs hs2 HNO
            go_upto_region 30 with fail
            go_region_held3 (fun w' => RdP Z ga gb gc jj u w') (assumption) (first
              | (go_at_call 18; with_reducible refine (HNC.out _ (by assumption)).mono ?_; rintro e9 w9 ⟨bx, K9, rfl, h9, p9, p9o, hne⟩; have hs5 : RdP Z ga gb gc jj u w9 := HRD.out _ _ _ _ _ h9; have HE9 := Aside0.mk (And.intro h9 (And.intro p9 (And.intro p9o hne))); clear h9 p9 p9o hne))
            have hr5 : Below w9.heap.size w9 w9 := Below.refl _ _
            have hr6 : Below w9.heap.size w9 w9.drew := hr5.drew
            have hs6 : RdP Z ga gb gc jj u w9.drew := HRD.out _ _ _ _ _ (HE9.out.1.below hr6)
            have e9 : IntKind.i64.wrap ((jj : Int) + 1) = ((jj + 1 : Nat) : Int) := IntWalk.i64_in _ (by omega)
            have HAO := Lib.hid (fun wx (h : Below w9.heap.size w9 wx) => E_open (HE9.out.1.below h) (HE9.out.2.2.1.below h) hI.out (by omega) (by omega) hn1 hm8 HU.out)
            clear hr3 hr4 hs3 hs4 HNC
            go_upto_region 31 with fail
            cases ho : u.on with
            | true =>
              rw [ho] at z6 HAO
              go_region_held3 (fun w' => RdP Z ga gb gc jj u w') (assumption) (first
                | (go_at_call 10; with_reducible refine (HAO.out _ (by assumption)).mono ?_; rintro e10 w10 ⟨rfl, h10, hk10, k', g', s', p10, hs'⟩; obtain rfl := hs' (by first | rfl | trivial); have hs7 : RdP Z ga gb gc jj u w10 := HRD.out _ _ _ _ _ h10; have p10c := (HE9.out.2.1.below (by assumption)).kept hk10 (Ne.symm HE9.out.2.2.2); have HE10 := Aside0.mk (And.intro h10 (And.intro p10 p10c)); have HAC := Lib.hid (E_close HE10.out.1 HE10.out.2.2 hI.out (by omega) (by omega) hn1 hm8 HU.out); rw [ho] at HAC; clear h10 hk10 p10 p10c)
                | (go_at_call 10; with_reducible refine (HAC.out).mono ?_; rintro e11 w11 ⟨rfl, h11, hk11, k2, g2, s2, p11, hs2'⟩; obtain rfl := hs2' (by first | rfl | trivial); have hs8 : RdP Z ga gb gc jj u w11 := HRD.out _ _ _ _ _ h11; have p11o := HE10.out.2.1.kept hk11 HE9.out.2.2.2; have HE11 := Aside0.mk h11; have HEO := Lib.hid (fun wx (hb : Below w11.heap.size w11 wx) => E_operr_t (p11o.below hb)); have HEC := Lib.hid (fun wx (hb : Below w11.heap.size w11 wx) => E_clerr_t (p11.below hb)); have HES := Lib.hid (fun wx (hb : Below w11.heap.size w11 wx) => E_opstamp (p11o.below hb)); have hq : Below w11.heap.size w11 w11 := Below.refl _ _; clear h11 hk11 p11 p11o)
                | (go_at_call 19; with_reducible refine (HEO.out _ (by assumption)).mono ?_; rintro e12 w12 ⟨rfl, hb12⟩; have hq12 : Below w11.heap.size w11 w12 := below_step (by assumption) hb12; have hs9 : RdP Z ga gb gc jj u w12 := HRD.out _ _ _ _ _ (HE11.out.below hq12); clear hb12)
                | (go_at_call 20; with_reducible refine (HES.out _ (by assumption)).mono ?_; rintro e13 w13 ⟨rfl, hb13⟩; have hq13 : Below w11.heap.size w11 w13 := below_step (by assumption) hb13; have hs10 : RdP Z ga gb gc jj u w13 := HRD.out _ _ _ _ _ (HE11.out.below hq13); clear hb13)
                | (go_at_call 21; with_reducible refine (HEC.out _ (by assumption)).mono ?_; rintro e14 w14 ⟨rfl, hb14⟩; have hq14 : Below w11.heap.size w11 w14 := below_step (by assumption) hb14; have hs11 : RdP Z ga gb gc jj u w14 := HRD.out _ _ _ _ _ (HE11.out.below hq14); clear hb14))
              all_goals (
                go_wp2_with fail
                exact ⟨⟨jj + 1, by rfl, by have := HF3.out; omega, ⟨K9, S3, (HE11.out.below hq14).later (by omega), hI.out⟩⟩, by have := HF3.out; simp [intOf]; omega⟩)
            | false =>
              rw [ho] at z6 HAO
              refine wp_region_held_drew (S := fun w' => RdP Z ga gb gc jj u w') (by kernel_rfl) (by assumption) (fun hHeld => ?_)
              refine wpAnyH_take (i := 0) (v := ?vv0) rfl (by kernel_rfl) (by kernel_rfl) (by kernel_rfl) (fun _ _ _ h => h) (Or.inl ⟨by rfl, ?hy0⟩) (by assumption) ?rest0
              case hy0 =>
                intro wq hSw
                go_simp
                try with_reducible rfl
              simp only [Act.put, List.getElem_toArray, List.getElem_cons_succ, List.getElem_cons_zero, List.setIfInBounds_toArray, List.set_cons_zero, List.set_cons_succ]
              refine wpAnyH_take (i := 1) (v := ?vv1) rfl (by kernel_rfl) (by kernel_rfl) (by kernel_rfl) (fun _ _ _ h => h) (Or.inl ⟨by rfl, ?hy1⟩) (by assumption) ?rest1
              case hy1 =>
                intro wq hSw
                go_simp
                try with_reducible rfl
              simp only [Act.put, List.getElem_toArray, List.getElem_cons_succ, List.getElem_cons_zero, List.setIfInBounds_toArray, List.set_cons_zero, List.set_cons_succ]
              refine wpAnyH_take (i := 2) (v := ?vv2) rfl (by kernel_rfl) (by kernel_rfl) (by kernel_rfl) (fun _ _ _ h => h) (Or.inl ⟨by rfl, ?hy2⟩) (by assumption) ?rest2
              case hy2 =>
                intro wq hSw
                go_simp
                try with_reducible rfl
              simp only [Act.put, List.getElem_toArray, List.getElem_cons_succ, List.getElem_cons_zero, List.setIfInBounds_toArray, List.set_cons_zero, List.set_cons_succ]
              refine wpAnyH_ready (rs := [3]) (by kernel_rfl) (by simp) ?_
              refine AllReadyH.cons rfl (fun K hK => ?_) AllReadyH.nil
              rw [if_pos (by rfl)]
              simp only [List.getElem_toArray, List.getElem_cons_succ, List.getElem_cons_zero]
              go_simp
              go_at_call 10
              with_reducible refine (HAO.out _ (by assumption)).mono ?_
              rintro e10 w10 ⟨rfl, h10, hk10, k', g', s', p10, hs'⟩
              have hs7 : RdP Z ga gb gc jj u w10 := HRD.out _ _ _ _ _ h10
              have p10c := (HE9.out.2.1.below (by assumption)).kept hk10 (Ne.symm HE9.out.2.2.2)
              have HE10 := Aside0.mk (And.intro h10 (And.intro p10 p10c))
              have HAC := Lib.hid (E_close HE10.out.1 HE10.out.2.2 hI.out (by omega) (by omega) hn1 hm8 HU.out)
              rw [ho] at HAC
              clear h10 hk10 p10 p10c
              try go_wp2_with fail
              refine hK.out _ _ (by assumption) (fun hHeld => ?_)
              clear hK K
              try simp only [Act.put, List.getElem_toArray, List.getElem_cons_succ, List.getElem_cons_zero, List.setIfInBounds_toArray, List.set_cons_zero, List.set_cons_succ]
              refine wpAnyH_take (i := 4) (v := ?vv4) rfl (by kernel_rfl) (by kernel_rfl) (by kernel_rfl) (fun _ _ _ h => h) (Or.inl ⟨by rfl, ?hy4⟩) (by assumption) ?rest4
              case hy4 =>
                intro wq hSw
                go_simp
                try with_reducible rfl
              simp only [Act.put, List.getElem_toArray, List.getElem_cons_succ, List.getElem_cons_zero, List.setIfInBounds_toArray, List.set_cons_zero, List.set_cons_succ]
              refine wpAnyH_take (i := 5) (v := ?vv5) rfl (by kernel_rfl) (by kernel_rfl) (by kernel_rfl) (fun _ _ _ h => h) (Or.inl ⟨by rfl, ?hy5⟩) (by assumption) ?rest5
              case hy5 =>
                intro wq hSw
                go_simp
                try with_reducible rfl
              simp only [Act.put, List.getElem_toArray, List.getElem_cons_succ, List.getElem_cons_zero, List.setIfInBounds_toArray, List.set_cons_zero, List.set_cons_succ]
              refine wpAnyH_take (i := 6) (v := ?vv6) rfl (by kernel_rfl) (by kernel_rfl) (by kernel_rfl) (fun _ _ _ h => h) (Or.inl ⟨by rfl, ?hy6⟩) (by assumption) ?rest6
              case hy6 =>
                intro wq hSw
                go_simp
                try with_reducible rfl
              simp only [Act.put, List.getElem_toArray, List.getElem_cons_succ, List.getElem_cons_zero, List.setIfInBounds_toArray, List.set_cons_zero, List.set_cons_succ]
              refine wpAnyH_take (i := 7) (v := ?vv7) rfl (by kernel_rfl) (by kernel_rfl) (by kernel_rfl) (fun _ _ _ h => h) (Or.inl ⟨by rfl, ?hy7⟩) (by assumption) ?rest7
              case hy7 =>
                intro wq hSw
                go_simp
                try with_reducible rfl
              simp only [Act.put, List.getElem_toArray, List.getElem_cons_succ, List.getElem_cons_zero, List.setIfInBounds_toArray, List.set_cons_zero, List.set_cons_succ]
              refine wpAnyH_take (i := 8) (v := ?vv8) rfl (by kernel_rfl) (by kernel_rfl) (by kernel_rfl) (fun _ _ _ h => h) (Or.inl ⟨by rfl, ?hy8⟩) (by assumption) ?rest8
              case hy8 =>
                intro wq hSw
                go_simp
                try with_reducible rfl
              simp only [Act.put, List.getElem_toArray, List.getElem_cons_succ, List.getElem_cons_zero, List.setIfInBounds_toArray, List.set_cons_zero, List.set_cons_succ]
              refine wpAnyH_ready (rs := [9]) (by kernel_rfl) (by simp) ?_
              refine AllReadyH.cons rfl (fun K hK => ?_) AllReadyH.nil
              rw [if_pos (by rfl)]
              simp only [List.getElem_toArray, List.getElem_cons_succ, List.getElem_cons_zero]
              go_simp
              go_at_call 10
              with_reducible refine (HAC.out).mono ?_
              rintro e11 w11 ⟨rfl, h11, hk11, k2, g2, s2, p11, hs2'⟩
              have hs8 : RdP Z ga gb gc jj u w11 := HRD.out _ _ _ _ _ h11
              have p11o := HE10.out.2.1.kept hk11 HE9.out.2.2.2
              have HE11 := Aside0.mk h11
              have HEO := Lib.hid (fun wx (hb : Below w11.heap.size w11 wx) => E_operr_f (p11o.below hb))
              have HEC := Lib.hid (fun wx (hb : Below w11.heap.size w11 wx) => E_clerr_f (p11.below hb))
              have hq : Below w11.heap.size w11 w11 := Below.refl _ _
              clear h11 hk11 p11 p11o
              try go_wp2_with fail
              refine hK.out _ _ (by assumption) (fun hHeld => ?_)
              clear hK K
              try simp only [Act.put, List.getElem_toArray, List.getElem_cons_succ, List.getElem_cons_zero, List.setIfInBounds_toArray, List.set_cons_zero, List.set_cons_succ]
              refine wpAnyH_take (i := 10) (v := ?vv10) rfl (by kernel_rfl) (by kernel_rfl) (by kernel_rfl) (fun _ _ _ h => h) (Or.inl ⟨by rfl, ?hy10⟩) (by assumption) ?rest10
              case hy10 =>
                intro wq hSw
                go_simp
                try with_reducible rfl
              simp only [Act.put, List.getElem_toArray, List.getElem_cons_succ, List.getElem_cons_zero, List.setIfInBounds_toArray, List.set_cons_zero, List.set_cons_succ]
              refine wpAnyH_take (i := 11) (v := ?vv11) rfl (by kernel_rfl) (by kernel_rfl) (by kernel_rfl) (fun _ _ _ h => h) (Or.inl ⟨by rfl, ?hy11⟩) (by assumption) ?rest11
              case hy11 =>
                intro wq hSw
                go_simp
                try with_reducible rfl
              simp only [Act.put, List.getElem_toArray, List.getElem_cons_succ, List.getElem_cons_zero, List.setIfInBounds_toArray, List.set_cons_zero, List.set_cons_succ]
              refine wpAnyH_take (i := 12) (v := ?vv12) rfl (by kernel_rfl) (by kernel_rfl) (by kernel_rfl) (fun _ _ _ h => h) (Or.inl ⟨by rfl, ?hy12⟩) (by assumption) ?rest12
              case hy12 =>
                intro wq hSw
                go_simp
                try with_reducible rfl
              simp only [Act.put, List.getElem_toArray, List.getElem_cons_succ, List.getElem_cons_zero, List.setIfInBounds_toArray, List.set_cons_zero, List.set_cons_succ]
              refine wpAnyH_take (i := 13) (v := ?vv13) rfl (by kernel_rfl) (by kernel_rfl) (by kernel_rfl) (fun _ _ _ h => h) (Or.inl ⟨by rfl, ?hy13⟩) (by assumption) ?rest13
              case hy13 =>
                intro wq hSw
                go_simp
                try with_reducible rfl
              simp only [Act.put, List.getElem_toArray, List.getElem_cons_succ, List.getElem_cons_zero, List.setIfInBounds_toArray, List.set_cons_zero, List.set_cons_succ]
              refine wpAnyH_take (i := 16) (v := ?vv16) rfl (by kernel_rfl) (by kernel_rfl) (by kernel_rfl) (fun _ _ _ h => h) (Or.inl ⟨by rfl, ?hy16⟩) (by assumption) ?rest16
              case hy16 =>
                intro wq hSw
                go_simp
                try with_reducible rfl
              simp only [Act.put, List.getElem_toArray, List.getElem_cons_succ, List.getElem_cons_zero, List.setIfInBounds_toArray, List.set_cons_zero, List.set_cons_succ]
              refine wpAnyH_take (i := 17) (v := ?vv17) rfl (by kernel_rfl) (by kernel_rfl) (by kernel_rfl) (fun _ _ _ h => h) (Or.inl ⟨by rfl, ?hy17⟩) (by assumption) ?rest17
              case hy17 =>
                intro wq hSw
                go_simp
                try with_reducible rfl
              simp only [Act.put, List.getElem_toArray, List.getElem_cons_succ, List.getElem_cons_zero, List.setIfInBounds_toArray, List.set_cons_zero, List.set_cons_succ]
              refine wpAnyH_take (i := 18) (v := ?vv18) rfl (by kernel_rfl) (by kernel_rfl) (by kernel_rfl) (fun _ _ _ h => h) (Or.inl ⟨by rfl, ?hy18⟩) (by assumption) ?rest18
              case hy18 =>
                intro wq hSw
                go_simp
                try with_reducible rfl
              simp only [Act.put, List.getElem_toArray, List.getElem_cons_succ, List.getElem_cons_zero, List.setIfInBounds_toArray, List.set_cons_zero, List.set_cons_succ]
              refine wpAnyH_take (i := 19) (v := ?vv19) rfl (by kernel_rfl) (by kernel_rfl) (by kernel_rfl) (fun _ _ _ h => h) (Or.inl ⟨by rfl, ?hy19⟩) (by assumption) ?rest19
              case hy19 =>
                intro wq hSw
                go_simp
                try with_reducible rfl
              simp only [Act.put, List.getElem_toArray, List.getElem_cons_succ, List.getElem_cons_zero, List.setIfInBounds_toArray, List.set_cons_zero, List.set_cons_succ]
              refine wpAnyH_ready (rs := [14]) (by kernel_rfl) (by simp) ?_
              refine AllReadyH.cons rfl (fun K hK => ?_) AllReadyH.nil
              rw [if_pos (by rfl)]
              simp only [List.getElem_toArray, List.getElem_cons_succ, List.getElem_cons_zero]
              go_simp
              go_at_call 19
              with_reducible refine (HEO.out _ (by assumption)).mono ?_
              rintro e12 w12 ⟨rfl, hb12⟩
              have hq12 : Below w11.heap.size w11 w12 := below_step (by assumption) hb12
              have hs9 : RdP Z ga gb gc jj u w12 := HRD.out _ _ _ _ _ (HE11.out.below hq12)
              clear hb12
              try go_wp2_with fail
              refine hK.out _ _ (by assumption) (fun hHeld => ?_)
              clear hK K
              try simp only [Act.put, List.getElem_toArray, List.getElem_cons_succ, List.getElem_cons_zero, List.setIfInBounds_toArray, List.set_cons_zero, List.set_cons_succ]
              refine wpAnyH_take (i := 15) (v := ?vv15) rfl (by kernel_rfl) (by kernel_rfl) (by kernel_rfl) (fun _ _ _ h => h) (Or.inl ⟨by rfl, ?hy15⟩) (by assumption) ?rest15
              case hy15 =>
                intro wq hSw
                go_simp
                try with_reducible rfl
              simp only [Act.put, List.getElem_toArray, List.getElem_cons_succ, List.getElem_cons_zero, List.setIfInBounds_toArray, List.set_cons_zero, List.set_cons_succ]
              refine wpAnyH_take (i := 20) (v := ?vv20) rfl (by kernel_rfl) (by kernel_rfl) (by kernel_rfl) (fun _ _ _ h => h) (Or.inl ⟨by rfl, ?hy20⟩) (by assumption) ?rest20
              case hy20 =>
                intro wq hSw
                go_simp
                try with_reducible rfl
              simp only [Act.put, List.getElem_toArray, List.getElem_cons_succ, List.getElem_cons_zero, List.setIfInBounds_toArray, List.set_cons_zero, List.set_cons_succ]
              refine wpAnyH_take (i := 21) (v := ?vv21) rfl (by kernel_rfl) (by kernel_rfl) (by kernel_rfl) (fun _ _ _ h => h) (Or.inl ⟨by rfl, ?hy21⟩) (by assumption) ?rest21
              case hy21 =>
                intro wq hSw
                go_simp
                try with_reducible rfl
              simp only [Act.put, List.getElem_toArray, List.getElem_cons_succ, List.getElem_cons_zero, List.setIfInBounds_toArray, List.set_cons_zero, List.set_cons_succ]
              refine wpAnyH_take (i := 22) (v := ?vv22) rfl (by kernel_rfl) (by kernel_rfl) (by kernel_rfl) (fun _ _ _ h => h) (Or.inl ⟨by rfl, ?hy22⟩) (by assumption) ?rest22
              case hy22 =>
                intro wq hSw
                go_simp
                try with_reducible rfl
              simp only [Act.put, List.getElem_toArray, List.getElem_cons_succ, List.getElem_cons_zero, List.setIfInBounds_toArray, List.set_cons_zero, List.set_cons_succ]
              refine wpAnyH_take (i := 23) (v := ?vv23) rfl (by kernel_rfl) (by kernel_rfl) (by kernel_rfl) (fun _ _ _ h => h) (Or.inl ⟨by rfl, ?hy23⟩) (by assumption) ?rest23
              case hy23 =>
                intro wq hSw
                go_simp
                try with_reducible rfl
              simp only [Act.put, List.getElem_toArray, List.getElem_cons_succ, List.getElem_cons_zero, List.setIfInBounds_toArray, List.set_cons_zero, List.set_cons_succ]
              refine wpAnyH_take (i := 24) (v := ?vv24) rfl (by kernel_rfl) (by kernel_rfl) (by kernel_rfl) (fun _ _ _ h => h) (Or.inl ⟨by rfl, ?hy24⟩) (by assumption) ?rest24
              case hy24 =>
                intro wq hSw
                go_simp
                try with_reducible rfl
              simp only [Act.put, List.getElem_toArray, List.getElem_cons_succ, List.getElem_cons_zero, List.setIfInBounds_toArray, List.set_cons_zero, List.set_cons_succ]
              refine wpAnyH_take (i := 25) (v := ?vv25) rfl (by kernel_rfl) (by kernel_rfl) (by kernel_rfl) (fun _ _ _ h => h) (Or.inl ⟨by rfl, ?hy25⟩) (by assumption) ?rest25
              case hy25 =>
                intro wq hSw
                go_simp
                try with_reducible rfl
              simp only [Act.put, List.getElem_toArray, List.getElem_cons_succ, List.getElem_cons_zero, List.setIfInBounds_toArray, List.set_cons_zero, List.set_cons_succ]
              refine wpAnyH_take (i := 26) (v := ?vv26) rfl (by kernel_rfl) (by kernel_rfl) (by kernel_rfl) (fun _ _ _ h => h) (Or.inl ⟨by rfl, ?hy26⟩) (by assumption) ?rest26
              case hy26 =>
                intro wq hSw
                go_simp
                try with_reducible rfl
              simp only [Act.put, List.getElem_toArray, List.getElem_cons_succ, List.getElem_cons_zero, List.setIfInBounds_toArray, List.set_cons_zero, List.set_cons_succ]
              refine wpAnyH_take (i := 27) (v := ?vv27) rfl (by kernel_rfl) (by kernel_rfl) (by kernel_rfl) (fun _ _ _ h => h) (Or.inl ⟨by rfl, ?hy27⟩) (by assumption) ?rest27
              case hy27 =>
                intro wq hSw
                go_simp
                try with_reducible rfl
              simp only [Act.put, List.getElem_toArray, List.getElem_cons_succ, List.getElem_cons_zero, List.setIfInBounds_toArray, List.set_cons_zero, List.set_cons_succ]
              refine wpAnyH_take (i := 28) (v := undef) rfl (by kernel_rfl) (by kernel_rfl) (by kernel_rfl) (fun _ _ _ h => h) (Or.inr ⟨by rfl, rfl⟩) (by assumption) ?_
              simp only [Act.put, List.getElem_toArray, List.getElem_cons_succ, List.getElem_cons_zero, List.setIfInBounds_toArray, List.set_cons_zero, List.set_cons_succ]
              refine wpAnyH_take (i := 30) (v := undef) rfl (by kernel_rfl) (by kernel_rfl) (by kernel_rfl) (fun _ _ _ h => h) (Or.inr ⟨by rfl, rfl⟩) (by assumption) ?_
              simp only [Act.put, List.getElem_toArray, List.getElem_cons_succ, List.getElem_cons_zero, List.setIfInBounds_toArray, List.set_cons_zero, List.set_cons_succ]
              refine wpAnyH_take (i := 31) (v := undef) rfl (by kernel_rfl) (by kernel_rfl) (by kernel_rfl) (fun _ _ _ h => h) (Or.inr ⟨by rfl, rfl⟩) (by assumption) ?_
              simp only [Act.put, List.getElem_toArray, List.getElem_cons_succ, List.getElem_cons_zero, List.setIfInBounds_toArray, List.set_cons_zero, List.set_cons_succ]
              refine wpAnyH_take (i := 32) (v := undef) rfl (by kernel_rfl) (by kernel_rfl) (by kernel_rfl) (fun _ _ _ h => h) (Or.inr ⟨by rfl, rfl⟩) (by assumption) ?_
              simp only [Act.put, List.getElem_toArray, List.getElem_cons_succ, List.getElem_cons_zero, List.setIfInBounds_toArray, List.set_cons_zero, List.set_cons_succ]
              refine wpAnyH_take (i := 33) (v := undef) rfl (by kernel_rfl) (by kernel_rfl) (by kernel_rfl) (fun _ _ _ h => h) (Or.inr ⟨by rfl, rfl⟩) (by assumption) ?_
              simp only [Act.put, List.getElem_toArray, List.getElem_cons_succ, List.getElem_cons_zero, List.setIfInBounds_toArray, List.set_cons_zero, List.set_cons_succ]
              refine wpAnyH_take (i := 29) (v := undef) rfl (by kernel_rfl) (by kernel_rfl) (by kernel_rfl) (fun _ _ _ h => h) (Or.inr ⟨by rfl, rfl⟩) (by assumption) ?_
              simp only [Act.put, List.getElem_toArray, List.getElem_cons_succ, List.getElem_cons_zero, List.setIfInBounds_toArray, List.set_cons_zero, List.set_cons_succ]
              refine wpAnyH_take (i := 34) (v := undef) rfl (by kernel_rfl) (by kernel_rfl) (by kernel_rfl) (fun _ _ _ h => h) (Or.inr ⟨by rfl, rfl⟩) (by assumption) ?_
              simp only [Act.put, List.getElem_toArray, List.getElem_cons_succ, List.getElem_cons_zero, List.setIfInBounds_toArray, List.set_cons_zero, List.set_cons_succ]
              refine wpAnyH_take (i := 35) (v := ?vv35) rfl (by kernel_rfl) (by kernel_rfl) (by kernel_rfl) (fun _ _ _ h => h) (Or.inl ⟨by rfl, ?hy35⟩) (by assumption) ?rest35
              case hy35 =>
                intro wq hSw
                go_simp
                try with_reducible rfl
              simp only [Act.put, List.getElem_toArray, List.getElem_cons_succ, List.getElem_cons_zero, List.setIfInBounds_toArray, List.set_cons_zero, List.set_cons_succ]
              refine wpAnyH_take (i := 36) (v := ?vv36) rfl (by kernel_rfl) (by kernel_rfl) (by kernel_rfl) (fun _ _ _ h => h) (Or.inl ⟨by rfl, ?hy36⟩) (by assumption) ?rest36
              case hy36 =>
                intro wq hSw
                go_simp
                try with_reducible rfl
              simp only [Act.put, List.getElem_toArray, List.getElem_cons_succ, List.getElem_cons_zero, List.setIfInBounds_toArray, List.set_cons_zero, List.set_cons_succ]
              refine wpAnyH_take (i := 37) (v := ?vv37) rfl (by kernel_rfl) (by kernel_rfl) (by kernel_rfl) (fun _ _ _ h => h) (Or.inl ⟨by rfl, ?hy37⟩) (by assumption) ?rest37
              case hy37 =>
                intro wq hSw
                go_simp
                try with_reducible rfl
              simp only [Act.put, List.getElem_toArray, List.getElem_cons_succ, List.getElem_cons_zero, List.setIfInBounds_toArray, List.set_cons_zero, List.set_cons_succ]
              refine wpAnyH_take (i := 38) (v := ?vv38) rfl (by kernel_rfl) (by kernel_rfl) (by kernel_rfl) (fun _ _ _ h => h) (Or.inl ⟨by rfl, ?hy38⟩) (by assumption) ?rest38
              case hy38 =>
                intro wq hSw
                go_simp
                try with_reducible rfl
              simp only [Act.put, List.getElem_toArray, List.getElem_cons_succ, List.getElem_cons_zero, List.setIfInBounds_toArray, List.set_cons_zero, List.set_cons_succ]
              refine wpAnyH_take (i := 41) (v := ?vv41) rfl (by kernel_rfl) (by kernel_rfl) (by kernel_rfl) (fun _ _ _ h => h) (Or.inl ⟨by rfl, ?hy41⟩) (by assumption) ?rest41
              case hy41 =>
                intro wq hSw
                go_simp
                try with_reducible rfl
              simp only [Act.put, List.getElem_toArray, List.getElem_cons_succ, List.getElem_cons_zero, List.setIfInBounds_toArray, List.set_cons_zero, List.set_cons_succ]
              refine wpAnyH_take (i := 42) (v := ?vv42) rfl (by kernel_rfl) (by kernel_rfl) (by kernel_rfl) (fun _ _ _ h => h) (Or.inl ⟨by rfl, ?hy42⟩) (by assumption) ?rest42
              case hy42 =>
                intro wq hSw
                go_simp
                try with_reducible rfl
              simp only [Act.put, List.getElem_toArray, List.getElem_cons_succ, List.getElem_cons_zero, List.setIfInBounds_toArray, List.set_cons_zero, List.set_cons_succ]
              refine wpAnyH_take (i := 43) (v := ?vv43) rfl (by kernel_rfl) (by kernel_rfl) (by kernel_rfl) (fun _ _ _ h => h) (Or.inl ⟨by rfl, ?hy43⟩) (by assumption) ?rest43
              case hy43 =>
                intro wq hSw
                go_simp
                try with_reducible rfl
              simp only [Act.put, List.getElem_toArray, List.getElem_cons_succ, List.getElem_cons_zero, List.setIfInBounds_toArray, List.set_cons_zero, List.set_cons_succ]
              refine wpAnyH_take (i := 44) (v := ?vv44) rfl (by kernel_rfl) (by kernel_rfl) (by kernel_rfl) (fun _ _ _ h => h) (Or.inl ⟨by rfl, ?hy44⟩) (by assumption) ?rest44
              case hy44 =>
                intro wq hSw
                go_simp
                try with_reducible rfl
              simp only [Act.put, List.getElem_toArray, List.getElem_cons_succ, List.getElem_cons_zero, List.setIfInBounds_toArray, List.set_cons_zero, List.set_cons_succ]
              refine wpAnyH_ready (rs := [39]) (by kernel_rfl) (by simp) ?_
              refine AllReadyH.cons rfl (fun K hK => ?_) AllReadyH.nil
              rw [if_pos (by rfl)]
              simp only [List.getElem_toArray, List.getElem_cons_succ, List.getElem_cons_zero]
              go_simp
              go_at_call 21
              with_reducible refine (HEC.out _ (by assumption)).mono ?_
              rintro e14 w14 ⟨rfl, hb14⟩
              have hq14 : Below w11.heap.size w11 w14 := below_step (by assumption) hb14
              have hs11 : RdP Z ga gb gc jj u w14 := HRD.out _ _ _ _ _ (HE11.out.below hq14)
              clear hb14
              try go_wp2_with fail
              refine hK.out _ _ (by assumption) (fun hHeld => ?_)
              clear hK K
              try simp only [Act.put, List.getElem_toArray, List.getElem_cons_succ, List.getElem_cons_zero, List.setIfInBounds_toArray, List.set_cons_zero, List.set_cons_succ]
              refine wpAnyH_take (i := 40) (v := ?vv40) rfl (by kernel_rfl) (by kernel_rfl) (by kernel_rfl) (fun _ _ _ h => h) (Or.inl ⟨by rfl, ?hy40⟩) (by assumption) ?rest40
              case hy40 =>
                intro wq hSw
                go_simp
                try with_reducible rfl
              simp only [Act.put, List.getElem_toArray, List.getElem_cons_succ, List.getElem_cons_zero, List.setIfInBounds_toArray, List.set_cons_zero, List.set_cons_succ]
              refine wpAnyH_take (i := 45) (v := ?vv45) rfl (by kernel_rfl) (by kernel_rfl) (by kernel_rfl) (fun _ _ _ h => h) (Or.inl ⟨by rfl, ?hy45⟩) (by assumption) ?rest45
              case hy45 =>
                intro wq hSw
                go_simp
                try with_reducible rfl
              simp only [Act.put, List.getElem_toArray, List.getElem_cons_succ, List.getElem_cons_zero, List.setIfInBounds_toArray, List.set_cons_zero, List.set_cons_succ]
              refine wpAnyH_take (i := 46) (v := ?vv46) rfl (by kernel_rfl) (by kernel_rfl) (by kernel_rfl) (fun _ _ _ h => h) (Or.inl ⟨by rfl, ?hy46⟩) (by assumption) ?rest46
              case hy46 =>
                intro wq hSw
                go_simp
                try with_reducible rfl
              simp only [Act.put, List.getElem_toArray, List.getElem_cons_succ, List.getElem_cons_zero, List.setIfInBounds_toArray, List.set_cons_zero, List.set_cons_succ]
              refine wpAnyH_done (by kernel_rfl) ?_ _
              go_wp2_with fail
              exact ⟨⟨jj + 1, by rfl, by have := HF3.out; omega, ⟨K9, S3, (HE11.out.below hq14).later (by omega), hI.out⟩⟩, by have := HF3.out; simp [intOf]; omega⟩
          · obtain rfl : jj = H2.length := by omega
            have hge2 : ¬ (H2.length : Int) < (H2.length : Int) := by omega
            have e8 : IntKind.i64.wrap ((k : Int) + 1) = ((k + 1 : Nat) : Int) := IntWalk.i64_in _ (by omega)
            go_wp2_with fail
            exact ⟨⟨k + 1, A2, B2, C2, a2, b2, c2, H2, rfl, rfl, rfl, by rfl, by omega, by omega, hH2, ⟨K3, S3, HLK.out.1.later (by omega), HLK.out.2⟩⟩, by simp [intOf]; omega⟩
    · have nf0 := need_f0
      have nf1 := need_f1
      have hgo : ¬ (k : Int) < (l1.length : Int) ∨ ((k : Int) < (l1.length : Int) ∧ ¬ (k : Int) < 500) := by omega
      obtain ⟨b0, b1, b2, b3⟩ := HLK.out.1.box
      rw [zb] at b0 b1 b2 b3
      have hI := Aside0.mk HLK.out.2
      have HNS := Lib.hid (E_newscan HLK.out.1)
      have e3 : IntKind.i64.wrap ((Z.n : Int) + 1) = ((Z.n + 1 : Nat) : Int) := IntWalk.i64_in _ (by omega)
      have HBx : Hid (∀ (K' : Nat → Prop) (k' : Nat) (c' : Int) (S' : List Sl) (X' : Xs) (V' : HVs) (wx : World), Env Z K' k' c' S' X' V' wx → wx.cell? ⟨w6.heap.size, 0, none⟩ = some (.int .u64 1) ∧ wx.cell? ⟨w6.heap.size, 1, none⟩ = some (.int .u64 2) ∧ wx.cell? ⟨w6.heap.size, 2, none⟩ = some (.int .i64 Z.n) ∧ wx.cell? ⟨w6.heap.size, 3, none⟩ = some (.int .u64 1073741824)) := Lib.hid (fun K' k' c' S' X' V' wx h => zb ▸ h.box)
      rcases hgo with hgo | ⟨hgo0, hgo⟩
      all_goals (
        go_wp2_with (first
          | (go_at_call 22; refine HNS.out.mono ?_; rintro e8 w8 ⟨bs, K2, rfl, h8, p8⟩; have HAl := Lib.hid (E_scan h8 p8 hI.out (by omega) (by omega) hn1 hm8); clear h8 p8 b0 b1 b2 b3 HNS)
          | (go_at_call 10; refine HAl.out.mono ?_; rintro e9 w9 ⟨rfl, K3, need, ex, ls, h9, s9, r9, hls⟩; have HE9 := Aside0.mk h9; have HC9 := Lib.hid (fun wx (hb : Below w9.heap.size w9 wx) => E_count (h9.below hb) rfl (by omega)); have HN9 := Lib.hid (fun wx (hb : Below w9.heap.size w9 wx) => need_calls wx bs (PH Z.n) Z.n ((H.length : Int) + 1) need ex ls w8.heap.size _ (SB.below s9 hb) (RU.below r9 hb) (by have := onS_le S; have := hI.out.cnt; have := hI.out.len; omega)); have HP9 := Lib.hid (fun wx (hb : Below w9.heap.size w9 wx) => E_peek (h9.below hb)); have HL9 := Lib.hid (fun wx (hb : Below w9.heap.size w9 wx) => E_live (h9.below hb) hI.out (by omega) hn1 hm8); rw [hls] at HN9; have HW : Aside0 (Below w9.heap.size w9 w9) := ⟨Below.refl _ _⟩; clear h9 s9 r9 HAl)
          | (go_at_call 23; refine (HN9.out _ HW.out).mono ?_; rintro e10 w10 ⟨⟨A10, c10, rfl⟩, hb⟩; replace HW : Aside0 (Below w9.heap.size w9 w10) := ⟨below_step HW.out hb⟩; obtain ⟨b0, b1, b2, b3⟩ := HBx.out _ _ _ _ _ _ _ (HE9.out.below HW.out); clear hb)
          | (go_at_call 24; refine (HP9.out _ HW.out).mono ?_; rintro e11 w11 ⟨rfl, rfl⟩)
          | (go_at_call 25; refine (HL9.out _ HW.out).mono ?_; rintro e12 w12 ⟨⟨A12, c12, rfl⟩, hb⟩; replace HW : Aside0 (Below w9.heap.size w9 w12) := ⟨below_step HW.out hb⟩; clear hb b0 b1 b2 b3)
          | (go_at_call 12; refine (HC9.out _ HW.out).mono ?_; rintro e13 w13 ⟨rfl, hb⟩; replace HW : Aside0 (Below w9.heap.size w9 w13) := ⟨below_step HW.out hb⟩; clear hb))
        go_ret
        refine ⟨rfl, ?_⟩
        have := (HE9.out.below HW.out).low
        rw [zw.out.1, zw.out.2] at this
        exact this)
end Go.Proofs.YtcbndfmbpojppaaGreat
