/- For every spans and order HistOrders answers true, and its arguments read as they did. No condition. -/
import Derived.Test.YtfmhdfgliamkkaaRows
import Derived.Test.YtfmhdfgliamkkaaHistKeepsMath
import Derived.Test.YtfmhdfgliamkkaaHistWidthMath
import Derived.Test.YtfmhdfgliamkkaaHistInts
import Derived.Test.YtfmhdfgliamkkaaHistLent
import Derived.Test.YtfmhdfgliamkkaaHistRowKit
import Derived.Test.YtfmhdfgliamkkaaOwnx8
import Derived.Test.YtfmhdfgliamkkaaOwnx18
import Derived.WalkKit
import Derived.ProofKit
import Derived.OpenShut
import Derived.ShutString
import Derived.ChangeOld
import Derived.Below
import Derived.SizedLaws
import Derived.Lib.SmallJoins
import Derived.Lib.Hide
import Derived.Outline
import Derived.Deep.RegionWith
import Derived.Deep.RegionHeld3
namespace Go.Proofs.Ytfmhdfgliamkkaa.histOrders
open Go.ChangeShapes Go.WideShapes Go.ChangeAt Go.RowKit Go.Joins
set_option linter.unusedVariables false
open Go.Proofs.YtfmhdfgliamkkaaW.PrintWords Go.Proofs.YtfmhdfgliamkkaaW.PrintLast Go.Proofs.YtfmhdfgliamkkaaW.PrintMore Go.Proofs.Ytfmhdfgliamkkaa.Own
set_option linter.unusedSimpArgs false
theorem live_true : shutterlaw05_live.f = some true := by decide +kernel
set_option maxHeartbeats 4000000 in
set_option maxRecDepth 100000 in
theorem walk (A0 : Option Addr) (c0 : Nat) (l0 : List S36) (A1 : Option Addr) (c1 : Nat) (l1 : List Int) (w : World) (hr0 : Kd.C k36 w A0 l0.length l0) (hc0 : l0.length ≤ c0) (hr1 : Kd.C (Kd.int .i64) w A1 l1.length l1) (hc1 : l1.length ≤ c1) (hl : l0.length + 1 < 4398046511104) (hl1 : l1.length < 17592186044416) :
    Calls Try.prog 8 #[.slice A0 l0.length c0, .slice A1 l1.length c1] w fun e w' => e = .returned (.bool true) ∧ Below w.heap.size w w' := by
  have HR0 := Aside0.mk hr0
  have HR1 := Aside0.mk hr1
  clear hr0 hr1
  go_enter Try.func8, Try.ntmps8
  go_wp2_with fail
  refine (lent_calls A0 c0 l0 w HR0.out hl).mono ?_
  rintro e1 w1 ⟨g, cap, rfl, hR, hb⟩
  have HB1 := Aside0.mk hb
  have HCP : Aside0 (l0.length + 1 ≤ cap) := ⟨by have := (Kd.R_reads' hR).2.1; simpa using this⟩
  have HO1 := Aside0.mk (Kd.R_reads' hR).2.2
  have HRA1 := Aside0.mk (Kd.C_below HR0.out hb)
  have HRB1 := Aside0.mk (Kd.C_below HR1.out hb)
  clear hR hb
  go_wp2_with fail
  refine (hand_calls A1 c1 l1 w1 HRB1.out hl1).mono ?_
  rintro e2 w2 ⟨g2, cap2, rfl, hR, hb⟩
  have HB2 := Aside0.mk (HB1.out.trans (hb.mono HB1.out.size))
  have HCP2 : Aside0 (l1.length + 9 ≤ cap2) := ⟨by have := (Kd.R_reads' hR).2.1; rw [HI.len] at this; exact this⟩
  have HJ2 := Aside0.mk (Kd.R_reads' hR).2.2
  have HO2 := Aside0.mk (Kd.C_below HO1.out hb)
  have HRA2 := Aside0.mk (Kd.C_below HRA1.out hb)
  have HRB2 := Aside0.mk (Kd.C_below HRB1.out hb)
  clear hR hb HO1 HRA1 HRB1 HB1
  go_wp2_with fail
  go_loopw [7] (fun v7 wr => ∃ (i : Nat), i ≤ l0.length ∧ v7 = .int .i64 i ∧ Aside0 (Below w2.heap.size w2 wr)) (fun i _ => l0.length - (intOf i).toNat)
  case atStart => exact ⟨0, Nat.zero_le _, rfl, ⟨Below.refl _ _⟩⟩
  case round =>
    obtain ⟨i, hi, rfl, HW⟩ := hrel
    by_cases hlt : i + 1 < l0.length
    · have hi0 : (0 : Int) ≤ (i : Int) := by omega
      have hi1 : (i : Int) < (l0.length : Int) := by omega
      obtain ⟨n, hn⟩ : ∃ n : Int, n = (i : Int) + 1 := ⟨_, rfl⟩
      have hj0 : (0 : Int) ≤ n := by omega
      have hj1 : n < (l0.length : Int) := by omega
      have hwr : IntKind.i64.wrap ((i : Int) + 1) = n := by rw [i64_w, hn]; unfold wrap64; omega
      have HN := Aside0.mk hn
      clear hn
      have HX := Aside0.mk (fun (wx : World) (hwx : Below w2.heap.size w2 wx) => at_T36 (Kd.C_below HRA2.out hwx) (i : Int) hi0 hi1)
      have HY := Aside0.mk (fun (wx : World) (hwx : Below w2.heap.size w2 wx) => at_T36 (Kd.C_below HRA2.out hwx) n hj0 hj1)
      obtain ⟨ad0, rfl, _⟩ := HX.out w2 (Below.refl _ _)
      generalize rd_T36 l0 (i : Int) = sx at HX
      generalize rd_T36 l0 n = sm at HY
      obtain ⟨s0, s1, s2, s3⟩ := sx
      obtain ⟨o0, o1, o2, o3⟩ := sm
      have hx : ∀ wx : World, Below w2.heap.size w2 wx → (wx.cell? (ad0.add ((i : Int).toNat * 4)) = some (.int .i64 s0) ∧ wx.cell? ⟨(ad0.add ((i : Int).toNat * 4)).block, (ad0.add ((i : Int).toNat * 4)).off + 1, none⟩ = some (.int .i64 s1) ∧ wx.cell? ⟨(ad0.add ((i : Int).toNat * 4)).block, (ad0.add ((i : Int).toNat * 4)).off + 2, none⟩ = some (.int .i64 s2) ∧ wx.cell? ⟨(ad0.add ((i : Int).toNat * 4)).block, (ad0.add ((i : Int).toNat * 4)).off + 3, none⟩ = some (.int .i64 s3)) := fun wx h => by
        obtain ⟨ad, hae, h4⟩ := HX.out wx h
        injection hae with hae
        subst hae
        exact h4
      have hy : ∀ wx : World, Below w2.heap.size w2 wx → (wx.cell? (ad0.add (n.toNat * 4)) = some (.int .i64 o0) ∧ wx.cell? ⟨(ad0.add (n.toNat * 4)).block, (ad0.add (n.toNat * 4)).off + 1, none⟩ = some (.int .i64 o1) ∧ wx.cell? ⟨(ad0.add (n.toNat * 4)).block, (ad0.add (n.toNat * 4)).off + 2, none⟩ = some (.int .i64 o2) ∧ wx.cell? ⟨(ad0.add (n.toNat * 4)).block, (ad0.add (n.toNat * 4)).off + 3, none⟩ = some (.int .i64 o3)) := fun wx h => by
        obtain ⟨ad, hae, h4⟩ := HY.out wx h
        injection hae with hae
        subst hae
        exact h4
      rw [Int.toNat_natCast] at hx
      have x0 := fun wx h => (hx wx h).1
      have x1 := fun wx h => (hx wx h).2.1
      have x2 := fun wx h => (hx wx h).2.2.1
      have x3 := fun wx h => (hx wx h).2.2.2
      have y0 := fun wx h => (hy wx h).1
      have y1 := fun wx h => (hy wx h).2.1
      have y2 := fun wx h => (hy wx h).2.2.1
      have y3 := fun wx h => (hy wx h).2.2.2
      have a1 : ∀ wx : World, Calls Try.prog 17 #[.agg #[.int .i64 s0, .int .i64 s1, .int .i64 s2, .int .i64 s3], .agg #[.int .i64 o0, .int .i64 o1, .int .i64 o2, .int .i64 o3]] wx fun e w' => e = .returned (.bool (aheadB ⟨s0, s1, s2, s3⟩ ⟨o0, o1, o2, o3⟩)) ∧ Below wx.heap.size wx w' := fun wx => HF.ahead ⟨s0, s1, s2, s3⟩ ⟨o0, o1, o2, o3⟩ wx
      have a2 : ∀ wx : World, Calls Try.prog 17 #[.agg #[.int .i64 o0, .int .i64 o1, .int .i64 o2, .int .i64 o3], .agg #[.int .i64 s0, .int .i64 s1, .int .i64 s2, .int .i64 s3]] wx fun e w' => e = .returned (.bool (aheadB ⟨o0, o1, o2, o3⟩ ⟨s0, s1, s2, s3⟩)) ∧ Below wx.heap.size wx w' := fun wx => HF.ahead ⟨o0, o1, o2, o3⟩ ⟨s0, s1, s2, s3⟩ wx
      have b1 : ∀ wx : World, Calls Try.prog 24 #[.agg #[.int .i64 s0, .int .i64 s1, .int .i64 s2, .int .i64 s3], .agg #[.int .i64 o0, .int .i64 o1, .int .i64 o2, .int .i64 o3]] wx fun e w' => e = .returned (.bool (aheadB ⟨s0, s1, s2, s3⟩ ⟨o0, o1, o2, o3⟩)) ∧ Below wx.heap.size wx w' := fun wx => shutterref05_Ahead.calls s0 s1 s2 s3 o0 o1 o2 o3 _ wx (FM.ahead_is ⟨s0, s1, s2, s3⟩ ⟨o0, o1, o2, o3⟩)
      have b2 : ∀ wx : World, Calls Try.prog 24 #[.agg #[.int .i64 o0, .int .i64 o1, .int .i64 o2, .int .i64 o3], .agg #[.int .i64 s0, .int .i64 s1, .int .i64 s2, .int .i64 s3]] wx fun e w' => e = .returned (.bool (aheadB ⟨o0, o1, o2, o3⟩ ⟨s0, s1, s2, s3⟩)) ∧ Below wx.heap.size wx w' := fun wx => shutterref05_Ahead.calls o0 o1 o2 o3 s0 s1 s2 s3 _ wx (FM.ahead_is ⟨o0, o1, o2, o3⟩ ⟨s0, s1, s2, s3⟩)
      generalize aheadB ⟨s0, s1, s2, s3⟩ ⟨o0, o1, o2, o3⟩ = ab at a1 b1
      generalize aheadB ⟨o0, o1, o2, o3⟩ ⟨s0, s1, s2, s3⟩ = ba at a2 b2
      have p1 : (ab != ab) = false := by simp
      have p2 : (ba != ba) = false := by simp
      have A1 := Lib.hid a1
      have A2 := Lib.hid a2
      have B1 := Lib.hid b1
      have B2 := Lib.hid b2
      clear hx hy a1 a2 b1 b2
      go_upto_region 5 with (fail)
      have hwd : Below w2.heap.size w2 wr.drew := HW.out.drew
      go_region_held3 (fun w' => Below w2.heap.size w2 w') (assumption) (first
        | (go_at_call 17; with_reducible refine (A1.out _).mono ?_; rintro e w' ⟨rfl, hb⟩; have hs_ : Below w2.heap.size w2 w' := below_step (by assumption) hb; clear hb)
        | (go_at_call 17; with_reducible refine (A2.out _).mono ?_; rintro e w' ⟨rfl, hb⟩; have hs_ : Below w2.heap.size w2 w' := below_step (by assumption) hb; clear hb)
        | (go_at_call 24; with_reducible refine (B1.out _).mono ?_; rintro e w' ⟨rfl, hb⟩; have hs_ : Below w2.heap.size w2 w' := below_step (by assumption) hb; clear hb)
        | (go_at_call 24; with_reducible refine (B2.out _).mono ?_; rintro e w' ⟨rfl, hb⟩; have hs_ : Below w2.heap.size w2 w' := below_step (by assumption) hb; clear hb))
      all_goals (
        have HWN := Aside0.mk (show Below w2.heap.size w2 _ by assumption)
        clear x0 x1 x2 x3 y0 y1 y2 y3 HX HY A1 A2 B1 B2
        go_wp2
        exact ⟨⟨i + 1, by omega, by first | rfl | (rw [HN.out]; rfl), HWN⟩, by first | (simp [intOf]; done) | (simp [intOf]; omega) | (have := HN.out; simp [intOf]; omega)⟩)
    · have HB3 := Aside0.mk (HB2.out.trans (HW.out.mono HB2.out.size))
      have HO3 := Aside0.mk (Kd.C_below HO2.out HW.out)
      have HJ3 := Aside0.mk (Kd.C_below HJ2.out HW.out)
      have HRA3 := Aside0.mk (Kd.C_below HRA2.out HW.out)
      have HRB3 := Aside0.mk (Kd.C_below HRB2.out HW.out)
      clear HO2 HJ2 HRA2 HRB2 HB2 HW
      have hll : l0.length < 4398046511104 := by omega
      obtain ⟨KK, hKK⟩ : ∃ K, shutterref05_Keeps.f K l0 l1 = some (keepsB l0 l1) := ⟨_, KM.ref l0 l1 hll hl1 _ (Nat.le_refl _)⟩
      have hKH : hist_Keeps.f l0 l1 = some (keepsB l0 l1) := by unfold hist_Keeps.f; rw [if_pos ⟨hll, hl1⟩]
      obtain ⟨KW, rW, hW1, hW2⟩ := WM.width l0 hll
      generalize keepsB l0 l1 = kb at hKK hKH
      have HKK := Lib.hid hKK
      have HKH := Lib.hid hKH
      have HW1 := Lib.hid hW1
      have HW2 := Lib.hid hW2
      have pb : (kb == kb) = true := by simp
      have pw : (rW == rW) = true := by simp
      clear hKK hKH hW1 hW2
      go_wp2_with fail
      refine (shutterlaw05_live.calls true _ live_true).mono ?_
      rintro e3 w3 ⟨rfl, hb⟩
      have HB4 := Aside0.mk (HB3.out.trans (hb.mono HB3.out.size))
      have HO4 := Aside0.mk (Kd.C_below HO3.out hb)
      have HJ4 := Aside0.mk (Kd.C_below HJ3.out hb)
      have HRA4 := Aside0.mk (Kd.C_below HRA3.out hb)
      have HRB4 := Aside0.mk (Kd.C_below HRB3.out hb)
      clear hb HO3 HJ3 HRA3 HRB3 HB3
      have HT4 : Aside0 (Kd.C k36 w3 (some ⟨g, 0, none⟩) l0.length l0) := ⟨by
        have h := Kd.C_take (m := l0.length) HO4.out (by simp)
        rw [List.take_left] at h
        exact h⟩
      have HS4 : Aside0 (Kd.C (Kd.int .i64) w3 (some ⟨g2, 0, none⟩) l1.length l1) := ⟨by
        have h := Kd.C_take (m := l1.length) HJ4.out (by simp)
        rw [List.take_left] at h
        exact h⟩
      go_wp2_with fail
      refine (hist_Keeps.calls (some ⟨g, 0, none⟩) cap l0 (some ⟨g2, 0, none⟩) cap2 l1 kb _ HT4.out (by have := HCP.out; omega) HS4.out (by have := HCP2.out; omega) HKH.out).mono ?_
      rintro e4 w4 ⟨rfl, hb⟩
      have HB5 := Aside0.mk (HB4.out.trans (hb.mono HB4.out.size))
      have HO5 := Aside0.mk (Kd.C_below HO4.out hb)
      have HJ5 := Aside0.mk (Kd.C_below HJ4.out hb)
      have HT5 := Aside0.mk (Kd.C_below HT4.out hb)
      have HRA5 := Aside0.mk (Kd.C_below HRA4.out hb)
      have HRB5 := Aside0.mk (Kd.C_below HRB4.out hb)
      clear hb HO4 HJ4 HRA4 HRB4 HB4 HT4 HS4
      go_wp2_with fail
      refine (shutterref05_Keeps.calls KK A0 c0 l0 A1 c1 l1 kb _ HRA5.out hc0 HRB5.out hc1 HKK.out).mono ?_
      rintro e5 w5 ⟨rfl, hb⟩
      have HB6 := Aside0.mk (HB5.out.trans (hb.mono HB5.out.size))
      have HO6 := Aside0.mk (Kd.C_below HO5.out hb)
      have HJ6 := Aside0.mk (Kd.C_below HJ5.out hb)
      have HT6 := Aside0.mk (Kd.C_below HT5.out hb)
      have HRA6 := Aside0.mk (Kd.C_below HRA5.out hb)
      have HRB6 := Aside0.mk (Kd.C_below HRB5.out hb)
      clear hb HO5 HJ5 HRA5 HRB5 HB5 HT5
      go_wp2_with fail
      refine (hist_Width.calls KW (some ⟨g, 0, none⟩) cap l0 rW _ HT6.out (by have := HCP.out; omega) HW1.out).mono ?_
      rintro e6 w6 ⟨rfl, hb⟩
      have HB7 := Aside0.mk (HB6.out.trans (hb.mono HB6.out.size))
      have HO7 := Aside0.mk (Kd.C_below HO6.out hb)
      have HJ7 := Aside0.mk (Kd.C_below HJ6.out hb)
      have HRA7 := Aside0.mk (Kd.C_below HRA6.out hb)
      have HRB7 := Aside0.mk (Kd.C_below HRB6.out hb)
      clear hb HO6 HJ6 HRA6 HRB6 HB6 HT6
      go_wp2_with fail
      refine (shutterref05_Width.calls KW A0 c0 l0 rW _ HRA7.out hc0 HW2.out).mono ?_
      rintro e7 w7 ⟨rfl, hb⟩
      have HB8 := Aside0.mk (HB7.out.trans (hb.mono HB7.out.size))
      have HO8 := Aside0.mk (Kd.C_below HO7.out hb)
      have HJ8 := Aside0.mk (Kd.C_below HJ7.out hb)
      have HRA8 := Aside0.mk (Kd.C_below HRA7.out hb)
      have HRB8 := Aside0.mk (Kd.C_below HRB7.out hb)
      clear hb HO7 HJ7 HRA7 HRB7 HB7
      go_wp2_with fail
      refine (kept_calls g cap A0 c0 l0 _ HO8.out HCP.out HRA8.out hc0 hl).mono ?_
      rintro e8 w8 ⟨rfl, hb⟩
      have HB9 := Aside0.mk (HB8.out.trans (hb.mono HB8.out.size))
      have HJ9 := Aside0.mk (Kd.C_below HJ8.out hb)
      have HRB9 := Aside0.mk (Kd.C_below HRB8.out hb)
      clear hb HO8 HJ8 HRA8 HRB8 HB8
      go_wp2_with fail
      refine (kept_ints g2 cap2 A1 c1 l1 _ HJ9.out HCP2.out HRB9.out hc1 hl1).mono ?_
      rintro e9 w9 ⟨rfl, hb⟩
      have HB10 := Aside0.mk (HB9.out.trans (hb.mono HB9.out.size))
      clear hb
      go_wp2
      go_ret
      exact ⟨rfl, HB10.out⟩
theorem own : ownKnob Try.prog.godebug = none := by kernel_rfl
set_option maxRecDepth 100000 in
theorem lifted (os : Os) (started : os.Started) (H : Type) (enc : TypeId × Value → H) :
    ReturnsInHanded {} Try.checked os 8 .any (Rows.histOrdersSpec.pre6 enc Try.prog Try.f8 Rows.histOrdersRow.domain false) (Rows.histOrdersSpec.post enc Try.prog Try.f8 false true false false) := by
  refine returnsInHanded_of_change_sized (C := Try.checked) own started (by kernel_rfl) Try.func8
    (ChangeSpec.witness6 (enc := enc) (C := Try.checked) false ⟨#[], #[.slice none 0 0, .slice none 0 0], []⟩ 8 (by kernel_rfl) (by kernel_rfl) (by kernel_rfl) (by kernel_rfl)) ?_
  intro W base args ds gs before hval0 hW hcnd hsz0 _
  have hsz : (DataW.weightsEach Try.prog (Try.f8.params.toList ++ Rows.histOrdersSpec.plain.varTypes Try.prog) (ds ++ gs)).all (· ≤ reachBytes) = true := hsz0
  have hval : ∀ (j : Nat) t v, Try.f8.params[j]? = some t → args[j]? = some v → Value.okWide Try.prog W .any base t v := hval0
  have hW' := hW
  obtain ⟨p, q, hA0, hV, rfl, hfz, hnd⟩ := hW
  have hA : DataW.TrodAll enc Try.prog W 0 (fun _ => true) true Try.f8.params.toList args.toList ds p := hA0
  rw [Try.params8] at hA hval hsz
  obtain ⟨v0, vs0, d0, ds0, p0, q0, hargs, rfl, rfl, h0, r0⟩ := trodAll_cons hA
  obtain ⟨v1, vs1, d1, ds1, p1, q1, rfl, rfl, rfl, h1, r1⟩ := trodAll_cons r0
  obtain ⟨rfl, rfl, rfl⟩ := trodAll_nil r1
  obtain rfl : args = #[v0, v1] := by cases args; simp_all
  obtain ⟨rfl, rfl⟩ := trodVars_none hV
  have lt0 : ∀ x ∈ p0, x.block < W.heap.size := by obtain ⟨m, hm⟩ := h0; exact DataW.trod_lt m _ _ _ hm
  obtain ⟨A0, cap0, l0, rfl, hcap0, hC0, hok0, hby0⟩ := OR.open_rows (j := 0) Try.underlying23 OR.cells36 OR.bytes36 (hval 0 23 v0 rfl rfl) OR.dec36 hsz rfl rfl h0
  have lt1 : ∀ x ∈ p1, x.block < W.heap.size := by obtain ⟨m, hm⟩ := h1; exact DataW.trod_lt m _ _ _ hm
  obtain ⟨A1, cap1, l1, rfl, hcap1, hC1, hok1, hby1⟩ := OR.open_rows (j := 1) Try.underlying41 OR.cells3 OR.bytes3 (hval 1 41 v1 rfl rfl) (OR.dec_int Try.underlying3) hsz rfl rfl h1
  clear hA0 hval0 hsz0 hsz
  refine (walk A0 cap0 l0 A1 cap1 l1 W hC0 hcap0 hC1 hcap1 (by omega) (by omega)).mono fun e W' ⟨he, bel⟩ => ?_
  subst he
  exact ⟨_, rfl, _, _, _, [], _, [], hW', trodAll_mk1 (shut_bool Try.underlying4 _), (trodAll_cons_mk (Below.trod OR.laidOut (by kernel_rfl) (of_decide_eq_true (by kernel_rfl)) h0 bel lt0) (trodAll_cons_mk (Below.trod OR.laidOut (by kernel_rfl) (of_decide_eq_true (by kernel_rfl)) h1 bel lt1) trodAll_mk0)), rfl, bel.frame _, fun h => by cases h⟩
theorem over : Rows.histOrdersRow.holds Try.pinned (OpenSpec.ofChange Rows.histOrdersSpec) :=
  OpenClaim.holds_of_wide 8 Try.f8 rfl rfl rfl rfl rfl rfl rfl ⟨rfl, rfl, rfl, rfl, rfl⟩ rfl rfl rfl rfl rfl (by kernel_rfl) Try.func8 (by kernel_rfl)
    (of_decide_eq_true (by kernel_rfl)) (by unfold Func.isWrapper; first | (rw [if_pos (by decide +kernel)]; kernel_rfl) | (rw [if_neg (by decide +kernel)]; exact ⟨rfl, rfl⟩))
    (fun os started H enc _ => lifted os started H enc)
end Go.Proofs.Ytfmhdfgliamkkaa.histOrders
namespace Go.Proofs.Ytfmhdfgliamkkaa
theorem histOrders_holds : Rows.HistOrdersSaid := histOrders.over
end Go.Proofs.Ytfmhdfgliamkkaa
