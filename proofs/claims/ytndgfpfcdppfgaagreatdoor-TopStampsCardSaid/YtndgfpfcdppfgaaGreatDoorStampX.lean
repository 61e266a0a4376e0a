/- TopStamps: the walk. No condition. -/
import Derived.Test.YtndgfpfcdppfgaaGreatDoorStampA
import Derived.Test.YtndgfpfcdppfgaaGreatDoorOwnx1
import Derived.Test.YtndgfpfcdppfgaaGreatDoorHistSpansG
import Derived.Deep.RegionHeld3
import Derived.Deep.CutBlock
import Derived.Deep.DeepCutAuto
namespace Go.Proofs.YtndgfpfcdppfgaaGreatDoor
open Go.RowKit Go.Proofs.YtndgfpfcdppfgaaGreatDoorW.PrintWords Go.Proofs.YtndgfpfcdppfgaaGreatDoorW.PrintMore
set_option linter.unusedVariables false
set_option linter.unusedSimpArgs false
theorem infoTkP : (Tryz.prog.info? 37).map (fun i => (i.zero, i.size, i.bytes)) = some (some (.pointer none), 1, 8) := by kernel_rfl
theorem infoPS : (Tryz.prog.info? 34).map (fun i => (i.zero, i.size, i.bytes)) = some (some (.slice none 0 0), 1, 24) := by kernel_rfl
theorem infoTS : (Tryz.prog.info? 35).map (fun i => (i.zero, i.size, i.bytes)) = some (some (.slice none 0 0), 1, 24) := by kernel_rfl
def Ints (w : World) (A : Option Addr) (n : Nat) (f : Nat → Int) : Prop := ∀ i, i < n → ∃ a, A = some a ∧ w.cell? (a.add i) = some (.int .i64 (f i))
theorem Ints.below {w w' : World} {A : Option Addr} {n : Nat} {f : Nat → Int} (h : Ints w A n f) (hb : Below w.heap.size w w') : Ints w' A n f := fun i hi => by
  obtain ⟨a, e, h1⟩ := h i hi
  exact ⟨a, e, (World.cell?_of_block (hb.block _ (World.block_lt_of_cell? _ _ h1))).trans h1⟩
section
variable {w : World} {A1 A2 : Option Addr} {n1 c1 n2 c2 : Nat} {tk ps : Nat → Int}
set_option maxHeartbeats 16000000 in
set_option maxRecDepth 100000 in
theorem top_calls (h1 : Ints w A1 n1 tk) (h2 : Ints w A2 n2 ps) (hn2 : n2 ≤ 9223372036854775807) :
    Calls Tryz.prog 3 #[.slice A1 n1 c1, .slice A2 n2 c2] w fun e w' => e = .returned (.bool true) ∧ Below w.heap.size w w' := by
  have HM := Lib.hid (show Calls Tryz.prog 4 #[.int .i64 128, .bool false] w _ from new_calls w 128 (by omega) (by omega))
  have HHA := Lib.hid (head_alloc w)
  have H1 := Aside0.mk h1
  have H2 := Aside0.mk h2
  clear h1 h2
  go_enter Tryz.func3, Tryz.ntmps3
  go_upto_region 4 with (go_at_call 4; with_reducible refine HM.out.mono ?_; rintro e1 w1 ⟨rfl, hM, hb1, hs1⟩; have HM1 := Aside0.mk (And.intro hM hb1); have HA := Lib.hid (HHA.out w1 hM hb1 hs1); have HV := Lib.hid (view_calls w1 (w.heap.size + 1 + 1) (-1)); clear hM hb1)
  rw [show w.heap.size + 4 = w.heap.size + 3 + 1 from rfl] at HA
  go_upto_region 7 with (first
    | (go_at_call 5; with_reducible refine HV.out.mono ?_; rintro e2 w2 ⟨rfl, rfl⟩)
    | (go_at_call 6; with_reducible refine HA.out.mono ?_; rintro e3 w3 ⟨rfl, XM, xs, hMX, hb3, hxm⟩; have HX := Aside0.mk (And.intro hMX (And.intro hb3 hxm)); clear hMX hb3 hxm))
  clear HM HHA HA HV HM1
  have H1' := Aside0.mk (H1.out.below HX.out.2.1)
  go_upto_block 0 with fail
  go_cut [8, 9] (fun v8 v9 wc => ∃ (T : Nat) (a8 a9 : Option Addr) (k8 k9 : Nat), T ≤ 64 ∧ v8 = .slice a8 T k8 ∧ v9 = .slice a9 T k9 ∧ Aside0 (∃ P A pc ac pb rb pa, BOut w3 wc T T T (.slice a8 T k8) (.slice a9 T k9) P A (fun t => nT (tk t)) pc ac pb rb pa))
  case first =>
    go_wp2_with fail
    go_loopw [8, 9, 10] (fun v8 v9 v10 wr => ∃ (i : Nat) (P A : Nat → Option Addr) (pc ac pb rb : Nat → Nat) (pa : Nat → Nat → Nat) (a8 a9 : Option Addr) (k8 k9 : Nat), i ≤ n1 ∧ i ≤ 64 ∧ v8 = .slice a8 i k8 ∧ v9 = .slice a9 i k9 ∧ v10 = .int .i64 i ∧ Aside0 (BOut w3 wr i i i (.slice a8 i k8) (.slice a9 i k9) P A (fun t => nT (tk t)) pc ac pb rb pa)) (fun _ _ v10 _ => 64 - (intOf v10).toNat)
    case atStart => exact ⟨0, _, _, _, _, _, _, _, none, none, 0, 0, Nat.zero_le _, Nat.zero_le _, rfl, rfl, rfl, ⟨BOut.start w3⟩⟩
    case round =>
      obtain ⟨i, P, A, pc, ac, pb, rb, pa, a8, a9, k8, k9, hi1, hi2, rfl, rfl, rfl, HB⟩ := hrel
      by_cases hlt : i < n1 ∧ i < 64
      · obtain ⟨hlt, hlt6⟩ := hlt
        have i1 : (i : Int) < (n1 : Int) := by omega
        have i2 : (i : Int) < 64 := by omega
        obtain ⟨b1, rfl, hx⟩ := (H1'.out.below HB.out.b) i hlt
        have HW := Lib.hid (fun wx => Own.shuttertop_which.calls (tk i) 9 _ wx (nT_is (tk i)).1)
        have h8 := (nT_is (tk i)).2
        go_upto_region 12 with fail
        generalize hc : nT (tk i) = c at HW h8
        go_wp2_with (go_at_call 7; with_reducible refine (HW.out _).mono ?_; rintro e7 w7 ⟨rfl, h7⟩; have HB7 := Aside0.mk (HB.out.below h7.below); clear h7)
        have hcc : Aside0 (nT (tk i) = c) := ⟨hc⟩
        clear hc HB HW hx
        go_loopw [11, 12, 13] (fun v11 v12 v13 wi => ∃ (j : Nat) (pk : Nat → Nat) (a11 a12 : Option Addr) (k11 k12 : Nat), j ≤ c ∧ v11 = .slice a11 j k11 ∧ v12 = .slice a12 j k12 ∧ v13 = .int .i64 ((c - j : Nat) : Int) ∧ Aside0 (BIn w7 wi j j j (.slice a11 j k11) (.slice a12 j k12) pk)) (fun _ _ v13 _ => (intOf v13).toNat)
        case atStart => exact ⟨0, fun _ => 0, none, none, 0, 0, Nat.zero_le _, rfl, rfl, by rw [Nat.sub_zero], ⟨BIn.start w7 _⟩⟩
        case round =>
          obtain ⟨j, pk, a11, a12, k11, k12, hj, rfl, rfl, rfl, HI⟩ := hrel
          by_cases hlt3 : j < c
          · have hv : (0 : Int) < ((c - j : Nat) : Int) := by omega
            have HN := Lib.hid (newtake_calls wr 1 1073741824)
            go_upto_region 16 with (go_at_call 8; with_reducible refine HN.out.mono ?_; rintro e8 w8 ⟨rfl, rfl⟩)
            have HI2 := Aside0.mk (HI.out.newt (Nat.le_refl _) (Nat.le_refl _))
            clear HN HI
            have hpj : upd pk j wr.heap.size j = wr.heap.size := upd_same _ _ _
            change Aside0 (BIn w7 (wr.alloc (.cells (tkC 1 1073741824 ⟨0, 0, 0, false⟩) 94)) _ _ _ _ _ _) at HI2
            generalize upd pk j wr.heap.size = pk2 at hpj HI2
            generalize wr.alloc (.cells (tkC 1 1073741824 ⟨0, 0, 0, false⟩) 94) = w8 at HI2 ⊢
            generalize wr.heap.size = p at hpj ⊢
            go_upto_region 17 with (at_builtin; go_loud (refine print_append_cells (w0 := w7) w7.heap.size rfl (.tmp 52) (.tmp 55) 34 103 .nilIface 1 16 rfl Tryz.underlying34 infoProc rfl (by decide) (by decide) (.slice a11 j k11) j _ [ifcV p] (by rfl) (by rfl) rfl (by simp [ifcV, Value.oneCell']) HI2.out.l HI2.out.b HI2.out.b.size (by omega) ?_; intro v1 wc ho hb hg hat; obtain ⟨a13, k13, rfl⟩ := own_slice ho; have HI3 := Aside0.mk (HI2.out.appl hg (by rw [hpj]; exact ho)); clear ho hb hg hat))
            go_wp2_with (at_builtin; go_loud (refine print_append_cells (w0 := w7) w7.heap.size rfl (.tmp 57) (.tmp 59) 35 37 (.pointer none) 1 8 rfl Tryz.underlying35 infoTkP rfl (by decide) (by decide) (.slice a12 j k12) j _ [ptrV p] (by rfl) (by rfl) rfl (by simp [ptrV, Value.oneCell']) HI3.out.r HI3.out.b HI3.out.b.size (by omega) ?_; intro v1 wc ho hb hg hat; obtain ⟨a14, k14, rfl⟩ := own_slice ho; have HI4 := Aside0.mk (HI3.out.appr hg (by rw [hpj]; exact ho)); clear ho hb hg hat))
            exact ⟨⟨j + 1, pk2, _, _, _, _, hlt3, by rfl, by rfl, by congr 1; omega, HI4⟩, by simp [intOf]; omega⟩
          · have hv : ¬ (0 : Int) < ((c - j : Nat) : Int) := by omega
            have he : j = c := by omega
            subst he
            have HI' : BIn w7 wr (nT (tk i)) (nT (tk i)) (nT (tk i)) (.slice a11 j k11) (.slice a12 j k12) pk := by rw [hcc.out]; exact HI.out
            obtain ⟨P', A', pc', ac', pb', rb', pa', hT, e1, e2⟩ := BOut.thread HB7.out HI'
            have HT1 := Aside0.mk hT
            have E1 := Aside0.mk e1
            have E2 := Aside0.mk e2
            clear HI' hT HI HB7 e1 e2
            go_upto_region 19 with (at_builtin; go_loud (refine print_append_cells (w0 := w3) w3.heap.size rfl (.tmp 61) (.tmp 63) 32 34 (.slice none 0 0) 1 24 rfl Tryz.underlying32 infoPS rfl (by decide) (by decide) (.slice a8 i k8) i _ [.slice a11 j k11] (by rfl) (by rfl) rfl (by simp [Value.oneCell']) HT1.out.t HT1.out.b HT1.out.b.size (by omega) ?_; intro v1 wc ho hb hg hat; obtain ⟨a15, k15, rfl⟩ := own_slice ho; have HT2 := Aside0.mk (HT1.out.appt hg (by rw [← E1.out]; exact ho)); clear ho hb hg hat))
            go_wp2_with (at_builtin; go_loud (refine print_append_cells (w0 := w3) w3.heap.size rfl (.tmp 65) (.tmp 67) 33 35 (.slice none 0 0) 1 24 rfl Tryz.underlying33 infoTS rfl (by decide) (by decide) (.slice a9 i k9) i _ [.slice a12 j k12] (by rfl) (by rfl) rfl (by simp [Value.oneCell']) HT2.out.a HT2.out.b HT2.out.b.size (by omega) ?_; intro v1 wc ho hb hg hat; obtain ⟨a16, k16, rfl⟩ := own_slice ho; have HT3 := Aside0.mk (HT2.out.appa hg (by rw [← E2.out]; exact ho)); clear ho hb hg hat))
            exact ⟨⟨i + 1, P', A', pc', ac', pb', rb', pa', _, _, _, _, hlt, hlt6, by rfl, by rfl, by rfl, HT3⟩, by simp [intOf]; omega⟩
      · have hg : Aside0 (∃ P A pc ac pb rb pa, BOut w3 wr i i i (.slice a8 i k8) (.slice a9 i k9) P A (fun t => nT (tk t)) pc ac pb rb pa) := ⟨_, _, _, _, _, _, _, HB.out⟩
        clear HB
        by_cases h1 : i < n1
        · have i1 : (i : Int) < (n1 : Int) := by omega
          have i2 : ¬ (i : Int) < 64 := by omega
          go_wp2_with fail
          go_meet
          exact ⟨i, _, _, _, _, hi2, rfl, rfl, hg⟩
        · have i1 : ¬ (i : Int) < (n1 : Int) := by omega
          go_wp2_with fail
          go_meet
          exact ⟨i, _, _, _, _, hi2, rfl, rfl, hg⟩
  case rest =>
    obtain ⟨T, a8, a9, k8, k9, hT, rfl, rfl, hBB⟩ := hcut
    obtain ⟨P, A, pc, ac, pb, rb, pa, hB⟩ := hBB.out
    have h8 : Aside0 (∀ t, t < T → nT (tk t) ≤ 8) := ⟨fun t _ => (nT_is (tk t)).2⟩
    have HB := Aside0.mk hB
    have HS := Lib.hid (snew_calls (cap := k8) (bm := w.heap.size + 1 + 1) (bout_th hB h8.out) hT (bout_cl hB h8.out))
    clear hBB hB H1' H1
    go_upto_region 23 with (go_at_call 9; with_reducible refine HS.out.mono ?_; rintro e9 w9 ⟨br, tv, pr, pcap, vw, pb2, rfl, hN⟩; have HN := Aside0.mk hN; clear hN)
    obtain ⟨bt, tcap, X, hRE, hOX⟩ := stamp_start HX.out.1 HB.out HN.out hT h8.out
    have hb9 : Below w.heap.size w w9 := below_trans HX.out.2.1 (below_trans HB.out.b HN.out.b)
    have hps : ∀ i, i < n2 → ∃ a, A2 = some a ∧ w9.cell? (a.add i) = some (.int .i64 (ps i)) ∧ ¬ OX X br bt (.slice none 0 0) (.slice none 0 0) (a.add i).block := fun i hi => by
      obtain ⟨a, e, hc⟩ := H2.out i hi
      have hl := World.block_lt_of_cell? _ _ hc
      refine ⟨a, e, (World.cell?_of_block (hb9.block _ hl)).trans hc, fun ho => ?_⟩
      rcases hOX _ ho with e | ⟨e, _⟩
      · have := HX.out.2.2 _ e
        omega
      · have := HX.out.2.1.size
        omega
    have HRUN := Lib.hid (stamp_run hT h8.out HN.out.vi HB.out.inj hRE (ti_start T _ xs) A2 n2 c2 ps hn2 hps)
    have HRE := Aside0.mk (And.intro hOX hb9)
    clear hRE hOX hps hb9 HS
    go_upto_region 24 with (go_at_call 10; with_reducible refine HRUN.out.mono ?_; rintro e10 w10 ⟨rfl, s', X', evv', atv', R', ⟨evs, S, hI⟩, hE, hS⟩; have HI := Aside0.mk hI; have HE := Aside0.mk hE; have HSS := Aside0.mk hS; clear hI hE hS)
    have HEV := Lib.hid (events_calls HE.out.rn evs HI.out.ev HI.out.nev (by have := evs_le HI.out h8.out hT; omega))
    clear HRUN
    go_upto_region 27 with (first
      | (go_at_call 12; with_reducible refine HEV.out.mono ?_; rintro e11 w11 ⟨AE, cE, rfl, hcE, hC, hb11⟩; have HSP := Lib.hid (Own.hist_Spans.calls AE cE evs S.out 0 w11 hC hcE (stamp_spans HI.out hT h8.out)); have HB11 := Aside0.mk hb11; clear hC hb11 hcE)
      | (go_at_call 11; with_reducible refine HSP.out.mono ?_; rintro e12 w12 ⟨vS, rfl, hR, hb12⟩; have HR := Aside0.mk (And.intro hR hb12); clear hR hb12))
    obtain ⟨AS, cS, hvS, hcS, hCS⟩ := Kd.R_reads HR.out.1
    have HSB : Aside0 (0 < S.out.length → ∃ gs, AS = some ⟨gs, 0, none⟩) := ⟨fun hl => by
      obtain ⟨g, c, e⟩ := spans_blk HR.out.1 hl
      rw [hvS] at e
      injection e with e
      exact ⟨g, e⟩⟩
    subst hvS
    have HCS := Aside0.mk hCS
    have HCK := Aside0.mk ((ck_start HX.out.1.2 HB.out HN.out.b HRE.out.1 HSS.out HE.out.e).below (below_trans HB11.out HR.out.2))
    have HW12 : Aside0 (Below w.heap.size w w12) := ⟨by
      have h9 := HRE.out.2
      have hS := HSS.out
      have hO : ∀ j, OX X br bt (.slice none 0 0) (.slice none 0 0) j → w.heap.size ≤ j := fun j hj => by
        rcases HRE.out.1 j hj with e | ⟨e, _⟩
        · exact HX.out.2.2 j e
        · have := HX.out.2.1.size
          omega
      have h10 : Below w.heap.size w w10 := ⟨hS.k.os.trans h9.os, hS.k.tape.trans h9.tape, hS.k.output.trans h9.output, Nat.le_trans h9.size hS.k.size, fun j hj => (hS.k.block j (fun e => by have := hO j e; omega) (Nat.lt_of_lt_of_le hj h9.size)).trans (h9.block j hj)⟩
      exact below_trans h10 (below_trans HB11.out HR.out.2)⟩
    clear hCS HEV HSP HB HN HRE HSS HE HX HB11 HR
    go_wp2_with fail
    go_loopw [17] (fun v17 wr => ∃ i : Nat, i ≤ S.out.length ∧ v17 = .int .i64 i ∧ Aside0 (Below w12.heap.size w12 wr)) (fun v17 _ => S.out.length - (intOf v17).toNat)
    case atStart => exact ⟨0, Nat.zero_le _, rfl, ⟨Below.refl _ _⟩⟩
    case round => -- THE CHECKS
      obtain ⟨i, hi, rfl, HWr⟩ := hrel
      have hmx : (S.out.length : Int) ≤ 9223372036854775807 := by have := HCS.out.2.1; omega
      by_cases hlt : i < S.out.length
      · have hlt2 : (i : Int) < (S.out.length : Int) := by omega
        obtain ⟨gs, rfl⟩ := HSB.out (by omega)
        obtain ⟨x, hx⟩ : ∃ x, S.out[i]? = some x := ⟨_, List.getElem?_eq_getElem hlt⟩
        obtain ⟨t, j, ht, hj, e0, e1, hz, hpair⟩ := stamp_law HI.out hx
        have hCr := Kd.C_below HCS.out HWr.out
        have CKr := HCK.out.below HWr.out
        obtain ⟨x0, x1, x2, x3⟩ := span_cells hCr hx
        obtain ⟨g9, rfl, q1, q2, q3⟩ := ck_at CKr ht hj
        rw [e0] at x0
        rw [e1] at x1
        have ti : (t : Int) < (T : Int) := by omega
        have ji : (j : Int) < ((nT (tk t) : Nat) : Int) := by omega
        have HX := Aside0.mk (And.intro hx (And.intro e0 e1))
        have HZ := Aside0.mk (And.intro hz hpair)
        have HCr := Lib.hid (And.intro hCr CKr)
        have HQ := Lib.hid q3
        clear hx e0 e1 hz hpair hCr CKr hi q3
        go_upto_region 30 with fail
        go_quiet (fail)
        have HD := Aside0.mk (show Below w12.heap.size w12 (wr.drewN nq) from pw_below_drewN HWr.out nq)
        have HK := Aside0.mk (show Kd.C Own.k49 (wr.drewN nq) (some ⟨gs, 0, none⟩) S.out.length S.out ∧ CK (wr.drewN nq) T (some ⟨g9, 0, none⟩) A (fun t => nT (tk t)) ac rb pa s' (w.heap.size + 1 + 1) (w.heap.size + 1) w.heap.size from ⟨Kd.C_below HCr.out.1 (pw_below_drewN (Below.refl _ _) nq), HCr.out.2.below (pw_below_drewN (Below.refl _ _) nq)⟩)
        clear HCr HWr x0 x1 x2 x3 q1 q2 HQ ti ji
        generalize wr.drewN nq = wd at HD HK ⊢
        obtain ⟨KM, hMm⟩ := HK.out.2.m
        have HM := Lib.hid hMm
        clear hMm
        obtain ⟨x0, x1, x2, x3⟩ := span_cells HK.out.1 HX.out.1
        have HQ := Lib.hid (HK.out.2.p t j ht hj)
        clear x0 x1
        by_cases h3 : 0 ≤ x.f3
        · obtain ⟨hz1, hz2⟩ := HZ.out.1 h3
          have hz3 : ¬ (s'.tk t j).stamp < 1 := by omega
          have hz4 : ¬ pk s'.cs 1 ≤ (s'.tk t j).stamp := by omega
          clear hz1 hz2
          have HST := Lib.hid (fun wx (hb : Below wd.heap.size wd wx) => stamp_calls (HQ.out.below hb))
          have HER := Lib.hid (errno_calls HQ.out)
          have HPK := Lib.hid (peek_calls HM.out 1 (by omega))
          generalize (s'.tk t j).stamp = z at hz3 hz4 HST
          generalize pk s'.cs 1 = pz at hz4 HPK
          go_upto_region 33 with (first
            | (go_at_call 13; with_reducible refine HER.out.mono ?_; rintro e1 w1 ⟨rfl, rfl⟩)
            | (go_at_call 14; with_reducible refine (HST.out _ (Below.refl _ _)).mono ?_; rintro e1 w1 ⟨rfl, rfl⟩)
            | (go_at_call 15; with_reducible refine HPK.out.mono ?_; rintro e1 w1 ⟨rfl, rfl⟩))
          go_wp2_with fail
          go_loopw [19] (fun v19 wi => ∃ k : Nat, k ≤ S.out.length ∧ v19 = .int .i64 k ∧ Aside0 (Below w12.heap.size w12 wi)) (fun v19 _ => S.out.length - (intOf v19).toNat)
          case atStart => exact ⟨0, Nat.zero_le _, rfl, ⟨HD.out⟩⟩
          case round =>
            obtain ⟨k, hk, rfl, HWi⟩ := hrel
            generalize wr = wi at HWi ⊢
            by_cases hlk : k < S.out.length
            · have hlk2 : (k : Int) < (S.out.length : Int) := by omega
              obtain ⟨y, hy⟩ : ∃ y, S.out[k]? = some y := ⟨_, List.getElem?_eq_getElem hlk⟩
              obtain ⟨t', j', ht', hj', y0', y1', hlaw⟩ := HZ.out.2 k y hy
              have hCi := Kd.C_below HCS.out HWi.out
              have CKi := HCK.out.below HWi.out
              have zc : ∀ (i : Nat) (x : SS), S.out[i]? = some x → ∀ wx, Below wi.heap.size wi wx → wx.cell? ⟨gs, i * 4, none⟩ = some (.int .i64 x.f0) ∧ wx.cell? ⟨gs, i * 4 + 1, none⟩ = some (.int .i64 x.f1) ∧ wx.cell? ⟨gs, i * 4 + 2, none⟩ = some (.int .i64 x.f2) ∧ wx.cell? ⟨gs, i * 4 + 3, none⟩ = some (.int .i64 x.f3) := fun i x hx wx hb => span_cells (Kd.C_below hCi hb) hx
              have xa : ∀ wx, Below wi.heap.size wi wx → wx.cell? ⟨gs, i * 4, none⟩ = some (.int .i64 (t : Int)) := fun wx hb => by have := (zc i x HX.out.1 wx hb).1; rw [HX.out.2.1] at this; exact this
              have xb : ∀ wx, Below wi.heap.size wi wx → wx.cell? ⟨gs, i * 4 + 1, none⟩ = some (.int .i64 (j : Int)) := fun wx hb => by have := (zc i x HX.out.1 wx hb).2.1; rw [HX.out.2.2] at this; exact this
              have xc : ∀ wx, Below wi.heap.size wi wx → wx.cell? ⟨gs, i * 4 + 2, none⟩ = some (.int .i64 x.f2) := fun wx hb => (zc i x HX.out.1 wx hb).2.2.1
              have xd : ∀ wx, Below wi.heap.size wi wx → wx.cell? ⟨gs, i * 4 + 3, none⟩ = some (.int .i64 x.f3) := fun wx hb => (zc i x HX.out.1 wx hb).2.2.2
              have ya : ∀ wx, Below wi.heap.size wi wx → wx.cell? ⟨gs, k * 4, none⟩ = some (.int .i64 (t' : Int)) := fun wx hb => by have := (zc k y hy wx hb).1; rw [y0'] at this; exact this
              have yb : ∀ wx, Below wi.heap.size wi wx → wx.cell? ⟨gs, k * 4 + 1, none⟩ = some (.int .i64 (j' : Int)) := fun wx hb => by have := (zc k y hy wx hb).2.1; rw [y1'] at this; exact this
              have yc : ∀ wx, Below wi.heap.size wi wx → wx.cell? ⟨gs, k * 4 + 2, none⟩ = some (.int .i64 y.f2) := fun wx hb => (zc k y hy wx hb).2.2.1
              have yd : ∀ wx, Below wi.heap.size wi wx → wx.cell? ⟨gs, k * 4 + 3, none⟩ = some (.int .i64 y.f3) := fun wx hb => (zc k y hy wx hb).2.2.2
              clear zc hCi
              have hr : Below wi.heap.size wi wi := Below.refl _ _
              have hr2 : Below wi.heap.size wi wi.drew := hr.drew
              go_upto_region 36 with fail
              by_cases ha : 0 ≤ y.f3 ∧ y.f3 < x.f2
              · have HAH := Lib.hid (fun wx => Own.hist_Ahead.calls t' j' y.f2 y.f3 t j x.f2 x.f3 true wx (by unfold Own.hist_Ahead.f; rw [if_pos ha.1, decide_eq_true ha.2]))
                obtain ⟨g9', e9, c1, c2, c3⟩ := ck_at CKi ht' hj'
                have e9' : g9' = g9 := by injection e9 with e9; injection e9 with e9; exact e9.symm
                subst e9'
                have hls := hlaw ha.1 ha.2 h3
                have hls2 : ¬ (s'.tk t j).stamp ≤ (s'.tk t' j').stamp := by omega
                have ra : ∀ wx, Below wi.heap.size wi wx → wx.cell? ⟨g9', t', none⟩ = some (.slice (some ⟨rb t', 0, none⟩) (nT (tk t')) (ac t')) := fun wx hb => (World.cell?_of_block (hb.block _ (World.block_lt_of_cell? _ _ c1))).trans c1
                have rb2 : ∀ wx, Below wi.heap.size wi wx → wx.cell? ⟨rb t', j', none⟩ = some (.pointer (some ⟨pa t' j', 0, none⟩)) := fun wx hb => (World.cell?_of_block (hb.block _ (World.block_lt_of_cell? _ _ c2))).trans c2
                have HS1 := Lib.hid (fun wx (hb : Below wi.heap.size wi wx) => stamp_calls (c3.below hb))
                have HS2 := Lib.hid (fun wx (hb : Below wi.heap.size wi wx) => stamp_calls ((CKi.p t j ht hj).below hb))
                generalize (s'.tk t j).stamp = z at hls2 HS2
                generalize (s'.tk t' j').stamp = z' at hls2 HS1
                have ti : (t' : Int) < (T : Int) := by omega
                have ji : (j' : Int) < ((nT (tk t') : Nat) : Int) := by omega
                have hf3 : (0 : Int) ≤ x.f3 := h3
                clear hls hlaw c1 c2 c3 e9
                go_region_held3 (fun w' => Below wi.heap.size wi w') (assumption) (first
                  | (go_at_call 16; with_reducible refine (HAH.out _).mono ?_; rintro ea wa ⟨rfl, hba⟩; have hs_ : Below wi.heap.size wi wa := below_on (by assumption) hba; clear hba)
                  | (go_at_call 14; with_reducible refine (HS1.out _ (by assumption)).mono ?_; rintro e1 w1 ⟨rfl, rfl⟩)
                  | (go_at_call 14; with_reducible refine (HS2.out _ (by assumption)).mono ?_; rintro e1 w1 ⟨rfl, rfl⟩))
                all_goals (
                  have hbf := (show Below wi.heap.size wi _ by assumption)
                  go_wp2_with fail
                  exact ⟨⟨k + 1, by omega, by rfl, ⟨below_on HWi.out hbf⟩⟩, by simp [intOf]; omega⟩)
              · have HAH := Lib.hid (fun wx => Own.hist_Ahead.calls t' j' y.f2 y.f3 t j x.f2 x.f3 false wx (ahead_no ha))
                refine wp_region_held_drew (S := fun w' => Below wi.heap.size wi w') (by kernel_rfl) (by assumption) (fun hHeld => ?_)
                refine wpAnyH_take (i := 0) (v := ?r1_vv0) rfl (by kernel_rfl) (by kernel_rfl) (by kernel_rfl) (fun _ _ _ h => h) (Or.inl ⟨by rfl, ?r1_hy0⟩) (by assumption) ?r1_rest0
                case r1_hy0 =>
                  intro wq hSw
                  go_simp
                  try with_reducible rfl
                simp only [Act.put, List.getElem_toArray, List.getElem_cons_succ, List.getElem_cons_zero, List.setIfInBounds_toArray, List.set_cons_zero, List.set_cons_succ]
                refine wpAnyH_take (i := 1) (v := ?r1_vv1) rfl (by kernel_rfl) (by kernel_rfl) (by kernel_rfl) (fun _ _ _ h => h) (Or.inl ⟨by rfl, ?r1_hy1⟩) (by assumption) ?r1_rest1
                case r1_hy1 =>
                  intro wq hSw
                  go_simp
                  try with_reducible rfl
                simp only [Act.put, List.getElem_toArray, List.getElem_cons_succ, List.getElem_cons_zero, List.setIfInBounds_toArray, List.set_cons_zero, List.set_cons_succ]
                refine wpAnyH_take (i := 2) (v := ?r1_vv2) rfl (by kernel_rfl) (by kernel_rfl) (by kernel_rfl) (fun _ _ _ h => h) (Or.inl ⟨by rfl, ?r1_hy2⟩) (by assumption) ?r1_rest2
                case r1_hy2 =>
                  intro wq hSw
                  go_simp
                  try with_reducible rfl
                simp only [Act.put, List.getElem_toArray, List.getElem_cons_succ, List.getElem_cons_zero, List.setIfInBounds_toArray, List.set_cons_zero, List.set_cons_succ]
                refine wpAnyH_take (i := 3) (v := ?r1_vv3) rfl (by kernel_rfl) (by kernel_rfl) (by kernel_rfl) (fun _ _ _ h => h) (Or.inl ⟨by rfl, ?r1_hy3⟩) (by assumption) ?r1_rest3
                case r1_hy3 =>
                  intro wq hSw
                  go_simp
                  try with_reducible rfl
                simp only [Act.put, List.getElem_toArray, List.getElem_cons_succ, List.getElem_cons_zero, List.setIfInBounds_toArray, List.set_cons_zero, List.set_cons_succ]
                refine wpAnyH_take (i := 4) (v := ?r1_vv4) rfl (by kernel_rfl) (by kernel_rfl) (by kernel_rfl) (fun _ _ _ h => h) (Or.inl ⟨by rfl, ?r1_hy4⟩) (by assumption) ?r1_rest4
                case r1_hy4 =>
                  intro wq hSw
                  go_simp
                  try with_reducible rfl
                simp only [Act.put, List.getElem_toArray, List.getElem_cons_succ, List.getElem_cons_zero, List.setIfInBounds_toArray, List.set_cons_zero, List.set_cons_succ]
                refine wpAnyH_take (i := 5) (v := ?r1_vv5) rfl (by kernel_rfl) (by kernel_rfl) (by kernel_rfl) (fun _ _ _ h => h) (Or.inl ⟨by rfl, ?r1_hy5⟩) (by assumption) ?r1_rest5
                case r1_hy5 =>
                  intro wq hSw
                  go_simp
                  try with_reducible rfl
                simp only [Act.put, List.getElem_toArray, List.getElem_cons_succ, List.getElem_cons_zero, List.setIfInBounds_toArray, List.set_cons_zero, List.set_cons_succ]
                refine wpAnyH_take (i := 6) (v := ?r1_vv6) rfl (by kernel_rfl) (by kernel_rfl) (by kernel_rfl) (fun _ _ _ h => h) (Or.inl ⟨by rfl, ?r1_hy6⟩) (by assumption) ?r1_rest6
                case r1_hy6 =>
                  intro wq hSw
                  go_simp
                  try with_reducible rfl
                simp only [Act.put, List.getElem_toArray, List.getElem_cons_succ, List.getElem_cons_zero, List.setIfInBounds_toArray, List.set_cons_zero, List.set_cons_succ]
                refine wpAnyH_take (i := 7) (v := ?r1_vv7) rfl (by kernel_rfl) (by kernel_rfl) (by kernel_rfl) (fun _ _ _ h => h) (Or.inl ⟨by rfl, ?r1_hy7⟩) (by assumption) ?r1_rest7
                case r1_hy7 =>
                  intro wq hSw
                  go_simp
                  try with_reducible rfl
                simp only [Act.put, List.getElem_toArray, List.getElem_cons_succ, List.getElem_cons_zero, List.setIfInBounds_toArray, List.set_cons_zero, List.set_cons_succ]
                refine wpAnyH_ready (rs := [8]) (by kernel_rfl) (by simp) ?_
                refine AllReadyH.cons rfl (fun K hK => ?_) AllReadyH.nil
                rw [if_pos (by rfl)]
                simp only [List.getElem_toArray, List.getElem_cons_succ, List.getElem_cons_zero]
                go_simp
                go_at_call 16
                with_reducible refine (HAH.out _).mono ?_
                rintro ea wa ⟨rfl, hba⟩
                have hs_ : Below wi.heap.size wi wa := below_on (by assumption) hba
                clear hba
                try go_wp2_with fail
                refine hK.out _ _ (by assumption) (fun hHeld => ?_)
                clear hK K
                try simp only [Act.put, List.getElem_toArray, List.getElem_cons_succ, List.getElem_cons_zero, List.setIfInBounds_toArray, List.set_cons_zero, List.set_cons_succ]
                refine wpAnyH_take (i := 9) (v := ?r1_vv9) rfl (by kernel_rfl) (by kernel_rfl) (by kernel_rfl) (fun _ _ _ h => h) (Or.inl ⟨by rfl, ?r1_hy9⟩) (by assumption) ?r1_rest9
                case r1_hy9 =>
                  intro wq hSw
                  go_simp
                  try with_reducible rfl
                simp only [Act.put, List.getElem_toArray, List.getElem_cons_succ, List.getElem_cons_zero, List.setIfInBounds_toArray, List.set_cons_zero, List.set_cons_succ]
                refine wpAnyH_take (i := 10) (v := undef) rfl (by kernel_rfl) (by kernel_rfl) (by kernel_rfl) (fun _ _ _ h => h) (Or.inr ⟨by rfl, rfl⟩) (by assumption) ?_
                simp only [Act.put, List.getElem_toArray, List.getElem_cons_succ, List.getElem_cons_zero, List.setIfInBounds_toArray, List.set_cons_zero, List.set_cons_succ]
                refine wpAnyH_take (i := 11) (v := undef) rfl (by kernel_rfl) (by kernel_rfl) (by kernel_rfl) (fun _ _ _ h => h) (Or.inr ⟨by rfl, rfl⟩) (by assumption) ?_
                simp only [Act.put, List.getElem_toArray, List.getElem_cons_succ, List.getElem_cons_zero, List.setIfInBounds_toArray, List.set_cons_zero, List.set_cons_succ]
                refine wpAnyH_take (i := 12) (v := undef) rfl (by kernel_rfl) (by kernel_rfl) (by kernel_rfl) (fun _ _ _ h => h) (Or.inr ⟨by rfl, rfl⟩) (by assumption) ?_
                simp only [Act.put, List.getElem_toArray, List.getElem_cons_succ, List.getElem_cons_zero, List.setIfInBounds_toArray, List.set_cons_zero, List.set_cons_succ]
                refine wpAnyH_take (i := 13) (v := undef) rfl (by kernel_rfl) (by kernel_rfl) (by kernel_rfl) (fun _ _ _ h => h) (Or.inr ⟨by rfl, rfl⟩) (by assumption) ?_
                simp only [Act.put, List.getElem_toArray, List.getElem_cons_succ, List.getElem_cons_zero, List.setIfInBounds_toArray, List.set_cons_zero, List.set_cons_succ]
                refine wpAnyH_take (i := 14) (v := undef) rfl (by kernel_rfl) (by kernel_rfl) (by kernel_rfl) (fun _ _ _ h => h) (Or.inr ⟨by rfl, rfl⟩) (by assumption) ?_
                simp only [Act.put, List.getElem_toArray, List.getElem_cons_succ, List.getElem_cons_zero, List.setIfInBounds_toArray, List.set_cons_zero, List.set_cons_succ]
                refine wpAnyH_take (i := 15) (v := undef) rfl (by kernel_rfl) (by kernel_rfl) (by kernel_rfl) (fun _ _ _ h => h) (Or.inr ⟨by rfl, rfl⟩) (by assumption) ?_
                simp only [Act.put, List.getElem_toArray, List.getElem_cons_succ, List.getElem_cons_zero, List.setIfInBounds_toArray, List.set_cons_zero, List.set_cons_succ]
                refine wpAnyH_take (i := 16) (v := ?r1_vv16) rfl (by kernel_rfl) (by kernel_rfl) (by kernel_rfl) (fun _ _ _ h => h) (Or.inl ⟨by rfl, ?r1_hy16⟩) (by assumption) ?r1_rest16
                case r1_hy16 =>
                  intro wq hSw
                  go_simp
                  try with_reducible rfl
                simp only [Act.put, List.getElem_toArray, List.getElem_cons_succ, List.getElem_cons_zero, List.setIfInBounds_toArray, List.set_cons_zero, List.set_cons_succ]
                refine wpAnyH_take (i := 17) (v := ?r1_vv17) rfl (by kernel_rfl) (by kernel_rfl) (by kernel_rfl) (fun _ _ _ h => h) (Or.inl ⟨by rfl, ?r1_hy17⟩) (by assumption) ?r1_rest17
                case r1_hy17 =>
                  intro wq hSw
                  go_simp
                  try with_reducible rfl
                simp only [Act.put, List.getElem_toArray, List.getElem_cons_succ, List.getElem_cons_zero, List.setIfInBounds_toArray, List.set_cons_zero, List.set_cons_succ]
                refine wpAnyH_take (i := 18) (v := undef) rfl (by kernel_rfl) (by kernel_rfl) (by kernel_rfl) (fun _ _ _ h => h) (Or.inr ⟨by rfl, rfl⟩) (by assumption) ?_
                simp only [Act.put, List.getElem_toArray, List.getElem_cons_succ, List.getElem_cons_zero, List.setIfInBounds_toArray, List.set_cons_zero, List.set_cons_succ]
                refine wpAnyH_take (i := 19) (v := undef) rfl (by kernel_rfl) (by kernel_rfl) (by kernel_rfl) (fun _ _ _ h => h) (Or.inr ⟨by rfl, rfl⟩) (by assumption) ?_
                simp only [Act.put, List.getElem_toArray, List.getElem_cons_succ, List.getElem_cons_zero, List.setIfInBounds_toArray, List.set_cons_zero, List.set_cons_succ]
                refine wpAnyH_take (i := 20) (v := undef) rfl (by kernel_rfl) (by kernel_rfl) (by kernel_rfl) (fun _ _ _ h => h) (Or.inr ⟨by rfl, rfl⟩) (by assumption) ?_
                simp only [Act.put, List.getElem_toArray, List.getElem_cons_succ, List.getElem_cons_zero, List.setIfInBounds_toArray, List.set_cons_zero, List.set_cons_succ]
                refine wpAnyH_take (i := 21) (v := undef) rfl (by kernel_rfl) (by kernel_rfl) (by kernel_rfl) (fun _ _ _ h => h) (Or.inr ⟨by rfl, rfl⟩) (by assumption) ?_
                simp only [Act.put, List.getElem_toArray, List.getElem_cons_succ, List.getElem_cons_zero, List.setIfInBounds_toArray, List.set_cons_zero, List.set_cons_succ]
                refine wpAnyH_take (i := 22) (v := undef) rfl (by kernel_rfl) (by kernel_rfl) (by kernel_rfl) (fun _ _ _ h => h) (Or.inr ⟨by rfl, rfl⟩) (by assumption) ?_
                simp only [Act.put, List.getElem_toArray, List.getElem_cons_succ, List.getElem_cons_zero, List.setIfInBounds_toArray, List.set_cons_zero, List.set_cons_succ]
                refine wpAnyH_take (i := 23) (v := undef) rfl (by kernel_rfl) (by kernel_rfl) (by kernel_rfl) (fun _ _ _ h => h) (Or.inr ⟨by rfl, rfl⟩) (by assumption) ?_
                simp only [Act.put, List.getElem_toArray, List.getElem_cons_succ, List.getElem_cons_zero, List.setIfInBounds_toArray, List.set_cons_zero, List.set_cons_succ]
                refine wpAnyH_take (i := 24) (v := undef) rfl (by kernel_rfl) (by kernel_rfl) (by kernel_rfl) (fun _ _ _ h => h) (Or.inr ⟨by rfl, rfl⟩) (by assumption) ?_
                simp only [Act.put, List.getElem_toArray, List.getElem_cons_succ, List.getElem_cons_zero, List.setIfInBounds_toArray, List.set_cons_zero, List.set_cons_succ]
                refine wpAnyH_take (i := 25) (v := undef) rfl (by kernel_rfl) (by kernel_rfl) (by kernel_rfl) (fun _ _ _ h => h) (Or.inr ⟨by rfl, rfl⟩) (by assumption) ?_
                simp only [Act.put, List.getElem_toArray, List.getElem_cons_succ, List.getElem_cons_zero, List.setIfInBounds_toArray, List.set_cons_zero, List.set_cons_succ]
                refine wpAnyH_take (i := 26) (v := undef) rfl (by kernel_rfl) (by kernel_rfl) (by kernel_rfl) (fun _ _ _ h => h) (Or.inr ⟨by rfl, rfl⟩) (by assumption) ?_
                simp only [Act.put, List.getElem_toArray, List.getElem_cons_succ, List.getElem_cons_zero, List.setIfInBounds_toArray, List.set_cons_zero, List.set_cons_succ]
                refine wpAnyH_take (i := 27) (v := undef) rfl (by kernel_rfl) (by kernel_rfl) (by kernel_rfl) (fun _ _ _ h => h) (Or.inr ⟨by rfl, rfl⟩) (by assumption) ?_
                simp only [Act.put, List.getElem_toArray, List.getElem_cons_succ, List.getElem_cons_zero, List.setIfInBounds_toArray, List.set_cons_zero, List.set_cons_succ]
                refine wpAnyH_take (i := 28) (v := undef) rfl (by kernel_rfl) (by kernel_rfl) (by kernel_rfl) (fun _ _ _ h => h) (Or.inr ⟨by rfl, rfl⟩) (by assumption) ?_
                simp only [Act.put, List.getElem_toArray, List.getElem_cons_succ, List.getElem_cons_zero, List.setIfInBounds_toArray, List.set_cons_zero, List.set_cons_succ]
                refine wpAnyH_take (i := 29) (v := undef) rfl (by kernel_rfl) (by kernel_rfl) (by kernel_rfl) (fun _ _ _ h => h) (Or.inr ⟨by rfl, rfl⟩) (by assumption) ?_
                simp only [Act.put, List.getElem_toArray, List.getElem_cons_succ, List.getElem_cons_zero, List.setIfInBounds_toArray, List.set_cons_zero, List.set_cons_succ]
                refine wpAnyH_take (i := 30) (v := undef) rfl (by kernel_rfl) (by kernel_rfl) (by kernel_rfl) (fun _ _ _ h => h) (Or.inr ⟨by rfl, rfl⟩) (by assumption) ?_
                simp only [Act.put, List.getElem_toArray, List.getElem_cons_succ, List.getElem_cons_zero, List.setIfInBounds_toArray, List.set_cons_zero, List.set_cons_succ]
                refine wpAnyH_take (i := 31) (v := undef) rfl (by kernel_rfl) (by kernel_rfl) (by kernel_rfl) (fun _ _ _ h => h) (Or.inr ⟨by rfl, rfl⟩) (by assumption) ?_
                simp only [Act.put, List.getElem_toArray, List.getElem_cons_succ, List.getElem_cons_zero, List.setIfInBounds_toArray, List.set_cons_zero, List.set_cons_succ]
                refine wpAnyH_take (i := 32) (v := undef) rfl (by kernel_rfl) (by kernel_rfl) (by kernel_rfl) (fun _ _ _ h => h) (Or.inr ⟨by rfl, rfl⟩) (by assumption) ?_
                simp only [Act.put, List.getElem_toArray, List.getElem_cons_succ, List.getElem_cons_zero, List.setIfInBounds_toArray, List.set_cons_zero, List.set_cons_succ]
                refine wpAnyH_take (i := 33) (v := undef) rfl (by kernel_rfl) (by kernel_rfl) (by kernel_rfl) (fun _ _ _ h => h) (Or.inr ⟨by rfl, rfl⟩) (by assumption) ?_
                simp only [Act.put, List.getElem_toArray, List.getElem_cons_succ, List.getElem_cons_zero, List.setIfInBounds_toArray, List.set_cons_zero, List.set_cons_succ]
                refine wpAnyH_take (i := 34) (v := undef) rfl (by kernel_rfl) (by kernel_rfl) (by kernel_rfl) (fun _ _ _ h => h) (Or.inr ⟨by rfl, rfl⟩) (by assumption) ?_
                simp only [Act.put, List.getElem_toArray, List.getElem_cons_succ, List.getElem_cons_zero, List.setIfInBounds_toArray, List.set_cons_zero, List.set_cons_succ]
                refine wpAnyH_take (i := 35) (v := undef) rfl (by kernel_rfl) (by kernel_rfl) (by kernel_rfl) (fun _ _ _ h => h) (Or.inr ⟨by rfl, rfl⟩) (by assumption) ?_
                simp only [Act.put, List.getElem_toArray, List.getElem_cons_succ, List.getElem_cons_zero, List.setIfInBounds_toArray, List.set_cons_zero, List.set_cons_succ]
                refine wpAnyH_take (i := 36) (v := undef) rfl (by kernel_rfl) (by kernel_rfl) (by kernel_rfl) (fun _ _ _ h => h) (Or.inr ⟨by rfl, rfl⟩) (by assumption) ?_
                simp only [Act.put, List.getElem_toArray, List.getElem_cons_succ, List.getElem_cons_zero, List.setIfInBounds_toArray, List.set_cons_zero, List.set_cons_succ]
                refine wpAnyH_take (i := 37) (v := ?r1_vv37) rfl (by kernel_rfl) (by kernel_rfl) (by kernel_rfl) (fun _ _ _ h => h) (Or.inl ⟨by rfl, ?r1_hy37⟩) (by assumption) ?r1_rest37
                case r1_hy37 =>
                  intro wq hSw
                  go_simp
                  try with_reducible rfl
                simp only [Act.put, List.getElem_toArray, List.getElem_cons_succ, List.getElem_cons_zero, List.setIfInBounds_toArray, List.set_cons_zero, List.set_cons_succ]
                refine wpAnyH_done (by kernel_rfl) ?_ _
                go_wp2_with fail
                exact ⟨⟨k + 1, by omega, by rfl, ⟨below_on HWi.out (by assumption)⟩⟩, by simp [intOf]; omega⟩
            · have hlk2 : ¬ (k : Int) < (S.out.length : Int) := by omega
              go_wp2_with fail
              exact ⟨⟨i + 1, by omega, by rfl, HWi⟩, by simp [intOf]; omega⟩
        · have hf3 : ¬ (0 : Int) ≤ x.f3 := by omega
          go_upto_region 33 with fail
          go_wp2_with fail
          go_loopw [19] (fun v19 wi => ∃ k : Nat, k ≤ S.out.length ∧ v19 = .int .i64 k ∧ Aside0 (Below w12.heap.size w12 wi)) (fun v19 _ => S.out.length - (intOf v19).toNat)
          case atStart => exact ⟨0, Nat.zero_le _, rfl, ⟨HD.out⟩⟩
          case round =>
            obtain ⟨k, hk, rfl, HWi⟩ := hrel
            generalize wr = wi at HWi ⊢
            by_cases hlk : k < S.out.length
            · have hlk2 : (k : Int) < (S.out.length : Int) := by omega
              obtain ⟨y, hy⟩ : ∃ y, S.out[k]? = some y := ⟨_, List.getElem?_eq_getElem hlk⟩
              obtain ⟨t', j', ht', hj', y0', y1', hlaw⟩ := HZ.out.2 k y hy
              have hCi := Kd.C_below HCS.out HWi.out
              have CKi := HCK.out.below HWi.out
              have zc : ∀ (i : Nat) (x : SS), S.out[i]? = some x → ∀ wx, Below wi.heap.size wi wx → wx.cell? ⟨gs, i * 4, none⟩ = some (.int .i64 x.f0) ∧ wx.cell? ⟨gs, i * 4 + 1, none⟩ = some (.int .i64 x.f1) ∧ wx.cell? ⟨gs, i * 4 + 2, none⟩ = some (.int .i64 x.f2) ∧ wx.cell? ⟨gs, i * 4 + 3, none⟩ = some (.int .i64 x.f3) := fun i x hx wx hb => span_cells (Kd.C_below hCi hb) hx
              have xa : ∀ wx, Below wi.heap.size wi wx → wx.cell? ⟨gs, i * 4, none⟩ = some (.int .i64 (t : Int)) := fun wx hb => by have := (zc i x HX.out.1 wx hb).1; rw [HX.out.2.1] at this; exact this
              have xb : ∀ wx, Below wi.heap.size wi wx → wx.cell? ⟨gs, i * 4 + 1, none⟩ = some (.int .i64 (j : Int)) := fun wx hb => by have := (zc i x HX.out.1 wx hb).2.1; rw [HX.out.2.2] at this; exact this
              have xc : ∀ wx, Below wi.heap.size wi wx → wx.cell? ⟨gs, i * 4 + 2, none⟩ = some (.int .i64 x.f2) := fun wx hb => (zc i x HX.out.1 wx hb).2.2.1
              have xd : ∀ wx, Below wi.heap.size wi wx → wx.cell? ⟨gs, i * 4 + 3, none⟩ = some (.int .i64 x.f3) := fun wx hb => (zc i x HX.out.1 wx hb).2.2.2
              have ya : ∀ wx, Below wi.heap.size wi wx → wx.cell? ⟨gs, k * 4, none⟩ = some (.int .i64 (t' : Int)) := fun wx hb => by have := (zc k y hy wx hb).1; rw [y0'] at this; exact this
              have yb : ∀ wx, Below wi.heap.size wi wx → wx.cell? ⟨gs, k * 4 + 1, none⟩ = some (.int .i64 (j' : Int)) := fun wx hb => by have := (zc k y hy wx hb).2.1; rw [y1'] at this; exact this
              have yc : ∀ wx, Below wi.heap.size wi wx → wx.cell? ⟨gs, k * 4 + 2, none⟩ = some (.int .i64 y.f2) := fun wx hb => (zc k y hy wx hb).2.2.1
              have yd : ∀ wx, Below wi.heap.size wi wx → wx.cell? ⟨gs, k * 4 + 3, none⟩ = some (.int .i64 y.f3) := fun wx hb => (zc k y hy wx hb).2.2.2
              clear zc hCi
              have hr : Below wi.heap.size wi wi := Below.refl _ _
              have hr2 : Below wi.heap.size wi wi.drew := hr.drew
              go_upto_region 36 with fail
              by_cases ha : 0 ≤ y.f3 ∧ y.f3 < x.f2
              · have HAH := Lib.hid (fun wx => Own.hist_Ahead.calls t' j' y.f2 y.f3 t j x.f2 x.f3 true wx (by unfold Own.hist_Ahead.f; rw [if_pos ha.1, decide_eq_true ha.2]))
                have hf3 : ¬ (0 : Int) ≤ x.f3 := by omega
                have hfb : decide ((0 : Int) ≤ x.f3) = false := decide_eq_false hf3
                clear h3
                refine wp_region_held_drew (S := fun w' => Below wi.heap.size wi w') (by kernel_rfl) (by assumption) (fun hHeld => ?_)
                refine wpAnyH_take (i := 0) (v := ?r2_vv0) rfl (by kernel_rfl) (by kernel_rfl) (by kernel_rfl) (fun _ _ _ h => h) (Or.inl ⟨by rfl, ?r2_hy0⟩) (by assumption) ?r2_rest0
                case r2_hy0 =>
                  intro wq hSw
                  go_simp
                  try with_reducible rfl
                simp only [Act.put, List.getElem_toArray, List.getElem_cons_succ, List.getElem_cons_zero, List.setIfInBounds_toArray, List.set_cons_zero, List.set_cons_succ]
                refine wpAnyH_take (i := 1) (v := ?r2_vv1) rfl (by kernel_rfl) (by kernel_rfl) (by kernel_rfl) (fun _ _ _ h => h) (Or.inl ⟨by rfl, ?r2_hy1⟩) (by assumption) ?r2_rest1
                case r2_hy1 =>
                  intro wq hSw
                  go_simp
                  try with_reducible rfl
                simp only [Act.put, List.getElem_toArray, List.getElem_cons_succ, List.getElem_cons_zero, List.setIfInBounds_toArray, List.set_cons_zero, List.set_cons_succ]
                refine wpAnyH_take (i := 2) (v := ?r2_vv2) rfl (by kernel_rfl) (by kernel_rfl) (by kernel_rfl) (fun _ _ _ h => h) (Or.inl ⟨by rfl, ?r2_hy2⟩) (by assumption) ?r2_rest2
                case r2_hy2 =>
                  intro wq hSw
                  go_simp
                  try with_reducible rfl
                simp only [Act.put, List.getElem_toArray, List.getElem_cons_succ, List.getElem_cons_zero, List.setIfInBounds_toArray, List.set_cons_zero, List.set_cons_succ]
                refine wpAnyH_take (i := 3) (v := ?r2_vv3) rfl (by kernel_rfl) (by kernel_rfl) (by kernel_rfl) (fun _ _ _ h => h) (Or.inl ⟨by rfl, ?r2_hy3⟩) (by assumption) ?r2_rest3
                case r2_hy3 =>
                  intro wq hSw
                  go_simp
                  try with_reducible rfl
                simp only [Act.put, List.getElem_toArray, List.getElem_cons_succ, List.getElem_cons_zero, List.setIfInBounds_toArray, List.set_cons_zero, List.set_cons_succ]
                refine wpAnyH_take (i := 4) (v := ?r2_vv4) rfl (by kernel_rfl) (by kernel_rfl) (by kernel_rfl) (fun _ _ _ h => h) (Or.inl ⟨by rfl, ?r2_hy4⟩) (by assumption) ?r2_rest4
                case r2_hy4 =>
                  intro wq hSw
                  go_simp
                  try with_reducible rfl
                simp only [Act.put, List.getElem_toArray, List.getElem_cons_succ, List.getElem_cons_zero, List.setIfInBounds_toArray, List.set_cons_zero, List.set_cons_succ]
                refine wpAnyH_take (i := 5) (v := ?r2_vv5) rfl (by kernel_rfl) (by kernel_rfl) (by kernel_rfl) (fun _ _ _ h => h) (Or.inl ⟨by rfl, ?r2_hy5⟩) (by assumption) ?r2_rest5
                case r2_hy5 =>
                  intro wq hSw
                  go_simp
                  try with_reducible rfl
                simp only [Act.put, List.getElem_toArray, List.getElem_cons_succ, List.getElem_cons_zero, List.setIfInBounds_toArray, List.set_cons_zero, List.set_cons_succ]
                refine wpAnyH_take (i := 6) (v := ?r2_vv6) rfl (by kernel_rfl) (by kernel_rfl) (by kernel_rfl) (fun _ _ _ h => h) (Or.inl ⟨by rfl, ?r2_hy6⟩) (by assumption) ?r2_rest6
                case r2_hy6 =>
                  intro wq hSw
                  go_simp
                  try with_reducible rfl
                simp only [Act.put, List.getElem_toArray, List.getElem_cons_succ, List.getElem_cons_zero, List.setIfInBounds_toArray, List.set_cons_zero, List.set_cons_succ]
                refine wpAnyH_take (i := 7) (v := ?r2_vv7) rfl (by kernel_rfl) (by kernel_rfl) (by kernel_rfl) (fun _ _ _ h => h) (Or.inl ⟨by rfl, ?r2_hy7⟩) (by assumption) ?r2_rest7
                case r2_hy7 =>
                  intro wq hSw
                  go_simp
                  try with_reducible rfl
                simp only [Act.put, List.getElem_toArray, List.getElem_cons_succ, List.getElem_cons_zero, List.setIfInBounds_toArray, List.set_cons_zero, List.set_cons_succ]
                refine wpAnyH_ready (rs := [8]) (by kernel_rfl) (by simp) ?_
                refine AllReadyH.cons rfl (fun K hK => ?_) AllReadyH.nil
                rw [if_pos (by rfl)]
                simp only [List.getElem_toArray, List.getElem_cons_succ, List.getElem_cons_zero]
                go_simp
                go_at_call 16
                with_reducible refine (HAH.out _).mono ?_
                rintro ea wa ⟨rfl, hba⟩
                have hs_ : Below wi.heap.size wi wa := below_on (by assumption) hba
                clear hba
                try go_wp2_with fail
                refine hK.out _ _ (by assumption) (fun hHeld => ?_)
                clear hK K
                try simp only [Act.put, List.getElem_toArray, List.getElem_cons_succ, List.getElem_cons_zero, List.setIfInBounds_toArray, List.set_cons_zero, List.set_cons_succ]
                refine wpAnyH_take (i := 9) (v := ?r2_vv9) rfl (by kernel_rfl) (by kernel_rfl) (by kernel_rfl) (fun _ _ _ h => h) (Or.inl ⟨by rfl, ?r2_hy9⟩) (by assumption) ?r2_rest9
                case r2_hy9 =>
                  intro wq hSw
                  go_simp
                  try with_reducible rfl
                simp only [Act.put, List.getElem_toArray, List.getElem_cons_succ, List.getElem_cons_zero, List.setIfInBounds_toArray, List.set_cons_zero, List.set_cons_succ]
                refine wpAnyH_take (i := 10) (v := ?r2_vv10) rfl (by kernel_rfl) (by kernel_rfl) (by kernel_rfl) (fun _ _ _ h => h) (Or.inl ⟨by rfl, ?r2_hy10⟩) (by assumption) ?r2_rest10
                case r2_hy10 =>
                  intro wq hSw
                  go_simp
                  try with_reducible rfl
                simp only [Act.put, List.getElem_toArray, List.getElem_cons_succ, List.getElem_cons_zero, List.setIfInBounds_toArray, List.set_cons_zero, List.set_cons_succ]
                refine wpAnyH_take (i := 11) (v := ?r2_vv11) rfl (by kernel_rfl) (by kernel_rfl) (by kernel_rfl) (fun _ _ _ h => h) (Or.inl ⟨by rfl, ?r2_hy11⟩) (by assumption) ?r2_rest11
                case r2_hy11 =>
                  intro wq hSw
                  go_simp
                  try with_reducible rfl
                simp only [Act.put, List.getElem_toArray, List.getElem_cons_succ, List.getElem_cons_zero, List.setIfInBounds_toArray, List.set_cons_zero, List.set_cons_succ]
                refine wpAnyH_take (i := 12) (v := ?r2_vv12) rfl (by kernel_rfl) (by kernel_rfl) (by kernel_rfl) (fun _ _ _ h => h) (Or.inl ⟨by rfl, ?r2_hy12⟩) (by assumption) ?r2_rest12
                case r2_hy12 =>
                  intro wq hSw
                  go_simp
                  try with_reducible rfl
                simp only [Act.put, List.getElem_toArray, List.getElem_cons_succ, List.getElem_cons_zero, List.setIfInBounds_toArray, List.set_cons_zero, List.set_cons_succ]
                refine wpAnyH_take (i := 13) (v := ?r2_vv13) rfl (by kernel_rfl) (by kernel_rfl) (by kernel_rfl) (fun _ _ _ h => h) (Or.inl ⟨by rfl, ?r2_hy13⟩) (by assumption) ?r2_rest13
                case r2_hy13 =>
                  intro wq hSw
                  go_simp
                  try with_reducible rfl
                simp only [Act.put, List.getElem_toArray, List.getElem_cons_succ, List.getElem_cons_zero, List.setIfInBounds_toArray, List.set_cons_zero, List.set_cons_succ]
                refine wpAnyH_take (i := 14) (v := ?r2_vv14) rfl (by kernel_rfl) (by kernel_rfl) (by kernel_rfl) (fun _ _ _ h => h) (Or.inl ⟨by rfl, ?r2_hy14⟩) (by assumption) ?r2_rest14
                case r2_hy14 =>
                  intro wq hSw
                  go_simp
                  try with_reducible rfl
                simp only [Act.put, List.getElem_toArray, List.getElem_cons_succ, List.getElem_cons_zero, List.setIfInBounds_toArray, List.set_cons_zero, List.set_cons_succ]
                refine wpAnyH_take (i := 15) (v := ?r2_vv15) rfl (by kernel_rfl) (by kernel_rfl) (by kernel_rfl) (fun _ _ _ h => h) (Or.inl ⟨by rfl, ?r2_hy15⟩) (by assumption) ?r2_rest15
                case r2_hy15 =>
                  intro wq hSw
                  go_simp
                  try with_reducible rfl
                simp only [Act.put, List.getElem_toArray, List.getElem_cons_succ, List.getElem_cons_zero, List.setIfInBounds_toArray, List.set_cons_zero, List.set_cons_succ]
                refine wpAnyH_take (i := 16) (v := ?r2_vv16) rfl (by kernel_rfl) (by kernel_rfl) (by kernel_rfl) (fun _ _ _ h => h) (Or.inl ⟨by rfl, ?r2_hy16⟩) (by assumption) ?r2_rest16
                case r2_hy16 =>
                  intro wq hSw
                  go_simp
                  try with_reducible rfl
                simp only [Act.put, List.getElem_toArray, List.getElem_cons_succ, List.getElem_cons_zero, List.setIfInBounds_toArray, List.set_cons_zero, List.set_cons_succ]
                refine wpAnyH_take (i := 17) (v := ?r2_vv17) rfl (by kernel_rfl) (by kernel_rfl) (by kernel_rfl) (fun _ _ _ h => h) (Or.inl ⟨by rfl, ?r2_hy17⟩) (by assumption) ?r2_rest17
                case r2_hy17 =>
                  intro wq hSw
                  go_simp
                  try with_reducible rfl
                simp only [Act.put, List.getElem_toArray, List.getElem_cons_succ, List.getElem_cons_zero, List.setIfInBounds_toArray, List.set_cons_zero, List.set_cons_succ]
                refine wpAnyH_take (i := 18) (v := undef) rfl (by kernel_rfl) (by kernel_rfl) (by kernel_rfl) (fun _ _ _ h => h) (Or.inr ⟨by rfl, rfl⟩) (by assumption) ?_
                simp only [Act.put, List.getElem_toArray, List.getElem_cons_succ, List.getElem_cons_zero, List.setIfInBounds_toArray, List.set_cons_zero, List.set_cons_succ]
                refine wpAnyH_take (i := 19) (v := undef) rfl (by kernel_rfl) (by kernel_rfl) (by kernel_rfl) (fun _ _ _ h => h) (Or.inr ⟨by rfl, rfl⟩) (by assumption) ?_
                simp only [Act.put, List.getElem_toArray, List.getElem_cons_succ, List.getElem_cons_zero, List.setIfInBounds_toArray, List.set_cons_zero, List.set_cons_succ]
                refine wpAnyH_take (i := 20) (v := undef) rfl (by kernel_rfl) (by kernel_rfl) (by kernel_rfl) (fun _ _ _ h => h) (Or.inr ⟨by rfl, rfl⟩) (by assumption) ?_
                simp only [Act.put, List.getElem_toArray, List.getElem_cons_succ, List.getElem_cons_zero, List.setIfInBounds_toArray, List.set_cons_zero, List.set_cons_succ]
                refine wpAnyH_take (i := 21) (v := undef) rfl (by kernel_rfl) (by kernel_rfl) (by kernel_rfl) (fun _ _ _ h => h) (Or.inr ⟨by rfl, rfl⟩) (by assumption) ?_
                simp only [Act.put, List.getElem_toArray, List.getElem_cons_succ, List.getElem_cons_zero, List.setIfInBounds_toArray, List.set_cons_zero, List.set_cons_succ]
                refine wpAnyH_take (i := 22) (v := undef) rfl (by kernel_rfl) (by kernel_rfl) (by kernel_rfl) (fun _ _ _ h => h) (Or.inr ⟨by rfl, rfl⟩) (by assumption) ?_
                simp only [Act.put, List.getElem_toArray, List.getElem_cons_succ, List.getElem_cons_zero, List.setIfInBounds_toArray, List.set_cons_zero, List.set_cons_succ]
                refine wpAnyH_take (i := 23) (v := undef) rfl (by kernel_rfl) (by kernel_rfl) (by kernel_rfl) (fun _ _ _ h => h) (Or.inr ⟨by rfl, rfl⟩) (by assumption) ?_
                simp only [Act.put, List.getElem_toArray, List.getElem_cons_succ, List.getElem_cons_zero, List.setIfInBounds_toArray, List.set_cons_zero, List.set_cons_succ]
                refine wpAnyH_take (i := 24) (v := undef) rfl (by kernel_rfl) (by kernel_rfl) (by kernel_rfl) (fun _ _ _ h => h) (Or.inr ⟨by rfl, rfl⟩) (by assumption) ?_
                simp only [Act.put, List.getElem_toArray, List.getElem_cons_succ, List.getElem_cons_zero, List.setIfInBounds_toArray, List.set_cons_zero, List.set_cons_succ]
                refine wpAnyH_take (i := 25) (v := undef) rfl (by kernel_rfl) (by kernel_rfl) (by kernel_rfl) (fun _ _ _ h => h) (Or.inr ⟨by rfl, rfl⟩) (by assumption) ?_
                simp only [Act.put, List.getElem_toArray, List.getElem_cons_succ, List.getElem_cons_zero, List.setIfInBounds_toArray, List.set_cons_zero, List.set_cons_succ]
                refine wpAnyH_take (i := 26) (v := undef) rfl (by kernel_rfl) (by kernel_rfl) (by kernel_rfl) (fun _ _ _ h => h) (Or.inr ⟨by rfl, rfl⟩) (by assumption) ?_
                simp only [Act.put, List.getElem_toArray, List.getElem_cons_succ, List.getElem_cons_zero, List.setIfInBounds_toArray, List.set_cons_zero, List.set_cons_succ]
                refine wpAnyH_take (i := 27) (v := undef) rfl (by kernel_rfl) (by kernel_rfl) (by kernel_rfl) (fun _ _ _ h => h) (Or.inr ⟨by rfl, rfl⟩) (by assumption) ?_
                simp only [Act.put, List.getElem_toArray, List.getElem_cons_succ, List.getElem_cons_zero, List.setIfInBounds_toArray, List.set_cons_zero, List.set_cons_succ]
                refine wpAnyH_take (i := 28) (v := undef) rfl (by kernel_rfl) (by kernel_rfl) (by kernel_rfl) (fun _ _ _ h => h) (Or.inr ⟨by rfl, rfl⟩) (by assumption) ?_
                simp only [Act.put, List.getElem_toArray, List.getElem_cons_succ, List.getElem_cons_zero, List.setIfInBounds_toArray, List.set_cons_zero, List.set_cons_succ]
                refine wpAnyH_take (i := 29) (v := undef) rfl (by kernel_rfl) (by kernel_rfl) (by kernel_rfl) (fun _ _ _ h => h) (Or.inr ⟨by rfl, rfl⟩) (by assumption) ?_
                simp only [Act.put, List.getElem_toArray, List.getElem_cons_succ, List.getElem_cons_zero, List.setIfInBounds_toArray, List.set_cons_zero, List.set_cons_succ]
                refine wpAnyH_take (i := 30) (v := undef) rfl (by kernel_rfl) (by kernel_rfl) (by kernel_rfl) (fun _ _ _ h => h) (Or.inr ⟨by rfl, rfl⟩) (by assumption) ?_
                simp only [Act.put, List.getElem_toArray, List.getElem_cons_succ, List.getElem_cons_zero, List.setIfInBounds_toArray, List.set_cons_zero, List.set_cons_succ]
                refine wpAnyH_take (i := 31) (v := undef) rfl (by kernel_rfl) (by kernel_rfl) (by kernel_rfl) (fun _ _ _ h => h) (Or.inr ⟨by rfl, rfl⟩) (by assumption) ?_
                simp only [Act.put, List.getElem_toArray, List.getElem_cons_succ, List.getElem_cons_zero, List.setIfInBounds_toArray, List.set_cons_zero, List.set_cons_succ]
                refine wpAnyH_take (i := 32) (v := undef) rfl (by kernel_rfl) (by kernel_rfl) (by kernel_rfl) (fun _ _ _ h => h) (Or.inr ⟨by rfl, rfl⟩) (by assumption) ?_
                simp only [Act.put, List.getElem_toArray, List.getElem_cons_succ, List.getElem_cons_zero, List.setIfInBounds_toArray, List.set_cons_zero, List.set_cons_succ]
                refine wpAnyH_take (i := 33) (v := undef) rfl (by kernel_rfl) (by kernel_rfl) (by kernel_rfl) (fun _ _ _ h => h) (Or.inr ⟨by rfl, rfl⟩) (by assumption) ?_
                simp only [Act.put, List.getElem_toArray, List.getElem_cons_succ, List.getElem_cons_zero, List.setIfInBounds_toArray, List.set_cons_zero, List.set_cons_succ]
                refine wpAnyH_take (i := 34) (v := undef) rfl (by kernel_rfl) (by kernel_rfl) (by kernel_rfl) (fun _ _ _ h => h) (Or.inr ⟨by rfl, rfl⟩) (by assumption) ?_
                simp only [Act.put, List.getElem_toArray, List.getElem_cons_succ, List.getElem_cons_zero, List.setIfInBounds_toArray, List.set_cons_zero, List.set_cons_succ]
                refine wpAnyH_take (i := 35) (v := undef) rfl (by kernel_rfl) (by kernel_rfl) (by kernel_rfl) (fun _ _ _ h => h) (Or.inr ⟨by rfl, rfl⟩) (by assumption) ?_
                simp only [Act.put, List.getElem_toArray, List.getElem_cons_succ, List.getElem_cons_zero, List.setIfInBounds_toArray, List.set_cons_zero, List.set_cons_succ]
                refine wpAnyH_take (i := 36) (v := undef) rfl (by kernel_rfl) (by kernel_rfl) (by kernel_rfl) (fun _ _ _ h => h) (Or.inr ⟨by rfl, rfl⟩) (by assumption) ?_
                simp only [Act.put, List.getElem_toArray, List.getElem_cons_succ, List.getElem_cons_zero, List.setIfInBounds_toArray, List.set_cons_zero, List.set_cons_succ]
                refine wpAnyH_take (i := 37) (v := ?r2_vv37) rfl (by kernel_rfl) (by kernel_rfl) (by kernel_rfl) (fun _ _ _ h => h) (Or.inl ⟨by rfl, ?r2_hy37⟩) (by assumption) ?r2_rest37
                case r2_hy37 =>
                  intro wq hSw
                  go_simp
                  try with_reducible rfl
                simp only [Act.put, List.getElem_toArray, List.getElem_cons_succ, List.getElem_cons_zero, List.setIfInBounds_toArray, List.set_cons_zero, List.set_cons_succ]
                refine wpAnyH_done (by kernel_rfl) ?_ _
                go_wp2_with fail
                exact ⟨⟨k + 1, by omega, by rfl, ⟨below_on HWi.out (by assumption)⟩⟩, by simp [intOf]; omega⟩
              · have HAH := Lib.hid (fun wx => Own.hist_Ahead.calls t' j' y.f2 y.f3 t j x.f2 x.f3 false wx (ahead_no ha))
                refine wp_region_held_drew (S := fun w' => Below wi.heap.size wi w') (by kernel_rfl) (by assumption) (fun hHeld => ?_)
                refine wpAnyH_take (i := 0) (v := ?r3_vv0) rfl (by kernel_rfl) (by kernel_rfl) (by kernel_rfl) (fun _ _ _ h => h) (Or.inl ⟨by rfl, ?r3_hy0⟩) (by assumption) ?r3_rest0
                case r3_hy0 =>
                  intro wq hSw
                  go_simp
                  try with_reducible rfl
                simp only [Act.put, List.getElem_toArray, List.getElem_cons_succ, List.getElem_cons_zero, List.setIfInBounds_toArray, List.set_cons_zero, List.set_cons_succ]
                refine wpAnyH_take (i := 1) (v := ?r3_vv1) rfl (by kernel_rfl) (by kernel_rfl) (by kernel_rfl) (fun _ _ _ h => h) (Or.inl ⟨by rfl, ?r3_hy1⟩) (by assumption) ?r3_rest1
                case r3_hy1 =>
                  intro wq hSw
                  go_simp
                  try with_reducible rfl
                simp only [Act.put, List.getElem_toArray, List.getElem_cons_succ, List.getElem_cons_zero, List.setIfInBounds_toArray, List.set_cons_zero, List.set_cons_succ]
                refine wpAnyH_take (i := 2) (v := ?r3_vv2) rfl (by kernel_rfl) (by kernel_rfl) (by kernel_rfl) (fun _ _ _ h => h) (Or.inl ⟨by rfl, ?r3_hy2⟩) (by assumption) ?r3_rest2
                case r3_hy2 =>
                  intro wq hSw
                  go_simp
                  try with_reducible rfl
                simp only [Act.put, List.getElem_toArray, List.getElem_cons_succ, List.getElem_cons_zero, List.setIfInBounds_toArray, List.set_cons_zero, List.set_cons_succ]
                refine wpAnyH_take (i := 3) (v := ?r3_vv3) rfl (by kernel_rfl) (by kernel_rfl) (by kernel_rfl) (fun _ _ _ h => h) (Or.inl ⟨by rfl, ?r3_hy3⟩) (by assumption) ?r3_rest3
                case r3_hy3 =>
                  intro wq hSw
                  go_simp
                  try with_reducible rfl
                simp only [Act.put, List.getElem_toArray, List.getElem_cons_succ, List.getElem_cons_zero, List.setIfInBounds_toArray, List.set_cons_zero, List.set_cons_succ]
                refine wpAnyH_take (i := 4) (v := ?r3_vv4) rfl (by kernel_rfl) (by kernel_rfl) (by kernel_rfl) (fun _ _ _ h => h) (Or.inl ⟨by rfl, ?r3_hy4⟩) (by assumption) ?r3_rest4
                case r3_hy4 =>
                  intro wq hSw
                  go_simp
                  try with_reducible rfl
                simp only [Act.put, List.getElem_toArray, List.getElem_cons_succ, List.getElem_cons_zero, List.setIfInBounds_toArray, List.set_cons_zero, List.set_cons_succ]
                refine wpAnyH_take (i := 5) (v := ?r3_vv5) rfl (by kernel_rfl) (by kernel_rfl) (by kernel_rfl) (fun _ _ _ h => h) (Or.inl ⟨by rfl, ?r3_hy5⟩) (by assumption) ?r3_rest5
                case r3_hy5 =>
                  intro wq hSw
                  go_simp
                  try with_reducible rfl
                simp only [Act.put, List.getElem_toArray, List.getElem_cons_succ, List.getElem_cons_zero, List.setIfInBounds_toArray, List.set_cons_zero, List.set_cons_succ]
                refine wpAnyH_take (i := 6) (v := ?r3_vv6) rfl (by kernel_rfl) (by kernel_rfl) (by kernel_rfl) (fun _ _ _ h => h) (Or.inl ⟨by rfl, ?r3_hy6⟩) (by assumption) ?r3_rest6
                case r3_hy6 =>
                  intro wq hSw
                  go_simp
                  try with_reducible rfl
                simp only [Act.put, List.getElem_toArray, List.getElem_cons_succ, List.getElem_cons_zero, List.setIfInBounds_toArray, List.set_cons_zero, List.set_cons_succ]
                refine wpAnyH_take (i := 7) (v := ?r3_vv7) rfl (by kernel_rfl) (by kernel_rfl) (by kernel_rfl) (fun _ _ _ h => h) (Or.inl ⟨by rfl, ?r3_hy7⟩) (by assumption) ?r3_rest7
                case r3_hy7 =>
                  intro wq hSw
                  go_simp
                  try with_reducible rfl
                simp only [Act.put, List.getElem_toArray, List.getElem_cons_succ, List.getElem_cons_zero, List.setIfInBounds_toArray, List.set_cons_zero, List.set_cons_succ]
                refine wpAnyH_ready (rs := [8]) (by kernel_rfl) (by simp) ?_
                refine AllReadyH.cons rfl (fun K hK => ?_) AllReadyH.nil
                rw [if_pos (by rfl)]
                simp only [List.getElem_toArray, List.getElem_cons_succ, List.getElem_cons_zero]
                go_simp
                go_at_call 16
                with_reducible refine (HAH.out _).mono ?_
                rintro ea wa ⟨rfl, hba⟩
                have hs_ : Below wi.heap.size wi wa := below_on (by assumption) hba
                clear hba
                try go_wp2_with fail
                refine hK.out _ _ (by assumption) (fun hHeld => ?_)
                clear hK K
                try simp only [Act.put, List.getElem_toArray, List.getElem_cons_succ, List.getElem_cons_zero, List.setIfInBounds_toArray, List.set_cons_zero, List.set_cons_succ]
                refine wpAnyH_take (i := 9) (v := ?r3_vv9) rfl (by kernel_rfl) (by kernel_rfl) (by kernel_rfl) (fun _ _ _ h => h) (Or.inl ⟨by rfl, ?r3_hy9⟩) (by assumption) ?r3_rest9
                case r3_hy9 =>
                  intro wq hSw
                  go_simp
                  try with_reducible rfl
                simp only [Act.put, List.getElem_toArray, List.getElem_cons_succ, List.getElem_cons_zero, List.setIfInBounds_toArray, List.set_cons_zero, List.set_cons_succ]
                refine wpAnyH_take (i := 10) (v := undef) rfl (by kernel_rfl) (by kernel_rfl) (by kernel_rfl) (fun _ _ _ h => h) (Or.inr ⟨by rfl, rfl⟩) (by assumption) ?_
                simp only [Act.put, List.getElem_toArray, List.getElem_cons_succ, List.getElem_cons_zero, List.setIfInBounds_toArray, List.set_cons_zero, List.set_cons_succ]
                refine wpAnyH_take (i := 11) (v := undef) rfl (by kernel_rfl) (by kernel_rfl) (by kernel_rfl) (fun _ _ _ h => h) (Or.inr ⟨by rfl, rfl⟩) (by assumption) ?_
                simp only [Act.put, List.getElem_toArray, List.getElem_cons_succ, List.getElem_cons_zero, List.setIfInBounds_toArray, List.set_cons_zero, List.set_cons_succ]
                refine wpAnyH_take (i := 12) (v := undef) rfl (by kernel_rfl) (by kernel_rfl) (by kernel_rfl) (fun _ _ _ h => h) (Or.inr ⟨by rfl, rfl⟩) (by assumption) ?_
                simp only [Act.put, List.getElem_toArray, List.getElem_cons_succ, List.getElem_cons_zero, List.setIfInBounds_toArray, List.set_cons_zero, List.set_cons_succ]
                refine wpAnyH_take (i := 13) (v := undef) rfl (by kernel_rfl) (by kernel_rfl) (by kernel_rfl) (fun _ _ _ h => h) (Or.inr ⟨by rfl, rfl⟩) (by assumption) ?_
                simp only [Act.put, List.getElem_toArray, List.getElem_cons_succ, List.getElem_cons_zero, List.setIfInBounds_toArray, List.set_cons_zero, List.set_cons_succ]
                refine wpAnyH_take (i := 14) (v := undef) rfl (by kernel_rfl) (by kernel_rfl) (by kernel_rfl) (fun _ _ _ h => h) (Or.inr ⟨by rfl, rfl⟩) (by assumption) ?_
                simp only [Act.put, List.getElem_toArray, List.getElem_cons_succ, List.getElem_cons_zero, List.setIfInBounds_toArray, List.set_cons_zero, List.set_cons_succ]
                refine wpAnyH_take (i := 15) (v := undef) rfl (by kernel_rfl) (by kernel_rfl) (by kernel_rfl) (fun _ _ _ h => h) (Or.inr ⟨by rfl, rfl⟩) (by assumption) ?_
                simp only [Act.put, List.getElem_toArray, List.getElem_cons_succ, List.getElem_cons_zero, List.setIfInBounds_toArray, List.set_cons_zero, List.set_cons_succ]
                refine wpAnyH_take (i := 16) (v := ?r3_vv16) rfl (by kernel_rfl) (by kernel_rfl) (by kernel_rfl) (fun _ _ _ h => h) (Or.inl ⟨by rfl, ?r3_hy16⟩) (by assumption) ?r3_rest16
                case r3_hy16 =>
                  intro wq hSw
                  go_simp
                  try with_reducible rfl
                simp only [Act.put, List.getElem_toArray, List.getElem_cons_succ, List.getElem_cons_zero, List.setIfInBounds_toArray, List.set_cons_zero, List.set_cons_succ]
                refine wpAnyH_take (i := 17) (v := ?r3_vv17) rfl (by kernel_rfl) (by kernel_rfl) (by kernel_rfl) (fun _ _ _ h => h) (Or.inl ⟨by rfl, ?r3_hy17⟩) (by assumption) ?r3_rest17
                case r3_hy17 =>
                  intro wq hSw
                  go_simp
                  try with_reducible rfl
                simp only [Act.put, List.getElem_toArray, List.getElem_cons_succ, List.getElem_cons_zero, List.setIfInBounds_toArray, List.set_cons_zero, List.set_cons_succ]
                refine wpAnyH_take (i := 18) (v := undef) rfl (by kernel_rfl) (by kernel_rfl) (by kernel_rfl) (fun _ _ _ h => h) (Or.inr ⟨by rfl, rfl⟩) (by assumption) ?_
                simp only [Act.put, List.getElem_toArray, List.getElem_cons_succ, List.getElem_cons_zero, List.setIfInBounds_toArray, List.set_cons_zero, List.set_cons_succ]
                refine wpAnyH_take (i := 19) (v := undef) rfl (by kernel_rfl) (by kernel_rfl) (by kernel_rfl) (fun _ _ _ h => h) (Or.inr ⟨by rfl, rfl⟩) (by assumption) ?_
                simp only [Act.put, List.getElem_toArray, List.getElem_cons_succ, List.getElem_cons_zero, List.setIfInBounds_toArray, List.set_cons_zero, List.set_cons_succ]
                refine wpAnyH_take (i := 20) (v := undef) rfl (by kernel_rfl) (by kernel_rfl) (by kernel_rfl) (fun _ _ _ h => h) (Or.inr ⟨by rfl, rfl⟩) (by assumption) ?_
                simp only [Act.put, List.getElem_toArray, List.getElem_cons_succ, List.getElem_cons_zero, List.setIfInBounds_toArray, List.set_cons_zero, List.set_cons_succ]
                refine wpAnyH_take (i := 21) (v := undef) rfl (by kernel_rfl) (by kernel_rfl) (by kernel_rfl) (fun _ _ _ h => h) (Or.inr ⟨by rfl, rfl⟩) (by assumption) ?_
                simp only [Act.put, List.getElem_toArray, List.getElem_cons_succ, List.getElem_cons_zero, List.setIfInBounds_toArray, List.set_cons_zero, List.set_cons_succ]
                refine wpAnyH_take (i := 22) (v := undef) rfl (by kernel_rfl) (by kernel_rfl) (by kernel_rfl) (fun _ _ _ h => h) (Or.inr ⟨by rfl, rfl⟩) (by assumption) ?_
                simp only [Act.put, List.getElem_toArray, List.getElem_cons_succ, List.getElem_cons_zero, List.setIfInBounds_toArray, List.set_cons_zero, List.set_cons_succ]
                refine wpAnyH_take (i := 23) (v := undef) rfl (by kernel_rfl) (by kernel_rfl) (by kernel_rfl) (fun _ _ _ h => h) (Or.inr ⟨by rfl, rfl⟩) (by assumption) ?_
                simp only [Act.put, List.getElem_toArray, List.getElem_cons_succ, List.getElem_cons_zero, List.setIfInBounds_toArray, List.set_cons_zero, List.set_cons_succ]
                refine wpAnyH_take (i := 24) (v := undef) rfl (by kernel_rfl) (by kernel_rfl) (by kernel_rfl) (fun _ _ _ h => h) (Or.inr ⟨by rfl, rfl⟩) (by assumption) ?_
                simp only [Act.put, List.getElem_toArray, List.getElem_cons_succ, List.getElem_cons_zero, List.setIfInBounds_toArray, List.set_cons_zero, List.set_cons_succ]
                refine wpAnyH_take (i := 25) (v := undef) rfl (by kernel_rfl) (by kernel_rfl) (by kernel_rfl) (fun _ _ _ h => h) (Or.inr ⟨by rfl, rfl⟩) (by assumption) ?_
                simp only [Act.put, List.getElem_toArray, List.getElem_cons_succ, List.getElem_cons_zero, List.setIfInBounds_toArray, List.set_cons_zero, List.set_cons_succ]
                refine wpAnyH_take (i := 26) (v := undef) rfl (by kernel_rfl) (by kernel_rfl) (by kernel_rfl) (fun _ _ _ h => h) (Or.inr ⟨by rfl, rfl⟩) (by assumption) ?_
                simp only [Act.put, List.getElem_toArray, List.getElem_cons_succ, List.getElem_cons_zero, List.setIfInBounds_toArray, List.set_cons_zero, List.set_cons_succ]
                refine wpAnyH_take (i := 27) (v := undef) rfl (by kernel_rfl) (by kernel_rfl) (by kernel_rfl) (fun _ _ _ h => h) (Or.inr ⟨by rfl, rfl⟩) (by assumption) ?_
                simp only [Act.put, List.getElem_toArray, List.getElem_cons_succ, List.getElem_cons_zero, List.setIfInBounds_toArray, List.set_cons_zero, List.set_cons_succ]
                refine wpAnyH_take (i := 28) (v := undef) rfl (by kernel_rfl) (by kernel_rfl) (by kernel_rfl) (fun _ _ _ h => h) (Or.inr ⟨by rfl, rfl⟩) (by assumption) ?_
                simp only [Act.put, List.getElem_toArray, List.getElem_cons_succ, List.getElem_cons_zero, List.setIfInBounds_toArray, List.set_cons_zero, List.set_cons_succ]
                refine wpAnyH_take (i := 29) (v := undef) rfl (by kernel_rfl) (by kernel_rfl) (by kernel_rfl) (fun _ _ _ h => h) (Or.inr ⟨by rfl, rfl⟩) (by assumption) ?_
                simp only [Act.put, List.getElem_toArray, List.getElem_cons_succ, List.getElem_cons_zero, List.setIfInBounds_toArray, List.set_cons_zero, List.set_cons_succ]
                refine wpAnyH_take (i := 30) (v := undef) rfl (by kernel_rfl) (by kernel_rfl) (by kernel_rfl) (fun _ _ _ h => h) (Or.inr ⟨by rfl, rfl⟩) (by assumption) ?_
                simp only [Act.put, List.getElem_toArray, List.getElem_cons_succ, List.getElem_cons_zero, List.setIfInBounds_toArray, List.set_cons_zero, List.set_cons_succ]
                refine wpAnyH_take (i := 31) (v := undef) rfl (by kernel_rfl) (by kernel_rfl) (by kernel_rfl) (fun _ _ _ h => h) (Or.inr ⟨by rfl, rfl⟩) (by assumption) ?_
                simp only [Act.put, List.getElem_toArray, List.getElem_cons_succ, List.getElem_cons_zero, List.setIfInBounds_toArray, List.set_cons_zero, List.set_cons_succ]
                refine wpAnyH_take (i := 32) (v := undef) rfl (by kernel_rfl) (by kernel_rfl) (by kernel_rfl) (fun _ _ _ h => h) (Or.inr ⟨by rfl, rfl⟩) (by assumption) ?_
                simp only [Act.put, List.getElem_toArray, List.getElem_cons_succ, List.getElem_cons_zero, List.setIfInBounds_toArray, List.set_cons_zero, List.set_cons_succ]
                refine wpAnyH_take (i := 33) (v := undef) rfl (by kernel_rfl) (by kernel_rfl) (by kernel_rfl) (fun _ _ _ h => h) (Or.inr ⟨by rfl, rfl⟩) (by assumption) ?_
                simp only [Act.put, List.getElem_toArray, List.getElem_cons_succ, List.getElem_cons_zero, List.setIfInBounds_toArray, List.set_cons_zero, List.set_cons_succ]
                refine wpAnyH_take (i := 34) (v := undef) rfl (by kernel_rfl) (by kernel_rfl) (by kernel_rfl) (fun _ _ _ h => h) (Or.inr ⟨by rfl, rfl⟩) (by assumption) ?_
                simp only [Act.put, List.getElem_toArray, List.getElem_cons_succ, List.getElem_cons_zero, List.setIfInBounds_toArray, List.set_cons_zero, List.set_cons_succ]
                refine wpAnyH_take (i := 35) (v := undef) rfl (by kernel_rfl) (by kernel_rfl) (by kernel_rfl) (fun _ _ _ h => h) (Or.inr ⟨by rfl, rfl⟩) (by assumption) ?_
                simp only [Act.put, List.getElem_toArray, List.getElem_cons_succ, List.getElem_cons_zero, List.setIfInBounds_toArray, List.set_cons_zero, List.set_cons_succ]
                refine wpAnyH_take (i := 36) (v := undef) rfl (by kernel_rfl) (by kernel_rfl) (by kernel_rfl) (fun _ _ _ h => h) (Or.inr ⟨by rfl, rfl⟩) (by assumption) ?_
                simp only [Act.put, List.getElem_toArray, List.getElem_cons_succ, List.getElem_cons_zero, List.setIfInBounds_toArray, List.set_cons_zero, List.set_cons_succ]
                refine wpAnyH_take (i := 37) (v := ?r3_vv37) rfl (by kernel_rfl) (by kernel_rfl) (by kernel_rfl) (fun _ _ _ h => h) (Or.inl ⟨by rfl, ?r3_hy37⟩) (by assumption) ?r3_rest37
                case r3_hy37 =>
                  intro wq hSw
                  go_simp
                  try with_reducible rfl
                simp only [Act.put, List.getElem_toArray, List.getElem_cons_succ, List.getElem_cons_zero, List.setIfInBounds_toArray, List.set_cons_zero, List.set_cons_succ]
                refine wpAnyH_done (by kernel_rfl) ?_ _
                go_wp2_with fail
                exact ⟨⟨k + 1, by omega, by rfl, ⟨below_on HWi.out (by assumption)⟩⟩, by simp [intOf]; omega⟩
            · have hlk2 : ¬ (k : Int) < (S.out.length : Int) := by omega
              go_wp2_with fail
              exact ⟨⟨i + 1, by omega, by rfl, HWi⟩, by simp [intOf]; omega⟩
      · have hlt2 : ¬ (i : Int) < (S.out.length : Int) := by omega
        have HBF := Aside0.mk (below_on HW12.out HWr.out)
        clear HCK HCS HI HSB HW12
        go_upto_region 38 with fail
        go_wp2_with (go_at_call 17; go_loud (refine (lin_find _ (Bk.new wr _ _)).mono ?_); rintro e wf ⟨a, k, rfl, hbf⟩; have HFF := Aside0.mk hbf; clear hbf)
        go_ret
        exact ⟨rfl, below_on (below_on HBF.out ((Below.refl _ _).alloc (Nat.le_refl _) _)) HFF.out⟩
end
end Go.Proofs.YtndgfpfcdppfgaaGreatDoor
