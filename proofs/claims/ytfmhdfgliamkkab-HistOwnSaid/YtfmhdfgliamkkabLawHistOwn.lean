/- For every spans and marks HistOwn answers true, and its arguments read as they did. No condition. -/
import Derived.Test.YtfmhdfgliamkkabRows
import Derived.Test.YtfmhdfgliamkkabOwnLists
import Derived.Test.YtfmhdfgliamkkabHistLent
import Derived.Test.YtfmhdfgliamkkabHistRowKit
import Derived.Test.YtfmhdfgliamkkabOwnx3
import Derived.WalkKit
import Derived.ProofKit
import Derived.OpenShut
import Derived.ShutString
import Derived.ChangeOld
import Derived.Below
import Derived.SizedLaws
import Derived.Lib.SmallJoins
import Derived.Lib.Hide
import Derived.Outline
namespace Go.Proofs.Ytfmhdfgliamkkab.histOwn
open Go.ChangeShapes Go.WideShapes Go.ChangeAt Go.RowKit Go.Joins
set_option linter.unusedVariables false
open Go.Proofs.YtfmhdfgliamkkabW.PrintWords Go.Proofs.YtfmhdfgliamkkabW.PrintLast Go.Proofs.YtfmhdfgliamkkabW.PrintMore Go.Proofs.Ytfmhdfgliamkkab.Own
set_option linter.unusedSimpArgs false
theorem live_true : shutterlaw05_live.f = some true := by decide +kernel
theorem ZBn (v : Value) : ∀ j, j < 20 → j ≠ 2 → (BK.ZB.setIfInBounds 2 v)[j]? = some (.slice none 0 0) := by
  intro j hj hj2
  rw [Array.getElem?_setIfInBounds_ne (fun e => hj2 e.symm)]
  match j, hj with
  | 0, _ => rfl
  | 1, _ => rfl
  | 2, _ => rfl
  | 3, _ => rfl
  | 4, _ => rfl
  | 5, _ => rfl
  | 6, _ => rfl
  | 7, _ => rfl
  | 8, _ => rfl
  | 9, _ => rfl
  | 10, _ => rfl
  | 11, _ => rfl
  | 12, _ => rfl
  | 13, _ => rfl
  | 14, _ => rfl
  | 15, _ => rfl
  | 16, _ => rfl
  | 17, _ => rfl
  | 18, _ => rfl
  | 19, _ => rfl
  | n + 20, h => exact absurd h (by omega)
open BK in
set_option maxHeartbeats 8000000 in
set_option maxRecDepth 100000 in
theorem walk (A0 : Option Addr) (c0 : Nat) (l0 : List S57) (A1 : Option Addr) (c1 : Nat) (l1 : List Bool) (w : World) (hr0 : Kd.C k57 w A0 l0.length l0) (hc0 : l0.length ≤ c0) (hr1 : Kd.C Kd.bool w A1 l1.length l1) (hc1 : l1.length ≤ c1) (hl : l0.length + 1 < 4398046511104) :
    Calls Try.prog 4 #[.slice A0 l0.length c0, .slice A1 l1.length c1] w fun e w' => e = .returned (.bool true) ∧ Below w.heap.size w w' := by
  have hu36 := Try.underlying57
  have HR0 := Aside0.mk hr0
  have HR1 := Aside0.mk hr1
  clear hr0 hr1
  have hll : l0.length < 4398046511104 := by omega
  have hrl : (firsts l0 l1 l0.length).length ≤ l0.length := HF.len_firsts l0 l1 l0.length
  have HP : Hid (hist_First.f l0 l1 = some (firsts l0 l1 l0.length)) := by unfold Hid hist_First.f; rw [if_pos hll]
  generalize firsts l0 l1 l0.length = r at HP hrl
  go_enter Try.func4, Try.ntmps4
  go_wp2_with fail
  refine (lent_calls A0 c0 l0 w HR0.out hl).mono ?_
  rintro e1 w1 ⟨g, cap, rfl, hR, hb⟩
  have HB1 := Aside0.mk hb
  have hcap2 : l0.length ≤ cap := by have := (Kd.R_reads' hR).2.1; simp at this; omega
  have HCP : Aside0 (l0.length + 1 ≤ cap) := ⟨by have := (Kd.R_reads' hR).2.1; simpa using this⟩
  have HO1 := Aside0.mk (Kd.R_reads' hR).2.2
  have HRA1 := Aside0.mk (Kd.C_below HR0.out HB1.out)
  have HRB1 := Aside0.mk (Kd.C_below HR1.out HB1.out)
  have HT1 : Aside0 (Kd.C k57 w1 (some ⟨g, 0, none⟩) l0.length l0) := ⟨by
    have h := Kd.C_take (m := l0.length) HO1.out (by simp)
    rw [List.take_left] at h
    exact h⟩
  clear hR hb
  go_upto_region 3 with (fail)
  have hb2 : Below w1.heap.size w1 (w1.alloc (.cells #[.slice none 0 0, .slice none 0 0, .slice none 0 0, .slice none 0 0, .slice none 0 0, .slice none 0 0, .slice none 0 0, .slice none 0 0, .slice none 0 0, .slice none 0 0, .slice none 0 0, .slice none 0 0, .slice none 0 0, .slice none 0 0, .slice none 0 0, .slice none 0 0, .slice none 0 0, .slice none 0 0, .slice none 0 0, .slice none 0 0] 53)) := (Below.refl _ _).alloc (Nat.le_refl _) _
  have HB2 := Aside0.mk hb2
  have HK2 : Aside0 ((w1.alloc (.cells #[.slice none 0 0, .slice none 0 0, .slice none 0 0, .slice none 0 0, .slice none 0 0, .slice none 0 0, .slice none 0 0, .slice none 0 0, .slice none 0 0, .slice none 0 0, .slice none 0 0, .slice none 0 0, .slice none 0 0, .slice none 0 0, .slice none 0 0, .slice none 0 0, .slice none 0 0, .slice none 0 0, .slice none 0 0, .slice none 0 0] 53)).heap[w1.heap.size]? = some (.cells ZB 53 (0, 0))) := ⟨by
    have := heap_alloc_new w1 (.cells #[.slice none 0 0, .slice none 0 0, .slice none 0 0, .slice none 0 0, .slice none 0 0, .slice none 0 0, .slice none 0 0, .slice none 0 0, .slice none 0 0, .slice none 0 0, .slice none 0 0, .slice none 0 0, .slice none 0 0, .slice none 0 0, .slice none 0 0, .slice none 0 0, .slice none 0 0, .slice none 0 0, .slice none 0 0, .slice none 0 0] 53)
    exact this⟩
  clear hb2
  generalize w1.alloc (.cells #[.slice none 0 0, .slice none 0 0, .slice none 0 0, .slice none 0 0, .slice none 0 0, .slice none 0 0, .slice none 0 0, .slice none 0 0, .slice none 0 0, .slice none 0 0, .slice none 0 0, .slice none 0 0, .slice none 0 0, .slice none 0 0, .slice none 0 0, .slice none 0 0, .slice none 0 0, .slice none 0 0, .slice none 0 0, .slice none 0 0] 53) = w2 at HB2 HK2 ⊢
  have HT2 := Aside0.mk (Kd.C_below HT1.out HB2.out)
  go_wp2_with fail
  refine (hist_Cut.calls (some ⟨g, 0, none⟩) cap l0 1152921504606846976 w2 HT2.out hll).mono ?_
  rintro e3 w3 ⟨AC, nC, rfl, hca, hnC, hb⟩
  have HL0 : Aside0 (L0 w1.heap.size w1 AC nC w3) := ⟨by
    have hlt := lt_blk HK2.out
    refine ⟨(keep_below hb _ _ _ HK2.out).trans HK2.out, HB2.out.trans (hb.mono HB2.out.size), by have := hb.size; omega, ?_⟩
    rcases hca with h | ⟨g', cells, h1, h2, h3, h4⟩
    · exact Or.inl h
    · exact Or.inr ⟨g', cells, h1, by omega, h3, h4⟩⟩
  clear hb hca HB2 HK2 HT2
  go_wp2
  go_loopw [8] (fun v8 wi => ∃ i : Int, v8 = .int .i64 i ∧ ((i = 0 ∧ Aside0 (L0 w1.heap.size w1 AC nC wi)) ∨ (i = 1 ∧ ∃ gi cI AA cA, Aside0 (L1 w1.heap.size w1 AC nC gi cI AA r.length cA (r.map (Value.int .i64)) wi)) ∨
    (i = 2 ∧ ∃ gi cI AA cA AB cB, Aside0 (L2 w1.heap.size w1 AC nC gi cI AA r.length cA (r.map (Value.int .i64)) AB r.length cB (r.map (Value.int .i64)) wi)))) (fun i _ => 2 - (intOf i).toNat)
  case atStart => exact ⟨0, rfl, Or.inl ⟨rfl, HL0⟩⟩
  case round =>
    clear HL0
    obtain ⟨i, rfl, ⟨rfl, HL⟩ | ⟨rfl, gi, cI, AF, cF, HL⟩ | ⟨rfl, gi, cI, AF, cF, AB, cB, HL⟩⟩ := hrel
    · have HTW := Aside0.mk (Kd.C_below HT1.out HL.out.below)
      have HRW := Aside0.mk (Kd.C_below HRB1.out HL.out.below)
      go_wp2_with (first | (go_at_call 8; refine (hist_First.calls (some ⟨g, 0, none⟩) cap l0 A1 c1 l1 r wr HTW.out hcap2 HRW.out hc1 HP).mono ?_; rintro e5 w5 ⟨v5, rfl, hR5, hb5⟩; obtain ⟨AA, cA, rfl, hcA, hCC⟩ := Kd.R_reads hR5; have HR5 := Aside0.mk hR5; have HB5 := Aside0.mk hb5; clear hR5 hb5 hCC) | (go_at_call 12; refine (BK.take w1.heap.size w1.heap.size ZB (.slice none 0 0) [] AA r.length cA w1 w5 (HL.out.move HB5.out).book ?hC ?hI (by simp) (HL.out.move HB5.out).lb (HL.out.move HB5.out).below (Nat.le_refl _)).mono ?_; (case hC => rfl); (case hI => exact OI.nil _ _ _); rintro e6 w6 ⟨rfl, g6, c6, hk1, hk2, hk3, hk4, hk5⟩))
      have hL1 : L1 w1.heap.size w1 AC nC g6 c6 AA r.length cA (r.map (Value.int .i64)) w6 := L1.of (HL.out.move HB5.out) (OI.of_R HR5.out HL.out.lb) hk1 hk2 hk3 hk4 hk5
      exact ⟨⟨1, by rfl, Or.inr (Or.inl ⟨rfl, g6, c6, AA, cA, ⟨hL1⟩⟩)⟩, by simp [intOf]⟩
    · have HTW := Aside0.mk (Kd.C_below HT1.out HL.out.below)
      have HRW := Aside0.mk (Kd.C_below HRB1.out HL.out.below)
      go_wp2_with (first | (go_at_call 8; refine (hist_First.calls (some ⟨g, 0, none⟩) cap l0 A1 c1 l1 r wr HTW.out hcap2 HRW.out hc1 HP).mono ?_; rintro e5 w5 ⟨v5, rfl, hR5, hb5⟩; obtain ⟨AA, cA, rfl, hcA, hCC⟩ := Kd.R_reads hR5; have HR5 := Aside0.mk hR5; have HB5 := Aside0.mk hb5; clear hR5 hb5 hCC) | (go_at_call 12; refine (BK.take w1.heap.size w1.heap.size (ZB.setIfInBounds 2 (.slice (some ⟨gi, 0, none⟩) 1 cI)) (.slice (some ⟨gi, 0, none⟩) 1 cI) [.slice AF r.length cF] AA r.length cA w1 w5 (HL.out.move HB5.out).book ?hC ?hI (by simp) (HL.out.move HB5.out).lb (HL.out.move HB5.out).below (Nat.le_refl _)).mono ?_; (case hC => rfl); (case hI => exact (HL.out.move HB5.out).hd); rintro e6 w6 ⟨rfl, g6, c6, hk1, hk2, hk3, hk4, hk5⟩))
      have hap : AF = none ∨ AA = none ∨ (Value.slice AF r.length cF).ownBlock ≠ (Value.slice AA r.length cA).ownBlock := by
        cases hAF : AF with
        | none => exact Or.inl rfl
        | some x =>
          right; right
          intro e
          have h1 := (HL.out.r0.lt x.block (by rw [hAF]; rfl)).1
          have h2 := Kd.R_base HR5.out x.block (by rw [← e]; rfl)
          omega
      have hL2 : L2 w1.heap.size w1 AC nC g6 c6 AF r.length cF (r.map (Value.int .i64)) AA r.length cA (r.map (Value.int .i64)) w6 := L2.of (HL.out.move HB5.out) (OI.of_R HR5.out HL.out.lb) hap hk1 hk2 hk3 hk4 hk5
      exact ⟨⟨2, by rfl, Or.inr (Or.inr ⟨rfl, g6, c6, AF, cF, AA, cA, ⟨hL2⟩⟩)⟩, by simp [intOf]⟩
    · go_wp2
      go_loopw [9] (fun v9 wi => ∃ k : Nat, k ≤ nC ∧ v9 = .int .i64 k ∧ Aside0 (L2 w1.heap.size w1 AC nC gi cI AF r.length cF (r.map (Value.int .i64)) AB r.length cB (r.map (Value.int .i64)) wi)) (fun k _ => nC - (intOf k).toNat)
      case atStart => exact ⟨0, Nat.zero_le _, rfl, HL⟩
      case round =>
        clear HL
        obtain ⟨k, hk, rfl, HL⟩ := hrel
        by_cases hlt : k < nC
        · have hk0 : (0 : Int) ≤ (k : Int) := by omega
          have hkl : (k : Int) < (nC : Int) := by omega
          obtain ⟨gC, hAC⟩ : ∃ gC, AC = some ⟨gC, 0, none⟩ := by
            rcases HL.out.ca with h | ⟨gC, _, h, _⟩
            · omega
            · exact ⟨gC, h⟩
          subst hAC
          obtain ⟨p1, ⟨old, p2⟩, p3⟩ := HL.out.put k hlt (.int .i64 99)
          have HPUT := Aside0.mk p1
          clear p1
          go_wp2
          exact ⟨⟨k + 1, by omega, by rfl, HPUT⟩, by simp [intOf]; omega⟩
        · go_wp2_with fail
          refine (shutterlaw05_live.calls true _ live_true).mono ?_
          rintro e6 w6 ⟨rfl, hb⟩
          have HL6 := Aside0.mk (HL.out.move hb)
          clear hb HL
          obtain ⟨CI, hst, hI0, hI1, hcp⟩ := HL6.out.st
          have HAL := Lib.hid (BK.alone w1.heap.size w1.heap.size gi cI (ZB.setIfInBounds 2 (.slice (some ⟨gi, 0, none⟩) 2 cI)) CI AF AB r.length r.length cF cB w1 _ _ w6 rfl hI0 hI1 hst HL6.out.ap (by omega) (by omega) hcp (ZBn _) rfl (Nat.le_refl _))
          clear hst hI0 hI1 hcp
          go_wp2_with fail
          refine HAL.out.mono ?_
          rintro e7 w7 ⟨rfl, hb7⟩
          have HB7 := Aside0.mk hb7
          clear hb7 HAL HL6
          go_wp2_with fail
          refine (kept_calls g cap A0 c0 l0 w7 (Kd.C_below HO1.out HB7.out) HCP.out (Kd.C_below HRA1.out HB7.out) hc0 hl).mono ?_
          rintro e8 w8 ⟨rfl, hb⟩
          have HB8 := Aside0.mk (HB1.out.trans ((HB7.out.trans (hb.mono HB7.out.size)).mono HB1.out.size))
          clear hb
          go_wp2
          go_ret
          exact ⟨rfl, HB8.out⟩
theorem own : ownKnob Try.prog.godebug = none := by kernel_rfl
set_option maxRecDepth 100000 in
theorem lifted (os : Os) (started : os.Started) (H : Type) (enc : TypeId × Value → H) :
    ReturnsInHanded {} Try.checked os 4 .any (Rows.histOwnSpec.pre6 enc Try.prog Try.f4 Rows.histOwnRow.domain false) (Rows.histOwnSpec.post enc Try.prog Try.f4 false true false false) := by
  refine returnsInHanded_of_change_sized (C := Try.checked) own started (by kernel_rfl) Try.func4
    (ChangeSpec.witness6 (enc := enc) (C := Try.checked) false ⟨#[], #[.slice none 0 0, .slice none 0 0], []⟩ 8 (by kernel_rfl) (by kernel_rfl) (by kernel_rfl) (by kernel_rfl)) ?_
  intro W base args ds gs before hval0 hW hcnd hsz0 _
  have hsz : (DataW.weightsEach Try.prog (Try.f4.params.toList ++ Rows.histOwnSpec.plain.varTypes Try.prog) (ds ++ gs)).all (· ≤ reachBytes) = true := hsz0
  have hval : ∀ (j : Nat) t v, Try.f4.params[j]? = some t → args[j]? = some v → Value.okWide Try.prog W .any base t v := hval0
  have hW' := hW
  obtain ⟨p, q, hA0, hV, rfl, hfz, hnd⟩ := hW
  have hA : DataW.TrodAll enc Try.prog W 0 (fun _ => true) true Try.f4.params.toList args.toList ds p := hA0
  rw [Try.params4] at hA hval hsz
  obtain ⟨v0, vs0, d0, ds0, p0, q0, hargs, rfl, rfl, h0, r0⟩ := trodAll_cons hA
  obtain ⟨v1, vs1, d1, ds1, p1, q1, rfl, rfl, rfl, h1, r1⟩ := trodAll_cons r0
  obtain ⟨rfl, rfl, rfl⟩ := trodAll_nil r1
  obtain rfl : args = #[v0, v1] := by cases args; simp_all
  obtain ⟨rfl, rfl⟩ := trodVars_none hV
  have lt0 : ∀ x ∈ p0, x.block < W.heap.size := by obtain ⟨m, hm⟩ := h0; exact DataW.trod_lt m _ _ _ hm
  obtain ⟨A0, cap0, l0, rfl, hcap0, hC0, hok0, hby0⟩ := OR.open_rows (j := 0) Try.underlying22 OR.cells36 OR.bytes36 (hval 0 22 v0 rfl rfl) OR.dec36 hsz rfl rfl h0
  have lt1 : ∀ x ∈ p1, x.block < W.heap.size := by obtain ⟨m, hm⟩ := h1; exact DataW.trod_lt m _ _ _ hm
  obtain ⟨A1, cap1, l1, rfl, hcap1, hC1, hok1, hby1⟩ := OR.open_rows (j := 1) Try.underlying26 OR.cells4 OR.bytes4 (hval 1 26 v1 rfl rfl) (OR.dec_bool Try.underlying4) hsz rfl rfl h1
  clear hA0 hval0 hsz0 hsz
  refine (walk A0 cap0 l0 A1 cap1 l1 W hC0 hcap0 hC1 hcap1 (by omega)).mono fun e W' ⟨he, bel⟩ => ?_
  subst he
  exact ⟨_, rfl, _, _, _, [], _, [], hW', trodAll_mk1 (shut_bool Try.underlying4 _), (trodAll_cons_mk (Below.trod OR.laidOut (by kernel_rfl) (of_decide_eq_true (by kernel_rfl)) h0 bel lt0) (trodAll_cons_mk (Below.trod OR.laidOut (by kernel_rfl) (of_decide_eq_true (by kernel_rfl)) h1 bel lt1) trodAll_mk0)), rfl, bel.frame _, fun h => by cases h⟩
theorem over : Rows.histOwnRow.holds Try.pinned (OpenSpec.ofChange Rows.histOwnSpec) :=
  OpenClaim.holds_of_wide 4 Try.f4 rfl rfl rfl rfl rfl rfl rfl ⟨rfl, rfl, rfl, rfl, rfl⟩ rfl rfl rfl rfl rfl (by kernel_rfl) Try.func4 (by kernel_rfl)
    (of_decide_eq_true (by kernel_rfl)) (by unfold Func.isWrapper; first | (rw [if_pos (by decide +kernel)]; kernel_rfl) | (rw [if_neg (by decide +kernel)]; exact ⟨rfl, rfl⟩))
    (fun os started H enc _ => lifted os started H enc)
end Go.Proofs.Ytfmhdfgliamkkab.histOwn
namespace Go.Proofs.Ytfmhdfgliamkkab
theorem histOwn_holds : Rows.HistOwnSaid := histOwn.over
end Go.Proofs.Ytfmhdfgliamkkab
