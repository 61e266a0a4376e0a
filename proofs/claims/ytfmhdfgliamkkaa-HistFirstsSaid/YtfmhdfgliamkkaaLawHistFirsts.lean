/- For every spans and marks HistFirsts answers true, and its arguments read as they did. No condition. -/
import Derived.Test.YtfmhdfgliamkkaaRows
import Derived.Test.YtfmhdfgliamkkaaHistFirstMath
import Derived.Test.YtfmhdfgliamkkaaHistLent
import Derived.Test.YtfmhdfgliamkkaaHistRowKit
import Derived.Test.YtfmhdfgliamkkaaOwnx2
import Derived.WalkKit
import Derived.ProofKit
import Derived.OpenShut
import Derived.ShutString
import Derived.ChangeOld
import Derived.Below
import Derived.SizedLaws
import Derived.Lib.SmallJoins
import Derived.Lib.Hide
import Derived.Outline
namespace Go.Proofs.Ytfmhdfgliamkkaa.histFirsts
open Go.ChangeShapes Go.WideShapes Go.ChangeAt Go.RowKit Go.Joins
set_option linter.unusedVariables false
open Go.Proofs.YtfmhdfgliamkkaaW.PrintWords Go.Proofs.YtfmhdfgliamkkaaW.PrintLast Go.Proofs.YtfmhdfgliamkkaaW.PrintMore Go.Proofs.Ytfmhdfgliamkkaa.Own
set_option linter.unusedSimpArgs false
theorem live_true : shutterlaw05_live.f = some true := by decide +kernel
set_option maxHeartbeats 4000000 in
set_option maxRecDepth 100000 in
theorem walk (A0 : Option Addr) (c0 : Nat) (l0 : List S36) (A1 : Option Addr) (c1 : Nat) (l1 : List Bool) (w : World) (hr0 : Kd.C k36 w A0 l0.length l0) (hc0 : l0.length ≤ c0) (hr1 : Kd.C Kd.bool w A1 l1.length l1) (hc1 : l1.length ≤ c1) (hl : l0.length + 1 < 4398046511104) :
    Calls Try.prog 6 #[.slice A0 l0.length c0, .slice A1 l1.length c1] w fun e w' => e = .returned (.bool true) ∧ Below w.heap.size w w' := by
  have HR0 := Aside0.mk hr0
  have HR1 := Aside0.mk hr1
  clear hr0 hr1
  have hll : l0.length < 4398046511104 := by omega
  have HFF := Lib.hid (FM.ref l0 l1 hll)
  have hlen : (firsts l0 l1 l0.length).length < 9223372036854775807 := by have := HF.len_firsts l0 l1 l0.length; omega
  have HI := Lib.hid (FM.ints (firsts l0 l1 l0.length) hlen)
  have HP : Hid (hist_First.f l0 l1 = some (firsts l0 l1 l0.length)) := by unfold Hid hist_First.f; rw [if_pos hll]
  clear hlen
  generalize firsts l0 l1 l0.length = r at HFF HI HP
  go_enter Try.func6, Try.ntmps6
  go_wp2_with fail
  refine (lent_calls A0 c0 l0 w HR0.out hl).mono ?_
  rintro e1 w1 ⟨g, cap, rfl, hR, hb⟩
  have HB1 := Aside0.mk hb
  have HCP : Aside0 (l0.length + 1 ≤ cap) := ⟨by have := (Kd.R_reads' hR).2.1; simpa using this⟩
  have HO1 := Aside0.mk (Kd.R_reads' hR).2.2
  clear hR hb
  have HRA1 := Aside0.mk (Kd.C_below HR0.out HB1.out)
  have HRB1 := Aside0.mk (Kd.C_below HR1.out HB1.out)
  go_wp2_with fail
  refine (shutterlaw05_live.calls true _ live_true).mono ?_
  rintro e2 w2 ⟨rfl, hb⟩
  have HB2 := Aside0.mk (HB1.out.trans (hb.mono HB1.out.size))
  have HO2 := Aside0.mk (Kd.C_below HO1.out hb)
  have HRA2 := Aside0.mk (Kd.C_below HRA1.out hb)
  have HRB2 := Aside0.mk (Kd.C_below HRB1.out hb)
  clear hb HO1 HRA1 HRB1 HB1
  have HT2 : Aside0 (Kd.C k36 w2 (some ⟨g, 0, none⟩) l0.length l0) := ⟨by
    have h := Kd.C_take (m := l0.length) HO2.out (by simp)
    rw [List.take_left] at h
    exact h⟩
  go_wp2_with fail
  refine (hist_First.calls (some ⟨g, 0, none⟩) cap l0 A1 c1 l1 r _ HT2.out (by have := HCP.out; omega) HRB2.out hc1 HP).mono ?_
  rintro e3 w3 ⟨v3, rfl, hR3, hb⟩
  obtain ⟨A3, c3, rfl, hc3, hC3⟩ := Kd.R_reads hR3
  have HR3 := Aside0.mk hC3
  have HCC3 := Aside0.mk hc3
  have HB3 := Aside0.mk (HB2.out.trans (hb.mono HB2.out.size))
  have HO3 := Aside0.mk (Kd.C_below HO2.out hb)
  have HRA3 := Aside0.mk (Kd.C_below HRA2.out hb)
  have HRB3 := Aside0.mk (Kd.C_below HRB2.out hb)
  clear hb HO2 HRA2 HRB2 HB2 HT2 hR3 hC3 hc3
  go_wp2_with fail
  refine (shutterref05_First.calls _ A0 c0 l0 A1 c1 l1 r _ HRA3.out hc0 HRB3.out hc1 HFF.out).mono ?_
  rintro e4 w4 ⟨v4, rfl, hR4, hb⟩
  obtain ⟨A4, c4, rfl, hc4, hC4⟩ := Kd.R_reads hR4
  have HR4 := Aside0.mk hC4
  have HCC4 := Aside0.mk hc4
  have HR34 := Aside0.mk (Kd.C_below HR3.out hb)
  have HB4 := Aside0.mk (HB3.out.trans (hb.mono HB3.out.size))
  have HO4 := Aside0.mk (Kd.C_below HO3.out hb)
  have HRA4 := Aside0.mk (Kd.C_below HRA3.out hb)
  clear hb HO3 HRA3 HRB3 HB3 HR3 hR4 hC4 hc4
  go_wp2_with fail
  refine (shuttermem_SameInts.calls _ A3 c3 r A4 c4 r true _ HR34.out HCC3.out HR4.out HCC4.out HI.out).mono ?_
  rintro e5 w5 ⟨rfl, ⟨nd, rfl⟩⟩
  go_wp2_with fail
  refine (kept_calls g cap A0 c0 l0 _ (Kd.C_drewN HO4.out _) HCP.out (Kd.C_drewN HRA4.out _) hc0 hl).mono ?_
  rintro e6 w6 ⟨rfl, hb⟩
  have HB6 := Aside0.mk (HB4.out.trans ((pw_below_drewN (Below.refl _ _) nd).trans hb |>.mono HB4.out.size))
  clear hb
  go_wp2
  go_ret
  exact ⟨rfl, HB6.out⟩
theorem own : ownKnob Try.prog.godebug = none := by kernel_rfl
set_option maxRecDepth 100000 in
theorem lifted (os : Os) (started : os.Started) (H : Type) (enc : TypeId × Value → H) :
    ReturnsInHanded {} Try.checked os 6 .any (Rows.histFirstsSpec.pre6 enc Try.prog Try.f6 Rows.histFirstsRow.domain false) (Rows.histFirstsSpec.post enc Try.prog Try.f6 false true false false) := by
  refine returnsInHanded_of_change_sized (C := Try.checked) own started (by kernel_rfl) Try.func6
    (ChangeSpec.witness6 (enc := enc) (C := Try.checked) false ⟨#[], #[.slice none 0 0, .slice none 0 0], []⟩ 8 (by kernel_rfl) (by kernel_rfl) (by kernel_rfl) (by kernel_rfl)) ?_
  intro W base args ds gs before hval0 hW hcnd hsz0 _
  have hsz : (DataW.weightsEach Try.prog (Try.f6.params.toList ++ Rows.histFirstsSpec.plain.varTypes Try.prog) (ds ++ gs)).all (· ≤ reachBytes) = true := hsz0
  have hval : ∀ (j : Nat) t v, Try.f6.params[j]? = some t → args[j]? = some v → Value.okWide Try.prog W .any base t v := hval0
  have hW' := hW
  obtain ⟨p, q, hA0, hV, rfl, hfz, hnd⟩ := hW
  have hA : DataW.TrodAll enc Try.prog W 0 (fun _ => true) true Try.f6.params.toList args.toList ds p := hA0
  rw [Try.params6] at hA hval hsz
  obtain ⟨v0, vs0, d0, ds0, p0, q0, hargs, rfl, rfl, h0, r0⟩ := trodAll_cons hA
  obtain ⟨v1, vs1, d1, ds1, p1, q1, rfl, rfl, rfl, h1, r1⟩ := trodAll_cons r0
  obtain ⟨rfl, rfl, rfl⟩ := trodAll_nil r1
  obtain rfl : args = #[v0, v1] := by cases args; simp_all
  obtain ⟨rfl, rfl⟩ := trodVars_none hV
  have lt0 : ∀ x ∈ p0, x.block < W.heap.size := by obtain ⟨m, hm⟩ := h0; exact DataW.trod_lt m _ _ _ hm
  obtain ⟨A0, cap0, l0, rfl, hcap0, hC0, hok0, hby0⟩ := OR.open_rows (j := 0) Try.underlying23 OR.cells36 OR.bytes36 (hval 0 23 v0 rfl rfl) OR.dec36 hsz rfl rfl h0
  have lt1 : ∀ x ∈ p1, x.block < W.heap.size := by obtain ⟨m, hm⟩ := h1; exact DataW.trod_lt m _ _ _ hm
  obtain ⟨A1, cap1, l1, rfl, hcap1, hC1, hok1, hby1⟩ := OR.open_rows (j := 1) Try.underlying39 OR.cells4 OR.bytes4 (hval 1 39 v1 rfl rfl) (OR.dec_bool Try.underlying4) hsz rfl rfl h1
  clear hA0 hval0 hsz0 hsz
  refine (walk A0 cap0 l0 A1 cap1 l1 W hC0 hcap0 hC1 hcap1 (by omega)).mono fun e W' ⟨he, bel⟩ => ?_
  subst he
  exact ⟨_, rfl, _, _, _, [], _, [], hW', trodAll_mk1 (shut_bool Try.underlying4 _), (trodAll_cons_mk (Below.trod OR.laidOut (by kernel_rfl) (of_decide_eq_true (by kernel_rfl)) h0 bel lt0) (trodAll_cons_mk (Below.trod OR.laidOut (by kernel_rfl) (of_decide_eq_true (by kernel_rfl)) h1 bel lt1) trodAll_mk0)), rfl, bel.frame _, fun h => by cases h⟩
theorem over : Rows.histFirstsRow.holds Try.pinned (OpenSpec.ofChange Rows.histFirstsSpec) :=
  OpenClaim.holds_of_wide 6 Try.f6 rfl rfl rfl rfl rfl rfl rfl ⟨rfl, rfl, rfl, rfl, rfl⟩ rfl rfl rfl rfl rfl (by kernel_rfl) Try.func6 (by kernel_rfl)
    (of_decide_eq_true (by kernel_rfl)) (by unfold Func.isWrapper; first | (rw [if_pos (by decide +kernel)]; kernel_rfl) | (rw [if_neg (by decide +kernel)]; exact ⟨rfl, rfl⟩))
    (fun os started H enc _ => lifted os started H enc)
end Go.Proofs.Ytfmhdfgliamkkaa.histFirsts
namespace Go.Proofs.Ytfmhdfgliamkkaa
theorem histFirsts_holds : Rows.HistFirstsSaid := histFirsts.over
end Go.Proofs.Ytfmhdfgliamkkaa
