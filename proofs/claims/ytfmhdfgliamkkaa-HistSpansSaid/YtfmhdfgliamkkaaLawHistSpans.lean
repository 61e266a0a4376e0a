/- For every events and spans HistSpans answers true, and its arguments read as they did. No condition. -/
import Derived.Test.YtfmhdfgliamkkaaRows
import Derived.Test.YtfmhdfgliamkkaaHistRightRef
import Derived.Test.YtfmhdfgliamkkaaHistSpansRef2
import Derived.Test.YtfmhdfgliamkkaaHistLent
import Derived.Test.YtfmhdfgliamkkaaHistRowKit
import Derived.Test.YtfmhdfgliamkkaaOwnx8
import Derived.WalkKit
import Derived.ProofKit
import Derived.OpenShut
import Derived.ShutString
import Derived.ChangeOld
import Derived.Below
import Derived.SizedLaws
import Derived.Lib.SmallJoins
import Derived.Lib.Hide
import Derived.Outline
namespace Go.Proofs.Ytfmhdfgliamkkaa.histSpans
open Go.ChangeShapes Go.WideShapes Go.ChangeAt Go.RowKit Go.Joins
set_option linter.unusedVariables false
open Go.Proofs.YtfmhdfgliamkkaaW.PrintWords Go.Proofs.YtfmhdfgliamkkaaW.PrintLast Go.Proofs.YtfmhdfgliamkkaaW.PrintMore Go.Proofs.Ytfmhdfgliamkkaa.Own
set_option linter.unusedSimpArgs false
theorem live_true : shutterlaw05_live.f = some true := by decide +kernel
theorem fit_wf {x : Int} (h : (Lit.int .i64 x).wf = true) : fit x = true := by
  obtain ⟨h1, h2⟩ := bounds_i64 h
  unfold fit
  rw [decide_eq_true (by omega), decide_eq_true (by omega)]
  rfl
theorem spans_len (l : List S33) (hf : ∀ e ∈ l, fit e.f0 = true ∧ fit e.f1 = true) (hl : l.length < 4398046511104) (r1 : List S36) (r2 : Int) (h : hist_Spans.f l = some (r1, r2)) : r1.length < 4398046511104 := by
  unfold hist_Spans.f at h
  rw [if_pos ⟨hl, List.all_eq_true.2 fun e he => (hf e he).2⟩] at h
  cases hs : spRun z33 l SpSt.start with
  | none =>
    rw [hs] at h
    injection h with h
    injection h with h1 h2
    rw [← h1]
    decide
  | some s =>
    rw [hs] at h
    injection h with h
    injection h with h1 h2
    have h3 := (RM.spans_right l hf hl s hs).2
    have h4 := List.countP_le_length (p := fun e : S33 => !e.f3) (l := l)
    rw [← h1]
    omega
set_option maxHeartbeats 4000000 in
set_option maxRecDepth 100000 in
theorem walk (A0 : Option Addr) (c0 : Nat) (l0 : List S33) (A1 : Option Addr) (c1 : Nat) (l1 : List S36) (w : World) (hr0 : Kd.C k33 w A0 l0.length l0) (hc0 : l0.length ≤ c0) (hr1 : Kd.C k36 w A1 l1.length l1) (hc1 : l1.length ≤ c1) (hl0 : l0.length < 4398046511104) (hl : l1.length + 1 < 4398046511104)
    (hf0 : ∀ e ∈ l0, fit e.f0 = true ∧ fit e.f1 = true) (hf1 : l1.all fit36 = true) :
    Calls Try.prog 3 #[.slice A0 l0.length c0, .slice A1 l1.length c1] w fun e w' => e = .returned (.bool true) ∧ Below w.heap.size w w' := by
  have HR0 := Aside0.mk hr0
  have HR1 := Aside0.mk hr1
  clear hr0 hr1
  have hll : l1.length < 4398046511104 := by omega
  obtain ⟨K0, ⟨a1, a2⟩, hS, hT⟩ := RS.spans_ref l0 hl0 hf0
  have hlen : a1.length < 4398046511104 := spans_len l0 hf0 hl0 a1 a2 hS
  obtain ⟨K1, rr, hP, hQ⟩ := RM.right_ref l1 hll hf1
  have HS := Lib.hid hS
  have HT := Lib.hid hT
  have HP := Lib.hid hP
  have HQ := Lib.hid hQ
  have HE := Lib.hid (HL.same a1 hlen)
  clear hf0 hf1 hS hT hP hQ
  go_enter Try.func3, Try.ntmps3
  go_wp2_with fail
  refine (hist_Spans.calls A0 c0 l0 a1 a2 w HR0.out hc0 HS.out).mono ?_
  rintro e1 w1 ⟨v1, rfl, hR, hb⟩
  obtain ⟨A2, c2, rfl, hc2, hC2⟩ := Kd.R_reads hR
  have HB1 := Aside0.mk hb
  have HA1 := Aside0.mk hC2
  have HRA1 := Aside0.mk (Kd.C_below HR0.out HB1.out)
  have HRB1 := Aside0.mk (Kd.C_below HR1.out HB1.out)
  clear hR hb hC2
  go_wp2_with fail
  refine (shutterref05_Spans.calls K0 A0 c0 l0 a1 a2 _ HRA1.out hc0 HT.out).mono ?_
  rintro e2 w2 ⟨v2, rfl, hR, hb⟩
  obtain ⟨A3, c3, rfl, hc3, hC3⟩ := Kd.R_reads hR
  have HB2 := Aside0.mk (HB1.out.trans (hb.mono HB1.out.size))
  have HA2 := Aside0.mk (Kd.C_below HA1.out hb)
  have HBB2 := Aside0.mk hC3
  have HRB2 := Aside0.mk (Kd.C_below HRB1.out hb)
  clear hR hb hC3 HA1 HRA1 HRB1 HB1
  go_wp2_with fail
  refine (lent_calls A1 c1 l1 _ HRB2.out hl).mono ?_
  rintro e3 w3 ⟨g, cap, rfl, hR, hb⟩
  have HCP : Aside0 (l1.length + 1 ≤ cap) := ⟨by have := (Kd.R_reads' hR).2.1; simpa using this⟩
  have HO3 := Aside0.mk (Kd.R_reads' hR).2.2
  have HB3 := Aside0.mk (HB2.out.trans (hb.mono HB2.out.size))
  have HA3 := Aside0.mk (Kd.C_below HA2.out hb)
  have HBB3 := Aside0.mk (Kd.C_below HBB2.out hb)
  have HRB3 := Aside0.mk (Kd.C_below HRB2.out hb)
  clear hR hb HB2 HA2 HBB2 HRB2
  go_wp2_with fail
  refine (shutterlaw05_live.calls true _ live_true).mono ?_
  rintro e4 w4 ⟨rfl, hb⟩
  have HB4 := Aside0.mk (HB3.out.trans (hb.mono HB3.out.size))
  have HO4 := Aside0.mk (Kd.C_below HO3.out hb)
  have HA4 := Aside0.mk (Kd.C_below HA3.out hb)
  have HBB4 := Aside0.mk (Kd.C_below HBB3.out hb)
  have HRB4 := Aside0.mk (Kd.C_below HRB3.out hb)
  clear hb HB3 HO3 HA3 HBB3 HRB3
  have HT4 : Aside0 (Kd.C k36 w4 (some ⟨g, 0, none⟩) l1.length l1) := ⟨by
    have h := Kd.C_take (m := l1.length) HO4.out (by simp)
    rw [List.take_left] at h
    exact h⟩
  go_wp2_with fail
  refine (shutterref05_SameSpans.calls _ A2 c2 a1 A3 c3 a1 true _ HA4.out hc2 HBB4.out hc3 HE.out).mono ?_
  rintro e5 w5 ⟨rfl, ⟨nd, rfl⟩⟩
  have HB5 := Aside0.mk (HB4.out.trans ((pw_below_drewN (Below.refl _ _) nd).mono HB4.out.size))
  have HO5 := Aside0.mk (Kd.C_drewN HO4.out nd)
  have HT5 := Aside0.mk (Kd.C_drewN HT4.out nd)
  have HRB5 := Aside0.mk (Kd.C_drewN HRB4.out nd)
  clear HB4 HO4 HT4 HRB4 HA4 HBB4
  generalize w4.drewN nd = w5 at HB5 HO5 HT5 HRB5 ⊢
  go_wp2_with fail
  refine (hist_Right.calls (some ⟨g, 0, none⟩) cap l1 rr _ HT5.out (by have := HCP.out; omega) HP.out).mono ?_
  rintro e6 w6 ⟨rfl, hb⟩
  have HB6 := Aside0.mk (HB5.out.trans (hb.mono HB5.out.size))
  have HO6 := Aside0.mk (Kd.C_below HO5.out hb)
  have HRB6 := Aside0.mk (Kd.C_below HRB5.out hb)
  clear hb HB5 HO5 HT5 HRB5
  go_wp2_with fail
  refine (shutterref05_Right.calls K1 A1 c1 l1 rr _ HRB6.out hc1 HQ.out).mono ?_
  rintro e7 w7 ⟨rfl, hb⟩
  have HB7 := Aside0.mk (HB6.out.trans (hb.mono HB6.out.size))
  have HO7 := Aside0.mk (Kd.C_below HO6.out hb)
  have HRB7 := Aside0.mk (Kd.C_below HRB6.out hb)
  clear hb HB6 HO6 HRB6
  go_wp2_with fail
  refine (kept_calls g cap A1 c1 l1 _ HO7.out HCP.out HRB7.out hc1 hl).mono ?_
  rintro e8 w8 ⟨rfl, hb⟩
  have HB8 := Aside0.mk (HB7.out.trans (hb.mono HB7.out.size))
  clear hb
  go_wp2
  go_ret
  exact ⟨rfl, HB8.out⟩
theorem own : ownKnob Try.prog.godebug = none := by kernel_rfl
set_option maxRecDepth 100000 in
theorem lifted (os : Os) (started : os.Started) (H : Type) (enc : TypeId × Value → H) :
    ReturnsInHanded {} Try.checked os 3 .any (Rows.histSpansSpec.pre6 enc Try.prog Try.f3 Rows.histSpansRow.domain false) (Rows.histSpansSpec.post enc Try.prog Try.f3 false true false false) := by
  refine returnsInHanded_of_change_sized (C := Try.checked) own started (by kernel_rfl) Try.func3
    (ChangeSpec.witness6 (enc := enc) (C := Try.checked) false ⟨#[], #[.slice none 0 0, .slice none 0 0], []⟩ 8 (by kernel_rfl) (by kernel_rfl) (by kernel_rfl) (by kernel_rfl)) ?_
  intro W base args ds gs before hval0 hW hcnd hsz0 _
  have hsz : (DataW.weightsEach Try.prog (Try.f3.params.toList ++ Rows.histSpansSpec.plain.varTypes Try.prog) (ds ++ gs)).all (· ≤ reachBytes) = true := hsz0
  have hval : ∀ (j : Nat) t v, Try.f3.params[j]? = some t → args[j]? = some v → Value.okWide Try.prog W .any base t v := hval0
  have hW' := hW
  obtain ⟨p, q, hA0, hV, rfl, hfz, hnd⟩ := hW
  have hA : DataW.TrodAll enc Try.prog W 0 (fun _ => true) true Try.f3.params.toList args.toList ds p := hA0
  rw [Try.params3] at hA hval hsz
  obtain ⟨v0, vs0, d0, ds0, p0, q0, hargs, rfl, rfl, h0, r0⟩ := trodAll_cons hA
  obtain ⟨v1, vs1, d1, ds1, p1, q1, rfl, rfl, rfl, h1, r1⟩ := trodAll_cons r0
  obtain ⟨rfl, rfl, rfl⟩ := trodAll_nil r1
  obtain rfl : args = #[v0, v1] := by cases args; simp_all
  obtain ⟨rfl, rfl⟩ := trodVars_none hV
  have lt0 : ∀ x ∈ p0, x.block < W.heap.size := by obtain ⟨m, hm⟩ := h0; exact DataW.trod_lt m _ _ _ hm
  obtain ⟨A0, cap0, l0, rfl, hcap0, hC0, hok0, hby0⟩ := OR.open_rows (j := 0) Try.underlying22 OR.cells33 OR.bytes33 (hval 0 22 v0 rfl rfl) OR.dec33 hsz rfl rfl h0
  have lt1 : ∀ x ∈ p1, x.block < W.heap.size := by obtain ⟨m, hm⟩ := h1; exact DataW.trod_lt m _ _ _ hm
  obtain ⟨A1, cap1, l1, rfl, hcap1, hC1, hok1, hby1⟩ := OR.open_rows (j := 1) Try.underlying23 OR.cells36 OR.bytes36 (hval 1 23 v1 rfl rfl) OR.dec36 hsz rfl rfl h1
  clear hA0 hval0 hsz0 hsz
  refine (walk A0 cap0 l0 A1 cap1 l1 W hC0 hcap0 hC1 hcap1 (by omega) (by omega) (fun e he => ⟨fit_wf (hok0 e he).1, fit_wf (hok0 e he).2.1⟩) (OR.fits36 hok1)).mono fun e W' ⟨he, bel⟩ => ?_
  subst he
  exact ⟨_, rfl, _, _, _, [], _, [], hW', trodAll_mk1 (shut_bool Try.underlying4 _), (trodAll_cons_mk (Below.trod OR.laidOut (by kernel_rfl) (of_decide_eq_true (by kernel_rfl)) h0 bel lt0) (trodAll_cons_mk (Below.trod OR.laidOut (by kernel_rfl) (of_decide_eq_true (by kernel_rfl)) h1 bel lt1) trodAll_mk0)), rfl, bel.frame _, fun h => by cases h⟩
theorem over : Rows.histSpansRow.holds Try.pinned (OpenSpec.ofChange Rows.histSpansSpec) :=
  OpenClaim.holds_of_wide 3 Try.f3 rfl rfl rfl rfl rfl rfl rfl ⟨rfl, rfl, rfl, rfl, rfl⟩ rfl rfl rfl rfl rfl (by kernel_rfl) Try.func3 (by kernel_rfl)
    (of_decide_eq_true (by kernel_rfl)) (by unfold Func.isWrapper; first | (rw [if_pos (by decide +kernel)]; kernel_rfl) | (rw [if_neg (by decide +kernel)]; exact ⟨rfl, rfl⟩))
    (fun os started H enc _ => lifted os started H enc)
end Go.Proofs.Ytfmhdfgliamkkaa.histSpans
namespace Go.Proofs.Ytfmhdfgliamkkaa
theorem histSpans_holds : Rows.HistSpansSaid := histSpans.over
end Go.Proofs.Ytfmhdfgliamkkaa
