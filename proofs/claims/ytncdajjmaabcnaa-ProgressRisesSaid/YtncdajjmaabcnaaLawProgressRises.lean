/- For every bounds and every other bounds ProgressRises answers true. No condition. -/
import Derived.Test.YtncdajjmaabcnaaRows
import Derived.Test.YtncdajjmaabcnaaRisesW
import Derived.Test.YtncdajjmaabcnaaAgg5
import Derived.WalkKit
import Derived.ProofKit
import Derived.OpenShut
import Derived.ShutString
import Derived.ChangeOld
import Derived.Below
import Derived.SizedLaws
import Derived.Lib.SmallJoins
import Derived.Lib.Hide
namespace Go.Proofs.Ytncdajjmaabcnaa.progressRises
open Go.ChangeShapes Go.WideShapes Go.ChangeAt Go.RowKit Go.Joins
set_option linter.unusedVariables false
open Go.Proofs.YtncdajjmaabcnaaW.PrintWords Go.Proofs.YtncdajjmaabcnaaW.PrintLast Go.Proofs.YtncdajjmaabcnaaW.PrintMore Go.Proofs.Ytncdajjmaabcnaa.Own
set_option linter.unusedSimpArgs false
theorem own : ownKnob Try.prog.godebug = none := by kernel_rfl
theorem cells23 : Try.prog.cellsOf 23 = 5 := by kernel_rfl
theorem int_mk {H : Type} {enc : TypeId × Value → H} {P : Program} {w : World} {base : Nat} {spare : Nat → Bool} {held : Bool} {t : TypeId} {k : IntKind} {x : Int}
    (hu : P.underlying t = some (.int k)) (wx : (Lit.int k x).wf = true) : ∃ n, DataW.trod enc P w base spare held n t [.int k x] = some (.lit (.int k x), []) :=
  ⟨1, by simp [DataW.trod, hu, wx]⟩
set_option maxRecDepth 100000 in
theorem lifted (os : Os) (started : os.Started) (H : Type) (enc : TypeId × Value → H) :
    ReturnsInHanded {} Try.checked os 4 .any (Rows.progressRisesSpec.pre6 enc Try.prog Try.f4 Rows.progressRisesRow.domain false) (Rows.progressRisesSpec.post enc Try.prog Try.f4 false true false false) := by
  refine returnsInHanded_of_change_sized (C := Try.checked) own started (by kernel_rfl) Try.func4
    (ChangeSpec.witness6 (enc := enc) (C := Try.checked) false ⟨#[], #[.agg #[.int .i64 0, .int .i64 0, .int .i64 0, .int .i64 0, .int .i64 0], .agg #[.int .i64 0, .int .i64 0, .int .i64 0, .int .i64 0, .int .i64 0]], []⟩ 8 (by kernel_rfl) (by kernel_rfl) (by kernel_rfl) (by kernel_rfl)) ?_
  intro W base args ds gs before hval0 hW hcnd hsz0 _
  have hsz : (DataW.weightsEach Try.prog (Try.f4.params.toList ++ Rows.progressRisesSpec.plain.varTypes Try.prog) (ds ++ gs)).all (· ≤ reachBytes) = true := hsz0
  have hval : ∀ (j : Nat) t v, Try.f4.params[j]? = some t → args[j]? = some v → Value.okWide Try.prog W .any base t v := hval0
  have hW' := hW
  obtain ⟨p, q, hA0, hV, rfl, hfz, hnd⟩ := hW
  have hA : DataW.TrodAll enc Try.prog W 0 (fun _ => true) true Try.f4.params.toList args.toList ds p := hA0
  rw [Try.params4] at hA hval hsz
  obtain ⟨v0, vs0, d0, ds0, p0, q0, hargs, rfl, rfl, h0, r0⟩ := trodAll_cons hA
  obtain ⟨v1, vs1, d1, ds1, p1, q1, rfl, rfl, rfl, h1, r1⟩ := trodAll_cons r0
  obtain ⟨rfl, rfl, rfl⟩ := trodAll_nil r1
  obtain rfl : args = #[v0, v1] := by cases args; simp_all
  obtain ⟨rfl, rfl⟩ := trodVars_none hV
  obtain ⟨c0_0, c0_1, c0_2, c0_3, c0_4, y0_0, y0_1, y0_2, y0_3, y0_4, m0, rfl, rfl, rfl, hy0_0, hy0_1, hy0_2, hy0_3, hy0_4⟩ := A5.open5 Try.underlying23 (by kernel_rfl) cells23 (hval 0 23 v0 rfl rfl) h0
  obtain ⟨a0_0, e0_0, rfl, w0_0⟩ := DataW.trod_int Try.underlying3 hy0_0
  obtain ⟨a0_1, e0_1, rfl, w0_1⟩ := DataW.trod_int Try.underlying3 hy0_1
  obtain ⟨a0_2, e0_2, rfl, w0_2⟩ := DataW.trod_int Try.underlying3 hy0_2
  obtain ⟨a0_3, e0_3, rfl, w0_3⟩ := DataW.trod_int Try.underlying3 hy0_3
  obtain ⟨a0_4, e0_4, rfl, w0_4⟩ := DataW.trod_int Try.underlying3 hy0_4
  simp only [List.cons.injEq, and_true] at e0_0 e0_1 e0_2 e0_3 e0_4
  subst e0_0 e0_1 e0_2 e0_3 e0_4
  obtain ⟨lo0_0, hi0_0⟩ := bounds_i64 w0_0
  obtain ⟨lo0_1, hi0_1⟩ := bounds_i64 w0_1
  obtain ⟨lo0_2, hi0_2⟩ := bounds_i64 w0_2
  obtain ⟨lo0_3, hi0_3⟩ := bounds_i64 w0_3
  obtain ⟨lo0_4, hi0_4⟩ := bounds_i64 w0_4
  obtain ⟨c1_0, c1_1, c1_2, c1_3, c1_4, y1_0, y1_1, y1_2, y1_3, y1_4, m1, rfl, rfl, rfl, hy1_0, hy1_1, hy1_2, hy1_3, hy1_4⟩ := A5.open5 Try.underlying23 (by kernel_rfl) cells23 (hval 1 23 v1 rfl rfl) h1
  obtain ⟨a1_0, e1_0, rfl, w1_0⟩ := DataW.trod_int Try.underlying3 hy1_0
  obtain ⟨a1_1, e1_1, rfl, w1_1⟩ := DataW.trod_int Try.underlying3 hy1_1
  obtain ⟨a1_2, e1_2, rfl, w1_2⟩ := DataW.trod_int Try.underlying3 hy1_2
  obtain ⟨a1_3, e1_3, rfl, w1_3⟩ := DataW.trod_int Try.underlying3 hy1_3
  obtain ⟨a1_4, e1_4, rfl, w1_4⟩ := DataW.trod_int Try.underlying3 hy1_4
  simp only [List.cons.injEq, and_true] at e1_0 e1_1 e1_2 e1_3 e1_4
  subst e1_0 e1_1 e1_2 e1_3 e1_4
  obtain ⟨lo1_0, hi1_0⟩ := bounds_i64 w1_0
  obtain ⟨lo1_1, hi1_1⟩ := bounds_i64 w1_1
  obtain ⟨lo1_2, hi1_2⟩ := bounds_i64 w1_2
  obtain ⟨lo1_3, hi1_3⟩ := bounds_i64 w1_3
  obtain ⟨lo1_4, hi1_4⟩ := bounds_i64 w1_4
  clear hA0 hval0 hsz0 hsz
  refine (PB.rises a0_0 a0_1 a0_2 a0_3 a0_4 a1_0 a1_1 a1_2 a1_3 a1_4 W ⟨hi0_0, hi0_1, hi0_2, hi0_3, hi0_4⟩ ⟨hi1_0, hi1_1, hi1_2, hi1_3, hi1_4⟩).mono fun e W' ⟨he, bel⟩ => ?_
  subst he
  exact ⟨_, rfl, _, _, _, [], _, [], hW', trodAll_mk1 (shut_bool Try.underlying4 _), (trodAll_cons_mk (A5.shut5 (y0 := (.lit (.int .i64 a0_0), [])) (y1 := (.lit (.int .i64 a0_1), [])) (y2 := (.lit (.int .i64 a0_2), [])) (y3 := (.lit (.int .i64 a0_3), [])) (y4 := (.lit (.int .i64 a0_4), [])) Try.underlying23 (by kernel_rfl) cells23 (int_mk Try.underlying3 w0_0) (int_mk Try.underlying3 w0_1) (int_mk Try.underlying3 w0_2) (int_mk Try.underlying3 w0_3) (int_mk Try.underlying3 w0_4)) (trodAll_cons_mk (A5.shut5 (y0 := (.lit (.int .i64 a1_0), [])) (y1 := (.lit (.int .i64 a1_1), [])) (y2 := (.lit (.int .i64 a1_2), [])) (y3 := (.lit (.int .i64 a1_3), [])) (y4 := (.lit (.int .i64 a1_4), [])) Try.underlying23 (by kernel_rfl) cells23 (int_mk Try.underlying3 w1_0) (int_mk Try.underlying3 w1_1) (int_mk Try.underlying3 w1_2) (int_mk Try.underlying3 w1_3) (int_mk Try.underlying3 w1_4)) trodAll_mk0)), rfl, bel.frame _, fun h => by cases h⟩
theorem over : Rows.progressRisesRow.holds Try.pinned (OpenSpec.ofChange Rows.progressRisesSpec) :=
  OpenClaim.holds_of_wide 4 Try.f4 rfl rfl rfl rfl rfl rfl rfl ⟨rfl, rfl, rfl, rfl, rfl⟩ rfl rfl rfl rfl rfl (by kernel_rfl) Try.func4 (by kernel_rfl)
    (of_decide_eq_true (by kernel_rfl)) (by unfold Func.isWrapper; first | (rw [if_pos (by decide +kernel)]; kernel_rfl) | (rw [if_neg (by decide +kernel)]; exact ⟨rfl, rfl⟩))
    (fun os started H enc _ => lifted os started H enc)
end Go.Proofs.Ytncdajjmaabcnaa.progressRises
namespace Go.Proofs.Ytncdajjmaabcnaa
theorem progressRises_holds : Rows.ProgressRisesSaid := progressRises.over
end Go.Proofs.Ytncdajjmaabcnaa
