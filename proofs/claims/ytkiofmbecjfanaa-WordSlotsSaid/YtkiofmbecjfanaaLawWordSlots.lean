/- For every slot and every word WordSlots answers true, and its arguments read as they did. No condition. -/
import Derived.Test.YtkiofmbecjfanaaRows
import Derived.Test.YtkiofmbecjfanaaSlotMath
import Derived.WalkKit
import Derived.ProofKit
import Derived.OpenShut
import Derived.ShutString
import Derived.ChangeOld
import Derived.Below
import Derived.SizedLaws
import Derived.Lib.SmallJoins
namespace Go.Proofs.Ytkiofmbecjfanaa.wordSlots
open Go.ChangeShapes Go.WideShapes Go.ChangeAt Go.RowKit Go.Joins
theorem own : ownKnob Try.prog.godebug = none := by kernel_rfl
theorem cells33 : Try.prog.cellsOf 33 = 3 := by kernel_rfl
theorem int_mk {H : Type} {enc : TypeId × Value → H} {P : Program} {w : World} {base : Nat} {spare : Nat → Bool} {held : Bool} {t : TypeId} {k : IntKind} {x : Int}
    (hu : P.underlying t = some (.int k)) (wx : (Lit.int k x).wf = true) : ∃ n, DataW.trod enc P w base spare held n t [.int k x] = some (.lit (.int k x), []) :=
  ⟨1, by simp [DataW.trod, hu, wx]⟩
set_option maxRecDepth 100000 in
theorem lifted (os : Os) (started : os.Started) (H : Type) (enc : TypeId × Value → H) :
    ReturnsInHanded {} Try.checked os 4 .any (Rows.wordSlotsSpec.pre6 enc Try.prog Try.f4 Rows.wordSlotsRow.domain false) (Rows.wordSlotsSpec.post enc Try.prog Try.f4 false true false false) := by
  refine returnsInHanded_of_change_sized (C := Try.checked) own started (by kernel_rfl) Try.func4
    (ChangeSpec.witness6 (enc := enc) (C := Try.checked) false ⟨#[], #[.agg #[.int .u8 0, .int .u64 0, .int .u64 0], .int .u64 0], []⟩ 8 (by kernel_rfl) (by kernel_rfl) (by kernel_rfl) (by kernel_rfl)) ?_
  intro W base args ds gs before hval0 hW hcnd _ _
  have hval : ∀ (j : Nat) t v, Try.f4.params[j]? = some t → args[j]? = some v → Value.okWide Try.prog W .any base t v := hval0
  have hW' := hW
  obtain ⟨p, q, hA0, hV, rfl, hfz, hnd⟩ := hW
  have hA : DataW.TrodAll enc Try.prog W 0 (fun _ => true) true Try.f4.params.toList args.toList ds p := hA0
  rw [Try.params4] at hA hval
  obtain ⟨v0, vs0, d0, ds0, p0, q0, hargs, rfl, rfl, h0, r0⟩ := trodAll_cons hA
  obtain ⟨v1, vs1, d1, ds1, p1, q1, rfl, rfl, rfl, h1, r1⟩ := trodAll_cons r0
  obtain ⟨rfl, rfl, rfl⟩ := trodAll_nil r1
  obtain rfl : args = #[v0, v1] := by cases args; simp_all
  obtain ⟨rfl, rfl⟩ := trodVars_none hV
  obtain ⟨c0, c1, c2, y0, y1, y2, m, rfl, rfl, rfl, hy0, hy1, hy2⟩ := open_agg3 Try.underlying33 (by kernel_rfl) cells33 (hval 0 33 v0 rfl rfl) h0
  obtain ⟨k, e0, rfl, wk⟩ := DataW.trod_int Try.underlying31 hy0
  obtain ⟨g, e1, rfl, wg⟩ := DataW.trod_int Try.underlying23 hy1
  obtain ⟨s, e2, rfl, ws⟩ := DataW.trod_int Try.underlying23 hy2
  simp only [List.cons.injEq, and_true] at e0 e1 e2
  subst e0 e1 e2
  obtain ⟨a1, rfl, rfl, rfl, w1⟩ := open_int Try.underlying23 (hval 1 23 v1 rfl rfl) h1
  obtain ⟨k1, k2⟩ := bounds_u8 wk
  obtain ⟨g1, g2⟩ := bounds_u64 wg
  obtain ⟨s1, s2⟩ := bounds_u64 ws
  obtain ⟨b1, b2⟩ := bounds_u64 w1
  clear hA0 hval0
  refine (PWordSlots.shutterlaw01_WordSlots.calls 2 k g s a1 true W (Math.wordSlots_true (by omega) (by omega) (by omega) (by omega) (by omega))).mono fun e W' ⟨he, bel⟩ => ?_
  subst he
  exact ⟨_, rfl, _, _, _, [], _, [], hW', trodAll_mk1 (shut_bool Try.underlying4 _), (trodAll_cons_mk (shut_agg3 (y0 := (.lit (.int .u8 k), [])) (y1 := (.lit (.int .u64 g), [])) (y2 := (.lit (.int .u64 s), [])) Try.underlying33 (by kernel_rfl) cells33 (int_mk Try.underlying31 wk) (int_mk Try.underlying23 wg) (int_mk Try.underlying23 ws)) (trodAll_cons_mk (shut_int Try.underlying23 w1) trodAll_mk0)), rfl, bel.frame _, fun h => by cases h⟩
theorem over : Rows.wordSlotsRow.holds Try.pinned (OpenSpec.ofChange Rows.wordSlotsSpec) :=
  OpenClaim.holds_of_wide 4 Try.f4 rfl rfl rfl rfl rfl rfl rfl ⟨rfl, rfl, rfl, rfl, rfl⟩ rfl rfl rfl rfl rfl (by kernel_rfl) Try.func4 (by kernel_rfl)
    (of_decide_eq_true (by kernel_rfl)) (by unfold Func.isWrapper; first | (rw [if_pos (by decide +kernel)]; kernel_rfl) | (rw [if_neg (by decide +kernel)]; exact ⟨rfl, rfl⟩))
    (fun os started H enc _ => lifted os started H enc)
end Go.Proofs.Ytkiofmbecjfanaa.wordSlots
namespace Go.Proofs.Ytkiofmbecjfanaa
theorem wordSlots_holds : Rows.WordSlotsSaid := wordSlots.over
end Go.Proofs.Ytkiofmbecjfanaa
