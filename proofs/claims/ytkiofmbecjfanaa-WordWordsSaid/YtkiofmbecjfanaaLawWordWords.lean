/- For every two words WordWords answers true, and its arguments read as they did. No condition. -/
import Derived.Test.YtkiofmbecjfanaaRows
import Derived.Test.YtkiofmbecjfanaaWordsMath
import Derived.WalkKit
import Derived.ProofKit
import Derived.OpenShut
import Derived.ShutString
import Derived.ChangeOld
import Derived.Below
import Derived.SizedLaws
import Derived.Lib.Hide
import Derived.Lib.SmallJoins
namespace Go.Proofs.Ytkiofmbecjfanaa.wordWords
open Go.ChangeShapes Go.WideShapes Go.ChangeAt Go.RowKit Go.Joins
set_option linter.unusedVariables false
open Go.Proofs.YtkiofmbecjfanaaW.PrintWords Go.Proofs.YtkiofmbecjfanaaW.PrintLast Go.Proofs.YtkiofmbecjfanaaW.PrintMore

theorem below_drewN {B : Nat} {a w : World} (h : Below B a w) (n : Nat) : Below B a (w.drewN n) := ⟨h.os, h.tape, h.output, h.size, h.block⟩
set_option maxHeartbeats 1000000 in
set_option maxRecDepth 100000 in
theorem walk_1 (a0 a1 k a x s g f : Int) (w : World) (ha0 : 0 ≤ a0) (ha1 : a0 < 18446744073709551616)
    (hs : Hid (PWordChildren.word_Split.f a0 = some (k, a))) (hc : Hid (PWordChildren.word_Child.f 2 k a = some (x, 2)))
    (hu : Hid (PWordHandles.word_Unhandle.f a1 = some (s, g, f))) (hl : Hid (PWordChildren.shutterlaw01_live.f 2 = some true)) (c1 : (a0 != 1) = false) (hf : (f == 0) = false) (hf' : (f != 0) = true) (s0 : (s == 0) = true) (g0 : (g == 0) = true) :
    Calls Try.prog 7 #[.int .u64 a0, .int .u64 a1] w fun e w' => e = .returned (.bool true) ∧ Below w.heap.size w w' := by
  have e0 : IntKind.u64.wrap (Int.tdiv a0 2) = a0 / 2 := by rw [Int.tdiv_eq_ediv_of_nonneg ha0]; exact Math.u64_of (by omega) (by omega)
  go_enter Try.func7, Try.ntmps7
  go_wp2_with (first | (go_at_call 10; refine (PWordChildren.word_Split.calls a0 k a _ hs.out).mono ?_; rintro e w' ⟨rfl, ⟨n1, rfl⟩⟩) | (go_at_call 8; refine (PWordChildren.word_Child.calls 2 k a x 2 _ hc.out).mono ?_; rintro e w' ⟨rfl, ⟨n2, rfl⟩⟩) | (go_at_call 19; refine (PWordHandles.word_Unhandle.calls a1 s g f _ hu.out).mono ?_; rintro e w' ⟨rfl, ⟨n3, rfl⟩⟩) | (go_at_call 12; refine (PWordChildren.shutterlaw01_live.calls 2 true _ hl.out).mono ?_; rintro e w' ⟨rfl, ⟨n4, rfl⟩⟩))
  go_ret
  exact ⟨by simp, below_drewN (Below.refl _ _) _⟩
set_option maxHeartbeats 1000000 in
set_option maxRecDepth 100000 in
theorem walk_2 (a0 a1 k a x s g f : Int) (w : World) (ha0 : 0 ≤ a0) (ha1 : a0 < 18446744073709551616)
    (hs : Hid (PWordChildren.word_Split.f a0 = some (k, a))) (hc : Hid (PWordChildren.word_Child.f 2 k a = some (x, 2)))
    (hu : Hid (PWordHandles.word_Unhandle.f a1 = some (s, g, f))) (hl : Hid (PWordChildren.shutterlaw01_live.f 2 = some true)) (c1 : (a0 != 1) = false) (hf : (f == 0) = true) (hf' : (f != 0) = false) (hh : Hid (PWordHandles.word_Handle.f s g = some (a1, 0))) :
    Calls Try.prog 7 #[.int .u64 a0, .int .u64 a1] w fun e w' => e = .returned (.bool true) ∧ Below w.heap.size w w' := by
  have e0 : IntKind.u64.wrap (Int.tdiv a0 2) = a0 / 2 := by rw [Int.tdiv_eq_ediv_of_nonneg ha0]; exact Math.u64_of (by omega) (by omega)
  go_enter Try.func7, Try.ntmps7
  go_wp2_with (first | (go_at_call 10; refine (PWordChildren.word_Split.calls a0 k a _ hs.out).mono ?_; rintro e w' ⟨rfl, ⟨n1, rfl⟩⟩) | (go_at_call 8; refine (PWordChildren.word_Child.calls 2 k a x 2 _ hc.out).mono ?_; rintro e w' ⟨rfl, ⟨n2, rfl⟩⟩) | (go_at_call 19; refine (PWordHandles.word_Unhandle.calls a1 s g f _ hu.out).mono ?_; rintro e w' ⟨rfl, ⟨n3, rfl⟩⟩) | (go_at_call 12; refine (PWordChildren.shutterlaw01_live.calls 2 true _ hl.out).mono ?_; rintro e w' ⟨rfl, ⟨n4, rfl⟩⟩) | (go_at_call 17; refine (PWordHandles.word_Handle.calls s g a1 0 _ hh.out).mono ?_; rintro e w' ⟨rfl, ⟨n5, rfl⟩⟩))
  go_ret
  exact ⟨by simp, below_drewN (Below.refl _ _) _⟩
set_option maxHeartbeats 1000000 in
set_option maxRecDepth 100000 in
theorem walk_3 (a0 a1 k a x s g f : Int) (w : World) (ha0 : 0 ≤ a0) (ha1 : a0 < 18446744073709551616)
    (hs : Hid (PWordChildren.word_Split.f a0 = some (k, a))) (hc : Hid (PWordChildren.word_Child.f 2 k a = some (x, 2)))
    (hu : Hid (PWordHandles.word_Unhandle.f a1 = some (s, g, f))) (hl : Hid (PWordChildren.shutterlaw01_live.f 2 = some true)) (c1 : (a0 != 1) = true) (c2 : 4611686018427387904 < a0 / 2) (hf : (f == 0) = false) (hf' : (f != 0) = true) (s0 : (s == 0) = true) (g0 : (g == 0) = true) :
    Calls Try.prog 7 #[.int .u64 a0, .int .u64 a1] w fun e w' => e = .returned (.bool true) ∧ Below w.heap.size w w' := by
  have e0 : IntKind.u64.wrap (Int.tdiv a0 2) = a0 / 2 := by rw [Int.tdiv_eq_ediv_of_nonneg ha0]; exact Math.u64_of (by omega) (by omega)
  go_enter Try.func7, Try.ntmps7
  go_wp2_with (first | (go_at_call 10; refine (PWordChildren.word_Split.calls a0 k a _ hs.out).mono ?_; rintro e w' ⟨rfl, ⟨n1, rfl⟩⟩) | (go_at_call 8; refine (PWordChildren.word_Child.calls 2 k a x 2 _ hc.out).mono ?_; rintro e w' ⟨rfl, ⟨n2, rfl⟩⟩) | (go_at_call 19; refine (PWordHandles.word_Unhandle.calls a1 s g f _ hu.out).mono ?_; rintro e w' ⟨rfl, ⟨n3, rfl⟩⟩) | (go_at_call 12; refine (PWordChildren.shutterlaw01_live.calls 2 true _ hl.out).mono ?_; rintro e w' ⟨rfl, ⟨n4, rfl⟩⟩))
  go_ret
  exact ⟨by simp, below_drewN (Below.refl _ _) _⟩
set_option maxHeartbeats 1000000 in
set_option maxRecDepth 100000 in
theorem walk_4 (a0 a1 k a x s g f : Int) (w : World) (ha0 : 0 ≤ a0) (ha1 : a0 < 18446744073709551616)
    (hs : Hid (PWordChildren.word_Split.f a0 = some (k, a))) (hc : Hid (PWordChildren.word_Child.f 2 k a = some (x, 2)))
    (hu : Hid (PWordHandles.word_Unhandle.f a1 = some (s, g, f))) (hl : Hid (PWordChildren.shutterlaw01_live.f 2 = some true)) (c1 : (a0 != 1) = true) (c2 : 4611686018427387904 < a0 / 2) (hf : (f == 0) = true) (hf' : (f != 0) = false) (hh : Hid (PWordHandles.word_Handle.f s g = some (a1, 0))) :
    Calls Try.prog 7 #[.int .u64 a0, .int .u64 a1] w fun e w' => e = .returned (.bool true) ∧ Below w.heap.size w w' := by
  have e0 : IntKind.u64.wrap (Int.tdiv a0 2) = a0 / 2 := by rw [Int.tdiv_eq_ediv_of_nonneg ha0]; exact Math.u64_of (by omega) (by omega)
  go_enter Try.func7, Try.ntmps7
  go_wp2_with (first | (go_at_call 10; refine (PWordChildren.word_Split.calls a0 k a _ hs.out).mono ?_; rintro e w' ⟨rfl, ⟨n1, rfl⟩⟩) | (go_at_call 8; refine (PWordChildren.word_Child.calls 2 k a x 2 _ hc.out).mono ?_; rintro e w' ⟨rfl, ⟨n2, rfl⟩⟩) | (go_at_call 19; refine (PWordHandles.word_Unhandle.calls a1 s g f _ hu.out).mono ?_; rintro e w' ⟨rfl, ⟨n3, rfl⟩⟩) | (go_at_call 12; refine (PWordChildren.shutterlaw01_live.calls 2 true _ hl.out).mono ?_; rintro e w' ⟨rfl, ⟨n4, rfl⟩⟩) | (go_at_call 17; refine (PWordHandles.word_Handle.calls s g a1 0 _ hh.out).mono ?_; rintro e w' ⟨rfl, ⟨n5, rfl⟩⟩))
  go_ret
  exact ⟨by simp, below_drewN (Below.refl _ _) _⟩
set_option maxHeartbeats 1000000 in
set_option maxRecDepth 100000 in
theorem walk_5 (a0 a1 k a s g f : Int) (w : World) (ha0 : 0 ≤ a0) (ha1 : a0 < 18446744073709551616)
    (hs : Hid (PWordChildren.word_Split.f a0 = some (k, a))) (hc : Hid (PWordChildren.word_Child.f 2 k a = some (a0, 0)))
    (hu : Hid (PWordHandles.word_Unhandle.f a1 = some (s, g, f))) (hl : Hid (PWordChildren.shutterlaw01_live.f 2 = some true)) (c1 : (a0 != 1) = true) (c2 : a0 / 2 ≤ 4611686018427387904) (hf : (f == 0) = false) (hf' : (f != 0) = true) (s0 : (s == 0) = true) (g0 : (g == 0) = true) :
    Calls Try.prog 7 #[.int .u64 a0, .int .u64 a1] w fun e w' => e = .returned (.bool true) ∧ Below w.heap.size w w' := by
  have e0 : IntKind.u64.wrap (Int.tdiv a0 2) = a0 / 2 := by rw [Int.tdiv_eq_ediv_of_nonneg ha0]; exact Math.u64_of (by omega) (by omega)
  go_enter Try.func7, Try.ntmps7
  go_wp2_with (first | (go_at_call 10; refine (PWordChildren.word_Split.calls a0 k a _ hs.out).mono ?_; rintro e w' ⟨rfl, ⟨n1, rfl⟩⟩) | (go_at_call 8; refine (PWordChildren.word_Child.calls 2 k a a0 0 _ hc.out).mono ?_; rintro e w' ⟨rfl, ⟨n2, rfl⟩⟩) | (go_at_call 19; refine (PWordHandles.word_Unhandle.calls a1 s g f _ hu.out).mono ?_; rintro e w' ⟨rfl, ⟨n3, rfl⟩⟩) | (go_at_call 12; refine (PWordChildren.shutterlaw01_live.calls 2 true _ hl.out).mono ?_; rintro e w' ⟨rfl, ⟨n4, rfl⟩⟩))
  go_ret
  exact ⟨by simp, below_drewN (Below.refl _ _) _⟩
set_option maxHeartbeats 1000000 in
set_option maxRecDepth 100000 in
theorem walk_6 (a0 a1 k a s g f : Int) (w : World) (ha0 : 0 ≤ a0) (ha1 : a0 < 18446744073709551616)
    (hs : Hid (PWordChildren.word_Split.f a0 = some (k, a))) (hc : Hid (PWordChildren.word_Child.f 2 k a = some (a0, 0)))
    (hu : Hid (PWordHandles.word_Unhandle.f a1 = some (s, g, f))) (hl : Hid (PWordChildren.shutterlaw01_live.f 2 = some true)) (c1 : (a0 != 1) = true) (c2 : a0 / 2 ≤ 4611686018427387904) (hf : (f == 0) = true) (hf' : (f != 0) = false) (hh : Hid (PWordHandles.word_Handle.f s g = some (a1, 0))) :
    Calls Try.prog 7 #[.int .u64 a0, .int .u64 a1] w fun e w' => e = .returned (.bool true) ∧ Below w.heap.size w w' := by
  have e0 : IntKind.u64.wrap (Int.tdiv a0 2) = a0 / 2 := by rw [Int.tdiv_eq_ediv_of_nonneg ha0]; exact Math.u64_of (by omega) (by omega)
  go_enter Try.func7, Try.ntmps7
  go_wp2_with (first | (go_at_call 10; refine (PWordChildren.word_Split.calls a0 k a _ hs.out).mono ?_; rintro e w' ⟨rfl, ⟨n1, rfl⟩⟩) | (go_at_call 8; refine (PWordChildren.word_Child.calls 2 k a a0 0 _ hc.out).mono ?_; rintro e w' ⟨rfl, ⟨n2, rfl⟩⟩) | (go_at_call 19; refine (PWordHandles.word_Unhandle.calls a1 s g f _ hu.out).mono ?_; rintro e w' ⟨rfl, ⟨n3, rfl⟩⟩) | (go_at_call 12; refine (PWordChildren.shutterlaw01_live.calls 2 true _ hl.out).mono ?_; rintro e w' ⟨rfl, ⟨n4, rfl⟩⟩) | (go_at_call 17; refine (PWordHandles.word_Handle.calls s g a1 0 _ hh.out).mono ?_; rintro e w' ⟨rfl, ⟨n5, rfl⟩⟩))
  go_ret
  exact ⟨by simp, below_drewN (Below.refl _ _) _⟩

theorem walk (a0 a1 : Int) (w : World) (ha0 : 0 ≤ a0) (ha1 : a0 < 18446744073709551616) (hb0 : 0 ≤ a1) (hb1 : a1 < 18446744073709551616) :
    Calls Try.prog 7 #[.int .u64 a0, .int .u64 a1] w fun e w' => e = .returned (.bool true) ∧ Below w.heap.size w w' := by
  obtain ⟨k, a, x, e, h0, h1, hs, hc, hcase⟩ := Math.split_child a0 ha0 ha1
  obtain ⟨s, g, f, h2, h3, hu, hcase2⟩ := Math.unhandle_handle a1 hb0 hb1
  have Hs : Hid (PWordChildren.word_Split.f a0 = some (k, a)) := by rw [← hs]; exact Math.split_p ha0 ha1
  have Hc : Hid (PWordChildren.word_Child.f 2 k a = some (x, e)) := by rw [← hc]; exact Math.child_p h0 h1 0
  have Hu : Hid (PWordHandles.word_Unhandle.f a1 = some (s, g, f)) := by rw [← hu]; exact Math.unhandle_p hb0 hb1
  have Hl : Hid (PWordChildren.shutterlaw01_live.f 2 = some true) := Math.live_true 0
  have hh : f = 0 ∧ Math.handle s g = (a1, 0) → Hid (PWordHandles.word_Handle.f s g = some (a1, 0)) := fun ⟨_, h⟩ => by
    show PWordHandles.word_Handle.f s g = some (a1, 0)
    rw [← h]; exact Math.handle_p h2 h3
  rcases hcase2 with ⟨rfl, rfl, rfl⟩ | ⟨rfl, hhd⟩
  · rcases hcase with ⟨rfl, rfl⟩ | ⟨c1, c2, rfl⟩ | ⟨c1, c2, rfl, rfl⟩
    · exact walk_1 _ _ _ _ _ _ _ _ w ha0 ha1 Hs Hc Hu Hl rfl rfl rfl rfl rfl
    · exact walk_3 _ _ _ _ _ _ _ _ w ha0 ha1 Hs Hc Hu Hl (by simpa using c1) c2 rfl rfl rfl rfl
    · exact walk_5 _ _ _ _ _ _ _ w ha0 ha1 Hs Hc Hu Hl (by simpa using c1) c2 rfl rfl rfl rfl
  · have Hh := hh ⟨rfl, hhd⟩
    rcases hcase with ⟨rfl, rfl⟩ | ⟨c1, c2, rfl⟩ | ⟨c1, c2, rfl, rfl⟩
    · exact walk_2 _ _ _ _ _ _ _ _ w ha0 ha1 Hs Hc Hu Hl rfl rfl rfl Hh
    · exact walk_4 _ _ _ _ _ _ _ _ w ha0 ha1 Hs Hc Hu Hl (by simpa using c1) c2 rfl rfl Hh
    · exact walk_6 _ _ _ _ _ _ _ w ha0 ha1 Hs Hc Hu Hl (by simpa using c1) c2 rfl rfl Hh
theorem own : ownKnob Try.prog.godebug = none := by kernel_rfl
set_option maxRecDepth 100000 in
theorem lifted (os : Os) (started : os.Started) (H : Type) (enc : TypeId × Value → H) :
    ReturnsInHanded {} Try.checked os 7 .any (Rows.wordWordsSpec.pre6 enc Try.prog Try.f7 Rows.wordWordsRow.domain false) (Rows.wordWordsSpec.post enc Try.prog Try.f7 false true false false) := by
  refine returnsInHanded_of_change_sized (C := Try.checked) own started (by kernel_rfl) Try.func7
    (ChangeSpec.witness6 (enc := enc) (C := Try.checked) false ⟨#[], #[.int .u64 0, .int .u64 0], []⟩ 8 (by kernel_rfl) (by kernel_rfl) (by kernel_rfl) (by kernel_rfl)) ?_
  intro W base args ds gs before hval0 hW hcnd _ _
  have hval : ∀ (j : Nat) t v, Try.f7.params[j]? = some t → args[j]? = some v → Value.okWide Try.prog W .any base t v := hval0
  have hW' := hW
  obtain ⟨p, q, hA0, hV, rfl, hfz, hnd⟩ := hW
  have hA : DataW.TrodAll enc Try.prog W 0 (fun _ => true) true Try.f7.params.toList args.toList ds p := hA0
  rw [Try.params7] at hA hval
  obtain ⟨v0, vs0, d0, ds0, p0, q0, hargs, rfl, rfl, h0, r0⟩ := trodAll_cons hA
  obtain ⟨v1, vs1, d1, ds1, p1, q1, rfl, rfl, rfl, h1, r1⟩ := trodAll_cons r0
  obtain ⟨rfl, rfl, rfl⟩ := trodAll_nil r1
  obtain rfl : args = #[v0, v1] := by cases args; simp_all
  obtain ⟨rfl, rfl⟩ := trodVars_none hV
  obtain ⟨a0, rfl, rfl, rfl, w0⟩ := open_int Try.underlying23 (hval 0 23 v0 rfl rfl) h0
  obtain ⟨lo0, hi0⟩ := bounds_u64 w0
  obtain ⟨a1, rfl, rfl, rfl, w1⟩ := open_int Try.underlying23 (hval 1 23 v1 rfl rfl) h1
  obtain ⟨lo1, hi1⟩ := bounds_u64 w1
  clear hA0 hval0
  refine (walk a0 a1 W (by omega) (by omega) (by omega) (by omega)).mono fun e W' ⟨he, bel⟩ => ?_
  subst he
  exact ⟨_, rfl, _, _, _, [], _, [], hW', trodAll_mk1 (shut_bool Try.underlying4 _), (trodAll_cons_mk (shut_int Try.underlying23 w0) (trodAll_cons_mk (shut_int Try.underlying23 w1) trodAll_mk0)), rfl, bel.frame _, fun h => by cases h⟩
theorem over : Rows.wordWordsRow.holds Try.pinned (OpenSpec.ofChange Rows.wordWordsSpec) :=
  OpenClaim.holds_of_wide 7 Try.f7 rfl rfl rfl rfl rfl rfl rfl ⟨rfl, rfl, rfl, rfl, rfl⟩ rfl rfl rfl rfl rfl (by kernel_rfl) Try.func7 (by kernel_rfl)
    (of_decide_eq_true (by kernel_rfl)) (by unfold Func.isWrapper; first | (rw [if_pos (by decide +kernel)]; kernel_rfl) | (rw [if_neg (by decide +kernel)]; exact ⟨rfl, rfl⟩))
    (fun os started H enc _ => lifted os started H enc)
end Go.Proofs.Ytkiofmbecjfanaa.wordWords
namespace Go.Proofs.Ytkiofmbecjfanaa
theorem wordWords_holds : Rows.WordWordsSaid := wordWords.over
end Go.Proofs.Ytkiofmbecjfanaa
