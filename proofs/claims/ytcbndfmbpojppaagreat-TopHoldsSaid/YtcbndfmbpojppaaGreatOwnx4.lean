-- Written by a program of this session (wip/tools/gprint.py: the kit's printer, some callees' contracts given by hand). Lean checks it.
import Derived.Test.YtcbndfmbpojppaaGreatOwnx0
import Derived.Test.YtcbndfmbpojppaaGreatOwnx3
namespace Go.Proofs.YtcbndfmbpojppaaGreat.Own
open Go.RowKit Go.Proofs.YtcbndfmbpojppaaGreatW.PrintWords Go.Proofs.YtcbndfmbpojppaaGreatW.PrintLast Go.Proofs.YtcbndfmbpojppaaGreatW.PrintMore
attribute [local go_sem] max2_int min2_int max_two min_two max_three min_three max_four min_four   -- for this text's walks alone
set_option linter.unusedVariables false
set_option linter.unusedSimpArgs false

/-! ### word_Unhandle: function 93 -/
def word_Unhandle.f (a0 : Int) : Option (Int × Int × Int) := (word_Handle.f (wrap64 ((wrap64 (Int.tmod a0 65536)) - 1)) (IntKind.u64.wrap (Int.tdiv a0 65536))).bind fun bt102 => (if bt102.2 = 0 then (if bt102.1 = a0 then (some (wrap64 ((wrap64 (Int.tmod a0 65536)) - 1), IntKind.u64.wrap (Int.tdiv a0 65536), 0)) else (some (0, 0, 33))) else (some (0, 0, 33)))
set_option maxHeartbeats 8000000 in
set_option maxRecDepth 100000 in
theorem word_Unhandle.calls (a0 : Int) (r1 : Int) (r2 : Int) (r3 : Int) (w : World) (h : word_Unhandle.f a0 = some (r1, r2, r3)) :
    Calls Tryz.prog 93 #[.int .u64 a0] w fun e w' => e = .returned (.tuple #[.int .i64 r1, .int .u64 r2, .int .i64 r3]) ∧ Drawn0 w w' := by
  have H : ((word_Handle.f (wrap64 ((wrap64 (Int.tmod a0 65536)) - 1)) (IntKind.u64.wrap (Int.tdiv a0 65536))).bind fun bt102 => (if bt102.2 = 0 then (if bt102.1 = a0 then (some (wrap64 ((wrap64 (Int.tmod a0 65536)) - 1), IntKind.u64.wrap (Int.tdiv a0 65536), 0)) else (some (0, 0, 33))) else (some (0, 0, 33)))) = some (r1, r2, r3) := h
  clear h
  replace H := Option.bind_eq_some_iff.mp H
  obtain ⟨⟨t102, t103⟩, A20, H⟩ := H
  replace H : (if t103 = 0 then (if t102 = a0 then (some (wrap64 ((wrap64 (Int.tmod a0 65536)) - 1), IntKind.u64.wrap (Int.tdiv a0 65536), 0)) else (some (0, 0, 33))) else (some (0, 0, 33))) = some (r1, r2, r3) := H
  have A2 := Aside0.mk A20
  clear A20
  by_cases c3 : t103 = 0
  · rw [if_pos c3] at H
    have c3b0 : (t103 == 0) = true := beq_iff_eq.mpr c3
    have c3b1 : (t103 != 0) = false := bne_eq_false_iff_eq.mpr c3
    clear c3
    by_cases c4 : t102 = a0
    · rw [if_pos c4] at H
      have c4b0 : (t102 == a0) = true := beq_iff_eq.mpr c4
      have c4b1 : (t102 != a0) = false := bne_eq_false_iff_eq.mpr c4
      clear c4
      simp only [Option.some.injEq, Prod.mk.injEq] at H
      obtain ⟨rfl, rfl, rfl⟩ := H
      go_enter Tryz.func93, Tryz.ntmps93
      go_wp2_with (first | ((with_reducible refine gate_callee (f := 29) rfl ?_); refine goesL_ (some 18) rfl rfl Tryz.func29 (by kernel_rfl) rfl #[.int .i64 (wrap64 ((wrap64 (Int.tmod a0 65536)) - 1)), .int .u64 (IntKind.u64.wrap (Int.tdiv a0 65536))] rfl (by (try simp only [List.map_toArray, List.map_cons, List.map_nil]); first | done | rfl | (simp only [List.length_drop, List.length_take]; rfl)) ?_; (with_reducible refine (word_Handle.calls (wrap64 ((wrap64 (Int.tmod a0 65536)) - 1)) (IntKind.u64.wrap (Int.tdiv a0 65536)) t102 t103 _ A2.out).mono ?_); rintro e w' ⟨rfl, ⟨nd, rfl⟩⟩; refine ⟨_, rfl, ?_⟩))
      go_ret3
      exact ⟨by first | rfl | (simp; done) | (simp [*]; done), by repeat (first | exact Drawn0.refl _ | apply Drawn0.step)⟩
    · rw [if_neg c4] at H
      have c4b0 : (t102 == a0) = false := beq_eq_false_iff_ne.mpr c4
      have c4b1 : (t102 != a0) = true := bne_iff_ne.mpr c4
      simp only [Option.some.injEq, Prod.mk.injEq] at H
      obtain ⟨rfl, rfl, rfl⟩ := H
      go_enter Tryz.func93, Tryz.ntmps93
      go_wp2_with (first | ((with_reducible refine gate_callee (f := 29) rfl ?_); refine goesL_ (some 18) rfl rfl Tryz.func29 (by kernel_rfl) rfl #[.int .i64 (wrap64 ((wrap64 (Int.tmod a0 65536)) - 1)), .int .u64 (IntKind.u64.wrap (Int.tdiv a0 65536))] rfl (by (try simp only [List.map_toArray, List.map_cons, List.map_nil]); first | done | rfl | (simp only [List.length_drop, List.length_take]; rfl)) ?_; (with_reducible refine (word_Handle.calls (wrap64 ((wrap64 (Int.tmod a0 65536)) - 1)) (IntKind.u64.wrap (Int.tdiv a0 65536)) t102 t103 _ A2.out).mono ?_); rintro e w' ⟨rfl, ⟨nd, rfl⟩⟩; refine ⟨_, rfl, ?_⟩))
      go_ret3
      exact ⟨by first | rfl | (simp; done) | (simp [*]; done), by repeat (first | exact Drawn0.refl _ | apply Drawn0.step)⟩
  · rw [if_neg c3] at H
    have c3b0 : (t103 == 0) = false := beq_eq_false_iff_ne.mpr c3
    have c3b1 : (t103 != 0) = true := bne_iff_ne.mpr c3
    simp only [Option.some.injEq, Prod.mk.injEq] at H
    obtain ⟨rfl, rfl, rfl⟩ := H
    go_enter Tryz.func93, Tryz.ntmps93
    go_wp2_with (first | ((with_reducible refine gate_callee (f := 29) rfl ?_); refine goesL_ (some 18) rfl rfl Tryz.func29 (by kernel_rfl) rfl #[.int .i64 (wrap64 ((wrap64 (Int.tmod a0 65536)) - 1)), .int .u64 (IntKind.u64.wrap (Int.tdiv a0 65536))] rfl (by (try simp only [List.map_toArray, List.map_cons, List.map_nil]); first | done | rfl | (simp only [List.length_drop, List.length_take]; rfl)) ?_; (with_reducible refine (word_Handle.calls (wrap64 ((wrap64 (Int.tmod a0 65536)) - 1)) (IntKind.u64.wrap (Int.tdiv a0 65536)) t102 t103 _ A2.out).mono ?_); rintro e w' ⟨rfl, ⟨nd, rfl⟩⟩; refine ⟨_, rfl, ?_⟩))
    go_ret3
    exact ⟨by first | rfl | (simp; done) | (simp [*]; done), by repeat (first | exact Drawn0.refl _ | apply Drawn0.step)⟩

end Go.Proofs.YtcbndfmbpojppaaGreat.Own
