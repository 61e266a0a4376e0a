/- The laws' lent and kept: a copy with a marked place behind it, and whether it is still so. No condition. -/
import Derived.Test.YtfmhdfgliamkkabOwnx0
import Derived.Test.YtfmhdfgliamkkabOwnx8
import Derived.Test.YtfmhdfgliamkkabOwnx14
import Derived.Test.YtfmhdfgliamkkabOwnx13
import Derived.Lib.Hide
import Derived.Outline
namespace Go.Proofs.Ytfmhdfgliamkkab.Own
open Go.RowKit Go.Proofs.YtfmhdfgliamkkabW.PrintWords Go.Proofs.YtfmhdfgliamkkabW.PrintLast Go.Proofs.YtfmhdfgliamkkabW.PrintMore
set_option linter.unusedVariables false
set_option linter.unusedSimpArgs false
namespace HL
/-- The mk77. -/
def mk77 : S57 := ⟨77, 0, 0, 0⟩
theorem cut_cap {P : Program} (t e : TypeId) (kh : IntKind) {i : TypeInfo} (ht : P.underlying t = some (.slice e)) (hi : P.info? e = some i) (A : Option Addr) (n c : Nat) (j : Int) (h0 : 0 ≤ j) (hm : j ≤ c) :
    ∀ W : World, (Instr.slice t (.slice A n c) none (some (.int kh j)) none).run P W = .ok (.slice A j.toNat c) W := by
  intro W
  have hel : P.elem t = e := by simp [Program.elem, ht]
  have hu : P.underlying t = some (.slice (P.elem t)) := by rw [hel]; exact ht
  have ha : (A.map fun x => x.add 0) = A := by cases A <;> simp [Addr.add]
  rw [run_slice_h W t A n c hu kh j h0 hm, hel]
  simp [sizeOf, typeInfo, hi, sliced, Result.andThen, ha]

theorem after {w7 : World} {base : Nat} {ok : Nat → Prop} {v : Value} {l : List S57} (ho : Kd.R k57 57 w7 base ok v (l ++ [mk77])) : ∃ g cap, v = .slice (some ⟨g, 0, none⟩) (l.length + 1) cap ∧ l.length ≤ cap ∧
    ∀ W : World, (Instr.slice 22 (.slice (some ⟨g, 0, none⟩) (l.length + 1) cap) none (some (.int .i64 (l.length : Int))) none).run Try.prog W = .ok (.slice (some ⟨g, 0, none⟩) l.length cap) W := by
  obtain ⟨g, cap, hv, _, _, _⟩ := Kd.R_form ho (by simp)
  have hln : (l ++ [mk77]).length = l.length + 1 := by simp
  rw [hln] at hv
  subst hv
  have hc := (Kd.R_reads' ho).2.1
  obtain ⟨i09, hi09, _, hsz9, _⟩ := info_parts info57
  have hcut := cut_cap (P := Try.prog) 22 57 .i64 Try.underlying22 hi09 (some ⟨g, 0, none⟩) (l.length + 1) cap (l.length : Int) (by omega) (by omega)
  rw [Int.toNat_natCast] at hcut
  exact ⟨g, cap, rfl, by omega, hcut⟩
theorem same_l0 (l : List S57) (hl : l.length < 4398046511104) : ∀ (d k i : Nat), i + d = l.length → d < k → shutterref05_SameSpans.l0 k l l (i : Int) = some true
  | 0, k, i, h, hk => by
    obtain ⟨k, rfl⟩ : ∃ m, k = m + 1 := ⟨k - 1, by omega⟩
    simp only [shutterref05_SameSpans.l0]
    rw [if_neg (by omega)]
  | d + 1, k, i, h, hk => by
    obtain ⟨k, rfl⟩ : ∃ m, k = m + 1 := ⟨k - 1, by omega⟩
    have hw : wrap64 ((i : Int) + 1) = ((i + 1 : Nat) : Int) := by unfold wrap64; omega
    simp only [shutterref05_SameSpans.l0]
    rw [if_pos (by omega), if_pos (by omega), if_pos (by omega), hw]
    simp only [beq_self_eq_true, Bool.not_true, Bool.or_self, Bool.false_eq_true, if_false]
    exact same_l0 l hl d k (i + 1) (by omega) (by omega)
theorem same (l : List S57) (hl : l.length < 4398046511104) : shutterref05_SameSpans.f (l.length + 1) l l = some true := by
  unfold shutterref05_SameSpans.f
  rw [if_pos rfl]
  exact same_l0 l hl l.length (l.length + 1) 0 (by omega) (by omega)
end HL
open HL in
set_option maxHeartbeats 4000000 in
set_option maxRecDepth 100000 in
theorem lent_calls (A0 : Option Addr) (c0 : Nat) (l0 : List (S57)) (w : World) (hr0 : Kd.C k57 w A0 l0.length l0) (hl : l0.length + 1 < 4398046511104) :
    Calls Try.prog 10 #[.slice A0 l0.length c0] w fun e w' => ∃ g cap, e = .returned (.slice (some ⟨g, 0, none⟩) l0.length cap) ∧ Kd.R k57 57 w' w.heap.size (fun _ => True) (.slice (some ⟨g, 0, none⟩) (l0 ++ [mk77]).length cap) (l0 ++ [mk77]) ∧ Below w.heap.size w w' := by
  have hu36 := Try.underlying57
  have HR0 := Aside0.mk hr0
  have HB := Aside0.mk (Below.refl w.heap.size w)
  clear hr0
  have hll : l0.length < 4398046511104 := by omega
  go_enter Try.func10, Try.ntmps10
  go_wp2_with (first | ((with_reducible refine gate_builtin (b := .append) (xs := #[.tmp 4, .tmp 5]) rfl ?_); at_builtin; refine Kd.R_append_rows k57 (w0 := w) w.heap.size rfl (.tmp 4) (.tmp 5) 22 57 (.agg #[(.int .i64 0), (.int .i64 0), (.int .i64 0), (.int .i64 0)]) 32 rfl Try.underlying22 info57 rfl (by decide) (by omega) (.slice none 0 0) ([] : List (S57)) l0 _ _ _ (fun _ => True) (fun _ => False) rfl rfl ?aO ?aR (fun _ _ h => h) (fun _ h => h.elim) ?aF ?aB ?aS ?aL ?_; (case aR => exact HR0.out); (case aB => exact HB.out); (case aF => exact (fun _ _ => trivial)); (case aO => exact ((Kd.R_nil _ _ _ _ (fun _ => True)))); (case aS => exact Nat.le_refl _); (case aL => simp only [List.length_nil]; omega); intro v175 w6 ho hb hg hat; rw [List.nil_append] at ho; have HO := Aside0.mk ho; have HBB := Aside0.mk hb; clear ho hb hg hat) | ((with_reducible refine gate_builtin (b := .append) (xs := #[.tmp 7, .tmp 9]) rfl ?_); at_builtin; refine Kd.R_append k57 (w0 := w) w.heap.size rfl (.tmp 7) (.tmp 9) 22 57 (.agg #[(.int .i64 0), (.int .i64 0), (.int .i64 0), (.int .i64 0)]) 32 rfl Try.underlying22 info57 rfl (by decide) (by omega) v175 l0 mk77 [.int .i64 77, .int .i64 0, .int .i64 0, .int .i64 0] (fun _ => True) (fun _ => False) rfl rfl ?aP (fun _ hk => hk.elim) ?aF ?aO ?aB ?aS ?aL ?_; (case aP => exact k57_mkM _ _ _ (⟨77, 0, 0, 0⟩ : S57)); (case aB => exact HBB.out); (case aF => exact (fun _ _ => trivial)); (case aO => exact HO.out); (case aS => exact HBB.out.size); (case aL => omega); intro v178 w7 ho hb hg hat; obtain ⟨g, cap, rfl, hcp, hcut⟩ := HL.after ho; have HO2 := Aside0.mk ho; have HB2 := Aside0.mk hb; clear ho hb hg hat))
  go_ret
  exact ⟨g, cap, rfl, by simpa using HO2.out, HB2.out⟩
open HL in
set_option maxHeartbeats 4000000 in
set_option maxRecDepth 100000 in
theorem kept_calls (g : Nat) (cap : Nat) (A1 : Option Addr) (c1 : Nat) (l0 : List (S57)) (w : World) (hr0 : Kd.C k57 w (some ⟨g, 0, none⟩) (l0 ++ [mk77]).length (l0 ++ [mk77])) (hcap : l0.length + 1 ≤ cap) (hr1 : Kd.C k57 w A1 l0.length l0) (hc1 : l0.length ≤ c1) (hl : l0.length + 1 < 4398046511104) :
    Calls Try.prog 14 #[.slice (some ⟨g, 0, none⟩) l0.length cap, .slice A1 l0.length c1] w fun e w' => e = .returned (.bool true) ∧ Below w.heap.size w w' := by
  have hu36 := Try.underlying57
  have hr2 : Kd.C k57 w (some ⟨g, 0, none⟩) l0.length l0 := by
    have h := Kd.C_take (m := l0.length) hr0 (by simp)
    rw [List.take_left] at h
    exact h
  have hs := HL.same l0 (by omega)
  have hsame := shutterref05_SameSpans.calls (l0.length + 1) (some ⟨g, 0, none⟩) cap l0 A1 c1 l0 true w hr2 (by omega) hr1 hc1 hs
  have hln : (l0 ++ [mk77]).length = l0.length + 1 := by simp
  obtain ⟨ad, hae, x0, _, _, _⟩ := at_T57 hr0 (l0.length : Int) (by omega) (by omega)
  injection hae with hae
  subst hae
  have hmk : (rd_T57 (l0 ++ [mk77]) (l0.length : Int)).f0 = 77 := by
    unfold rd_T57
    rw [Int.toNat_natCast, List.getD_eq_getElem?_getD, List.getElem?_append_right (Nat.le_refl _)]
    simp [mk77]
  rw [hmk, Int.toNat_natCast] at x0
  simp only [add_plain] at x0
  obtain ⟨i09, hi09, _, hsz9, _⟩ := info_parts info57
  have hcut := cut_cap (P := Try.prog) 22 57 .i64 Try.underlying22 hi09 (some ⟨g, 0, none⟩) l0.length cap ((l0.length : Int) + 1) (by omega) (by omega)
  rw [show ((l0.length : Int) + 1).toNat = l0.length + 1 by omega] at hcut
  have HS := Lib.hid hsame
  have hlt : (l0.length : Int) < ((l0.length + 1 : Nat) : Int) := by omega
  clear hr0 hr1 hr2 hs hsame hmk hi09 hsz9 hln
  go_enter Try.func14, Try.ntmps14
  go_wp2_with (go_at_call 41; refine HS.out.mono ?_; rintro e w' ⟨rfl, ⟨nd, rfl⟩⟩)
  go_ret
  exact ⟨rfl, pw_below_drewN (Below.refl _ _) _⟩
end Go.Proofs.Ytfmhdfgliamkkab.Own
