/- For every events HistEvents answers true, and its argument reads as it did. No condition. -/
import Derived.Test.YtfmhdfgliamkkaaRows
import Derived.Test.YtfmhdfgliamkkaaHistRightMath
import Derived.Test.YtfmhdfgliamkkaaHistRowKit
import Derived.Test.YtfmhdfgliamkkaaOwnx8
import Derived.Test.YtfmhdfgliamkkaaOwnx14
import Derived.WalkKit
import Derived.ProofKit
import Derived.OpenShut
import Derived.ShutString
import Derived.ChangeOld
import Derived.Below
import Derived.SizedLaws
import Derived.Lib.SmallJoins
import Derived.Lib.Hide
namespace Go.Proofs.Ytfmhdfgliamkkaa.histEvents
open Go.ChangeShapes Go.WideShapes Go.ChangeAt Go.RowKit Go.Joins
set_option linter.unusedVariables false
open Go.Proofs.YtfmhdfgliamkkaaW.PrintWords Go.Proofs.YtfmhdfgliamkkaaW.PrintLast Go.Proofs.YtfmhdfgliamkkaaW.PrintMore Go.Proofs.Ytfmhdfgliamkkaa.Own
set_option linter.unusedSimpArgs false
theorem live_true : shutterlaw05_live.f = some true := by decide +kernel
theorem l0_is (l : List S33) (x : List S36) (hl : l.length < 4398046511104) (hr : hist_Right.f x = some 0) (hx : x.length = l.countP fun e => !e.f3) : ∀ (d K n i : Nat), i + d = l.length → n + (l.drop i).countP (fun e => !e.f3) = l.countP (fun e => !e.f3) → d < K →
    shutterlaw05_HistEvents.l0 K l x (n : Int) (i : Int) = some true
  | 0, K, n, i, h, hn, hK => by
    obtain ⟨K, rfl⟩ : ∃ m, K = m + 1 := ⟨K - 1, by omega⟩
    rw [List.drop_eq_nil_of_le (by omega), List.countP_nil] at hn
    simp only [shutterlaw05_HistEvents.l0]
    rw [if_neg (by omega), live_true]
    simp only [Option.bind_some]
    rw [if_pos trivial, hr]
    simp only [Option.bind_some]
    rw [if_pos trivial]
    have : (x.length : Int) = (n : Int) := by omega
    rw [this]
    simp
  | d + 1, K, n, i, h, hn, hK => by
    obtain ⟨K, rfl⟩ : ∃ m, K = m + 1 := ⟨K - 1, by omega⟩
    have hw : RowKit.wrap64 ((i : Int) + 1) = ((i + 1 : Nat) : Int) := by unfold RowKit.wrap64; omega
    have hle := List.countP_le_length (p := fun e : S33 => !e.f3) (l := l)
    have hwn : RowKit.wrap64 ((n : Int) + 1) = ((n + 1 : Nat) : Int) := by unfold RowKit.wrap64; omega
    have hg : l.drop i = rd_T33 l (i : Int) :: l.drop (i + 1) := by
      rw [List.drop_eq_getElem_cons (by omega)]
      congr 1
      unfold rd_T33
      rw [Int.toNat_natCast, List.getD_eq_getElem?_getD, List.getElem?_eq_getElem (by omega)]
      rfl
    rw [hg, List.countP_cons] at hn
    simp only [shutterlaw05_HistEvents.l0]
    rw [if_pos (by omega), if_pos (by omega), hw]
    cases hf : (rd_T33 l (i : Int)).f3 with
    | true =>
      rw [hf] at hn
      rw [if_pos rfl]
      exact l0_is l x hl hr hx d K n (i + 1) (by omega) (by simpa using hn) (by omega)
    | false =>
      rw [hf] at hn
      rw [if_neg (by simp), hwn]
      exact l0_is l x hl hr hx d K (n + 1) (i + 1) (by omega) (by simp at hn; omega) (by omega)
theorem f_is (l : List S33) (hf : ∀ e ∈ l, fit e.f0 = true ∧ fit e.f1 = true) (hl : l.length < 4398046511104) : shutterlaw05_HistEvents.f (l.length + 1) l = some true := by
  unfold shutterlaw05_HistEvents.f hist_Spans.f
  rw [if_pos ⟨hl, List.all_eq_true.2 fun e he => (hf e he).2⟩]
  cases hs : spRun z33 l SpSt.start with
  | none =>
    simp only [Option.bind_some]
    rw [if_neg (by decide), live_true]
    rfl
  | some s =>
    simp only [Option.bind_some]
    rw [if_pos trivial]
    obtain ⟨h1, h2⟩ := RM.spans_right l hf hl s hs
    exact l0_is l s.out hl h1 h2 l.length _ 0 0 (by omega) (by simp) (by omega)
theorem fit_wf {x : Int} (h : (Lit.int .i64 x).wf = true) : fit x = true := by
  obtain ⟨h1, h2⟩ := bounds_i64 h
  unfold fit
  rw [decide_eq_true (by omega), decide_eq_true (by omega)]
  rfl
theorem walk (A0 : Option Addr) (c0 : Nat) (l0 : List S33) (w : World) (hr0 : Kd.C k33 w A0 l0.length l0) (hc0 : l0.length ≤ c0) (hl0 : l0.length < 4398046511104) (hf : ∀ e ∈ l0, OR.ok33 e) :
    Calls Try.prog 4 #[.slice A0 l0.length c0] w fun e w' => e = .returned (.bool true) ∧ Below w.heap.size w w' :=
  shutterlaw05_HistEvents.calls _ A0 c0 l0 true w hr0 hc0 (f_is l0 (fun e he => ⟨fit_wf (hf e he).1, fit_wf (hf e he).2.1⟩) hl0)
theorem own : ownKnob Try.prog.godebug = none := by kernel_rfl
set_option maxRecDepth 100000 in
theorem lifted (os : Os) (started : os.Started) (H : Type) (enc : TypeId × Value → H) :
    ReturnsInHanded {} Try.checked os 4 .any (Rows.histEventsSpec.pre6 enc Try.prog Try.f4 Rows.histEventsRow.domain false) (Rows.histEventsSpec.post enc Try.prog Try.f4 false true false false) := by
  refine returnsInHanded_of_change_sized (C := Try.checked) own started (by kernel_rfl) Try.func4
    (ChangeSpec.witness6 (enc := enc) (C := Try.checked) false ⟨#[], #[.slice none 0 0], []⟩ 8 (by kernel_rfl) (by kernel_rfl) (by kernel_rfl) (by kernel_rfl)) ?_
  intro W base args ds gs before hval0 hW hcnd hsz0 _
  have hsz : (DataW.weightsEach Try.prog (Try.f4.params.toList ++ Rows.histEventsSpec.plain.varTypes Try.prog) (ds ++ gs)).all (· ≤ reachBytes) = true := hsz0
  have hval : ∀ (j : Nat) t v, Try.f4.params[j]? = some t → args[j]? = some v → Value.okWide Try.prog W .any base t v := hval0
  have hW' := hW
  obtain ⟨p, q, hA0, hV, rfl, hfz, hnd⟩ := hW
  have hA : DataW.TrodAll enc Try.prog W 0 (fun _ => true) true Try.f4.params.toList args.toList ds p := hA0
  rw [Try.params4] at hA hval hsz
  obtain ⟨v0, vs0, d0, ds0, p0, q0, hargs, rfl, rfl, h0, r0⟩ := trodAll_cons hA
  obtain ⟨rfl, rfl, rfl⟩ := trodAll_nil r0
  obtain rfl : args = #[v0] := by cases args; simp_all
  obtain ⟨rfl, rfl⟩ := trodVars_none hV
  have lt0 : ∀ x ∈ p0, x.block < W.heap.size := by obtain ⟨m, hm⟩ := h0; exact DataW.trod_lt m _ _ _ hm
  obtain ⟨A0, cap0, l0, rfl, hcap0, hC0, hok0, hby0⟩ := OR.open_rows (j := 0) Try.underlying22 OR.cells33 OR.bytes33 (hval 0 22 v0 rfl rfl) OR.dec33 hsz rfl rfl h0
  clear hA0 hval0 hsz0 hsz
  refine (walk A0 cap0 l0 W hC0 hcap0 (by omega) hok0).mono fun e W' ⟨he, bel⟩ => ?_
  subst he
  exact ⟨_, rfl, _, _, _, [], _, [], hW', trodAll_mk1 (shut_bool Try.underlying4 _), (trodAll_cons_mk (Below.trod OR.laidOut (by kernel_rfl) (of_decide_eq_true (by kernel_rfl)) h0 bel lt0) trodAll_mk0), rfl, bel.frame _, fun h => by cases h⟩
theorem over : Rows.histEventsRow.holds Try.pinned (OpenSpec.ofChange Rows.histEventsSpec) :=
  OpenClaim.holds_of_wide 4 Try.f4 rfl rfl rfl rfl rfl rfl rfl ⟨rfl, rfl, rfl, rfl, rfl⟩ rfl rfl rfl rfl rfl (by kernel_rfl) Try.func4 (by kernel_rfl)
    (of_decide_eq_true (by kernel_rfl)) (by unfold Func.isWrapper; first | (rw [if_pos (by decide +kernel)]; kernel_rfl) | (rw [if_neg (by decide +kernel)]; exact ⟨rfl, rfl⟩))
    (fun os started H enc _ => lifted os started H enc)
end Go.Proofs.Ytfmhdfgliamkkaa.histEvents
namespace Go.Proofs.Ytfmhdfgliamkkaa
theorem histEvents_holds : Rows.HistEventsSaid := histEvents.over
end Go.Proofs.Ytfmhdfgliamkkaa
