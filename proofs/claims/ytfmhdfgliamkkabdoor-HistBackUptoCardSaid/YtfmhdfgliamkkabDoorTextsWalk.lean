/- The laws HistTexts and HistBack, walked over the contracts. Histories and texts up to 134217728 values and bytes. -/
import Derived.Test.YtfmhdfgliamkkabDoorHistParseM
import Derived.Test.YtfmhdfgliamkkabDoorPrintsM
import Derived.Test.YtfmhdfgliamkkabDoorOwnx3
import Derived.Test.YtfmhdfgliamkkabDoorOwnx4
namespace Go.Proofs.YtfmhdfgliamkkabDoor.HT
open Go.RowKit Go.Lib Go.Proofs.YtfmhdfgliamkkabDoor.Own Go.Proofs.YtfmhdfgliamkkabDoorW.PrintWords Go.Proofs.YtfmhdfgliamkkabDoorW.PrintLast Go.Proofs.YtfmhdfgliamkkabDoorW.PrintMore
set_option linter.unusedVariables false
set_option linter.unusedSimpArgs false
def PL (s : List UInt8) : List S38 := (parseS s).getD []
def PE (s : List UInt8) : Int := if (parseS s).isSome = true then 0 else 52
theorem parse_out {s : List UInt8} {w w' : World} {e : Ending} (h : ParseOut s w w' e) : ∃ (A : Option Addr) (c : Nat), e = .returned (.tuple #[.slice A (PL s).length c, .int .i64 (PE s)]) ∧ (PL s).length ≤ c ∧ Kd.C k38 w' A (PL s).length (PL s) ∧ Below w.heap.size w w' := by
  obtain ⟨hb, hm⟩ := h
  unfold PL PE
  cases hp : parseS s with
  | none =>
    rw [hp] at hm
    obtain ⟨A, c, h1, h2, h3⟩ := Kd.R_reads (Kd.R_nil k38 38 w' 0 (fun _ => True))
    exact ⟨A, c, by rw [hm]; simp only [Option.getD_none]; rw [h1]; rfl, h2, h3, hb⟩
  | some l =>
    rw [hp] at hm
    obtain ⟨A, c, h1, h2, h3⟩ := hm
    exact ⟨A, c, h1, h2, h3, hb⟩
theorem PL_len (s : List UInt8) : (PL s).length ≤ s.length := by
  unfold PL
  cases hp : parseS s with
  | none => simp
  | some l =>
    unfold parseS at hp
    cases hr : readAll (linesL s) with
    | none => rw [hr] at hp; cases hp
    | some l2 =>
      rw [hr] at hp
      simp only at hp
      split at hp
      · injection hp with hp
        subst hp
        have h1 := readAll_len hr
        have h2 := (lines_le s).2
        show l2.length ≤ _
        omega
      · cases hp
theorem PL_fit (s : List UInt8) : ∀ x ∈ PL s, fitS x := by
  unfold PL
  cases hp : parseS s with
  | none => simp
  | some l => exact (parse_back hp).2.2
theorem live_true : ∃ K, shutterlaw05_live.f = some true ∧ K = 0 := ⟨0, by decide +kernel, rfl⟩
set_option maxHeartbeats 8000000 in
set_option maxRecDepth 100000 in
theorem texts_walk (A0 : Option Addr) (c0 : Nat) (l0 : List (S38)) (s : ByteArray) (st : Int) (w : World) (hr0 : Kd.C k38 w A0 l0.length l0) (hc0 : l0.length ≤ c0) (hT : HTabs w) (hl : l0.length ≤ 134217728) (hf : ∀ s ∈ l0, fitS s) (hs : s.size ≤ 134217728) :
    Calls Tryd.prog 3 #[.slice A0 l0.length c0, .string s, .int .i64 st] w fun e w' => e = .returned (.bool true) ∧ Below w.heap.size w w' := by
  have HR0 := Aside0.mk hr0
  have HTT := Aside0.mk hT
  have VP := Lib.hid (hist_print A0 c0 l0 w hr0 hc0 hT hl hf)
  have VR := Lib.hid (fun wx (hx : Below w.heap.size w wx) => ref_print A0 c0 l0 wx (Kd.C_below hr0 hx) hc0 (hT.move hx) hl hf)
  have VA := Lib.hid (fun wx (hx : Below w.heap.size w wx) => (hist_parse s hs wx (hT.move hx)).mono fun _ _ h => parse_out h)
  have VB := Lib.hid (fun wx (hx : Below w.heap.size w wx) => (ref_parse s hs wx (hT.move hx)).mono fun _ _ h => parse_out h)
  have hpl := PL_len s.data.toList
  rw [size_data] at hpl
  have hcl := cut_len st l0
  generalize PL s.data.toList = pl at VA VB hpl
  generalize PE s.data.toList = pe at VA VB
  generalize (prS l0).1 = p1 at VP VR
  generalize (prS l0).2 = p2 at VP VR
  have VS := Lib.hid (fun (l : List S38) (hl : l.length < 4398046511104) (A B : Option Addr) (a b : Nat) (wx : World) (hA : Kd.C k38 wx A l.length l) (ha : l.length ≤ a) (hB : Kd.C k38 wx B l.length l) (hb : l.length ≤ b) => shutterref05_SameSpans.calls (l.length + 1) A a l B b l true wx hA ha hB hb (same_f l hl))
  have VL := Lib.hid (fun wx => shutterlaw05_live.calls true wx (by decide +kernel))
  clear hr0 hT hf
  go_enter Tryd.func3, Tryd.ntmps3
  go_upto_region 5 with (first
    | (go_at_call 5; with_reducible refine VP.out.mono ?_; rintro e w1 ⟨rfl, h1⟩; have H1 := Aside0.mk h1; clear h1)
    | (go_at_call 6; with_reducible refine (VR.out _ H1.out).mono ?_; rintro e w2 ⟨rfl, h2⟩; have H2 := Aside0.mk (H1.out.trans (h2.mono H1.out.size)); clear h2)
    | (go_at_call 7; with_reducible refine (VA.out _ H2.out).mono ?_; rintro e w3 ⟨Aa, ca, rfl, ha, hA, h3⟩; have H3 := Aside0.mk (H2.out.trans (h3.mono H2.out.size)); have HAa := Aside0.mk hA; clear h3 hA)
    | (go_at_call 8; with_reducible refine (VB.out _ H3.out).mono ?_; rintro e w4 ⟨Ab, cb, rfl, hb, hB, h4⟩; have H4 := Aside0.mk (H3.out.trans (h4.mono H3.out.size)); have HAb := Aside0.mk hB; have HAa2 := Aside0.mk (Kd.C_below HAa.out h4); clear h4 hB))
  have VC := Lib.hid (fun wx (hx : Below w.heap.size w wx) => Own.hist_cut_calls A0 c0 l0 st wx (Kd.C_below HR0.out hx) (by omega))
  have VD := Lib.hid (fun wx (hx : Below w.heap.size w wx) => Own.ref_cut_calls A0 c0 l0 st wx (Kd.C_below HR0.out hx) (by omega))
  go_wp2_with (first
    | (go_at_call 9; with_reducible refine (VL.out _).mono ?_; rintro e w5 ⟨rfl, h5⟩; have H5 := Aside0.mk (H4.out.trans (h5.mono H4.out.size)); have HAa5 := Aside0.mk (Kd.C_below HAa2.out h5); have HAb5 := Aside0.mk (Kd.C_below HAb.out h5); clear h5)
    | (go_at_call 10; with_reducible refine (VS.out pl (by omega) _ _ _ _ _ HAa5.out ha HAb5.out hb).mono ?_; rintro e w6 ⟨rfl, h6⟩; have H6 := Aside0.mk (H5.out.trans (h6.below.mono H5.out.size)); clear h6)
    | (go_at_call 11; with_reducible refine (VC.out _ H6.out).mono ?_; rintro e w7 ⟨Ac, cc, rfl, hc, hC, h7⟩; have H7 := Aside0.mk (H6.out.trans (h7.mono H6.out.size)); have HAc := Aside0.mk hC; clear h7 hC)
    | (go_at_call 12; with_reducible refine (VD.out _ H7.out).mono ?_; rintro e w8 ⟨Ad, cd, rfl, hd, hD, h8⟩; have H8 := Aside0.mk (H7.out.trans (h8.mono H7.out.size)); have HAd := Aside0.mk hD; have HAc2 := Aside0.mk (Kd.C_below HAc.out h8); clear h8 hD)
    | (go_at_call 10; with_reducible refine (VS.out (cutS st l0) (by omega) _ _ _ _ _ HAc2.out hc HAd.out hd).mono ?_; rintro e w9 ⟨rfl, h9⟩; have H9 := Aside0.mk (H8.out.trans (h9.below.mono H8.out.size)); clear h9))
  first | go_ret | go_ret2
  exact ⟨rfl, H9.out⟩
theorem prS_ok {l : List S38} (h : hist_Right.f l = some 0) : prS l = (toBA (printL l), 0) := by unfold prS; rw [if_pos h]
theorem str_eq {a b : ByteArray} (h : a = b) : (a.toList == b.toList) = true := by rw [h]; exact beq_self_eq_true _
set_option maxHeartbeats 8000000 in
set_option maxRecDepth 100000 in
theorem back_walk (A0 : Option Addr) (c0 : Nat) (l0 : List (S38)) (s : ByteArray) (st : Int) (w : World) (hr0 : Kd.C k38 w A0 l0.length l0) (hc0 : l0.length ≤ c0) (hT : HTabs w) (hl : l0.length ≤ 1048576) (hf : ∀ s ∈ l0, fitS s) (hs : s.size ≤ 1048576) :
    Calls Tryd.prog 4 #[.slice A0 l0.length c0, .string s, .int .i64 st] w fun e w' => e = .returned (.bool true) ∧ Below w.heap.size w w' := by
  have HR0 := Aside0.mk hr0
  have HTT := Aside0.mk hT
  have VP := Lib.hid (hist_print A0 c0 l0 w hr0 hc0 hT (by omega) hf)
  have VA := Lib.hid (fun wx (hx : Below w.heap.size w wx) => (hist_parse s (by omega) wx (hT.move hx)).mono fun _ _ h => parse_out h)
  have hcl := cut_len st l0
  have VS := Lib.hid (fun (A B : Option Addr) (a b : Nat) (wx : World) (hA : Kd.C k38 wx A l0.length l0) (ha : l0.length ≤ a) (hB : Kd.C k38 wx B l0.length l0) (hb : l0.length ≤ b) => shutterref05_SameSpans.calls (l0.length + 1) A a l0 B b l0 true wx hA ha hB hb (same_f l0 (by omega)))
  have VL := Lib.hid (fun wx => shutterlaw05_live.calls true wx (by decide +kernel))
  clear hr0 hT
  by_cases h0 : hist_Right.f l0 = some 0
  · have hpl := printL_len l0 hf
    rw [prS_ok h0] at VP
    have VA1 := Lib.hid (fun wx (hx : Below w.heap.size w wx) => (hist_parse (toBA (printL l0)) (by rw [toBA_size]; omega) wx (HTT.out.move hx)).mono fun _ _ h => parse_out h)
    have e1 : PL (printL l0) = l0 := by unfold PL; rw [parse_print hf h0]; rfl
    have e2 : PE (printL l0) = 0 := by unfold PE; rw [parse_print hf h0]; rfl
    rw [toBA_data, e1, e2] at VA1
    have VC := Lib.hid (fun wx (hx : Below w.heap.size w wx) => Own.hist_cut_calls A0 c0 l0 st wx (Kd.C_below HR0.out hx) (by omega))
    have VQ := Lib.hid (fun (A : Option Addr) (c : Nat) (wx : World) (hA : Kd.C k38 wx A (cutS st l0).length (cutS st l0)) (hc : (cutS st l0).length ≤ c) => hist_Right.calls A c (cutS st l0) 0 wx hA hc (right_cut (by omega) hf h0 st))
    clear e1 e2 h0 hpl hf
    go_enter Tryd.func4, Tryd.ntmps4
    go_upto_region 6 with (first
      | (go_at_call 5; with_reducible refine VP.out.mono ?_; rintro e w1 ⟨rfl, h1⟩; have H1 := Aside0.mk h1; clear h1)
      | (go_at_call 7; with_reducible refine (VA1.out _ H1.out).mono ?_; rintro e w2 ⟨Aa, ca, rfl, ha, hA, h2⟩; have H2 := Aside0.mk (H1.out.trans (h2.mono H1.out.size)); have HAa := Aside0.mk hA; clear h2 hA)
      | (go_at_call 10; with_reducible refine (VS.out _ _ _ _ _ (Kd.C_below HR0.out H2.out) hc0 HAa.out ha).mono ?_; rintro e w3 ⟨rfl, h3⟩; have H3 := Aside0.mk (H2.out.trans (h3.below.mono H2.out.size)); clear h3)
      | (go_at_call 11; with_reducible refine (VC.out _ H3.out).mono ?_; rintro e w4 ⟨Ac, cc, rfl, hc, hC, h4⟩; have H4 := Aside0.mk (H3.out.trans (h4.mono H3.out.size)); have HAc := Aside0.mk hC; clear h4 hC)
      | (go_at_call 13; with_reducible refine (VQ.out _ _ _ HAc.out hc).mono ?_; rintro e w5 ⟨rfl, h5⟩; have H9 := Aside0.mk (H4.out.trans (h5.mono H4.out.size)); clear h5))
    cases hps : parseS s.data.toList with
    | none =>
      have e1 : PE s.data.toList = 52 := by unfold PE; rw [hps]; rfl
      rw [e1] at VA
      clear e1 hps
      go_wp2_with (first
        | (go_at_call 7; with_reducible refine (VA.out _ H9.out).mono ?_; rintro e w5 ⟨Aa, ca, rfl, ha, hA, h5⟩; have H5 := Aside0.mk (H9.out.trans (h5.mono H9.out.size)); clear h5 hA)
        | (go_at_call 9; with_reducible refine (VL.out _).mono ?_; rintro e w6 ⟨rfl, h6⟩; have H6 := Aside0.mk (H5.out.trans (h6.mono H5.out.size)); clear h6))
      first | go_ret | go_ret2
      exact ⟨rfl, H6.out⟩
    | some m =>
      have e1 : PE s.data.toList = 0 := by unfold PE; rw [hps]; rfl
      have e2 : PL s.data.toList = m := by unfold PL; rw [hps]; rfl
      obtain ⟨q1, q2, q3⟩ := parse_back hps
      have hml := PL_len s.data.toList
      rw [e2, size_data] at hml
      rw [e1, e2] at VA
      have e3 : prS m = (s, 0) := by unfold prS; rw [if_pos q1, q2, toBA_of]
      have VM := Lib.hid (fun (A : Option Addr) (c : Nat) (wx : World) (hx : Below w.heap.size w wx) (hA : Kd.C k38 wx A m.length m) (hc : m.length ≤ c) => hist_print A c m wx hA hc (HTT.out.move hx) (by omega) q3)
      rw [e3] at VM
      have hss := str_eq (a := s) rfl
      clear e1 e2 e3 hps q1 q2 q3 hml
      go_wp2_with (first
        | (go_at_call 7; with_reducible refine (VA.out _ H9.out).mono ?_; rintro e w5 ⟨Aa, ca, rfl, ha, hA, h5⟩; have H5 := Aside0.mk (H9.out.trans (h5.mono H9.out.size)); have HAa := Aside0.mk hA; clear h5 hA)
        | (go_at_call 5; with_reducible refine (VM.out _ _ _ H5.out HAa.out ha).mono ?_; rintro e w6 ⟨rfl, h6⟩; have H6 := Aside0.mk (H5.out.trans (h6.mono H5.out.size)); clear h6)
        | (go_at_call 9; with_reducible refine (VL.out _).mono ?_; rintro e w7 ⟨rfl, h7⟩; have H7 := Aside0.mk (H6.out.trans (h7.mono H6.out.size)); clear h7))
      first | go_ret | go_ret2
      exact ⟨rfl, H7.out⟩
  · have hp : (prS l0).2 = 50 := by unfold prS; rw [if_neg h0]
    rw [hp] at VP
    clear hp h0
    go_enter Tryd.func4, Tryd.ntmps4
    go_upto_region 6 with (go_at_call 5; with_reducible refine VP.out.mono ?_; rintro e w1 ⟨rfl, h1⟩; have H9 := Aside0.mk h1; clear h1)
    cases hps : parseS s.data.toList with
    | none =>
      have e1 : PE s.data.toList = 52 := by unfold PE; rw [hps]; rfl
      rw [e1] at VA
      clear e1 hps
      go_wp2_with (first
        | (go_at_call 7; with_reducible refine (VA.out _ H9.out).mono ?_; rintro e w5 ⟨Aa, ca, rfl, ha, hA, h5⟩; have H5 := Aside0.mk (H9.out.trans (h5.mono H9.out.size)); clear h5 hA)
        | (go_at_call 9; with_reducible refine (VL.out _).mono ?_; rintro e w6 ⟨rfl, h6⟩; have H6 := Aside0.mk (H5.out.trans (h6.mono H5.out.size)); clear h6))
      first | go_ret | go_ret2
      exact ⟨rfl, H6.out⟩
    | some m =>
      have e1 : PE s.data.toList = 0 := by unfold PE; rw [hps]; rfl
      have e2 : PL s.data.toList = m := by unfold PL; rw [hps]; rfl
      obtain ⟨q1, q2, q3⟩ := parse_back hps
      have hml := PL_len s.data.toList
      rw [e2, size_data] at hml
      rw [e1, e2] at VA
      have e3 : prS m = (s, 0) := by unfold prS; rw [if_pos q1, q2, toBA_of]
      have VM := Lib.hid (fun (A : Option Addr) (c : Nat) (wx : World) (hx : Below w.heap.size w wx) (hA : Kd.C k38 wx A m.length m) (hc : m.length ≤ c) => hist_print A c m wx hA hc (HTT.out.move hx) (by omega) q3)
      rw [e3] at VM
      have hss := str_eq (a := s) rfl
      clear e1 e2 e3 hps q1 q2 q3 hml
      go_wp2_with (first
        | (go_at_call 7; with_reducible refine (VA.out _ H9.out).mono ?_; rintro e w5 ⟨Aa, ca, rfl, ha, hA, h5⟩; have H5 := Aside0.mk (H9.out.trans (h5.mono H9.out.size)); have HAa := Aside0.mk hA; clear h5 hA)
        | (go_at_call 5; with_reducible refine (VM.out _ _ _ H5.out HAa.out ha).mono ?_; rintro e w6 ⟨rfl, h6⟩; have H6 := Aside0.mk (H5.out.trans (h6.mono H5.out.size)); clear h6)
        | (go_at_call 9; with_reducible refine (VL.out _).mono ?_; rintro e w7 ⟨rfl, h7⟩; have H7 := Aside0.mk (H6.out.trans (h7.mono H6.out.size)); clear h7))
      first | go_ret | go_ret2
      exact ⟨rfl, H7.out⟩
end Go.Proofs.YtfmhdfgliamkkabDoor.HT
