/- step.Alone on a proc of each kind: what the proc's own steps come to, one behind the other. -/
import Derived.Test.YtcbndfmbpojppaaGreatSnapM
import Derived.RegionTactic
import Derived.BigRegion
import Derived.BigQuiet
namespace Go.Proofs.YtcbndfmbpojppaaGreat
open Go.RowKit Go.Proofs.YtcbndfmbpojppaaGreatW.PrintWords Go.Proofs.YtcbndfmbpojppaaGreat.Math
set_option linter.unusedVariables false
set_option linter.unusedSimpArgs false

theorem meth_snap (a : Addr) (w : World) : (method 281 38 (.pointer (some a)) "Step").run Tryz.prog w = .ok (74, .pointer (some a)) w := by kernel_rfl
set_option maxHeartbeats 2000000 in
set_option maxRecDepth 100000 in
theorem alone_snap (bs bv : Nat) (R : Nat → World → Prop) (m most : Nat) (hm : 1 ≤ m) (hmm : m ≤ most) (hmx : most ≤ 4611686018427387904)
    (hstep : ∀ k w, k < m → R k w → Calls Tryz.prog 74 #[.pointer (some ⟨bs, 0, none⟩), .pointer (some ⟨bv, 0, none⟩)] w fun e w' => e = .returned (.bool (decide (k + 1 = m))) ∧ R (k + 1) w') (w : World) (h0 : R 0 w) :
    Calls Tryz.prog 10 #[.pointer (some ⟨bv, 0, none⟩), .iface 38 (.pointer (some ⟨bs, 0, none⟩)), .int .i64 most] w fun e w' => e = .returned (.bool true) ∧ R m w' := by
  have hmeth := meth_snap
  have HH := Aside0.mk h0
  have HST := Lib.hid hstep
  clear h0 hstep
  go_enter Tryz.func10, Tryz.ntmps10
  go_wp2
  go_loopw [8] (fun v8 wr => ∃ k : Nat, k < m ∧ v8 = .int .i64 k ∧ Aside0 (R k wr)) (fun i _ => m - (intOf i).toNat)
  case atStart => exact ⟨0, by omega, rfl, HH⟩
  case round =>
    obtain ⟨k, hk, rfl, HR⟩ := hrel
    have HS := Lib.hid (HST.out k wr hk HR.out)
    have hlt : (k : Int) < (most : Int) := by omega
    clear HH HST
    by_cases he : k + 1 = m
    · rw [decide_eq_true he] at HS
      go_wp2_with (go_at_call 74; refine HS.out.mono ?_; rintro e1 w1 ⟨rfl, h1⟩; have H1 := Aside0.mk h1; clear h1)
      go_ret
      exact ⟨rfl, he ▸ H1.out⟩
    · rw [decide_eq_false he] at HS
      go_wp2_with (go_at_call 74; refine HS.out.mono ?_; rintro e1 w1 ⟨rfl, h1⟩; have H1 := Aside0.mk h1; clear h1)
      exact ⟨⟨k + 1, by omega, by rfl, H1⟩, by simp [intOf]; omega⟩
theorem meth_rel (a : Addr) (w : World) : (method 281 44 (.pointer (some a)) "Step").run Tryz.prog w = .ok (91, .pointer (some a)) w := by kernel_rfl
set_option maxHeartbeats 2000000 in
set_option maxRecDepth 100000 in
theorem alone_rel (bs bv : Nat) (R : Nat → World → Prop) (m most : Nat) (hm : 1 ≤ m) (hmm : m ≤ most) (hmx : most ≤ 4611686018427387904)
    (hstep : ∀ k w, k < m → R k w → Calls Tryz.prog 91 #[.pointer (some ⟨bs, 0, none⟩), .pointer (some ⟨bv, 0, none⟩)] w fun e w' => e = .returned (.bool (decide (k + 1 = m))) ∧ R (k + 1) w') (w : World) (h0 : R 0 w) :
    Calls Tryz.prog 10 #[.pointer (some ⟨bv, 0, none⟩), .iface 44 (.pointer (some ⟨bs, 0, none⟩)), .int .i64 most] w fun e w' => e = .returned (.bool true) ∧ R m w' := by
  have hmeth := meth_rel
  have HH := Aside0.mk h0
  have HST := Lib.hid hstep
  clear h0 hstep
  go_enter Tryz.func10, Tryz.ntmps10
  go_wp2
  go_loopw [8] (fun v8 wr => ∃ k : Nat, k < m ∧ v8 = .int .i64 k ∧ Aside0 (R k wr)) (fun i _ => m - (intOf i).toNat)
  case atStart => exact ⟨0, by omega, rfl, HH⟩
  case round =>
    obtain ⟨k, hk, rfl, HR⟩ := hrel
    have HS := Lib.hid (HST.out k wr hk HR.out)
    have hlt : (k : Int) < (most : Int) := by omega
    clear HH HST
    by_cases he : k + 1 = m
    · rw [decide_eq_true he] at HS
      go_wp2_with (go_at_call 91; refine HS.out.mono ?_; rintro e1 w1 ⟨rfl, h1⟩; have H1 := Aside0.mk h1; clear h1)
      go_ret
      exact ⟨rfl, he ▸ H1.out⟩
    · rw [decide_eq_false he] at HS
      go_wp2_with (go_at_call 91; refine HS.out.mono ?_; rintro e1 w1 ⟨rfl, h1⟩; have H1 := Aside0.mk h1; clear h1)
      exact ⟨⟨k + 1, by omega, by rfl, H1⟩, by simp [intOf]; omega⟩
theorem meth_open (a : Addr) (w : World) : (method 281 46 (.pointer (some a)) "Step").run Tryz.prog w = .ok (94, .pointer (some a)) w := by kernel_rfl
set_option maxHeartbeats 2000000 in
set_option maxRecDepth 100000 in
theorem alone_open (bs bv : Nat) (R : Nat → World → Prop) (m most : Nat) (hm : 1 ≤ m) (hmm : m ≤ most) (hmx : most ≤ 4611686018427387904)
    (hstep : ∀ k w, k < m → R k w → Calls Tryz.prog 94 #[.pointer (some ⟨bs, 0, none⟩), .pointer (some ⟨bv, 0, none⟩)] w fun e w' => e = .returned (.bool (decide (k + 1 = m))) ∧ R (k + 1) w') (w : World) (h0 : R 0 w) :
    Calls Tryz.prog 10 #[.pointer (some ⟨bv, 0, none⟩), .iface 46 (.pointer (some ⟨bs, 0, none⟩)), .int .i64 most] w fun e w' => e = .returned (.bool true) ∧ R m w' := by
  have hmeth := meth_open
  have HH := Aside0.mk h0
  have HST := Lib.hid hstep
  clear h0 hstep
  go_enter Tryz.func10, Tryz.ntmps10
  go_wp2
  go_loopw [8] (fun v8 wr => ∃ k : Nat, k < m ∧ v8 = .int .i64 k ∧ Aside0 (R k wr)) (fun i _ => m - (intOf i).toNat)
  case atStart => exact ⟨0, by omega, rfl, HH⟩
  case round =>
    obtain ⟨k, hk, rfl, HR⟩ := hrel
    have HS := Lib.hid (HST.out k wr hk HR.out)
    have hlt : (k : Int) < (most : Int) := by omega
    clear HH HST
    by_cases he : k + 1 = m
    · rw [decide_eq_true he] at HS
      go_wp2_with (go_at_call 94; refine HS.out.mono ?_; rintro e1 w1 ⟨rfl, h1⟩; have H1 := Aside0.mk h1; clear h1)
      go_ret
      exact ⟨rfl, he ▸ H1.out⟩
    · rw [decide_eq_false he] at HS
      go_wp2_with (go_at_call 94; refine HS.out.mono ?_; rintro e1 w1 ⟨rfl, h1⟩; have H1 := Aside0.mk h1; clear h1)
      exact ⟨⟨k + 1, by omega, by rfl, H1⟩, by simp [intOf]; omega⟩
theorem meth_close (a : Addr) (w : World) : (method 281 48 (.pointer (some a)) "Step").run Tryz.prog w = .ok (96, .pointer (some a)) w := by kernel_rfl
set_option maxHeartbeats 2000000 in
set_option maxRecDepth 100000 in
theorem alone_close (bs bv : Nat) (R : Nat → World → Prop) (m most : Nat) (hm : 1 ≤ m) (hmm : m ≤ most) (hmx : most ≤ 4611686018427387904)
    (hstep : ∀ k w, k < m → R k w → Calls Tryz.prog 96 #[.pointer (some ⟨bs, 0, none⟩), .pointer (some ⟨bv, 0, none⟩)] w fun e w' => e = .returned (.bool (decide (k + 1 = m))) ∧ R (k + 1) w') (w : World) (h0 : R 0 w) :
    Calls Tryz.prog 10 #[.pointer (some ⟨bv, 0, none⟩), .iface 48 (.pointer (some ⟨bs, 0, none⟩)), .int .i64 most] w fun e w' => e = .returned (.bool true) ∧ R m w' := by
  have hmeth := meth_close
  have HH := Aside0.mk h0
  have HST := Lib.hid hstep
  clear h0 hstep
  go_enter Tryz.func10, Tryz.ntmps10
  go_wp2
  go_loopw [8] (fun v8 wr => ∃ k : Nat, k < m ∧ v8 = .int .i64 k ∧ Aside0 (R k wr)) (fun i _ => m - (intOf i).toNat)
  case atStart => exact ⟨0, by omega, rfl, HH⟩
  case round =>
    obtain ⟨k, hk, rfl, HR⟩ := hrel
    have HS := Lib.hid (HST.out k wr hk HR.out)
    have hlt : (k : Int) < (most : Int) := by omega
    clear HH HST
    by_cases he : k + 1 = m
    · rw [decide_eq_true he] at HS
      go_wp2_with (go_at_call 96; refine HS.out.mono ?_; rintro e1 w1 ⟨rfl, h1⟩; have H1 := Aside0.mk h1; clear h1)
      go_ret
      exact ⟨rfl, he ▸ H1.out⟩
    · rw [decide_eq_false he] at HS
      go_wp2_with (go_at_call 96; refine HS.out.mono ?_; rintro e1 w1 ⟨rfl, h1⟩; have H1 := Aside0.mk h1; clear h1)
      exact ⟨⟨k + 1, by omega, by rfl, H1⟩, by simp [intOf]; omega⟩
theorem meth_scan (a : Addr) (w : World) : (method 281 50 (.pointer (some a)) "Step").run Tryz.prog w = .ok (97, .pointer (some a)) w := by kernel_rfl
set_option maxHeartbeats 2000000 in
set_option maxRecDepth 100000 in
theorem alone_scan (bs bv : Nat) (R : Nat → World → Prop) (m most : Nat) (hm : 1 ≤ m) (hmm : m ≤ most) (hmx : most ≤ 4611686018427387904)
    (hstep : ∀ k w, k < m → R k w → Calls Tryz.prog 97 #[.pointer (some ⟨bs, 0, none⟩), .pointer (some ⟨bv, 0, none⟩)] w fun e w' => e = .returned (.bool (decide (k + 1 = m))) ∧ R (k + 1) w') (w : World) (h0 : R 0 w) :
    Calls Tryz.prog 10 #[.pointer (some ⟨bv, 0, none⟩), .iface 50 (.pointer (some ⟨bs, 0, none⟩)), .int .i64 most] w fun e w' => e = .returned (.bool true) ∧ R m w' := by
  have hmeth := meth_scan
  have HH := Aside0.mk h0
  have HST := Lib.hid hstep
  clear h0 hstep
  go_enter Tryz.func10, Tryz.ntmps10
  go_wp2
  go_loopw [8] (fun v8 wr => ∃ k : Nat, k < m ∧ v8 = .int .i64 k ∧ Aside0 (R k wr)) (fun i _ => m - (intOf i).toNat)
  case atStart => exact ⟨0, by omega, rfl, HH⟩
  case round =>
    obtain ⟨k, hk, rfl, HR⟩ := hrel
    have HS := Lib.hid (HST.out k wr hk HR.out)
    have hlt : (k : Int) < (most : Int) := by omega
    clear HH HST
    by_cases he : k + 1 = m
    · rw [decide_eq_true he] at HS
      go_wp2_with (go_at_call 97; refine HS.out.mono ?_; rintro e1 w1 ⟨rfl, h1⟩; have H1 := Aside0.mk h1; clear h1)
      go_ret
      exact ⟨rfl, he ▸ H1.out⟩
    · rw [decide_eq_false he] at HS
      go_wp2_with (go_at_call 97; refine HS.out.mono ?_; rintro e1 w1 ⟨rfl, h1⟩; have H1 := Aside0.mk h1; clear h1)
      exact ⟨⟨k + 1, by omega, by rfl, H1⟩, by simp [intOf]; omega⟩
end Go.Proofs.YtcbndfmbpojppaaGreat
