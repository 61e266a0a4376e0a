/- progress.all, with plus and with times, and the two closures of progress.Bound over it: what they come to. No condition but that the numbers are ints from 0 on. -/
import Derived.Test.YtncdajjmaabcnaaBoundM
import Derived.Lib.Hide
import Derived.Outline
namespace Go.Proofs.Ytncdajjmaabcnaa.Own
open Go.RowKit Go.Proofs.YtncdajjmaabcnaaW.PrintWords Go.Proofs.YtncdajjmaabcnaaW.PrintLast Go.Proofs.YtncdajjmaabcnaaW.PrintMore
set_option linter.unusedVariables false
set_option linter.unusedSimpArgs false
namespace PB
theorem fold_ok (f : Int → Int → Int) (hf : ∀ a b, ok a → ok b → ok (f a b)) : ∀ (l : List Int) (a : Int), ok a → (∀ x ∈ l, ok x) → ok (l.foldl f a)
  | [], a, ha, _ => ha
  | x :: r, a, ha, h => fold_ok f hf r (f a x) (hf a x ha (h x (by simp))) (fun y hy => h y (by simp [hy]))
set_option maxHeartbeats 2000000 in
theorem all_plus (a : Int) (A : Option Addr) (c : Nat) (l : List Int) (w : World) (ha : ok a) (hl : ∀ x ∈ l, ok x) (hr : Kd.C (Kd.int .i64) w A l.length l) (hlen : l.length < 1000) :
    Calls Try.prog 18 #[.func (.func 19) #[] #[], .int .i64 a, .slice A l.length c] w fun e w' => e = .returned (.int .i64 (l.foldl sa a)) ∧ w = w' := by
  have HR := Aside0.mk hr
  have HL := Aside0.mk hl
  have HA := Aside0.mk ha
  clear hr hl ha
  go_enter Try.func18, Try.ntmps18
  go_wp2
  go_loopw [1, 11] (fun v1 v11 wr => ∃ (k : Nat), k ≤ l.length ∧ v11 = .int .i64 k ∧ v1 = .int .i64 ((l.take k).foldl sa a) ∧ w = wr) (fun _ i _ => l.length - (intOf i).toNat)
  case atStart => exact ⟨0, Nat.zero_le _, rfl, rfl, rfl⟩
  case round =>
    obtain ⟨k, hk, rfl, rfl, rfl⟩ := hrel
    have hpre : ok ((l.take k).foldl sa a) := fold_ok sa (fun _ _ h1 h2 => sa_ok h1 h2) _ _ HA.out (fun x hx => HL.out x (List.mem_of_mem_take hx))
    by_cases hlt : k < l.length
    · have hk0 : (0 : Int) ≤ (k : Int) := by omega
      have hkl : (k : Int) < (l.length : Int) := by omega
      obtain ⟨ad, rfl, x0⟩ := Kd.at_int HR.out (k : Int) hk0 hkl
      have hstep : (l.take (k + 1)).foldl sa a = sa ((l.take k).foldl sa a) (rd l (k : Int)) := by
        rw [List.take_add_one, List.foldl_append, List.getElem?_eq_getElem hlt]
        unfold rd
        rw [Int.toNat_natCast, List.getD_eq_getElem?_getD, List.getElem?_eq_getElem hlt]
        rfl
      have hx : ok (rd l (k : Int)) := by
        unfold rd
        rw [Int.toNat_natCast, List.getD_eq_getElem?_getD, List.getElem?_eq_getElem hlt]
        exact HL.out _ (List.getElem_mem hlt)
      have hw : IntKind.i64.wrap ((k : Int) + 1) = ((k + 1 : Nat) : Int) := by rw [IntKind.wrap_i64]; omega
      rw [Int.toNat_natCast] at x0
      generalize rd l (k : Int) = x at x0 hstep hx
      have HS := Aside0.mk hstep
      clear hstep
      generalize (l.take k).foldl sa a = b at HS hpre ⊢
      have HC := Lib.hid (plus b x hpre hx w)
      have HP := Aside0.mk hpre
      have HX := Aside0.mk hx
      clear hpre hx
      go_wp2_with (go_at_call 19; refine HC.out.mono ?_; rintro e w' ⟨rfl, rfl⟩)
      exact ⟨⟨k + 1, by omega, by rfl, by rw [HS.out], trivial⟩, by simp [intOf]; omega⟩
    · have hkk : k = l.length := by omega
      subst hkk
      clear hpre
      go_wp2
      rw [List.take_length]
      go_ret
      exact ⟨rfl, rfl⟩
theorem cl_plus (a : Int) (A : Option Addr) (c : Nat) (l : List Int) (w : World) (ha : ok a) (hl : ∀ x ∈ l, ok x) (hr : Kd.C (Kd.int .i64) w A l.length l) (hlen : l.length < 1000) :
    Calls Try.prog 17 #[.int .i64 a, .slice A l.length c] w fun e w' => e = .returned (.int .i64 (l.foldl sa a)) ∧ w = w' := by
  have HC := Lib.hid (all_plus a A c l w ha hl hr hlen)
  clear ha hl hr
  go_enter Try.func17, Try.ntmps17
  go_wp2_with (go_at_call 18; refine HC.out.mono ?_; rintro e w' ⟨rfl, rfl⟩)
  go_ret
  exact ⟨rfl, rfl⟩
set_option maxHeartbeats 2000000 in
theorem all_times (a : Int) (A : Option Addr) (c : Nat) (l : List Int) (w : World) (ha : ok a) (hl : ∀ x ∈ l, ok x) (hr : Kd.C (Kd.int .i64) w A l.length l) (hlen : l.length < 1000) :
    Calls Try.prog 18 #[.func (.func 21) #[] #[], .int .i64 a, .slice A l.length c] w fun e w' => e = .returned (.int .i64 (l.foldl sm a)) ∧ w = w' := by
  have HR := Aside0.mk hr
  have HL := Aside0.mk hl
  have HA := Aside0.mk ha
  clear hr hl ha
  go_enter Try.func18, Try.ntmps18
  go_wp2
  go_loopw [1, 11] (fun v1 v11 wr => ∃ (k : Nat), k ≤ l.length ∧ v11 = .int .i64 k ∧ v1 = .int .i64 ((l.take k).foldl sm a) ∧ w = wr) (fun _ i _ => l.length - (intOf i).toNat)
  case atStart => exact ⟨0, Nat.zero_le _, rfl, rfl, rfl⟩
  case round =>
    obtain ⟨k, hk, rfl, rfl, rfl⟩ := hrel
    have hpre : ok ((l.take k).foldl sm a) := fold_ok sm (fun _ _ h1 h2 => sm_ok h1 h2) _ _ HA.out (fun x hx => HL.out x (List.mem_of_mem_take hx))
    by_cases hlt : k < l.length
    · have hk0 : (0 : Int) ≤ (k : Int) := by omega
      have hkl : (k : Int) < (l.length : Int) := by omega
      obtain ⟨ad, rfl, x0⟩ := Kd.at_int HR.out (k : Int) hk0 hkl
      have hstep : (l.take (k + 1)).foldl sm a = sm ((l.take k).foldl sm a) (rd l (k : Int)) := by
        rw [List.take_add_one, List.foldl_append, List.getElem?_eq_getElem hlt]
        unfold rd
        rw [Int.toNat_natCast, List.getD_eq_getElem?_getD, List.getElem?_eq_getElem hlt]
        rfl
      have hx : ok (rd l (k : Int)) := by
        unfold rd
        rw [Int.toNat_natCast, List.getD_eq_getElem?_getD, List.getElem?_eq_getElem hlt]
        exact HL.out _ (List.getElem_mem hlt)
      have hw : IntKind.i64.wrap ((k : Int) + 1) = ((k + 1 : Nat) : Int) := by rw [IntKind.wrap_i64]; omega
      rw [Int.toNat_natCast] at x0
      generalize rd l (k : Int) = x at x0 hstep hx
      have HS := Aside0.mk hstep
      clear hstep
      generalize (l.take k).foldl sm a = b at HS hpre ⊢
      have HC := Lib.hid (times b x hpre hx w)
      have HP := Aside0.mk hpre
      have HX := Aside0.mk hx
      clear hpre hx
      go_wp2_with (go_at_call 21; refine HC.out.mono ?_; rintro e w' ⟨rfl, rfl⟩)
      exact ⟨⟨k + 1, by omega, by rfl, by rw [HS.out], trivial⟩, by simp [intOf]; omega⟩
    · have hkk : k = l.length := by omega
      subst hkk
      clear hpre
      go_wp2
      rw [List.take_length]
      go_ret
      exact ⟨rfl, rfl⟩
theorem cl_times (a : Int) (A : Option Addr) (c : Nat) (l : List Int) (w : World) (ha : ok a) (hl : ∀ x ∈ l, ok x) (hr : Kd.C (Kd.int .i64) w A l.length l) (hlen : l.length < 1000) :
    Calls Try.prog 20 #[.int .i64 a, .slice A l.length c] w fun e w' => e = .returned (.int .i64 (l.foldl sm a)) ∧ w = w' := by
  have HC := Lib.hid (all_times a A c l w ha hl hr hlen)
  clear ha hl hr
  go_enter Try.func20, Try.ntmps20
  go_wp2_with (go_at_call 18; refine HC.out.mono ?_; rintro e w' ⟨rfl, rfl⟩)
  go_ret
  exact ⟨rfl, rfl⟩
end PB
end Go.Proofs.Ytncdajjmaabcnaa.Own
