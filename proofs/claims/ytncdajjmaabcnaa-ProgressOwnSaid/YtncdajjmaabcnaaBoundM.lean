/- progress.Bound: sums and products that stay ints, as the program reckons them. No condition but that the numbers are ints from 0 on. -/
import Derived.Test.YtncdajjmaabcnaaOwnx0
import Derived.Shelf.Bits.Mul64
import Derived.Lib.Hide
import Derived.Outline
namespace Go.Proofs.Ytncdajjmaabcnaa.Own
open Go.RowKit Go.Proofs.YtncdajjmaabcnaaW.PrintWords Go.Proofs.YtncdajjmaabcnaaW.PrintLast Go.Proofs.YtncdajjmaabcnaaW.PrintMore
set_option linter.unusedVariables false
set_option linter.unusedSimpArgs false
namespace PB
/-- Sum and product of numbers from 0 on, the greatest int at most. -/
def sa (a b : Int) : Int := if 9223372036854775807 < a + b then 9223372036854775807 else a + b
def sm (a b : Int) : Int := if 9223372036854775807 < a * b then 9223372036854775807 else a * b
def ok (a : Int) : Prop := 0 ≤ a ∧ a ≤ 9223372036854775807
theorem sa_ok {a b : Int} (ha : ok a) (hb : ok b) : ok (sa a b) := by
  unfold ok at *
  unfold sa
  by_cases h : 9223372036854775807 < a + b
  · rw [if_pos h]; omega
  · rw [if_neg h]; omega
theorem sm_ok {a b : Int} (ha : ok a) (hb : ok b) : ok (sm a b) := by
  unfold ok at *
  unfold sm
  have := Int.mul_nonneg ha.1 hb.1
  by_cases h : 9223372036854775807 < a * b
  · rw [if_pos h]; omega
  · rw [if_neg h]; omega
theorem mx_ok {a b : Int} (ha : ok a) (hb : ok b) : ok (mx a b) := by
  unfold mx
  by_cases h : a < b
  · rw [if_pos h]; exact hb
  · rw [if_neg h]; exact ha
theorem m0_ok {a : Int} (h : a ≤ 9223372036854775807) : ok (mx a 0) := by
  unfold mx ok
  by_cases h0 : a < 0
  · rw [if_pos h0]; omega
  · rw [if_neg h0]; omega
def vers (v : Int) : Int := sa (mx v 0) 1
def key (v : Int) : Int := sa (sm 11 (sa 4 (sm 2 (vers v)))) 2
def objs (b : Int) : Int := sm 64 (mx b 0)
def walk (b v : Int) : Int := sm (objs b) (sa 6 (sm 3 (vers v)))
def q (b v s m : Int) : Int := mx (mx (mx (mx 96 (sa 2 (sm (mx m 0) (key v)))) (sa (sa 2 (walk b v)) (sm 2 (objs b)))) (sa (sa (sa (mx s 0) 1) (walk b v)) (sm 5 (objs b)))) (sa (sm 2 (mx s 0)) 5)
def bound (t b v s m : Int) : Int := sm (sm (mx t 0) (sa (mx t 0) 1)) (q b v s m)
theorem run_max_int5 {P : Program} (w : World) (ts : Array TypeId) (t : TypeId) (k1 k2 k3 k4 k5 : IntKind) (x y z u v : Int) : (Builtin.max_ ts t #[.int k1 x, .int k2 y, .int k3 z, .int k4 u, .int k5 v]).run P w = .ok (.int k1 (mx (mx (mx (mx x y) z) u) v)) w := by
  simp [Builtin.max_, Builtin.max2, mx]
  rfl
set_option maxHeartbeats 1000000 in
theorem mul64 (x y : Nat) (hx : x < 18446744073709551616) (hy : y < 18446744073709551616) (w : World) :
    Calls Try.prog 30 #[.int .u64 x, .int .u64 y] w fun e w' => e = .returned (.tuple #[.int .u64 ((x * y / 18446744073709551616 : Nat) : Int), .int .u64 ((x * y % 18446744073709551616 : Nat) : Int)]) ∧ w = w' := by
  obtain ⟨bd, bt, bw, hhi⟩ := Lib.mul64_hi x y hx hy
  have ba := Lib.half_mul_le (a := x / 4294967296) (b := y / 4294967296) (by omega) (by omega)
  have bb := Lib.half_mul_le (a := x / 4294967296) (b := y % 4294967296) (by omega) (by omega)
  have bc := Lib.half_mul_le (a := x % 4294967296) (b := y / 4294967296) (by omega) (by omega)
  have ba' : x / 4294967296 * (y / 4294967296) < 18446744073709551616 := by omega
  have bb' : x / 4294967296 * (y % 4294967296) < 18446744073709551616 := by omega
  have bc' : x % 4294967296 * (y / 4294967296) < 18446744073709551616 := by omega
  have bh1 : x / 4294967296 * (y / 4294967296) + (x / 4294967296 * (y % 4294967296) + x % 4294967296 * (y % 4294967296) / 4294967296) / 4294967296 < 18446744073709551616 := by omega
  have bh : x / 4294967296 * (y / 4294967296) + (x / 4294967296 * (y % 4294967296) + x % 4294967296 * (y % 4294967296) / 4294967296) / 4294967296 + ((x / 4294967296 * (y % 4294967296) + x % 4294967296 * (y % 4294967296) / 4294967296) % 4294967296 + x % 4294967296 * (y / 4294967296)) / 4294967296 < 18446744073709551616 := by omega
  go_enter Try.func30, Try.ntmps30
  go_wp2
  simp only [Mul64.maskN x hx, Mul64.maskN y hy, Mul64.divN, Mul64.mulN, Mul64.addN, Mul64.wrapN _ bd, Mul64.wrapN _ bb', Mul64.wrapN _ bt, Mul64.maskN _ bt, Mul64.wrapN _ bc', Mul64.wrapN _ bw, Mul64.wrapN _ ba', Mul64.wrapN _ bh1, Mul64.wrapN _ bh, Mul64.wrapM (x * y)]
  rw [hhi]
  go_ret2
  exact ⟨rfl, rfl⟩
theorem plus (a b : Int) (ha : ok a) (hb : ok b) (w : World) : Calls Try.prog 19 #[.int .i64 a, .int .i64 b] w fun e w' => e = .returned (.int .i64 (sa a b)) ∧ w = w' := by
  obtain ⟨a0, a1⟩ := ha
  obtain ⟨b0, b1⟩ := hb
  have e1 : IntKind.i64.wrap (9223372036854775807 - b) = 9223372036854775807 - b := by rw [IntKind.wrap_i64]; omega
  by_cases h : 9223372036854775807 - b < a
  · have hs : sa a b = 9223372036854775807 := by unfold sa; rw [if_pos (by omega)]
    rw [hs]
    clear hs
    go_enter Try.func19, Try.ntmps19
    go_wp2
    go_ret
    exact ⟨rfl, rfl⟩
  · have hs : sa a b = a + b := by unfold sa; rw [if_neg (by omega)]
    have e2 : IntKind.i64.wrap (a + b) = a + b := by rw [IntKind.wrap_i64]; omega
    rw [hs]
    clear hs
    go_enter Try.func19, Try.ntmps19
    go_wp2
    go_ret
    exact ⟨rfl, rfl⟩
theorem times (a b : Int) (ha : ok a) (hb : ok b) (w : World) : Calls Try.prog 21 #[.int .i64 a, .int .i64 b] w fun e w' => e = .returned (.int .i64 (sm a b)) ∧ w = w' := by
  obtain ⟨a0, a1⟩ := ha
  obtain ⟨b0, b1⟩ := hb
  obtain ⟨x, rfl⟩ : ∃ n : Nat, a = (n : Int) := ⟨a.toNat, by omega⟩
  obtain ⟨y, rfl⟩ : ∃ n : Nat, b = (n : Int) := ⟨b.toNat, by omega⟩
  have hM := Lib.hid (mul64 x y (by omega) (by omega) w)
  have e1 : IntKind.u64.wrap (x : Int) = (x : Int) := by rw [IntKind.wrap_u64]; omega
  have e2 : IntKind.u64.wrap (y : Int) = (y : Int) := by rw [IntKind.wrap_u64]; omega
  have hmul : (x : Int) * (y : Int) = ((x * y : Nat) : Int) := (Int.natCast_mul x y).symm
  have hs : sm (x : Int) (y : Int) = if 9223372036854775807 < ((x * y : Nat) : Int) then 9223372036854775807 else ((x * y : Nat) : Int) := by unfold sm; rw [hmul]
  clear hmul
  generalize x * y = n at hM hs
  rw [hs]
  clear hs
  by_cases hn : (n : Int) ≤ 9223372036854775807
  · rw [if_neg (by omega)]
    have f1 : n / 18446744073709551616 = 0 := by omega
    have f2 : n % 18446744073709551616 = n := by omega
    rw [f1, f2] at hM
    have e3 : IntKind.i64.wrap (n : Int) = (n : Int) := by rw [IntKind.wrap_i64]; omega
    have e4 : ((n : Int) > 9223372036854775807) = False := by simp; omega
    clear f1 f2
    go_enter Try.func21, Try.ntmps21
    go_wp2_with (go_at_call 30; refine hM.out.mono ?_; rintro e w' ⟨rfl, rfl⟩)
    go_ret
    exact ⟨rfl, rfl⟩
  · rw [if_pos (by omega)]
    by_cases hh : n / 18446744073709551616 = 0
    · have f2 : n % 18446744073709551616 = n := by omega
      rw [hh, f2] at hM
      clear hh f2
      go_enter Try.func21, Try.ntmps21
      go_wp2_with (go_at_call 30; refine hM.out.mono ?_; rintro e w' ⟨rfl, rfl⟩)
      go_ret
      exact ⟨rfl, rfl⟩
    · generalize n % 18446744073709551616 = lo at hM
      generalize n / 18446744073709551616 = hi at hM hh
      have hh2 : ((hi : Int) = 0) = False := by simp; omega
      have hh3 : ((hi : Int) == 0) = false := by simp; omega
      go_enter Try.func21, Try.ntmps21
      go_wp2_with (go_at_call 30; refine hM.out.mono ?_; rintro e w' ⟨rfl, rfl⟩)
      go_ret
      exact ⟨rfl, rfl⟩
end PB
end Go.Proofs.Ytncdajjmaabcnaa.Own
