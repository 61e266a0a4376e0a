/- Plain facts on texts: what a decimal numeral is read as, and what a text of three words with single blanks between them is cut into. No condition. -/
import Derived.Test.YtkiofmbecjfanabDoorTabs
import Derived.Lib.ParseIntB
import Derived.Lib.Split
import Derived.Lib.SplitLaws
import Derived.Lib.IndexBytes
namespace Go.Proofs.YtkiofmbecjfanabDoor
open Go.Lib

/-- What ParseUint(l, 10, 64) tells beside its error. -/
def PU (l : List UInt8) : Nat := match Lib.parseUintB 64 l with
  | .ok u => u
  | .range => 18446744073709551615
  | _ => 0

theorem ofNat_digit {d : Nat} (h : d < 10) : (UInt8.ofNat (48 + d)).toNat = 48 + d := by
  rw [UInt8.toNat_ofNat']; omega

theorem puM_dec (u : Nat) : ∀ (acc : Nat) (r : List UInt8), acc * 10 ^ Lib.nDigits u + u ≤ 18446744073709551615 →
    Lib.parseUintM 18446744073709551615 acc (Lib.decDigits u ++ r) = Lib.parseUintM 18446744073709551615 (acc * 10 ^ Lib.nDigits u + u) r := by
  induction u using Nat.strongRecOn with
  | _ u ih =>
    intro acc r h
    have step : ∀ (d a : Nat) (r : List UInt8), d < 10 → a * 10 + d ≤ 18446744073709551615 → Lib.parseUintM 18446744073709551615 a (UInt8.ofNat (48 + d) :: r) = Lib.parseUintM 18446744073709551615 (a * 10 + d) r := by
      intro d a r hd ha
      rw [Lib.parseUintM, ofNat_digit hd]
      rw [if_pos (by omega), if_neg (by omega), if_neg (by omega), show 48 + d - 48 = d by omega]
    by_cases hu : u < 10
    · rw [Lib.nDigits_small hu] at h ⊢
      rw [Lib.decDigits, dif_pos hu]
      simp only [Nat.pow_one] at h ⊢
      exact step u acc r hu h
    · rw [Lib.nDigits_big hu, Nat.pow_succ, ← Nat.mul_assoc] at h ⊢
      rw [Lib.decDigits, dif_neg hu, List.append_assoc, List.cons_append, List.nil_append]
      generalize hX : acc * 10 ^ Lib.nDigits (u / 10) = X at h ⊢
      rw [ih (u / 10) (by omega) acc _ (by rw [hX]; omega), hX, step (u % 10) (X + u / 10) r (by omega) (by omega)]
      congr 1
      omega

theorem dec_ne_nil (u : Nat) : Lib.decDigits u ≠ [] := by
  intro e
  have h1 := Lib.decDigits_length u
  have h2 := Lib.nDigits_pos u
  rw [e] at h1
  simp at h1
  omega

theorem pu_dec (u : Nat) (h : u < 18446744073709551616) : Lib.parseUintB 64 (Lib.decDigits u) = .ok u := by
  unfold Lib.parseUintB
  rw [if_neg (dec_ne_nil u), show (2 : Nat) ^ 64 - 1 = 18446744073709551615 by decide]
  have := puM_dec u 0 [] (by omega)
  rw [List.append_nil] at this
  rw [this]
  simp [Lib.parseUintM]
theorem PU_dec (u : Nat) (h : u < 18446744073709551616) : PU (Lib.decDigits u) = u := by unfold PU; rw [pu_dec u h]
theorem PU_lt (l : List UInt8) : PU l < 18446744073709551616 := by
  unfold PU
  cases h : Lib.parseUintB 64 l with
  | ok u =>
    rw [Lib.parseUintB_64] at h
    exact Lib.parseMag_lt h
  | range => exact (by decide : 18446744073709551615 < 18446744073709551616)
  | _ => exact (by decide : 0 < 18446744073709551616)

theorem dec_digit (u : Nat) : ∀ c ∈ Lib.decDigits u, 48 ≤ c.toNat ∧ c.toNat ≤ 57 := by
  induction u using Nat.strongRecOn with
  | _ u ih =>
    intro c hc
    by_cases hu : u < 10
    · rw [Lib.decDigits, dif_pos hu] at hc
      rw [List.mem_singleton] at hc
      subst hc
      rw [ofNat_digit hu]
      omega
    · rw [Lib.decDigits, dif_neg hu] at hc
      rcases List.mem_append.1 hc with h | h
      · exact ih (u / 10) (by omega) c h
      · rw [List.mem_singleton] at h
        subst h
        rw [ofNat_digit (by omega)]
        omega
theorem dec_no_blank (u : Nat) : (32 : UInt8) ∉ Lib.decDigits u := fun h => by
  have := dec_digit u 32 h
  exact absurd this.1 (by decide)
theorem KL_no_blank (k : Nat) : (32 : UInt8) ∉ KL k := by
  match k with
  | 0 => decide
  | 1 => decide
  | 2 => decide
  | n + 3 => exact (by decide : (32 : UInt8) ∉ KL 3)
theorem KL_inj {j k : Nat} (hj : j ≤ 3) (hk : k ≤ 3) (h : KL j = KL k) : j = k := by
  have all : ∀ a : Fin 4, ∀ b : Fin 4, KL a.val = KL b.val → a = b := by decide
  have := all ⟨j, by omega⟩ ⟨k, by omega⟩ h
  exact congrArg Fin.val this

theorem idx_miss : ∀ {a : List UInt8}, (32 : UInt8) ∉ a → Lib.indexByte a 32 = -1
  | [], _ => rfl
  | b :: a, h => by
    have h1 : ¬ (b == 32) = true := fun e => h (by rw [eq_of_beq e]; exact List.mem_cons_self ..)
    rw [Lib.indexByte, if_neg h1, if_pos]
    rw [idx_miss fun e => h (List.mem_cons_of_mem _ e)]
    rfl
theorem idx_hit : ∀ {a : List UInt8} (r : List UInt8), (32 : UInt8) ∉ a → Lib.indexByte (a ++ 32 :: r) 32 = a.length
  | [], r, _ => rfl
  | b :: a, r, h => by
    have h1 : ¬ (b == 32) = true := fun e => h (by rw [eq_of_beq e]; exact List.mem_cons_self ..)
    have ih := idx_hit (a := a) r fun e => h (List.mem_cons_of_mem _ e)
    rw [List.cons_append, Lib.indexByte, if_neg h1, ih, if_neg (fun e => by have := eq_of_beq e; omega), List.length_cons]
    omega

theorem bytes_ext {a b : ByteArray} (h : a.data.toList = b.data.toList) : a = b := by
  obtain ⟨⟨a⟩⟩ := a
  obtain ⟨⟨b⟩⟩ := b
  have : a = b := h
  rw [this]

theorem split_once (a r : List UInt8) (n : Nat) (h : (32 : UInt8) ∉ a) : Lib.splitB ⟨#[32]⟩ 0 (n + 1) ⟨(a ++ 32 :: r).toArray⟩ = ⟨a.toArray⟩ :: Lib.splitB ⟨#[32]⟩ 0 n ⟨r.toArray⟩ := by
  have hi : Lib.indexB ⟨(a ++ 32 :: r).toArray⟩ ⟨#[32]⟩ = a.length := by
    show Lib.index (a ++ 32 :: r) [32] = a.length
    rw [Lib.index_one]
    exact idx_hit r h
  rw [Lib.splitB_hit _ _ _ _ _ hi]
  congr 1
  · apply bytes_ext
    rw [Lib.extract_from_zero]
    simp
  · congr 1
    apply bytes_ext
    rw [Lib.extract_to_end]
    show ((a ++ 32 :: r)).drop (a.length + 1) = r
    rw [List.drop_append]
    simp

/-- Three words with single blanks between them. -/
def three (a b c : List UInt8) : List UInt8 := a ++ [32] ++ b ++ [32] ++ c
theorem three_eq (a b c : List UInt8) : three a b c = a ++ 32 :: (b ++ 32 :: c) := by simp [three]
theorem split_three {a b c : List UInt8} (ha : (32 : UInt8) ∉ a) (hb : (32 : UInt8) ∉ b) (hc : (32 : UInt8) ∉ c) :
    Lib.countB ⟨(three a b c).toArray⟩ ⟨#[32]⟩ = 2 ∧ Lib.splitB ⟨#[32]⟩ 0 2 ⟨(three a b c).toArray⟩ = [⟨a.toArray⟩, ⟨b.toArray⟩, ⟨c.toArray⟩] := by
  constructor
  · show Lib.count (three a b c) [32] = 2
    rw [Lib.count_one, three_eq, List.count_append, List.count_cons_self, List.count_append, List.count_cons_self, List.count_eq_zero_of_not_mem ha, List.count_eq_zero_of_not_mem hb, List.count_eq_zero_of_not_mem hc]
  · rw [three_eq, split_once _ _ _ ha, split_once _ _ _ hb]
    rfl
end Go.Proofs.YtkiofmbecjfanabDoor
