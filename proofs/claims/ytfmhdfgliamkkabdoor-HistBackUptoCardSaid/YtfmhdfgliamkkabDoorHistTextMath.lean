/- Plain facts on the texts of spans: numerals read back, lines, words, what is printed is read as it was. No condition. -/
import Derived.Test.YtfmhdfgliamkkabDoorHistSpec
import Derived.Lib.AtoiAllCases
import Derived.Lib.ItoaNum
import Derived.Lib.ItoaLen
import Derived.Lib.Split
import Derived.Lib.SplitLaws
import Derived.Lib.IndexBytes
namespace Go.Proofs.YtfmhdfgliamkkabDoor.HT
open Go.Lib Go.Proofs.YtfmhdfgliamkkabDoor.Own
set_option linter.unusedVariables false
set_option linter.unusedSimpArgs false

/-- What Atoi tells beside its error. -/
def AV (l : List UInt8) : Int := match atoiAll l with
  | .ok v => v
  | .range => atoiSat l
  | _ => 0
theorem AV_in (l : List UInt8) : -9223372036854775808 ≤ AV l ∧ AV l ≤ 9223372036854775807 := by
  unfold AV
  split
  · rename_i v h; exact atoiAll_bounds h
  · exact atoiSat_bounds l
  · omega
theorem ofNat_digit {d : Nat} (h : d < 10) : (UInt8.ofNat (48 + d)).toNat = 48 + d := by
  rw [UInt8.toNat_ofNat']; omega
theorem pu_dec (u : Nat) : ∀ (acc : Nat) (r : List UInt8), acc * 10 ^ nDigits u + u ≤ 18446744073709551615 →
    parseUint10 acc (decDigits u ++ r) = parseUint10 (acc * 10 ^ nDigits u + u) r := by
  induction u using Nat.strongRecOn with
  | _ u ih =>
    intro acc r h
    have step : ∀ (d a : Nat) (r : List UInt8), d < 10 → a * 10 + d ≤ 18446744073709551615 → parseUint10 a (UInt8.ofNat (48 + d) :: r) = parseUint10 (a * 10 + d) r := by
      intro d a r hd ha
      rw [parseUint10, ofNat_digit hd]
      rw [if_pos (by omega), if_neg (by omega), if_neg (by omega), show 48 + d - 48 = d by omega]
    by_cases hu : u < 10
    · rw [nDigits_small hu] at h ⊢
      rw [decDigits, dif_pos hu]
      simp only [Nat.pow_one] at h ⊢
      exact step u acc r hu h
    · rw [nDigits_big hu, Nat.pow_succ, ← Nat.mul_assoc] at h ⊢
      rw [decDigits, dif_neg hu, List.append_assoc, List.cons_append, List.nil_append]
      generalize hX : acc * 10 ^ nDigits (u / 10) = X at h ⊢
      rw [ih (u / 10) (by omega) acc _ (by rw [hX]; omega), hX, step (u % 10) (X + u / 10) r (by omega) (by omega)]
      congr 1
      omega
theorem dec_ne (u : Nat) : decDigits u ≠ [] := by
  intro e
  have h1 := decDigits_length u
  have h2 := nDigits_pos u
  rw [e] at h1
  simp at h1
  omega
theorem mag_dec (u : Nat) (h : u < 18446744073709551616) : parseMag (decDigits u) = .ok u := by
  unfold parseMag
  rw [if_neg (dec_ne u)]
  have := pu_dec u 0 [] (by omega)
  rw [List.append_nil] at this
  rw [this]
  simp [parseUint10]
theorem dec_digit (u : Nat) : ∀ c ∈ decDigits u, 48 ≤ c.toNat ∧ c.toNat ≤ 57 := by
  induction u using Nat.strongRecOn with
  | _ u ih =>
    intro c hc
    rw [decDigits] at hc
    by_cases hu : u < 10
    · rw [dif_pos hu] at hc
      obtain rfl := List.mem_singleton.1 hc
      rw [ofNat_digit hu]
      omega
    · rw [dif_neg hu] at hc
      rcases List.mem_append.1 hc with h | h
      · exact ih (u / 10) (by omega) c h
      · obtain rfl := List.mem_singleton.1 h
        rw [ofNat_digit (by omega)]
        omega
/-- A numeral read back. -/
theorem AV_itoa (n : Int) (h0 : -9223372036854775808 ≤ n) (h1 : n ≤ 9223372036854775807) : AV (itoa n) = n := by
  unfold AV itoa
  by_cases hn : n < 0
  · rw [if_pos hn, atoiAll_minus, mag_dec _ (by omega)]
    simp only [signed]
    rw [if_neg (by omega)]
    show -((n.natAbs : Nat) : Int) = n
    omega
  · rw [if_neg hn]
    have hd := mag_dec n.toNat (by omega)
    cases hl : decDigits n.toNat with
    | nil => exact absurd hl (dec_ne _)
    | cons c r =>
      have hc := dec_digit n.toNat c (by rw [hl]; exact List.mem_cons_self ..)
      rw [hl] at hd
      rw [atoiAll_plain c r (by omega) (by omega), hd]
      simp only [signless]
      rw [if_neg (by omega)]
      show ((n.toNat : Nat) : Int) = n
      omega
/-- What a numeral is made of. -/
theorem itoa_mem (n : Int) : ∀ c ∈ itoa n, c.toNat = 45 ∨ (48 ≤ c.toNat ∧ c.toNat ≤ 57) := by
  unfold itoa
  intro c hc
  split at hc
  · rcases List.mem_cons.1 hc with rfl | h
    · exact .inl rfl
    · exact .inr (dec_digit _ c h)
  · exact .inr (dec_digit _ c hc)
theorem itoa_no (n : Int) (b : UInt8) (hb : b.toNat < 45) : b ∉ itoa n := fun h => by
  have := itoa_mem n b h
  omega
theorem itoa_dash (n : Int) (h : itoa n = [45]) : False := by
  unfold itoa at h
  split at h
  · have := List.cons.inj h
    exact dec_ne _ this.2
  · have := dec_digit n.toNat 45 (by rw [h]; exact List.mem_cons_self ..)
    have e : (45 : UInt8).toNat = 45 := rfl
    omega

/-- A text cut at a sign: the pieces; the last one is what is left. -/
def cutA (b : UInt8) (cur : List UInt8) : List UInt8 → List (List UInt8) × List UInt8
  | [] => ([], cur)
  | c :: r => if c = b then (cur :: (cutA b [] r).1, (cutA b [] r).2) else cutA b (cur ++ [c]) r
theorem cutA_hit (b : UInt8) : ∀ (a cur r : List UInt8), b ∉ a → cutA b cur (a ++ b :: r) = ((cur ++ a) :: (cutA b [] r).1, (cutA b [] r).2)
  | [], cur, r, _ => by simp [cutA]
  | c :: a, cur, r, h => by
    have h1 : ¬ c = b := fun e => h (by rw [e]; exact List.mem_cons_self ..)
    rw [List.cons_append, cutA, if_neg h1, cutA_hit b a _ r fun e => h (List.mem_cons_of_mem _ e), List.append_assoc]
    rfl
theorem cutA_miss (b : UInt8) : ∀ (a cur : List UInt8), b ∉ a → cutA b cur a = ([], cur ++ a)
  | [], cur, _ => by simp [cutA]
  | c :: a, cur, h => by
    have h1 : ¬ c = b := fun e => h (by rw [e]; exact List.mem_cons_self ..)
    rw [cutA, if_neg h1, cutA_miss b a _ fun e => h (List.mem_cons_of_mem _ e), List.append_assoc]
    rfl
/-- The lines that are ended; the words. -/
def linesL (s : List UInt8) : List (List UInt8) := (cutA 10 [] s).1
def wordsL (s : List UInt8) : List (List UInt8) := (cutA 32 [] s).1 ++ [(cutA 32 [] s).2]
theorem linesL_hit (a r : List UInt8) (h : (10 : UInt8) ∉ a) : linesL (a ++ 10 :: r) = a :: linesL r := by
  unfold linesL
  rw [cutA_hit 10 a [] r h]
  rfl
theorem linesL_miss (a : List UInt8) (h : (10 : UInt8) ∉ a) : linesL a = [] := by
  unfold linesL
  rw [cutA_miss 10 a [] h]
theorem wordsL_hit (a r : List UInt8) (h : (32 : UInt8) ∉ a) : wordsL (a ++ 32 :: r) = a :: wordsL r := by
  unfold wordsL
  rw [cutA_hit 32 a [] r h]
  rfl
theorem wordsL_miss (a : List UInt8) (h : (32 : UInt8) ∉ a) : wordsL a = [a] := by
  unfold wordsL
  rw [cutA_miss 32 a [] h]
  rfl

/-- A span's line, without its end. -/
def toL (n : Int) : List UInt8 := if n = -1 then [45] else itoa n
def lineL (s : S38) : List UInt8 := itoa s.f0 ++ 32 :: (itoa s.f1 ++ 32 :: (itoa s.f2 ++ 32 :: toL s.f3))
def printL (l : List S38) : List UInt8 := l.flatMap fun s => lineL s ++ [10]
theorem toL_no (n : Int) (b : UInt8) (hb : b.toNat < 45) : b ∉ toL n := by
  unfold toL
  split
  · intro h
    obtain rfl := List.mem_singleton.1 h
    have e : (45 : UInt8).toNat = 45 := rfl
    omega
  · exact itoa_no n b hb
theorem lineL_no (s : S38) : (10 : UInt8) ∉ lineL s := by
  unfold lineL
  have h10 : (10 : UInt8).toNat < 45 := by decide
  intro h
  simp only [List.mem_append, List.mem_cons] at h
  have hne : ¬ (10 : UInt8) = 32 := by decide
  rcases h with h | h | h | h | h | h | h
  · exact itoa_no _ _ h10 h
  · exact hne h
  · exact itoa_no _ _ h10 h
  · exact hne h
  · exact itoa_no _ _ h10 h
  · exact hne h
  · exact toL_no _ _ h10 h
/-- A line read. -/
def readL (l : List UInt8) : Option S38 := match wordsL l with
  | [a, b, c, d] => some ⟨AV a, AV b, AV c, if d = [45] then -1 else AV d⟩
  | _ => none
def readAll : List (List UInt8) → Option (List S38)
  | [] => some []
  | x :: r => match readL x, readAll r with
    | some s, some l => some (s :: l)
    | _, _ => none
theorem words_line (s : S38) : wordsL (lineL s) = [itoa s.f0, itoa s.f1, itoa s.f2, toL s.f3] := by
  have h32 : (32 : UInt8).toNat < 45 := by decide
  unfold lineL
  rw [wordsL_hit _ _ (itoa_no _ _ h32), wordsL_hit _ _ (itoa_no _ _ h32), wordsL_hit _ _ (itoa_no _ _ h32), wordsL_miss _ (toL_no _ _ h32)]
def fitS (s : S38) : Prop := (-9223372036854775808 ≤ s.f0 ∧ s.f0 ≤ 9223372036854775807) ∧ (-9223372036854775808 ≤ s.f1 ∧ s.f1 ≤ 9223372036854775807) ∧ (-9223372036854775808 ≤ s.f2 ∧ s.f2 ≤ 9223372036854775807) ∧ (-9223372036854775808 ≤ s.f3 ∧ s.f3 ≤ 9223372036854775807)
theorem read_line (s : S38) (h : fitS s) : readL (lineL s) = some s := by
  obtain ⟨⟨a0, a1⟩, ⟨b0, b1⟩, ⟨c0, c1⟩, d0, d1⟩ := h
  unfold readL
  rw [words_line]
  simp only
  rw [AV_itoa _ a0 a1, AV_itoa _ b0 b1, AV_itoa _ c0 c1]
  unfold toL
  by_cases hd : s.f3 = -1
  · rw [if_pos hd, if_pos rfl, ← hd]
  · rw [if_neg hd, if_neg (fun e => itoa_dash _ e), AV_itoa _ d0 d1]
theorem lines_print : ∀ (l : List S38), linesL (printL l) = l.map lineL
  | [] => rfl
  | s :: l => by
    have ih := lines_print l
    unfold printL at ih ⊢
    rw [List.flatMap_cons, List.append_assoc, List.singleton_append, linesL_hit _ _ (lineL_no s), ih]
    rfl
theorem read_print : ∀ (l : List S38), (∀ s ∈ l, fitS s) → readAll (l.map lineL) = some l
  | [], _ => rfl
  | s :: l, h => by
    rw [List.map_cons, readAll, read_line s (h s (List.mem_cons_self ..)), read_print l fun t ht => h t (List.mem_cons_of_mem _ ht)]
theorem readL_fit {x : List UInt8} {s : S38} (h : readL x = some s) : fitS s := by
  unfold readL at h
  split at h
  · rename_i a b c d _
    injection h with h
    subst h
    refine ⟨AV_in a, AV_in b, AV_in c, ?_⟩
    show -9223372036854775808 ≤ (if d = [45] then -1 else AV d) ∧ (if d = [45] then -1 else AV d) ≤ 9223372036854775807
    split
    · omega
    · exact AV_in d
  · simp at h
theorem readAll_fit : ∀ {xs : List (List UInt8)} {l : List S38}, readAll xs = some l → ∀ s ∈ l, fitS s
  | [], l, h, s, hs => by
    simp [readAll] at h
    subst h
    simp at hs
  | x :: xs, l, h, s, hs => by
    rw [readAll] at h
    split at h
    · rename_i s1 l1 e1 e2
      injection h with h
      subst h
      rcases List.mem_cons.1 hs with rfl | hs
      · exact readL_fit e1
      · exact readAll_fit e2 s hs
    · simp at h
theorem readAll_len : ∀ {xs : List (List UInt8)} {l : List S38}, readAll xs = some l → l.length = xs.length
  | [], l, h => by
    simp [readAll] at h
    subst h
    rfl
  | x :: xs, l, h => by
    rw [readAll] at h
    split at h
    · rename_i s1 l1 e1 e2
      injection h with h
      subst h
      simp [readAll_len e2]
    · simp at h

/-- strings.Split at a blank is the words. -/
theorem bytes_ext {a b : ByteArray} (h : a.data.toList = b.data.toList) : a = b := by
  cases a; cases b
  simp only [ByteArray.mk.injEq]
  exact Array.toList_inj.1 h
end Go.Proofs.YtfmhdfgliamkkabDoor.HT
