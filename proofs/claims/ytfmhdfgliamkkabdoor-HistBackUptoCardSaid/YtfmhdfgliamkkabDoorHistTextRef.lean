/- The reference's Words, Lines, Cut, SameSpans as the plain words, lines, cut, equality. No condition. -/
import Derived.Test.YtfmhdfgliamkkabDoorHistTextSplit
import Derived.Test.YtfmhdfgliamkkabDoorOwnx7
import Derived.Test.YtfmhdfgliamkkabDoorOwnx4
namespace Go.Proofs.YtfmhdfgliamkkabDoor.HT
open Go.RowKit Go.Lib Go.Proofs.YtfmhdfgliamkkabDoor.Own Go.Proofs.YtfmhdfgliamkkabDoorW.PrintWords
set_option linter.unusedVariables false
set_option linter.unusedSimpArgs false
def toBA (l : List UInt8) : ByteArray := ⟨l.toArray⟩
theorem toBA_data (l : List UInt8) : (toBA l).data.toList = l := rfl
theorem toBA_of (s : ByteArray) : toBA s.data.toList = s := bytes_ext rfl
theorem toBA_size (l : List UInt8) : (toBA l).size = l.length := by show l.toArray.size = _; simp
theorem size_data (s : ByteArray) : s.data.toList.length = s.size := rfl
theorem toBA_app (a b : List UInt8) : toBA a ++ toBA b = toBA (a ++ b) := bytes_ext (by simp [toBA])
theorem bt_of (s : ByteArray) (p : Nat) (h : p < s.size) : bt s (p : Int) = ((s.data.toList[p]'(by rw [size_data]; exact h)).toNat : Int) := by
  unfold bt
  rw [Int.toNat_natCast, dif_pos h]
  rfl
theorem drop_at (s : ByteArray) (p : Nat) (h : p < s.size) : s.data.toList.drop p = s.data.toList[p]'(by rw [size_data]; exact h) :: s.data.toList.drop (p + 1) := List.drop_eq_getElem_cons (by rw [size_data]; exact h)
theorem ext_one (s : ByteArray) (p : Nat) (h : p < s.size) : s.extract p (p + 1) = toBA [s.data.toList[p]'(by rw [size_data]; exact h)] := by
  apply bytes_ext
  rw [toBA_data, ByteArray.data_extract, Array.toList_extract, List.extract_eq_take_drop, drop_at s p h]
  simp
theorem ext_is (s : ByteArray) (a b : Nat) : s.extract a b = toBA ((s.data.toList.drop a).take (b - a)) := by
  apply bytes_ext
  rw [toBA_data, ByteArray.data_extract, Array.toList_extract, List.extract_eq_take_drop]
theorem nat_eq (c : UInt8) (n : Nat) (hn : n < 256) : ((c.toNat : Int) = (n : Int)) ↔ c = UInt8.ofNat n := by
  constructor
  · intro h
    apply UInt8.toNat_inj.1
    rw [UInt8.toNat_ofNat']
    omega
  · rintro rfl
    rw [UInt8.toNat_ofNat']
    omega
theorem lines_l0 (s : ByteArray) (hs : s.size ≤ 1099511627776) : ∀ (d p f : Nat) (done : List ByteArray), p + d = s.size → done.length ≤ p → f ≤ p →
    shutterref05_Lines.l0 (d + 1) s done (f : Int) (p : Int) = some (done ++ ((cutA 10 ((s.data.toList.drop f).take (p - f)) (s.data.toList.drop p)).1.map toBA))
  | 0, p, f, done, h, _, _ => by
    unfold shutterref05_Lines.l0
    have e0 : s.data.toList.drop p = [] := List.drop_eq_nil_of_le (by rw [size_data]; omega)
    rw [if_neg (by omega), e0]
    simp [cutA]
  | d + 1, p, f, done, h, hd, hf => by
    have hp : p < s.size := by omega
    have e1 : wrap64 ((p : Int) + 1) = ((p + 1 : Nat) : Int) := by unfold wrap64; omega
    unfold shutterref05_Lines.l0
    rw [if_pos (by omega), if_pos (by omega), bt_of s p hp, drop_at s p hp]
    generalize hx : s.data.toList[p]'(by rw [size_data]; exact hp) = x
    by_cases hb : x = 10
    · rw [if_pos (show (x.toNat : Int) = 10 from (nat_eq x 10 (by omega)).2 hb), if_pos (by omega), if_pos (by omega), if_pos (by omega), if_pos (by omega), e1]
      have := lines_l0 s hs d (p + 1) (p + 1) (done ++ [s.extract ((f : Int)).toNat ((p : Int)).toNat]) (by omega) (by simp; omega) (Nat.le_refl _)
      rw [this, cutA, if_pos hb, Nat.sub_self, List.take_zero, Int.toNat_natCast, Int.toNat_natCast, ext_is]
      simp
    · rw [if_neg (show ¬ (x.toNat : Int) = 10 from fun e => hb ((nat_eq x 10 (by omega)).1 e)), e1, lines_l0 s hs d (p + 1) f done (by omega) (by omega) (by omega), cutA, if_neg hb]
      have e2 : (s.data.toList.drop f).take (p + 1 - f) = (s.data.toList.drop f).take (p - f) ++ [x] := by
        rw [show p + 1 - f = (p - f) + 1 by omega, List.take_add_one, List.getElem?_drop, show f + (p - f) = p by omega, List.getElem?_eq_getElem (by rw [size_data]; exact hp), hx]
        rfl
      rw [e2]
theorem lines_f (s : ByteArray) (hs : s.size ≤ 1099511627776) : shutterref05_Lines.f (s.size + 1) s = some ((linesL s.data.toList).map toBA) := by
  have := lines_l0 s hs s.size 0 0 [] (by omega) (by simp) (by simp)
  unfold shutterref05_Lines.f
  rw [show (0 : Int) = ((0 : Nat) : Int) from rfl, this]
  unfold linesL
  simp
/-- A history cut at a step. -/
def cutS (step : Int) : List S38 → List S38
  | [] => []
  | s :: l => if s.f2 > step then cutS step l else (if s.f3 > step then ⟨s.f0, s.f1, s.f2, -1⟩ else s) :: cutS step l
theorem same_l0 (l : List S38) (hl : l.length < 4398046511104) : ∀ (d p : Nat), p + d = l.length → shutterref05_SameSpans.l0 (d + 1) l l (p : Int) = some true
  | 0, p, h => by
    unfold shutterref05_SameSpans.l0
    rw [if_neg (by omega)]
  | d + 1, p, h => by
    have e1 : wrap64 ((p : Int) + 1) = ((p + 1 : Nat) : Int) := by unfold wrap64; omega
    unfold shutterref05_SameSpans.l0
    rw [if_pos (by omega), if_pos (by omega), if_pos (by omega), if_neg (by simp), e1]
    exact same_l0 l hl d (p + 1) (by omega)
theorem same_f (l : List S38) (hl : l.length < 4398046511104) : shutterref05_SameSpans.f (l.length + 1) l l = some true := by
  unfold shutterref05_SameSpans.f
  rw [if_pos rfl]
  exact same_l0 l hl l.length 0 (by omega)
end Go.Proofs.YtfmhdfgliamkkabDoor.HT
