/- What the listed variables hold, as the history's texts ask it, and that it lasts; the library's contracts in that form. No condition. -/
import Derived.Test.YtfmhdfgliamkkabDoorHistTextRef
import Derived.Test.YtfmhdfgliamkkabDoorWsLays
import Derived.Lib.AppendIntMem
import Derived.Lib.LaidTab
import Derived.Stop.LaidErr
import Derived.LaidLaws
namespace Go.Proofs.YtfmhdfgliamkkabDoor.HT
open Go.RowKit Go.Lib Go.Proofs.YtfmhdfgliamkkabDoor.Own Go.Proofs.YtfmhdfgliamkkabDoorW.PrintWords
set_option linter.unusedVariables false
set_option linter.unusedSimpArgs false
theorem var_move {P : Program} {name : String} {cs : Array Value} {w w' : World} (h : w.var? P name = some cs) (hb : Below w.heap.size w w') : w'.var? P name = some cs := by
  unfold World.var? at *
  cases hg : P.globalNamed name with
  | none => simp [hg] at h
  | some g =>
    simp only [hg, Option.bind_some] at h ⊢
    have hlt : g < w.heap.size := by
      rcases Nat.lt_or_ge g w.heap.size with h' | h'
      · exact h'
      · rw [Array.getElem?_eq_none h'] at h; simp at h
    rw [hb.block g hlt]
    exact h
structure HTabs (w : World) : Prop where
  pow : Lib.TabIs Tryd.prog w "internal/strconv.uint64pow10" .u64 Lib.pow10Tab
  syn : ∃ tp p, w.var? Tryd.prog "strconv.ErrSyntax" = some #[.iface tp p]
  rng : ∃ tp p, w.var? Tryd.prog "strconv.ErrRange" = some #[.iface tp p]
  max : ∃ m, w.cell? ⟨3, 0, none⟩ = some (.int .i64 m)
theorem HTabs.move {w w' : World} (h : HTabs w) (hb : Below w.heap.size w w') : HTabs w' := by
  refine ⟨var_move h.pow hb, ?_, ?_, ?_⟩
  · obtain ⟨tp, p, h1⟩ := h.syn
    exact ⟨tp, p, var_move h1 hb⟩
  · obtain ⟨tp, p, h1⟩ := h.rng
    exact ⟨tp, p, var_move h1 hb⟩
  · obtain ⟨m, h1⟩ := h.max
    exact ⟨m, (hb.cell (World.block_lt_of_cell? _ _ h1)).trans h1⟩
theorem itoa_calls {w : World} (h : HTabs w) (n : Int) (h0 : -9223372036854775808 ≤ n) (h1 : n ≤ 9223372036854775807) : Calls Tryd.prog 14 #[.int .i64 n] w fun e w' => e = .returned (.string (toBA (itoa n))) ∧ Below w.heap.size w w' :=
  (Tryd.strconv_Itoa n h0 h1 w h.pow).mono fun e w' ⟨a, k, os, b⟩ => ⟨a, b ▸ Lib.below_grow _ w (Nat.le_refl _) k os⟩
theorem atoi_calls {w : World} (h : HTabs w) (s : ByteArray) (hs : s.size ≤ 281474976710656) : Calls Tryd.prog 21 #[.string s] w fun e w' => (∃ v, e = .returned (.tuple #[.int .i64 (AV s.data.toList), v])) ∧ Below w.heap.size w w' := by
  obtain ⟨t1, p1, e1⟩ := h.syn
  obtain ⟨t2, p2, e2⟩ := h.rng
  cases ha : atoiAll s.data.toList with
  | ok v =>
    have hv : AV s.data.toList = v := by unfold AV; rw [ha]
    rw [hv]
    refine (Tryd.strconv_Atoi_ok s (by omega) v ha w).mono fun e w' ⟨a, b⟩ => ⟨⟨_, a⟩, ?_⟩
    rcases b with b | ⟨t, b⟩
    · exact b ▸ Below.refl _ _
    · exact b ▸ Lib.bytesWorld_below _ _ _
  | range =>
    have hv : AV s.data.toList = atoiSat s.data.toList := by unfold AV; rw [ha]
    rw [hv]
    exact (Tryd.strconv_Atoi_range_var s hs ha t2 p2 w e2).mono fun e w' ⟨N, a, _, _, b⟩ => ⟨⟨_, a⟩, b⟩
  | _ =>
    have hv : AV s.data.toList = 0 := by unfold AV; rw [ha]
    rw [hv]
    exact (Tryd.strconv_Atoi_syntax_var s hs ha t1 p1 w e1).mono fun e w' ⟨N, a, _, _, b⟩ => ⟨⟨_, a⟩, b⟩
theorem cut_calls {w : World} (h : HTabs w) (s : ByteArray) (hs : s.size < 4294967281) : Calls Tryd.prog 32 #[.string s, .string ⟨#[10]⟩] w fun e w' => e = .returned (.tuple #[.string (toBA (Lib.cut s.data.toList [10]).1), .string (toBA (Lib.cut s.data.toList [10]).2.1), .bool (Lib.cut s.data.toList [10]).2.2]) ∧ Below w.heap.size w w' := by
  obtain ⟨m, hm⟩ := h.max
  exact (Tryd.strings_Cut s ⟨#[10]⟩ m w hs hm).mono fun e w' ⟨a, n, b⟩ => ⟨a, b ▸ pw_below_drewN (Below.refl _ _) n⟩
theorem split_calls {w : World} (h : HTabs w) (s : ByteArray) (hs : s.size < 4294967281) : Calls Tryd.prog 20 #[.string s, .string ⟨#[32]⟩] w fun e w' => e = .returned (.slice (some ⟨w.heap.size, 0, none⟩) (wordsL s.data.toList).length (wordsL s.data.toList).length) ∧ w' = w.alloc (.cells ((wordsL s.data.toList).map fun x => Value.string (toBA x)).toArray 9) := by
  obtain ⟨m, hm⟩ := h.max
  have e1 : Lib.splitB ⟨#[32]⟩ 0 (Lib.countB s ⟨#[32]⟩) s = (wordsL s.data.toList).map toBA := by
    rw [count_words]
    have := split_words s.data.toList.length s.data.toList (Nat.le_refl _)
    exact this
  have e2 : (wordsL s.data.toList).length = Lib.countB s ⟨#[32]⟩ + 1 := by
    have := Lib.splitB_all ⟨#[32]⟩ (by decide) 0 (Lib.countB s ⟨#[32]⟩) s rfl
    rw [e1, List.length_map] at this
    exact this
  refine (Tryd.strings_Split s ⟨#[32]⟩ m w hs hm (by decide)).mono fun e w' ⟨a, b⟩ => ?_
  rw [e1, List.map_map] at b
  rw [e2]
  exact ⟨a, b⟩
end Go.Proofs.YtfmhdfgliamkkabDoor.HT
