/- word.Print tells the text of every slot that is in range, and the empty text of every other one. -/
import Derived.Test.YtkiofmbecjfanabDoorTabs
import Derived.Test.YtkiofmbecjfanabDoorNumMath
import Derived.RegionTactic
import Derived.Deep.RegionHeld3
import Derived.ChangeAlike
namespace Go.Proofs.YtkiofmbecjfanabDoor
open Go.RowKit Go.Lib Go.Proofs.YtkiofmbecjfanabDoor.Math Go.Proofs.YtkiofmbecjfanabDoorW.PrintWords Go.Proofs.YtkiofmbecjfanabDoorW.PrintLast Go.Proofs.YtkiofmbecjfanabDoorW.PrintMore
set_option linter.unusedSimpArgs false

/-- The text of a slot in range. -/
def PT (k g s : Nat) : List UInt8 := KL k ++ [32] ++ Lib.decDigits g ++ [32] ++ Lib.decDigits s
def PTB (k g s : Nat) : ByteArray := if k ≤ 3 ∧ g < 1048576 ∧ s ≤ 1099511627776 then ⟨(PT k g s).toArray⟩ else ⟨#[]⟩

theorem lt_blk {w : World} {k : Nat} {o : Obj} (h : w.heap[k]? = some o) : k < w.heap.size := (Array.getElem?_eq_some_iff.1 h).1
theorem add_runs (a b : ByteArray) (h : a.size + b.size ≤ 1000) (w : World) : (Op.stringOp .add a b).run Tryd.prog w = .ok (.string (a ++ b)) w := run_string_add_sum w a b (by omega)
theorem KB_size (k : Nat) : (KB k).size ≤ 7 := by
  match k with
  | 0 => decide
  | 1 => decide
  | 2 => decide
  | n + 3 => exact (by decide : (KB 3).size ≤ 7)

set_option maxHeartbeats 4000000 in
set_option maxRecDepth 100000 in
theorem print_calls (k g s : Nat) (hk : k < 256) (hg : g < 18446744073709551616) (hs : s < 18446744073709551616) (w : World) (T : Tabs w) :
    Calls Tryd.prog 8 #[.agg #[.int .u8 k, .int .u64 g, .int .u64 s]] w fun e w' => e = .returned (.string (PTB k g s)) ∧ Below w.heap.size w w' := by
  by_cases hin : k ≤ 3 ∧ g < 1048576 ∧ s ≤ 1099511627776
  · obtain ⟨h1, h2, h3⟩ := hin
    have hp : Own.word_Pack.f (k : Int) (g : Int) (s : Int) = some ((k : Int) + 4 * (g : Int) + 4194304 * (s : Int), 0) := by
      rw [pack_p (Int.natCast_nonneg _) (Int.natCast_nonneg _) (Int.natCast_nonneg _)]
      unfold pack
      rw [if_neg (by omega)]
    have HP := Lib.hid hp
    have TT := Lib.hid T
    have hkc := T.kind k (by omega)
    have hk3 : (k : Int) < 4 := by omega
    have hk0 : (0 : Int) ≤ (k : Int) := by omega
    clear hp T
    go_enter Tryd.func8, Tryd.ntmps8
    go_wp2_with (go_at_call 6; refine (Own.word_Pack.calls _ _ _ _ _ _ HP.out).mono ?_; rintro e1 w1 ⟨rfl, hb1⟩)
    have hblk : w1.heap[w.heap.size]? = some (.cells #[.int .u8 k, .int .u64 g, .int .u64 s] 26 (0, 0)) := (hb1.block _ (by rw [World.size_alloc]; omega)).trans (heap_alloc_new w _)
    have hb2 : Below w.heap.size w w1 := ((Below.refl _ _).alloc (Nat.le_refl _) _).trans (hb1.mono (by rw [World.size_alloc]; omega))
    have T1 := TT.out.move hb2
    have V0 := Lib.hid (fun wx (hx : Below w1.heap.size w1 wx) => formatUint g hg wx (T1.move hx).pow)
    have V1 := Lib.hid (fun wx (hx : Below w1.heap.size w1 wx) => formatUint s hs wx (T1.move hx).pow)
    have z0 : ∀ wx, Below w1.heap.size w1 wx → wx.cell? ⟨w.heap.size, 0, none⟩ = some (.int .u8 k) := fun wx h => (blk_cell ((h.block _ (lt_blk hblk)).trans hblk) 0).trans rfl
    have z1 : ∀ wx, Below w1.heap.size w1 wx → wx.cell? ⟨w.heap.size, 1, none⟩ = some (.int .u64 g) := fun wx h => (blk_cell ((h.block _ (lt_blk hblk)).trans hblk) 1).trans rfl
    have z2 : ∀ wx, Below w1.heap.size w1 wx → wx.cell? ⟨w.heap.size, 2, none⟩ = some (.int .u64 s) := fun wx h => (blk_cell ((h.block _ (lt_blk hblk)).trans hblk) 2).trans rfl
    have zk : ∀ wx, Below w1.heap.size w1 wx → wx.cell? ⟨0, k, none⟩ = some (.string (KB k)) := fun wx h => (T1.move h).kind k (by omega)
    have HB2 := Aside0.mk hb2
    have hr : Below w1.heap.size w1 w1 := Below.refl _ _
    have hr2 : Below w1.heap.size w1 w1.drew := hr.drew
    have n1 : (ByteArray.mk (Lib.decDigits g).toArray).size ≤ 20 := by
      have := Lib.nDigits_le20 g hg
      rw [← Lib.decDigits_length] at this
      simpa [ByteArray.size] using this
    have n2 : (ByteArray.mk (Lib.decDigits s).toArray).size ≤ 20 := by
      have := Lib.nDigits_le20 s hs
      rw [← Lib.decDigits_length] at this
      simpa [ByteArray.size] using this
    have n0 := KB_size k
    have n3 : (ByteArray.mk #[32]).size = 1 := rfl
    have e4 : PTB k g s = KB k ++ ByteArray.mk #[32] ++ ByteArray.mk (Lib.decDigits g).toArray ++ ByteArray.mk #[32] ++ ByteArray.mk (Lib.decDigits s).toArray := by
      unfold PTB PT KB
      rw [if_pos ⟨h1, h2, h3⟩]
      apply ByteArray.ext
      simp [ByteArray.data_append]
    have a1 := add_runs (KB k) (ByteArray.mk #[32]) (by omega)
    have m1 : (KB k ++ ByteArray.mk #[32]).size ≤ 8 := by rw [ByteArray.size_append]; omega
    generalize KB k ++ ByteArray.mk #[32] = x1 at a1 m1 e4
    have a2 := add_runs x1 (ByteArray.mk (Lib.decDigits g).toArray) (by omega)
    have m2 : (x1 ++ ByteArray.mk (Lib.decDigits g).toArray).size ≤ 28 := by rw [ByteArray.size_append]; omega
    generalize x1 ++ ByteArray.mk (Lib.decDigits g).toArray = x2 at a2 m2 e4
    have a3 := add_runs x2 (ByteArray.mk #[32]) (by omega)
    have m3 : (x2 ++ ByteArray.mk #[32]).size ≤ 29 := by rw [ByteArray.size_append]; omega
    generalize x2 ++ ByteArray.mk #[32] = x3 at a3 m3 e4
    have a4 := add_runs x3 (ByteArray.mk (Lib.decDigits s).toArray) (by omega)
    rw [← e4] at a4
    generalize KB k = kb at a1 zk n0
    clear hb1 hb2 T1 hblk hkc HP e4 m1 m2 m3 n0 n1 n2 n3
    go_region_held3 (fun w' => Below w1.heap.size w1 w') (assumption) (first
      | (go_at_call 13; with_reducible refine (V0.out _ (by assumption)).mono ?_; rintro e w' ⟨rfl, hb⟩; have hs_ : Below w1.heap.size w1 w' := below_step (by assumption) hb; clear hb)
      | (go_at_call 13; with_reducible refine (V1.out _ (by assumption)).mono ?_; rintro e w' ⟨rfl, hb⟩; have hs_ : Below w1.heap.size w1 w' := below_step (by assumption) hb; clear hb))
    have hc := (show Below w1.heap.size w1 _ by assumption)
    have HE := Aside0.mk (HB2.out.trans (hc.mono HB2.out.size))
    clear hc hr hr2 z0 z1 z2 zk a1 a2 a3 a4
    go_wp2
    go_ret
    exact ⟨rfl, HE.out⟩
  · have hp : Own.word_Pack.f (k : Int) (g : Int) (s : Int) = some (0, 2) := by
      rw [pack_p (Int.natCast_nonneg _) (Int.natCast_nonneg _) (Int.natCast_nonneg _)]
      unfold pack
      rw [if_pos (by omega)]
    have e4 : PTB k g s = ⟨#[]⟩ := by unfold PTB; rw [if_neg hin]
    rw [e4]
    have HP := Lib.hid hp
    clear hp T hin
    go_enter Tryd.func8, Tryd.ntmps8
    go_wp2_with (go_at_call 6; refine (Own.word_Pack.calls _ _ _ _ _ _ HP.out).mono ?_; rintro e1 w1 ⟨rfl, hb1⟩; have HB1 := Aside0.mk (((Below.refl w.heap.size w).alloc (Nat.le_refl _) _).trans (hb1.mono (by rw [World.size_alloc]; omega))); clear hb1)
    go_ret
    exact ⟨rfl, HB1.out⟩
end Go.Proofs.YtkiofmbecjfanabDoor
