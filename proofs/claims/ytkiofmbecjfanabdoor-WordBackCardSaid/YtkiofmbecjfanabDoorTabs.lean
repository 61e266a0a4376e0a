/- What the listed variables hold, as the word layer's walks ask it, and that it lasts. No condition. -/
import Derived.Test.YtkiofmbecjfanabDoorFmtU
import Derived.LaidLaws
import Derived.Stop.LaidErr
namespace Go.Proofs.YtkiofmbecjfanabDoor
open Go.RowKit Go.Lib

/-- The words of the kinds. -/
def KL : Nat → List UInt8
  | 0 => [102, 114, 101, 101]
  | 1 => [99, 108, 97, 105, 109, 101, 100]
  | 2 => [101, 97, 114, 108, 121]
  | _ => [101, 120, 97, 99, 116]
def KB (k : Nat) : ByteArray := ⟨(KL k).toArray⟩

theorem var_move {P : Program} {name : String} {cs : Array Value} {w w' : World} (h : w.var? P name = some cs) (hb : Below w.heap.size w w') : w'.var? P name = some cs := by
  unfold World.var? at *
  cases hg : P.globalNamed name with
  | none => simp [hg] at h
  | some g =>
    simp only [hg, Option.bind_some] at h ⊢
    have hlt : g < w.heap.size := by
      rcases Nat.lt_or_ge g w.heap.size with h' | h'
      · exact h'
      · rw [Array.getElem?_eq_none h'] at h; simp at h
    rw [hb.block g hlt]
    exact h

structure Tabs (w : World) : Prop where
  pow : Lib.TabIs Tryd.prog w "internal/strconv.uint64pow10" .u64 Lib.pow10Tab
  kinds : w.var? Tryd.prog "shutter/word.kinds" = some #[.string (KB 0), .string (KB 1), .string (KB 2), .string (KB 3)]
  syn : ∃ tp p, w.var? Tryd.prog "strconv.ErrSyntax" = some #[.iface tp p]
  rng : ∃ tp p, w.var? Tryd.prog "strconv.ErrRange" = some #[.iface tp p]
  max : ∃ m, w.cell? ⟨4, 0, none⟩ = some (.int .i64 m)

theorem Tabs.move {w w' : World} (h : Tabs w) (hb : Below w.heap.size w w') : Tabs w' := by
  refine ⟨var_move h.pow hb, var_move h.kinds hb, ?_, ?_, ?_⟩
  · obtain ⟨tp, p, h1⟩ := h.syn
    exact ⟨tp, p, var_move h1 hb⟩
  · obtain ⟨tp, p, h1⟩ := h.rng
    exact ⟨tp, p, var_move h1 hb⟩
  · obtain ⟨m, h1⟩ := h.max
    exact ⟨m, (hb.cell (World.block_lt_of_cell? _ _ h1)).trans h1⟩

theorem gKinds : Tryd.prog.globalNamed "shutter/word.kinds" = some 0 := by kernel_rfl
theorem Tabs.kind {w : World} (h : Tabs w) (k : Nat) (hk : k < 4) : w.cell? ⟨0, k, none⟩ = some (.string (KB k)) := by
  have := World.var?_cell gKinds h.kinds k
  rw [this]
  match k, hk with
  | 0, _ => rfl
  | 1, _ => rfl
  | 2, _ => rfl
  | 3, _ => rfl
  | n + 4, h => exact absurd h (by omega)
end Go.Proofs.YtkiofmbecjfanabDoor
