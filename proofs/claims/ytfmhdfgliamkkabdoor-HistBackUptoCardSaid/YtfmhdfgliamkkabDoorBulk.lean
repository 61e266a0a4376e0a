/- A slice that came in reads as a list no longer than its bulk. No condition. -/
import Derived.Test.YtfmhdfgliamkkabDoorHistRowKit
import Derived.Test.YtfmhdfgliamkkabDoorRows
namespace Go.Proofs.YtfmhdfgliamkkabDoor.OR
open Go.RowKit Go.WideShapes Go.ChangeShapes Go.Deep Go.Joins
open Go.Proofs.YtfmhdfgliamkkabDoorW.PrintWords
theorem bulk_pos {H : Type} (d : DataW H) : 1 ≤ Rows.uptoBulk d := by
  cases d with
  | lit l => cases l <;> simp [Rows.uptoBulk]
  | _ => simp [Rows.uptoBulk]
theorem bulk_all {H : Type} : ∀ (l : List (DataW H)), l.length ≤ Rows.uptoBulkAll l
  | [] => Nat.zero_le _
  | d :: r => by
    have h1 := bulk_pos d
    have h2 := bulk_all r
    simp only [Rows.uptoBulkAll, List.length_cons]
    omega
theorem open_rows_b {H : Type} {enc : TypeId × Value → H} {P : Program} {w : World} {base : Nat} {held : Bool} {α : Type} [Inhabited α] {d : Kd α} {ok : α → Prop} {r : Reach} {b0 : Nat} {t e : TypeId} {v : Value} {D : DataW H} {p : List MemPlace}
    (ht : P.underlying t = some (.slice e)) (hsz : P.cellsOf e = d.sz) (hv : Value.okWide P w r b0 t v) (hdec : Decodes enc P w base held e d ok)
    (h : DataW.Trod enc P w base (fun _ => true) held t v D p) :
    ∃ (A : Option Addr) (cap : Nat) (l : List α), v = .slice A l.length cap ∧ l.length ≤ cap ∧ d.C w A l.length l ∧ (∀ x ∈ l, ok x) ∧ l.length ≤ Rows.uptoBulk D := by
  obtain ⟨a0, len, cap, rfl⟩ := okWide_slice ht hv
  obtain ⟨fuel, hf⟩ := h
  rcases open_slice ht hf with ⟨hcs, _⟩ | ⟨a, len', cap', m, n, F, Pl, hcs, _, hl, hm, hmm, hx, hi⟩
  · simp [Value.cells] at hcs
    obtain ⟨rfl, rfl, rfl⟩ := hcs
    exact ⟨none, 0, [], rfl, Nat.le_refl _, ⟨rfl, by simp, fun h => absurd h (by simp)⟩, fun x hx => by simp at hx, by simp⟩
  · simp [Value.cells] at hcs
    obtain ⟨rfl, rfl, rfl⟩ := hcs
    have hmc : m = cap := by simpa using hmm
    subst hmc
    obtain ⟨f, hfx⟩ := choose_lt (α := α) (n := m) (p := fun i x => ok x ∧ ∃ cs, cs.length = d.sz ∧ d.K w x cs ∧ ∀ q u, cs[q]? = some u → w.cell? (a.add (i * d.sz + q)) = some u) (fun i him => by
      obtain ⟨cs', hc, htr⟩ := hi i him
      rw [hsz] at hc
      obtain ⟨_, hcl, hat⟩ := World.cells?_some hc
      obtain ⟨x, hok, hK⟩ := hdec n cs' _ htr hcl
      refine ⟨x, hok, cs', hcl, hK, fun q u hq => ?_⟩
      have hq' : q < d.sz := by rw [← hcl]; exact (List.getElem?_eq_some_iff.1 hq).1
      rw [← hq, ← hat q hq', Go.Deep.add_add])
    have hml : len ≤ 9223372036854775807 := by simp only [maxLen] at hm; omega
    have hll : ((List.range len).map f).length = len := by simp
    refine ⟨some a, m, (List.range len).map f, by rw [hll], by rw [hll]; exact hl, ?_, ?_, ?_⟩
    · rw [hll]
      refine ⟨hll, hml, fun _ => ⟨a, rfl, fun q x hq => ?_⟩⟩
      have hql : q < len := by have := (List.getElem?_eq_some_iff.1 hq).1; simpa using this
      have hxe : x = f q := by
        rw [List.getElem?_map, List.getElem?_range hql] at hq
        exact (Option.some.inj hq).symm
      subst hxe
      exact (hfx q (by omega)).2
    · intro x hx
      obtain ⟨i, hi, rfl⟩ := List.mem_map.1 hx
      exact (hfx i (by have := List.mem_range.1 hi; omega)).1
    · rw [hll]
      have hD := congrArg Prod.fst hx
      simp only at hD
      rw [hD]
      have h1 := bulk_all ((List.range len).map F)
      rw [List.length_map, List.length_range] at h1
      simp only [Rows.uptoBulk]
      omega
end Go.Proofs.YtfmhdfgliamkkabDoor.OR
