/- An argument that is a slice reads as a list of plain elements: what a law's row hands to its walk. Plain laws over any program. No condition. -/
import Derived.Test.YtndgfpfcdppfgaaGreatDoorWMore
import Derived.Deep.Slices
import Derived.SizedLaws
import Derived.WideShapes
import Derived.OpenShut
import Derived.Lib.SmallJoins
namespace Go.Proofs.YtndgfpfcdppfgaaGreatDoor.OR
open Go.RowKit Go.WideShapes Go.ChangeShapes Go.Deep Go.Joins
open Go.Proofs.YtndgfpfcdppfgaaGreatDoorW.PrintWords
section
variable {H : Type} {enc : TypeId × Value → H} {P : Program} {w : World} {base : Nat} {held : Bool} {α : Type}
/-- The elements' reading: what cells of type e read as, as a plain value. -/
def Decodes (enc : TypeId × Value → H) (P : Program) (w : World) (base : Nat) (held : Bool) (e : TypeId) (d : Kd α) (ok : α → Prop) : Prop :=
  ∀ n cs y, DataW.trod enc P w base (fun _ => true) held n e cs = some y → cs.length = d.sz → ∃ a : α, ok a ∧ d.K w a cs

/-- A slice that came in, opened. -/
theorem open_rows [Inhabited α] {d : Kd α} {ok : α → Prop} {r : Reach} {b0 : Nat} {t e : TypeId} {v : Value} {D : DataW H} {p : List MemPlace} {ts : List TypeId} {ds : List (DataW H)} {j : Nat} {B : Nat}
    (ht : P.underlying t = some (.slice e)) (hsz : P.cellsOf e = d.sz) (hB : P.bytesOf e = B) (hv : Value.okWide P w r b0 t v) (hdec : Decodes enc P w base held e d ok)
    (hreach : (DataW.weightsEach P ts ds).all (· ≤ reachBytes) = true) (hj : ts[j]? = some t) (hd : ds[j]? = some D)
    (h : DataW.Trod enc P w base (fun _ => true) held t v D p) :
    ∃ (A : Option Addr) (cap : Nat) (l : List α), v = .slice A l.length cap ∧ l.length ≤ cap ∧ d.C w A l.length l ∧ (∀ x ∈ l, ok x) ∧ l.length * B ≤ 140737488351232 := by
  obtain ⟨a0, len, cap, rfl⟩ := okWide_slice ht hv
  obtain ⟨fuel, hf⟩ := h
  rcases open_slice ht hf with ⟨hcs, _⟩ | ⟨a, len', cap', m, n, F, Pl, hcs, _, hl, hm, hmm, hx, hi⟩
  · simp [Value.cells] at hcs
    obtain ⟨rfl, rfl, rfl⟩ := hcs
    exact ⟨none, 0, [], rfl, Nat.le_refl _, ⟨rfl, by simp, fun h => absurd h (by simp)⟩, fun x hx => by simp at hx, by simp⟩
  · simp [Value.cells] at hcs
    obtain ⟨rfl, rfl, rfl⟩ := hcs
    have hmc : m = cap := by simpa using hmm
    subst hmc
    obtain ⟨f, hfx⟩ := choose_lt (α := α) (n := m) (p := fun i x => ok x ∧ ∃ cs, cs.length = d.sz ∧ d.K w x cs ∧ ∀ q u, cs[q]? = some u → w.cell? (a.add (i * d.sz + q)) = some u) (fun i him => by
      obtain ⟨cs', hc, htr⟩ := hi i him
      rw [hsz] at hc
      obtain ⟨_, hcl, hat⟩ := World.cells?_some hc
      obtain ⟨x, hok, hK⟩ := hdec n cs' _ htr hcl
      refine ⟨x, hok, cs', hcl, hK, fun q u hq => ?_⟩
      have hq' : q < d.sz := by rw [← hcl]; exact (List.getElem?_eq_some_iff.1 hq).1
      rw [← hq, ← hat q hq', Go.Deep.add_add])
    have hml : len ≤ 9223372036854775807 := by simp only [maxLen] at hm; omega
    have hll : ((List.range len).map f).length = len := by simp
    refine ⟨some a, m, (List.range len).map f, by rw [hll], by rw [hll]; exact hl, ?_, ?_, ?_⟩
    · rw [hll]
      refine ⟨hll, hml, fun _ => ⟨a, rfl, fun q x hq => ?_⟩⟩
      have hql : q < len := by have := (List.getElem?_eq_some_iff.1 hq).1; simpa using this
      have hxe : x = f q := by
        rw [List.getElem?_map, List.getElem?_range hql] at hq
        exact (Option.some.inj hq).symm
      subst hxe
      exact (hfx q (by omega)).2
    · intro x hx
      obtain ⟨i, hi, rfl⟩ := List.mem_map.1 hx
      exact (hfx i (by have := List.mem_range.1 hi; omega)).1
    · rw [hll]
      have hD := congrArg Prod.fst hx
      simp only at hD
      rw [hD] at hd
      have z := sized_slice hreach hj hd ht
      rw [hB] at z
      have h1 : ((List.range len).map F).length + ((List.range (m - len)).map fun j => F (len + j)).length = m := by simp; omega
      rw [h1] at z
      exact Nat.le_trans (Nat.mul_le_mul_right _ hl) z
theorem dec_int {e : TypeId} {k : IntKind} (he : P.underlying e = some (.int k)) : Decodes enc P w base held e (Kd.int k) (fun x => (Lit.int k x).wf = true) := by
  intro n cs y h hl
  match cs, hl with
  | [c], _ =>
    obtain ⟨a, e0, _, wa⟩ := DataW.trod_int he h
    simp only [List.cons.injEq, and_true] at e0
    subst e0
    exact ⟨a, wa, rfl⟩
theorem dec_bool {e : TypeId} (he : P.underlying e = some .bool) : Decodes enc P w base held e Kd.bool (fun _ => True) := by
  intro n cs y h hl
  match cs, hl with
  | [c], _ =>
    cases n with
    | zero => simp [DataW.trod] at h
    | succ n =>
      unfold DataW.trod at h
      rw [he] at h
      cases c <;> simp at h
      exact ⟨_, trivial, rfl⟩
end
end Go.Proofs.YtndgfpfcdppfgaaGreatDoor.OR
