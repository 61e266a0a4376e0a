/- Rows of spans and events as lists: what a law's row hands to its walk. No condition. -/
import Derived.Test.YtfmhdfgliamkkabDoorOpenRows
import Derived.Test.YtfmhdfgliamkkabDoorOwnx0
import Derived.Test.YtfmhdfgliamkkabDoorHistSpec
namespace Go.Proofs.YtfmhdfgliamkkabDoor.OR
open Go.RowKit Go.WideShapes Go.ChangeShapes Go.Deep Go.Joins
open Go.Proofs.YtfmhdfgliamkkabDoorW.PrintWords Go.Proofs.YtfmhdfgliamkkabDoor.Own
instance : Inhabited S38 := ⟨z38⟩
instance : Inhabited S55 := ⟨z55⟩
def ok36 (x : S38) : Prop := (Lit.int .i64 x.f0).wf = true ∧ (Lit.int .i64 x.f1).wf = true ∧ (Lit.int .i64 x.f2).wf = true ∧ (Lit.int .i64 x.f3).wf = true
def ok33 (x : S55) : Prop := (Lit.int .i64 x.f0).wf = true ∧ (Lit.int .i64 x.f1).wf = true ∧ (Lit.int .i64 x.f2).wf = true
theorem cells36 : Tryd.prog.cellsOf 38 = 4 := by kernel_rfl
theorem cells33 : Tryd.prog.cellsOf 55 = 4 := by kernel_rfl
theorem cells3 : Tryd.prog.cellsOf 3 = 1 := by kernel_rfl
theorem cells4 : Tryd.prog.cellsOf 4 = 1 := by kernel_rfl
theorem bytes36 : Tryd.prog.bytesOf 38 = 32 := by kernel_rfl
theorem bytes33 : Tryd.prog.bytesOf 55 = 32 := by kernel_rfl
theorem bytes3 : Tryd.prog.bytesOf 3 = 8 := by kernel_rfl
theorem bytes4 : Tryd.prog.bytesOf 4 = 1 := by kernel_rfl
section
variable {H : Type} {enc : TypeId × Value → H} {w : World} {base : Nat} {held : Bool}
set_option maxRecDepth 100000 in
theorem dec36 : Decodes enc Tryd.prog w base held 38 k38 ok36 := by
  intro n cs y h hl
  obtain ⟨y0, y1, y2, y3, m, _, _, h0, h1, h2, h3⟩ := trod_struct4 Tryd.underlying38 h
  have hl4 : cs.length = 4 := hl
  match cs, hl4 with
  | [c0, c1, c2, c3], _ =>
    simp only [cells3, List.drop_zero, List.drop_succ_cons, List.take_succ_cons, List.take_zero] at h0 h1 h2 h3
    obtain ⟨a0, e0, _, w0⟩ := DataW.trod_int Tryd.underlying3 h0
    obtain ⟨a1, e1, _, w1⟩ := DataW.trod_int Tryd.underlying3 h1
    obtain ⟨a2, e2, _, w2⟩ := DataW.trod_int Tryd.underlying3 h2
    obtain ⟨a3, e3, _, w3⟩ := DataW.trod_int Tryd.underlying3 h3
    simp only [List.cons.injEq, and_true] at e0 e1 e2 e3
    subst e0 e1 e2 e3
    exact ⟨⟨a0, a1, a2, a3⟩, ⟨w0, w1, w2, w3⟩, k38_mk _ _⟩
theorem trod_bool {e : TypeId} {P : Program} {n : Nat} {c : Value} {y : DataW H × List MemPlace} {sp : Nat → Bool} (he : P.underlying e = some .bool) (h : DataW.trod enc P w base sp held n e [c] = some y) : ∃ b, c = .bool b := by
  cases n with
  | zero => simp [DataW.trod] at h
  | succ n =>
    unfold DataW.trod at h
    rw [he] at h
    cases c <;> simp at h
    exact ⟨_, rfl⟩
set_option maxRecDepth 100000 in
theorem dec33 : Decodes enc Tryd.prog w base held 55 k55 ok33 := by
  intro n cs y h hl
  obtain ⟨y0, y1, y2, y3, m, _, _, h0, h1, h2, h3⟩ := trod_struct4 Tryd.underlying55 h
  have hl4 : cs.length = 4 := hl
  match cs, hl4 with
  | [c0, c1, c2, c3], _ =>
    simp only [cells3, cells4, List.drop_zero, List.drop_succ_cons, List.take_succ_cons, List.take_zero] at h0 h1 h2 h3
    obtain ⟨a0, e0, _, w0⟩ := DataW.trod_int Tryd.underlying3 h0
    obtain ⟨a1, e1, _, w1⟩ := DataW.trod_int Tryd.underlying3 h1
    obtain ⟨a2, e2, _, w2⟩ := DataW.trod_int Tryd.underlying3 h2
    obtain ⟨a3, rfl⟩ := trod_bool Tryd.underlying4 h3
    simp only [List.cons.injEq, and_true] at e0 e1 e2
    subst e0 e1 e2
    exact ⟨⟨a0, a1, a2, a3⟩, ⟨w0, w1, w2⟩, k55_mk _ _⟩
theorem fit_of {n : Int} (h : (Lit.int .i64 n).wf = true) : fit n = true := by
  obtain ⟨h1, h2⟩ := bounds_i64 h
  simp [fit, h1, h2]
theorem fits36 {l : List S38} (h : ∀ x ∈ l, ok36 x) : l.all fit36 = true :=
  List.all_eq_true.2 fun x hx => by
    obtain ⟨h0, _, h2, h3⟩ := h x hx
    simp [fit36, fit_of h0, fit_of h2, fit_of h3]
theorem fits33 {l : List S55} (h : ∀ x ∈ l, ok33 x) : l.all (fun e => fit e.f1) = true :=
  List.all_eq_true.2 fun x hx => fit_of (h x hx).2.1
end
theorem laidOut : laidOutB Tryd.prog = true := by kernel_rfl
end Go.Proofs.YtfmhdfgliamkkabDoor.OR
