/- A result that came in reads as three lists of plain elements: what ProgressOwn's row hands to its walk. No condition. -/
import Derived.Test.YtncdajjmaabcnaaOpenRows
import Derived.Test.YtncdajjmaabcnaaOwnx0
import Derived.Lib.SmallJoins
namespace Go.Proofs.Ytncdajjmaabcnaa.OR
open Go.RowKit Go.WideShapes Go.ChangeShapes Go.Deep Go.Joins
open Go.Proofs.YtncdajjmaabcnaaW.PrintWords Go.Proofs.Ytncdajjmaabcnaa.Own
set_option linter.unusedVariables false
set_option linter.unusedSimpArgs false
instance : Inhabited S52 := ⟨z52⟩
instance : Inhabited S54 := ⟨z54⟩
instance : Inhabited S57 := ⟨z57⟩
instance : Inhabited S90 := ⟨z90⟩
instance : Inhabited S61 := ⟨z61⟩
instance : Inhabited S63 := ⟨z63⟩
instance : Inhabited S66 := ⟨z66⟩
section
variable {H : Type} {enc : TypeId × Value → H} {P : Program} {w : World} {base : Nat} {held : Bool} {α : Type}
/-- A slice that lies in a cell, opened. -/
theorem slice_cell [Inhabited α] {d : Kd α} {ok : α → Prop} {t e : TypeId} {c : Value} {n : Nat} {y : DataW H × List MemPlace}
    (ht : P.underlying t = some (.slice e)) (hsz : P.cellsOf e = d.sz) (hdec : Decodes enc P w base held e d ok)
    (hf : DataW.trod enc P w base (fun _ => true) held n t [c] = some y) :
    ∃ (A : Option Addr) (cap : Nat) (l : List α), c = .slice A l.length cap ∧ l.length ≤ cap ∧ d.C w A l.length l ∧ (∀ x ∈ l, ok x) ∧
      (l.length = 0 ∨ ∃ E S, y.1 = .slice E S ∧ l.length ≤ E.length + S.length) := by
  rcases open_slice ht hf with ⟨hcs, hy⟩ | ⟨a, len', cap', m, n, F, Pl, hcs, _, hl, hm, hmm, hx, hi⟩
  · simp at hcs
    subst hcs
    exact ⟨none, 0, [], rfl, Nat.le_refl _, ⟨rfl, by simp, fun h => absurd h (by simp)⟩, fun x hx => by simp at hx, Or.inl rfl⟩
  · simp at hcs
    subst hcs
    have hmc : m = cap' := by simpa using hmm
    subst hmc
    obtain ⟨f, hfx⟩ := choose_lt (α := α) (n := m) (p := fun i x => ok x ∧ ∃ cs, cs.length = d.sz ∧ d.K w x cs ∧ ∀ q u, cs[q]? = some u → w.cell? (a.add (i * d.sz + q)) = some u) (fun i him => by
      obtain ⟨cs', hc, htr⟩ := hi i him
      rw [hsz] at hc
      obtain ⟨_, hcl, hat⟩ := World.cells?_some hc
      obtain ⟨x, hok, hK⟩ := hdec n cs' _ htr hcl
      refine ⟨x, hok, cs', hcl, hK, fun q u hq => ?_⟩
      have hq' : q < d.sz := by rw [← hcl]; exact (List.getElem?_eq_some_iff.1 hq).1
      rw [← hq, ← hat q hq', Go.Deep.add_add])
    have hml : len' ≤ 9223372036854775807 := by simp only [maxLen] at hm; omega
    have hll : ((List.range len').map f).length = len' := by simp
    refine ⟨some a, m, (List.range len').map f, by rw [hll], by rw [hll]; exact hl, ?_, ?_, ?_⟩
    · rw [hll]
      refine ⟨hll, hml, fun _ => ⟨a, rfl, fun q x hq => ?_⟩⟩
      have hql : q < len' := by have := (List.getElem?_eq_some_iff.1 hq).1; simpa using this
      have hxe : x = f q := by
        rw [List.getElem?_map, List.getElem?_range hql] at hq
        exact (Option.some.inj hq).symm
      subst hxe
      exact (hfx q (by omega)).2
    · intro x hx
      obtain ⟨i, hi, rfl⟩ := List.mem_map.1 hx
      exact (hfx i (by have := List.mem_range.1 hi; omega)).1
    · rw [hll, hx]
      exact Or.inr ⟨_, _, rfl, by simp⟩
theorem int_cell {t : TypeId} {k : IntKind} {c : Value} {n : Nat} {y : DataW H × List MemPlace} (ht : P.underlying t = some (.int k)) (h : DataW.trod enc P w base (fun _ => true) held n t [c] = some y) : ∃ a : Int, c = .int k a ∧ (Lit.int k a).wf = true := by
  obtain ⟨a, e0, _, wa⟩ := DataW.trod_int ht h
  simp only [List.cons.injEq, and_true] at e0
  exact ⟨a, e0, wa⟩
theorem bool_cell {e : TypeId} {n : Nat} {c : Value} {y : DataW H × List MemPlace} (he : P.underlying e = some .bool) (h : DataW.trod enc P w base (fun _ => true) held n e [c] = some y) : ∃ b, c = .bool b := by
  cases n with
  | zero => simp [DataW.trod] at h
  | succ n =>
    unfold DataW.trod at h
    rw [he] at h
    cases c <;> simp at h
    exact ⟨_, rfl⟩
end
theorem cells3 : Try.prog.cellsOf 3 = 1 := by kernel_rfl
theorem cells4 : Try.prog.cellsOf 4 = 1 := by kernel_rfl
theorem cells24 : Try.prog.cellsOf 24 = 1 := by kernel_rfl
theorem cells27 : Try.prog.cellsOf 27 = 1 := by kernel_rfl
theorem cells58 : Try.prog.cellsOf 58 = 1 := by kernel_rfl
theorem cells64 : Try.prog.cellsOf 64 = 1 := by kernel_rfl
theorem cells55 : Try.prog.cellsOf 55 = 1 := by kernel_rfl
theorem cells59 : Try.prog.cellsOf 59 = 1 := by kernel_rfl
theorem cells34 : Try.prog.cellsOf 34 = 1 := by kernel_rfl
theorem cells35 : Try.prog.cellsOf 35 = 1 := by kernel_rfl
theorem cells36 : Try.prog.cellsOf 36 = 1 := by kernel_rfl
theorem cells52 : Try.prog.cellsOf 52 = 4 := by kernel_rfl
theorem cells54 : Try.prog.cellsOf 54 = 3 := by kernel_rfl
theorem cells57 : Try.prog.cellsOf 57 = 11 := by kernel_rfl
theorem cells90 : Try.prog.cellsOf 90 = 2 := by kernel_rfl
theorem cells61 : Try.prog.cellsOf 61 = 7 := by kernel_rfl
theorem cells63 : Try.prog.cellsOf 63 = 22 := by kernel_rfl
theorem cells66 : Try.prog.cellsOf 66 = 8 := by kernel_rfl
theorem cells38 : Try.prog.cellsOf 38 = 3 := by kernel_rfl
section
variable {H : Type} {enc : TypeId × Value → H} {w : World} {base : Nat} {held : Bool}
set_option maxRecDepth 100000 in
theorem dec52 : Decodes enc Try.prog w base held 52 k52 (fun x => (Lit.int .i64 x.f3).wf = true) := by
  intro n cs y h hl
  obtain ⟨xs, m, _, _, _, hlen, hg⟩ := DataW.trod_struct Try.underlying52 h
  have hls : cs.length = 4 := hl
  have hlx : xs.length = 4 := hlen
  match cs, hls, xs, hlx, hg with
  | [c0, c1, c2, c3], _, [y0, y1, y2, y3], _, hg =>
    have h0 : DataW.trod enc _ w base _ held m _ _ = some y0 := hg 0 _ rfl
    have h1 : DataW.trod enc _ w base _ held m _ _ = some y1 := hg 1 _ rfl
    have h2 : DataW.trod enc _ w base _ held m _ _ = some y2 := hg 2 _ rfl
    have h3 : DataW.trod enc _ w base _ held m _ _ = some y3 := hg 3 _ rfl
    simp only [List.getElem_toArray, List.getElem_cons_zero, List.getElem_cons_succ, cells3, cells4, cells24, cells27, cells58, cells64, cells55, cells59, cells52, cells54, cells57, cells90, cells61, List.drop_zero, List.drop_succ_cons, List.take_succ_cons, List.take_zero] at h0 h1 h2 h3
    obtain ⟨a0, rfl, w0⟩ := int_cell Try.underlying3 h0
    obtain ⟨a1, rfl, w1⟩ := int_cell Try.underlying3 h1
    obtain ⟨a2, rfl, w2⟩ := int_cell Try.underlying3 h2
    obtain ⟨a3, rfl, w3⟩ := int_cell Try.underlying3 h3
    exact ⟨⟨a0, a1, a2, a3⟩, w3, k52_mk _ _⟩
set_option maxRecDepth 100000 in
theorem dec54 : Decodes enc Try.prog w base held 54 k54 (fun _ => True) := by
  intro n cs y h hl
  obtain ⟨xs, m, _, _, _, hlen, hg⟩ := DataW.trod_struct Try.underlying54 h
  have hls : cs.length = 3 := hl
  have hlx : xs.length = 3 := hlen
  match cs, hls, xs, hlx, hg with
  | [c0, c1, c2], _, [y0, y1, y2], _, hg =>
    have h0 : DataW.trod enc _ w base _ held m _ _ = some y0 := hg 0 _ rfl
    have h1 : DataW.trod enc _ w base _ held m _ _ = some y1 := hg 1 _ rfl
    have h2 : DataW.trod enc _ w base _ held m _ _ = some y2 := hg 2 _ rfl
    simp only [List.getElem_toArray, List.getElem_cons_zero, List.getElem_cons_succ, cells3, cells4, cells24, cells27, cells58, cells64, cells55, cells59, cells52, cells54, cells57, cells90, cells61, List.drop_zero, List.drop_succ_cons, List.take_succ_cons, List.take_zero] at h0 h1 h2
    obtain ⟨a0, rfl⟩ := bool_cell Try.underlying4 h0
    obtain ⟨a1, rfl, w1⟩ := int_cell Try.underlying3 h1
    obtain ⟨a2, rfl, w2⟩ := int_cell Try.underlying3 h2
    exact ⟨⟨a0, a1, a2⟩, trivial, k54_mk _ _⟩
set_option maxRecDepth 100000 in
theorem dec90 : Decodes enc Try.prog w base held 90 k90 (fun _ => True) := by
  intro n cs y h hl
  obtain ⟨xs, m, _, _, _, hlen, hg⟩ := DataW.trod_struct Try.underlying90 h
  have hls : cs.length = 2 := hl
  have hlx : xs.length = 2 := hlen
  match cs, hls, xs, hlx, hg with
  | [c0, c1], _, [y0, y1], _, hg =>
    have h0 : DataW.trod enc _ w base _ held m _ _ = some y0 := hg 0 _ rfl
    have h1 : DataW.trod enc _ w base _ held m _ _ = some y1 := hg 1 _ rfl
    simp only [List.getElem_toArray, List.getElem_cons_zero, List.getElem_cons_succ, cells3, cells4, cells24, cells27, cells58, cells64, cells55, cells59, cells52, cells54, cells57, cells90, cells61, List.drop_zero, List.drop_succ_cons, List.take_succ_cons, List.take_zero] at h0 h1
    obtain ⟨a0, rfl, w0⟩ := int_cell Try.underlying24 h0
    obtain ⟨a1, rfl, w1⟩ := int_cell Try.underlying24 h1
    exact ⟨⟨a0, a1⟩, trivial, k90_mk _ _⟩
set_option maxRecDepth 100000 in
theorem dec57 : Decodes enc Try.prog w base held 57 k57 (fun _ => True) := by
  intro n cs y h hl
  obtain ⟨xs, m, _, _, _, hlen, hg⟩ := DataW.trod_struct Try.underlying57 h
  have hls : cs.length = 11 := hl
  have hlx : xs.length = 9 := hlen
  match cs, hls, xs, hlx, hg with
  | [c0, c1, c2, c3, c4, c5, c6, c7, c8, c9, c10], _, [y0, y1, y2, y3, y4, y5, y6, y7, y8], _, hg =>
    have h0 : DataW.trod enc _ w base _ held m _ _ = some y0 := hg 0 _ rfl
    have h1 : DataW.trod enc _ w base _ held m _ _ = some y1 := hg 1 _ rfl
    have h2 : DataW.trod enc _ w base _ held m _ _ = some y2 := hg 2 _ rfl
    have h3 : DataW.trod enc _ w base _ held m _ _ = some y3 := hg 3 _ rfl
    have h4 : DataW.trod enc _ w base _ held m _ _ = some y4 := hg 4 _ rfl
    have h5 : DataW.trod enc _ w base _ held m _ _ = some y5 := hg 5 _ rfl
    have h6 : DataW.trod enc _ w base _ held m _ _ = some y6 := hg 6 _ rfl
    have h7 : DataW.trod enc _ w base _ held m _ _ = some y7 := hg 7 _ rfl
    have h8 : DataW.trod enc _ w base _ held m _ _ = some y8 := hg 8 _ rfl
    simp only [List.getElem_toArray, List.getElem_cons_zero, List.getElem_cons_succ, cells3, cells4, cells24, cells27, cells58, cells64, cells55, cells59, cells52, cells54, cells57, cells90, cells61, List.drop_zero, List.drop_succ_cons, List.take_succ_cons, List.take_zero] at h0 h1 h2 h3 h4 h5 h6 h7 h8
    obtain ⟨a0, rfl, w0⟩ := int_cell Try.underlying27 h0
    obtain ⟨a1, rfl, w1⟩ := int_cell Try.underlying24 h1
    obtain ⟨a2, rfl, w2⟩ := int_cell Try.underlying24 h2
    obtain ⟨a3, rfl, w3⟩ := int_cell Try.underlying24 h3
    obtain ⟨a4, rfl, w4⟩ := int_cell Try.underlying24 h4
    obtain ⟨a5, w5, K5⟩ := dec54 _ _ _ h5 rfl
    obtain ⟨A6, p6, a6, rfl, l6, g6, _, _⟩ := slice_cell (d := (Kd.int .u64)) (ok := (fun x => (Lit.int .u64 x).wf = true)) Try.underlying55 cells24 (dec_int Try.underlying24) h6
    obtain ⟨a7, rfl, w7⟩ := int_cell Try.underlying24 h7
    obtain ⟨a8, rfl, w8⟩ := int_cell Try.underlying24 h8
    have e5 := k54_open K5
    simp only [List.cons.injEq, and_true] at e5
    obtain ⟨rfl, rfl, rfl⟩ := e5
    exact ⟨⟨a0, a1, a2, a3, a4, a5, a6, a7, a8⟩, trivial, k57_mk _ _ l6 g6⟩
set_option maxRecDepth 100000 in
theorem dec61 : Decodes enc Try.prog w base held 61 k61 (fun _ => True) := by
  intro n cs y h hl
  obtain ⟨xs, m, _, _, _, hlen, hg⟩ := DataW.trod_struct Try.underlying61 h
  have hls : cs.length = 7 := hl
  have hlx : xs.length = 7 := hlen
  match cs, hls, xs, hlx, hg with
  | [c0, c1, c2, c3, c4, c5, c6], _, [y0, y1, y2, y3, y4, y5, y6], _, hg =>
    have h0 : DataW.trod enc _ w base _ held m _ _ = some y0 := hg 0 _ rfl
    have h1 : DataW.trod enc _ w base _ held m _ _ = some y1 := hg 1 _ rfl
    have h2 : DataW.trod enc _ w base _ held m _ _ = some y2 := hg 2 _ rfl
    have h3 : DataW.trod enc _ w base _ held m _ _ = some y3 := hg 3 _ rfl
    have h4 : DataW.trod enc _ w base _ held m _ _ = some y4 := hg 4 _ rfl
    have h5 : DataW.trod enc _ w base _ held m _ _ = some y5 := hg 5 _ rfl
    have h6 : DataW.trod enc _ w base _ held m _ _ = some y6 := hg 6 _ rfl
    simp only [List.getElem_toArray, List.getElem_cons_zero, List.getElem_cons_succ, cells3, cells4, cells24, cells27, cells58, cells64, cells55, cells59, cells52, cells54, cells57, cells90, cells61, List.drop_zero, List.drop_succ_cons, List.take_succ_cons, List.take_zero] at h0 h1 h2 h3 h4 h5 h6
    obtain ⟨a0, rfl, w0⟩ := int_cell Try.underlying58 h0
    obtain ⟨a1, rfl⟩ := bool_cell Try.underlying4 h1
    obtain ⟨a2, rfl, w2⟩ := int_cell Try.underlying24 h2
    obtain ⟨a3, rfl⟩ := bool_cell Try.underlying4 h3
    obtain ⟨a4, rfl, w4⟩ := int_cell Try.underlying24 h4
    obtain ⟨A5, p5, a5, rfl, l5, g5, _, _⟩ := slice_cell (d := k90) (ok := (fun _ => True)) Try.underlying59 cells90 dec90 h5
    obtain ⟨a6, rfl, w6⟩ := int_cell Try.underlying24 h6
    exact ⟨⟨a0, a1, a2, a3, a4, a5, a6⟩, trivial, k61_mk _ _ l5 g5⟩
set_option maxRecDepth 100000 in
theorem dec63 : Decodes enc Try.prog w base held 63 k63 (fun x => (Lit.int .i64 x.f0.f3).wf = true) := by
  intro n cs y h hl
  obtain ⟨xs, m, _, _, _, hlen, hg⟩ := DataW.trod_struct Try.underlying63 h
  have hls : cs.length = 22 := hl
  have hlx : xs.length = 3 := hlen
  match cs, hls, xs, hlx, hg with
  | [c0, c1, c2, c3, c4, c5, c6, c7, c8, c9, c10, c11, c12, c13, c14, c15, c16, c17, c18, c19, c20, c21], _, [y0, y1, y2], _, hg =>
    have h0 : DataW.trod enc _ w base _ held m _ _ = some y0 := hg 0 _ rfl
    have h1 : DataW.trod enc _ w base _ held m _ _ = some y1 := hg 1 _ rfl
    have h2 : DataW.trod enc _ w base _ held m _ _ = some y2 := hg 2 _ rfl
    simp only [List.getElem_toArray, List.getElem_cons_zero, List.getElem_cons_succ, cells3, cells4, cells24, cells27, cells58, cells64, cells55, cells59, cells52, cells54, cells57, cells90, cells61, List.drop_zero, List.drop_succ_cons, List.take_succ_cons, List.take_zero] at h0 h1 h2
    obtain ⟨a0, w0, K0⟩ := dec52 _ _ _ h0 rfl
    obtain ⟨a1, w1, K1⟩ := dec57 _ _ _ h1 rfl
    obtain ⟨a2, w2, K2⟩ := dec61 _ _ _ h2 rfl
    exact ⟨⟨a0, a1, a2⟩, w0, ⟨[c0, c1, c2, c3], [c4, c5, c6, c7, c8, c9, c10, c11, c12, c13, c14, c15, c16, c17, c18, c19, c20, c21], rfl, K0, [c4, c5, c6, c7, c8, c9, c10, c11, c12, c13, c14], [c15, c16, c17, c18, c19, c20, c21], rfl, K1, K2⟩⟩
set_option maxRecDepth 100000 in
theorem dec66 : Decodes enc Try.prog w base held 66 k66 (fun _ => True) := by
  intro n cs y h hl
  obtain ⟨xs, m, _, _, _, hlen, hg⟩ := DataW.trod_struct Try.underlying66 h
  have hls : cs.length = 8 := hl
  have hlx : xs.length = 8 := hlen
  match cs, hls, xs, hlx, hg with
  | [c0, c1, c2, c3, c4, c5, c6, c7], _, [y0, y1, y2, y3, y4, y5, y6, y7], _, hg =>
    have h0 : DataW.trod enc _ w base _ held m _ _ = some y0 := hg 0 _ rfl
    have h1 : DataW.trod enc _ w base _ held m _ _ = some y1 := hg 1 _ rfl
    have h2 : DataW.trod enc _ w base _ held m _ _ = some y2 := hg 2 _ rfl
    have h3 : DataW.trod enc _ w base _ held m _ _ = some y3 := hg 3 _ rfl
    have h4 : DataW.trod enc _ w base _ held m _ _ = some y4 := hg 4 _ rfl
    have h5 : DataW.trod enc _ w base _ held m _ _ = some y5 := hg 5 _ rfl
    have h6 : DataW.trod enc _ w base _ held m _ _ = some y6 := hg 6 _ rfl
    have h7 : DataW.trod enc _ w base _ held m _ _ = some y7 := hg 7 _ rfl
    simp only [List.getElem_toArray, List.getElem_cons_zero, List.getElem_cons_succ, cells3, cells4, cells24, cells27, cells58, cells64, cells55, cells59, cells52, cells54, cells57, cells90, cells61, List.drop_zero, List.drop_succ_cons, List.take_succ_cons, List.take_zero] at h0 h1 h2 h3 h4 h5 h6 h7
    obtain ⟨a0, rfl, w0⟩ := int_cell Try.underlying3 h0
    obtain ⟨a1, rfl, w1⟩ := int_cell Try.underlying64 h1
    obtain ⟨a2, rfl, w2⟩ := int_cell Try.underlying24 h2
    obtain ⟨a3, rfl, w3⟩ := int_cell Try.underlying24 h3
    obtain ⟨a4, rfl, w4⟩ := int_cell Try.underlying24 h4
    obtain ⟨A5, p5, a5, rfl, l5, g5, _, _⟩ := slice_cell (d := (Kd.int .u64)) (ok := (fun x => (Lit.int .u64 x).wf = true)) Try.underlying55 cells24 (dec_int Try.underlying24) h5
    obtain ⟨a6, rfl, w6⟩ := int_cell Try.underlying24 h6
    obtain ⟨a7, rfl⟩ := bool_cell Try.underlying4 h7
    exact ⟨⟨a0, a1, a2, a3, a4, a5, a6, a7⟩, trivial, k66_mk _ _ l5 g5⟩
theorem bytes63 : Try.prog.bytesOf 63 = 208 := by kernel_rfl
theorem bytes66 : Try.prog.bytesOf 66 = 80 := by kernel_rfl
theorem bytes3 : Try.prog.bytesOf 3 = 8 := by kernel_rfl
/-- A result that came in, opened. -/
theorem open_res {r : Reach} {b0 : Nat} {v : Value} {D : DataW H} {p : List MemPlace} {ts : List TypeId} {ds : List (DataW H)} {j : Nat}
    (hv : Value.okWide Try.prog w r b0 38 v) (hreach : (DataW.weightsEach Try.prog ts ds).all (· ≤ reachBytes) = true) (hj : ts[j]? = some 38) (hd : ds[j]? = some D)
    (h : DataW.Trod enc Try.prog w base (fun _ => true) held 38 v D p) :
    ∃ (A0 : Option Addr) (p0 : Nat) (l0 : List S63) (A1 : Option Addr) (p1 : Nat) (l1 : List S66) (A2 : Option Addr) (p2 : Nat) (l2 : List Int),
      v = .agg #[.slice A0 l0.length p0, .slice A1 l1.length p1, .slice A2 l2.length p2] ∧ (l0.length ≤ p0 ∧ k63.C w A0 l0.length l0 ∧ (∀ x ∈ l0, (Lit.int .i64 x.f0.f3).wf = true) ∧ l0.length < 4398046511104) ∧
      (l1.length ≤ p1 ∧ k66.C w A1 l1.length l1 ∧ l1.length < 4398046511104) ∧ (l2.length ≤ p2 ∧ (Kd.int .i64).C w A2 l2.length l2 ∧ (∀ x ∈ l2, (Lit.int .i64 x).wf = true)) := by
  obtain ⟨v0, v1, v2, y0, y1, y2, n, rfl, rfl, _, h0, h1, h2⟩ := open_agg3 Try.underlying38 (by kernel_rfl) cells38 hv h
  have hw : ∀ x ∈ DataW.weightsEach Try.prog [34, 35, 36] [y0.1, y1.1, y2.1], x ∈ DataW.weightsEach Try.prog ts ds := by
    intro x hx
    refine DataW.weights_mem_each hj hd x ?_
    unfold DataW.weights
    rw [Try.underlying38]
    exact hx
  have hr : (DataW.weightsEach Try.prog [34, 35, 36] [y0.1, y1.1, y2.1]).all (· ≤ reachBytes) = true :=
    List.all_eq_true.2 fun x hx => (List.all_eq_true.1 hreach) x (hw x hx)
  obtain ⟨A0, p0, l0, rfl, q0, g0, o0, z0⟩ := slice_cell (d := k63) Try.underlying34 cells63 dec63 h0
  obtain ⟨A1, p1, l1, rfl, q1, g1, _, z1⟩ := slice_cell (d := k66) Try.underlying35 cells66 dec66 h1
  obtain ⟨A2, p2, l2, rfl, q2, g2, o2, z2⟩ := slice_cell (d := Kd.int .i64) Try.underlying36 cells3 (dec_int Try.underlying3) h2
  have hb := reachBytes_lt
  have k0 : l0.length < 4398046511104 := by
    rcases z0 with h | ⟨E, F, e, z⟩
    · omega
    · have s0 := sized_slice hr (j := 0) (elems := E) (spare := F) rfl (by rw [← e]; rfl) Try.underlying34
      rw [bytes63] at s0
      omega
  have k1 : l1.length < 4398046511104 := by
    rcases z1 with h | ⟨E, F, e, z⟩
    · omega
    · have s0 := sized_slice hr (j := 1) (elems := E) (spare := F) rfl (by rw [← e]; rfl) Try.underlying35
      rw [bytes66] at s0
      omega
  exact ⟨A0, p0, l0, A1, p1, l1, A2, p2, l2, rfl, ⟨q0, g0, o0, k0⟩, ⟨q1, g1, k1⟩, ⟨q2, g2, o2⟩⟩
end
theorem laidOut : laidOutB Try.prog = true := by kernel_rfl
end Go.Proofs.Ytncdajjmaabcnaa.OR
