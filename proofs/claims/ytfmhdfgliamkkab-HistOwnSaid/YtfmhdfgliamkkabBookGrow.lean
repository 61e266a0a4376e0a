/- A row of the call's own that grows: what is asked of it, step by step. Plain laws. No condition. -/
import Derived.Test.YtfmhdfgliamkkabBookKit
namespace Go.Proofs.Ytfmhdfgliamkkab.Own
open Go.RowKit Go.Proofs.YtfmhdfgliamkkabW.PrintWords Go.Proofs.YtfmhdfgliamkkabW.PrintLast Go.Proofs.YtfmhdfgliamkkabW.PrintMore
set_option linter.unusedVariables false
set_option linter.unusedSimpArgs false
namespace BK
theorem OI.heap {B e : Nat} {w w1 : World} {v : Value} {xs : List Value} (h : OI B e w v xs) (hh : ∀ g, v.ownBlock = some g → w1.heap[g]? = w.heap[g]?) : OI B e w1 v xs := by
  refine ⟨h.1, ?_⟩
  rcases h.2 with h0 | ⟨g, cap, cur, hv, hbg, hg, hnc, hcm, hcs, htake⟩
  · exact Or.inl h0
  · exact Or.inr ⟨g, cap, cur, hv, hbg, by rw [hh g (by rw [hv]; rfl)]; exact hg, hnc, hcm, hcs, htake⟩
theorem OI.lt {B e : Nat} {w : World} {v : Value} {xs : List Value} (h : OI B e w v xs) : ∀ g, v.ownBlock = some g → g < w.heap.size ∧ ∃ cur, w.heap[g]? = some (.cells cur e (0, 0)) := by
  intro g hg
  rcases h.2 with ⟨h0, _⟩ | ⟨g', cap, cur, hv, hbg, hgc, _⟩
  · rw [h0] at hg; cases hg
  · rw [hv] at hg
    have : g' = g := by simpa [Value.ownBlock] using hg
    subst this
    exact ⟨(Array.getElem?_eq_some_iff.1 hgc).1, cur, hgc⟩
/-- 'append' of one value to a row of the call's own. -/
theorem wp_app {P : Program} {ops : Array Oper} {rest : List Oper} {o : Oper} {a : Act} {Q : Exit → Act → World → Prop} (hgd : o.guard = none) (s y : Operand) (t e : TypeId) (z : Value) (bytes : Nat)
    (ho : o.op = .call { callee := .builtin .append, args := #[s, y], argTypes := #[t, t] }) (ht : P.underlying t = some (.slice e)) (hinfo : (P.info? e).map (fun i => (i.zero, i.size, i.bytes)) = some (some z, 1, bytes)) (hz : z.cells.size = 1) (hb0 : bytes ≤ 24)
    (B : Nat) (w0 W : World) (v : Value) (xs : List Value) (x : Value) (hx1 : x.oneCell' = true) (hO : OI B e W v xs) (hlen : xs.length < 4398046511204) (hB : B ≤ W.heap.size) (hBel : Below B w0 W)
    (hs : a.eval s = v) (hx : a.eval y = .slice (some ⟨W.heap.size, 0, none⟩) 1 1)
    (h : ∀ g' c' w', OI B e w' (.slice (some ⟨g', 0, none⟩) (xs.length + 1) c') (xs ++ [x]) → (∀ k, k < W.heap.size → v.ownBlock ≠ some k → w'.heap[k]? = W.heap[k]?) → (∀ g j, v.ownBlock = some g → j < xs.length → w'.cell? ⟨g, j, none⟩ = W.cell? ⟨g, j, none⟩) → (v.ownBlock = some g' ∨ W.heap.size ≤ g') → Below B w0 w' → W.heap.size ≤ w'.heap.size →
      wpList P ops Q rest (a.put o.dst (.slice (some ⟨g', 0, none⟩) (xs.length + 1) c')) w') :
    wpList P ops Q (o :: rest) a (W.alloc (.cells #[x] e)) := by
  obtain ⟨i0, hi, hzz⟩ := Option.map_eq_some_iff.1 hinfo
  simp only [Prod.mk.injEq] at hzz
  obtain ⟨hz0, hz1, hz2⟩ := hzz
  have hO1 : OI B e (W.alloc (.cells #[x] e)) v xs := hO.heap (fun g hg => Below.heap_alloc W _ g (hO.lt g hg).1)
  have hby : (xs.length + 1) * bytes ≤ (xs.length + 1) * 24 := Nat.mul_le_mul_left _ hb0
  refine wpList_append_kept (W.alloc (.cells #[x] e)) hgd s y t ho B e i0 z 1 bytes ht hi hz0 hz1 hz2 hz (by decide) v xs.length xs hs hO1 ⟨W.heap.size, 0, none⟩ 1 1 [x] hx rfl
    (by simpa using World.news_of_block (cs := #[x]) (t := e) (fr := (0, 0)) (heap_alloc_new W (.cells #[x] e))) (by simpa using hx1) (by simp only [maxLen]; omega) (by omega) (by simp; omega) ?_
  intro v' w' h2 h3 h4 h5
  have hlt : W.heap.size ≤ w'.heap.size := by
    have := h3.size
    simp at this
    omega
  rcases h2.2 with ⟨_, h0⟩ | ⟨g', cap, cur, hv, hbg, hgc, hnc, hcm, hcs, htake⟩
  · omega
  · subst hv
    refine h g' cap w' ?_ ?_ ?_ ?_ ?_ hlt
    · unfold OI
      rw [List.length_append]
      exact h2
    · intro k hk hne
      rw [h3.block k (by simp; omega) (fun e => hne e.symm)]
      exact Below.heap_alloc W _ k hk
    · intro g j hg hj
      rw [h5 g j hg (by omega)]
      unfold World.cell?
      have hb : (W.alloc (.cells #[x] e)).heap[g]? = W.heap[g]? := Below.heap_alloc W _ g (hO.lt g hg).1
      rw [hb]
    · rcases h4 with h | h
      · exact Or.inl h.symm
      · right
        have : g' = (W.alloc (.cells #[x] e)).heap.size := by simpa [Value.ownBlock] using h
        rw [this]
        simp
    · exact (hBel.alloc hB _).grown h3 (by simp; omega) (fun k hk => by
        rcases hO.2 with ⟨h0, _⟩ | ⟨g, c, cu, hv, hbg2, _⟩
        · rw [h0] at hk; cases hk
        · rw [hv] at hk
          have : g = k := by simpa [Value.ownBlock] using hk
          omega)
/-- A row that grows from (A, n): k values more; what lies in the blocks D is as F says. -/
structure GX (B : Nat) (w0 : World) (A : Option Addr) (n : Nat) (x : Value) (F : World → Prop) (D : Nat → Prop) (AG : Option Addr) (cG k : Nat) (w : World) : Prop where
  below : Below B w0 w
  lb : B ≤ w.heap.size
  g : OI B 3 w (.slice AG (n + k) cG) (List.replicate (n + k) x)
  ka : ∀ g, A = some ⟨g, 0, none⟩ → g < w.heap.size ∧ ∀ j, j < n → w.cell? ⟨g, j, none⟩ = some x
  f : F w
  d : ∀ q, D q → q < w.heap.size ∧ (Value.slice AG (n + k) cG).ownBlock ≠ some q
theorem GX.step {B : Nat} {w0 : World} {A : Option Addr} {n : Nat} {x : Value} {F : World → Prop} {D : Nat → Prop} {AG : Option Addr} {cG k : Nat} {w w' : World} (h : GX B w0 A n x F D AG cG k w)
    (hF : ∀ u u', F u → (∀ q, D q → u'.heap[q]? = u.heap[q]?) → F u') {g' c' : Nat}
    (hO : OI B 3 w' (.slice (some ⟨g', 0, none⟩) ((List.replicate (n + k) x).length + 1) c') (List.replicate (n + k) x ++ [x])) (hk : ∀ q, q < w.heap.size → (Value.slice AG (n + k) cG).ownBlock ≠ some q → w'.heap[q]? = w.heap[q]?)
    (hc : ∀ g j, (Value.slice AG (n + k) cG).ownBlock = some g → j < (List.replicate (n + k) x).length → w'.cell? ⟨g, j, none⟩ = w.cell? ⟨g, j, none⟩) (ha : (Value.slice AG (n + k) cG).ownBlock = some g' ∨ w.heap.size ≤ g') (hb : Below B w0 w') (hs : w.heap.size ≤ w'.heap.size) :
    GX B w0 A n x F D (some ⟨g', 0, none⟩) c' (k + 1) w' := by
  rw [List.length_replicate, ← List.replicate_succ'] at hO
  rw [List.length_replicate] at hc
  refine ⟨hb, by have := h.lb; omega, hO, ?_, hF w w' h.f (fun q hq => hk q (h.d q hq).1 (h.d q hq).2), ?_⟩
  · intro g hg
    obtain ⟨q1, q2⟩ := h.ka g hg
    refine ⟨by omega, fun j hj => ?_⟩
    by_cases hq : (Value.slice AG (n + k) cG).ownBlock = some g
    · rw [hc g j hq (by omega)]
      exact q2 j hj
    · have := hk g q1 hq
      have h2 := q2 j hj
      unfold World.cell? at h2 ⊢
      rw [this]
      exact h2
  · intro q hq
    obtain ⟨q1, q2⟩ := h.d q hq
    refine ⟨by omega, ?_⟩
    show some g' ≠ some q
    intro e
    injection e with e
    subst e
    rcases ha with h1 | h1
    · exact q2 h1
    · omega
end BK
end Go.Proofs.Ytfmhdfgliamkkab.Own
