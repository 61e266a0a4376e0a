/- A proc beside a memory, and rows of its own that grow. No condition. -/
import Derived.Test.YtcbndfmbpojppaaGreatSmall
import Derived.Test.YtcbndfmbpojppaaGreatSortM2
namespace Go.Proofs.YtcbndfmbpojppaaGreat
open Go.RowKit Go.Proofs.YtcbndfmbpojppaaGreatW.PrintWords
set_option linter.unusedVariables false
set_option linter.unusedSimpArgs false
section
variable {w w1 : World} {K : Nat → Prop} {bm bp bc : Nat} {cs cs1 : List Int} {fr fr1 n n1 : Nat} {xs xs1 : List Value}
theorem Mem.grew (h : Mem w K bm bp bc cs fr n xs) (hs : w.heap.size ≤ w1.heap.size) (hb : ∀ j, j < w.heap.size → ¬ K j → w1.heap[j]? = w.heap[j]?) (N : Nat → Prop) (hN : ∀ j, N j → w.heap.size ≤ j ∧ j < w1.heap.size) :
    Mem w1 (fun j => K j ∨ N j) bm bp bc cs fr n xs := by
  have h1 := h.far hs hb
  obtain ⟨tv, m1, m2, m3⟩ := h.m
  obtain ⟨tv', a1, a2, a3⟩ := h1.m
  have l1 := (Array.getElem?_eq_some_iff.1 m1).1
  have l2 := (Array.getElem?_eq_some_iff.1 h.p).1
  have l3 := (Array.getElem?_eq_some_iff.1 h.c).1
  obtain rfl : tv = tv' := by
    have e := (hb bm l1 h.nk.1).trans m1
    rw [a1] at e
    injection e with e
    injection e with e
    injection e with e
    injection e with _ e
    injection e with _ e
    injection e with e _
    exact e.symm
  refine ⟨⟨tv, a1, a2, fun j hj => ⟨fun hk => hk.elim (a3 j hj).1 fun hn => ?_, (a3 j hj).2⟩⟩, h1.p, h1.c, h1.ne, ⟨fun hk => hk.elim h1.nk.1 fun hn => ?_, fun hk => hk.elim h1.nk.2.1 fun hn => ?_, fun hk => hk.elim h1.nk.2.2 fun hn => ?_⟩, fun j hj => hj.elim (h1.kl j) fun hn => (hN j hn).2, h1.len, h1.nlt⟩
  · have := (hN j hn).1
    have := own_lt m2 j hj
    omega
  · have := (hN _ hn).1; omega
  · have := (hN _ hn).1; omega
  · have := (hN _ hn).1; omega
end
section
variable {w0 w w1 : World} {K : Nat → Prop} {bm bp bc : Nat} {cs cs1 : List Int} {fr fr1 n n1 : Nat} {xs xs1 : List Value} {bv : Nat} {th md md1 : Int} {bs : Nat} {oc oc1 : Array Value} {T : TypeId}
theorem Pw.self (h : Pw w0 w K bm bp bc cs fr n xs bv th md bs oc T) : Pw w w K bm bp bc cs fr n xs bv th md bs oc T := ⟨h.mem, h.vw, h.ob, h.kv, h.ks, h.ne, Kept.refl _ _⟩
theorem Pw.trans (h : Pw w0 w K bm bp bc cs fr n xs bv th md bs oc T) (k : Pw w w1 K bm bp bc cs1 fr1 n1 xs1 bv th md1 bs oc1 T) : Pw w0 w1 K bm bp bc cs1 fr1 n1 xs1 bv th md1 bs oc1 T := ⟨k.mem, k.vw, k.ob, k.kv, k.ks, k.ne, h.fr0.trans k.fr0⟩
theorem Pw.grew (h : Pw w0 w K bm bp bc cs fr n xs bv th md bs oc T) {row : Option Nat} (hg : w.grownBy w1 row) (hr : ∀ k, row = some k → K k ∧ k ≠ bv ∧ k ≠ bs ∧ w0.heap.size ≤ k) (N : Nat → Prop) (hN : ∀ j, N j → w.heap.size ≤ j ∧ j < w1.heap.size) :
    Pw w0 w1 (fun j => K j ∨ N j) bm bp bc cs fr n xs bv th md bs oc T := by
  have lv := h.mem.kl bv h.kv
  have ls := h.mem.kl bs h.ks
  refine ⟨h.mem.grew hg.size (fun j hj hk => hg.block j hj fun e => hk (hr j e.symm).1) N hN, (hg.block bv lv fun e => (hr bv e.symm).2.1 rfl).trans h.vw, (hg.block bs ls fun e => (hr bs e.symm).2.2.1 rfl).trans h.ob, .inl h.kv, .inl h.ks, h.ne, ?_⟩
  have h0 := h.fr0
  refine ⟨hg.os.trans h0.os, hg.tape.trans h0.tape, hg.output.trans h0.output, Nat.le_trans h0.size hg.size, fun j hj hl => ?_⟩
  have hkj : K j := hj.1.elim id fun hn => by
    have a := (hN j hn).1
    have b := h0.size
    omega
  exact (hg.block j (Nat.lt_of_lt_of_le hl h0.size) fun e => by have := (hr j e.symm).2.2.2; omega).trans (h0.block j ⟨hkj, hj.2⟩ hl)
theorem Pw.less (h : Pw w0 w K bm bp bc cs fr n xs bv th md bs oc T) {L : Nat → Prop} (hl : ∀ j, L j → K j) (hv : L bv) (hs : L bs) : Pw w0 w L bm bp bc cs fr n xs bv th md bs oc T :=
  ⟨h.mem.less hl, h.vw, h.ob, hv, hs, h.ne, h.fr0.mono fun j _ hj => ⟨hl j hj.1, hj.2⟩⟩
end
/-- A row of our own is where nothing else is written. -/
theorem RU.kept {w w1 : World} {base : Nat} {ok : Nat → Prop} {u : Value} {l : List Int} (h : RU w base ok u l) (hk : Kept ok w w1) : RU w1 base ok u l := Kd.R_step h fun k ho hl => hk.block k ho hl
theorem RU.below {w w1 : World} {base : Nat} {ok : Nat → Prop} {u : Value} {l : List Int} (h : RU w base ok u l) (hb : Below w.heap.size w w1) : RU w1 base ok u l := Kd.R_below h hb
/-- A world cut off at B. -/
theorem below_cut (w : World) (B : Nat) (h : B ≤ w.heap.size) : ∃ wc : World, wc.heap.size = B ∧ Below B wc w := by
  refine ⟨{ w with heap := w.heap.extract 0 B }, by simp; omega, rfl, rfl, rfl, by simp; omega, fun j hj => ?_⟩
  simp [Array.getElem?_extract, hj]
  omega
end Go.Proofs.YtcbndfmbpojppaaGreat
