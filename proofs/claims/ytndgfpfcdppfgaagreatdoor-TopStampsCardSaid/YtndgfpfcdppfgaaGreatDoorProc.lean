/- A proc beside a memory and a view: the three objects, and what keeps them. No condition. -/
import Derived.Test.YtndgfpfcdppfgaaGreatDoorArenaM
namespace Go.Proofs.YtndgfpfcdppfgaaGreatDoor
open Go.RowKit Go.Proofs.YtndgfpfcdppfgaaGreatDoorW.PrintWords
set_option linter.unusedVariables false
set_option linter.unusedSimpArgs false

/-- From w0 on: a memory, a view at bv, a proc at bs with the cells oc of type T; all else of K is as it was at w0. -/
structure Pw (w0 w : World) (K : Nat → Prop) (bm bp bc : Nat) (cs : List Int) (fr n : Nat) (xs : List Value) (bv : Nat) (th md : Int) (bs : Nat) (oc : Array Value) (T : TypeId) : Prop where
  mem : Mem w K bm bp bc cs fr n xs
  vw : Vw w bv bm th md
  ob : w.heap[bs]? = some (.cells oc T (0, 0))
  kv : K bv
  ks : K bs
  ne : bs ≠ bv
  fr0 : Kept (fun j => K j ∧ j ≠ bv ∧ j ≠ bs) w0 w
section
variable {w0 w w1 : World} {K : Nat → Prop} {bm bp bc : Nat} {cs cs1 : List Int} {fr fr1 n n1 : Nat} {xs xs1 : List Value} {bv : Nat} {th md md1 : Int} {bs : Nat} {oc : Array Value} {T : TypeId}
theorem Pw.below (h : Pw w0 w K bm bp bc cs fr n xs bv th md bs oc T) (hb : Below w.heap.size w w1) : Pw w0 w1 K bm bp bc cs fr n xs bv th md bs oc T :=
  ⟨h.mem.of_below hb, (hb.block bv (h.mem.kl bv h.kv)).trans h.vw, (hb.block bs (h.mem.kl bs h.ks)).trans h.ob, h.kv, h.ks, h.ne, h.fr0.trans (Kept.of_below hb)⟩
theorem Pw.drew (h : Pw w0 w K bm bp bc cs fr n xs bv th md bs oc T) : Pw w0 w.drew K bm bp bc cs fr n xs bv th md bs oc T := h.below (Below.refl _ w).drew
theorem Pw.drewN (h : Pw w0 w K bm bp bc cs fr n xs bv th md bs oc T) (k : Nat) : Pw w0 (w.drewN k) K bm bp bc cs fr n xs bv th md bs oc T := h.below (pw_below_drewN (Below.refl _ w) k)
theorem Pw.alloc (h : Pw w0 w K bm bp bc cs fr n xs bv th md bs oc T) (o : Obj) : Pw w0 (w.alloc o) K bm bp bc cs fr n xs bv th md bs oc T := h.below ((Below.refl _ w).alloc (Nat.le_refl _) o)
/-- A field of the proc is written. -/
theorem Pw.put (h : Pw w0 w K bm bp bc cs fr n xs bv th md bs oc T) (i : Nat) (v : Value) : Pw w0 (w.setCell ⟨bs, i, none⟩ v) K bm bp bc cs fr n xs bv th md bs (oc.setIfInBounds i v) T :=
  ⟨h.mem.set h.ks v, (Below.heap_setCell _ _ _ _ (fun e => h.ne e.symm)).trans h.vw, heap_setCell_same w bs i _ _ v h.ob, h.kv, h.ks, h.ne, h.fr0.setCell (fun k => k.2.2 rfl) v⟩
/-- The view has done something. -/
theorem Pw.viewed (h : Pw w0 w K bm bp bc cs fr n xs bv th md bs oc T) (hM : Mem w1 K bm bp bc cs1 fr1 n1 xs1) (hV : Vw w1 bv bm th md1) (hK : Kept (fun j => K j ∧ j ≠ bv) w w1) : Pw w0 w1 K bm bp bc cs1 fr1 n1 xs1 bv th md1 bs oc T :=
  ⟨hM, hV, (hK.block bs ⟨h.ks, h.ne⟩ (h.mem.kl bs h.ks)).trans h.ob, h.kv, h.ks, h.ne, h.fr0.trans (hK.mono fun j _ hj => ⟨hj.1, hj.2.1⟩)⟩
theorem Pw.cell (h : Pw w0 w K bm bp bc cs fr n xs bv th md bs oc T) (i : Nat) : w.cell? ⟨bs, i, none⟩ = oc[i]? := blk_cell h.ob i
theorem Pw.frozen (h : Pw w0 w K bm bp bc cs fr n xs bv th md bs oc T) (i : Nat) : w.frozen? ⟨bs, i, none⟩ = false := blk_frozen h.ob i
theorem Pw.load (h : Pw w0 w K bm bp bc cs fr n xs bv th md bs oc T) (hd0 : 0 ≤ md) (hd1 : md ≤ 1152921504606846976) (hn : n < 68719476736) (ad : Int) (h0 : 0 ≤ ad) :
    Calls Tryz.prog 128 #[.pointer (some ⟨bv, 0, none⟩), .int .u64 ad] w fun e w' => e = .returned (.int .u64 (pk cs ad)) ∧ Pw w0 w' K bm bp bc cs fr (n + 1) (xs ++ acc th 1 ad 0 0 (.slice none 0 0) (pk cs ad) false) bv th (md + 1) bs oc T :=
  (load_calls h.mem h.kv h.vw hd0 hd1 hn ad h0).mono fun _ _ ⟨a, b, c, d⟩ => ⟨a, h.viewed b c d⟩
theorem Pw.cas (h : Pw w0 w K bm bp bc cs fr n xs bv th md bs oc T) (hd0 : 0 ≤ md) (hd1 : md ≤ 1152921504606846976) (hn : n < 68719476736) (ad old now : Int) (h0 : 0 ≤ ad) :
    Calls Tryz.prog 129 #[.pointer (some ⟨bv, 0, none⟩), .int .u64 ad, .int .u64 old, .int .u64 now] w fun e w' => e = .returned (.bool (casB cs ad old)) ∧ Pw w0 w' K bm bp bc (casC cs ad old now) fr (n + 1) (xs ++ acc th 3 ad old now (.slice none 0 0) 0 (casB cs ad old)) bv th (md + 1) bs oc T :=
  (cas_calls h.mem h.kv h.vw hd0 hd1 hn ad old now h0).mono fun _ _ ⟨a, b, c, d⟩ => ⟨a, h.viewed b c d⟩
end
/-- The proc's cells are these (what a region that draws holds on to). -/
def SB (bs : Nat) (oc : Array Value) (T : TypeId) (w : World) : Prop := w.heap[bs]? = some (.cells oc T (0, 0))
theorem SB.cell {bs : Nat} {oc : Array Value} {T : TypeId} {w : World} (h : SB bs oc T w) (i : Nat) {v : Value} (hv : oc[i]? = some v) : w.cell? ⟨bs, i, none⟩ = some v := (blk_cell h i).trans hv
theorem Pw.sb {w0 w : World} {K : Nat → Prop} {bm bp bc : Nat} {cs : List Int} {fr n : Nat} {xs : List Value} {bv : Nat} {th md : Int} {bs : Nat} {oc : Array Value} {T : TypeId} (h : Pw w0 w K bm bp bc cs fr n xs bv th md bs oc T) : SB bs oc T w := h.ob
theorem SB.below {bs : Nat} {oc : Array Value} {T : TypeId} {w w1 : World} (h : SB bs oc T w) (hb : Below w.heap.size w w1) : SB bs oc T w1 := (hb.block bs (Array.getElem?_eq_some_iff.1 h).1).trans h
end Go.Proofs.YtndgfpfcdppfgaaGreatDoor
