/- What lies in memory while HistOwn's book takes its lists. Plain laws. No condition. -/
import Derived.Test.YtfmhdfgliamkkabBookAlone
import Derived.Test.YtfmhdfgliamkkabCutG
namespace Go.Proofs.Ytfmhdfgliamkkab.Own
open Go.RowKit Go.Proofs.YtfmhdfgliamkkabW.PrintWords Go.Proofs.YtfmhdfgliamkkabW.PrintLast Go.Proofs.YtfmhdfgliamkkabW.PrintMore
set_option linter.unusedVariables false
set_option linter.unusedSimpArgs false
namespace BK
def ZB : Array Value := #[.slice none 0 0, .slice none 0 0, .slice none 0 0, .slice none 0 0, .slice none 0 0, .slice none 0 0, .slice none 0 0, .slice none 0 0, .slice none 0 0, .slice none 0 0, .slice none 0 0, .slice none 0 0, .slice none 0 0, .slice none 0 0, .slice none 0 0, .slice none 0 0, .slice none 0 0, .slice none 0 0, .slice none 0 0, .slice none 0 0]
theorem OI.of_R {B b : Nat} {w : World} {ok : Nat → Prop} {v : Value} {xs : List Int} (h : Kd.R (Kd.int .i64) 3 w b ok v xs) (hB : B ≤ b) : OI B 3 w v (xs.map (Value.int .i64)) := by
  unfold OI
  rw [List.length_map]
  exact own_less (Kd.own_of_R h) hB
/-- What Cut told. -/
def CA (B : Nat) (w : World) (AC : Option Addr) (nC : Nat) : Prop := nC = 0 ∨ ∃ g cells, AC = some ⟨g, 0, none⟩ ∧ B ≤ g ∧ w.heap[g]? = some (.cells cells 57 (0, 0)) ∧ nC * 4 ≤ cells.size
theorem CA.keep {B : Nat} {w w' : World} {AC : Option Addr} {nC : Nat} (h : CA B w AC nC) (hk : ∀ (q : Nat) (cs : Array Value) (t : TypeId), w.heap[q]? = some (.cells cs t (0, 0)) → t ≠ 27 → t ≠ 53 → w'.heap[q]? = w.heap[q]?) : CA B w' AC nC := by
  rcases h with h | ⟨g, cells, h1, h2, h3, h4⟩
  · exact Or.inl h
  · exact Or.inr ⟨g, cells, h1, h2, (hk g cells _ h3 (by decide) (by decide)).trans h3, h4⟩
theorem keep_below {w w' : World} (hb : Below w.heap.size w w') : ∀ (q : Nat) (cs : Array Value) (t : TypeId), w.heap[q]? = some (.cells cs t (0, 0)) → w'.heap[q]? = w.heap[q]? := fun q cs t hq => hb.block q (lt_blk hq)
structure L0 (B : Nat) (w1 : World) (AC : Option Addr) (nC : Nat) (w : World) : Prop where
  book : w.heap[B]? = some (.cells ZB 53 (0, 0))
  below : Below B w1 w
  lb : B ≤ w.heap.size
  ca : CA B w AC nC
structure L1 (B : Nat) (w1 : World) (AC : Option Addr) (nC gi cI : Nat) (A0 : Option Addr) (n0 c0 : Nat) (a : List Value) (w : World) : Prop where
  book : w.heap[B]? = some (.cells (ZB.setIfInBounds 2 (.slice (some ⟨gi, 0, none⟩) 1 cI)) 53 (0, 0))
  below : Below B w1 w
  lb : B ≤ w.heap.size
  ca : CA B w AC nC
  hd : OI B 27 w (.slice (some ⟨gi, 0, none⟩) 1 cI) [.slice A0 n0 c0]
  r0 : OI B 3 w (.slice A0 n0 c0) a
structure L2 (B : Nat) (w1 : World) (AC : Option Addr) (nC gi cI : Nat) (A0 : Option Addr) (n0 c0 : Nat) (a : List Value) (A1 : Option Addr) (n1 c1 : Nat) (b : List Value) (w : World) : Prop where
  book : w.heap[B]? = some (.cells (ZB.setIfInBounds 2 (.slice (some ⟨gi, 0, none⟩) 2 cI)) 53 (0, 0))
  below : Below B w1 w
  lb : B ≤ w.heap.size
  ca : CA B w AC nC
  hd : OI B 27 w (.slice (some ⟨gi, 0, none⟩) 2 cI) [.slice A0 n0 c0, .slice A1 n1 c1]
  r0 : OI B 3 w (.slice A0 n0 c0) a
  r1 : OI B 3 w (.slice A1 n1 c1) b
  ap : A0 = none ∨ A1 = none ∨ (Value.slice A0 n0 c0).ownBlock ≠ (Value.slice A1 n1 c1).ownBlock
theorem L0.move {B : Nat} {w1 w w' : World} {AC : Option Addr} {nC : Nat} (h : L0 B w1 AC nC w) (hb : Below w.heap.size w w') : L0 B w1 AC nC w' :=
  ⟨(keep_below hb _ _ _ h.book).trans h.book, h.below.trans (hb.mono h.lb), by have := h.lb; have := hb.size; omega, h.ca.keep (fun q cs t hq _ _ => keep_below hb q cs t hq)⟩
theorem L1.move {B : Nat} {w1 w w' : World} {AC : Option Addr} {nC gi cI : Nat} {A0 : Option Addr} {n0 c0 : Nat} {a : List Value} (h : L1 B w1 AC nC gi cI A0 n0 c0 a w) (hb : Below w.heap.size w w') : L1 B w1 AC nC gi cI A0 n0 c0 a w' :=
  ⟨(keep_below hb _ _ _ h.book).trans h.book, h.below.trans (hb.mono h.lb), by have := h.lb; have := hb.size; omega, h.ca.keep (fun q cs t hq _ _ => keep_below hb q cs t hq), h.hd.below hb, h.r0.below hb⟩
theorem L2.move {B : Nat} {w1 w w' : World} {AC : Option Addr} {nC gi cI : Nat} {A0 : Option Addr} {n0 c0 : Nat} {a : List Value} {A1 : Option Addr} {n1 c1 : Nat} {b : List Value} (h : L2 B w1 AC nC gi cI A0 n0 c0 a A1 n1 c1 b w) (hb : Below w.heap.size w w') : L2 B w1 AC nC gi cI A0 n0 c0 a A1 n1 c1 b w' :=
  ⟨(keep_below hb _ _ _ h.book).trans h.book, h.below.trans (hb.mono h.lb), by have := h.lb; have := hb.size; omega, h.ca.keep (fun q cs t hq _ _ => keep_below hb q cs t hq), h.hd.below hb, h.r0.below hb, h.r1.below hb, h.ap⟩
theorem OI.types {B e : Nat} {w w' : World} {v : Value} {xs : List Value} (h : OI B e w v xs) (hk : ∀ (q : Nat) (cs : Array Value), w.heap[q]? = some (.cells cs e (0, 0)) → w'.heap[q]? = w.heap[q]?) : OI B e w' v xs :=
  h.heap (fun g hg => by
    obtain ⟨_, cu, hc⟩ := h.lt g hg
    exact hk g cu hc)
theorem L1.of {B : Nat} {w1 w w' : World} {AC : Option Addr} {nC gi cI : Nat} {A0 : Option Addr} {n0 c0 : Nat} {a : List Value} (h : L0 B w1 AC nC w) (r0 : OI B 3 w (.slice A0 n0 c0) a)
    (hbk : w'.heap[B]? = some (.cells (ZB.setIfInBounds 2 (.slice (some ⟨gi, 0, none⟩) 1 cI)) 53 (0, 0))) (hd : OI B 27 w' (.slice (some ⟨gi, 0, none⟩) 1 cI) [.slice A0 n0 c0]) (hb : Below B w1 w') (hs : w.heap.size ≤ w'.heap.size)
    (hk : ∀ (q : Nat) (cs : Array Value) (t : TypeId), w.heap[q]? = some (.cells cs t (0, 0)) → t ≠ 27 → t ≠ 53 → w'.heap[q]? = w.heap[q]?) : L1 B w1 AC nC gi cI A0 n0 c0 a w' :=
  ⟨hbk, hb, by have := h.lb; omega, h.ca.keep hk, hd, r0.types (fun q cs hq => hk q cs 3 hq (by decide) (by decide))⟩
theorem L2.of {B : Nat} {w1 w w' : World} {AC : Option Addr} {nC gi cI gi2 cI2 : Nat} {A0 : Option Addr} {n0 c0 : Nat} {a : List Value} {A1 : Option Addr} {n1 c1 : Nat} {b : List Value} (h : L1 B w1 AC nC gi cI A0 n0 c0 a w) (r1 : OI B 3 w (.slice A1 n1 c1) b)
    (ap : A0 = none ∨ A1 = none ∨ (Value.slice A0 n0 c0).ownBlock ≠ (Value.slice A1 n1 c1).ownBlock)
    (hbk : w'.heap[B]? = some (.cells (ZB.setIfInBounds 2 (.slice (some ⟨gi2, 0, none⟩) 2 cI2)) 53 (0, 0))) (hd : OI B 27 w' (.slice (some ⟨gi2, 0, none⟩) 2 cI2) [.slice A0 n0 c0, .slice A1 n1 c1]) (hb : Below B w1 w') (hs : w.heap.size ≤ w'.heap.size)
    (hk : ∀ (q : Nat) (cs : Array Value) (t : TypeId), w.heap[q]? = some (.cells cs t (0, 0)) → t ≠ 27 → t ≠ 53 → w'.heap[q]? = w.heap[q]?) : L2 B w1 AC nC gi2 cI2 A0 n0 c0 a A1 n1 c1 b w' :=
  ⟨hbk, hb, by have := h.lb; omega, h.ca.keep hk, hd, h.r0.types (fun q cs hq => hk q cs 3 hq (by decide) (by decide)), r1.types (fun q cs hq => hk q cs 3 hq (by decide) (by decide)), ap⟩
/-- A store into what Cut told. -/
theorem L2.put {B : Nat} {w1 w : World} {g : Nat} {nC gi cI : Nat} {A0 : Option Addr} {n0 c0 : Nat} {a : List Value} {A1 : Option Addr} {n1 c1 : Nat} {b : List Value} (h : L2 B w1 (some ⟨g, 0, none⟩) nC gi cI A0 n0 c0 a A1 n1 c1 b w) (k : Nat) (hk : k < nC) (u : Value) :
    L2 B w1 (some ⟨g, 0, none⟩) nC gi cI A0 n0 c0 a A1 n1 c1 b (w.setCell ⟨g, k * 4, none⟩ u) ∧ (∃ v, w.cell? ⟨g, k * 4, none⟩ = some v) ∧ w.frozen? ⟨g, k * 4, none⟩ = false := by
  rcases h.ca with h0 | ⟨g', cells, e, hBg, hg, hn⟩
  · omega
  · injection e with e
    injection e with e
    subst e
    have hoth : ∀ (q : Nat) (cs : Array Value) (t : TypeId), w.heap[q]? = some (.cells cs t (0, 0)) → t ≠ 57 → (w.setCell ⟨g, k * 4, none⟩ u).heap[q]? = w.heap[q]? := fun q cs t hq ht => Below.heap_setCell _ _ _ _ (fun e => by
      have e2 : q = g := e
      subst e2
      rw [hg] at hq
      injection hq with hq
      injection hq with e1 e2 e3
      exact ht e2.symm)
    refine ⟨⟨(hoth _ _ _ h.book (by decide)).trans h.book, h.below.setCell hBg _, by simpa using h.lb, Or.inr ⟨g, _, rfl, hBg, blk_set hg _ _, by simpa using hn⟩, h.hd.types (fun q cs hq => hoth q cs _ hq (by decide)), h.r0.types (fun q cs hq => hoth q cs _ hq (by decide)), h.r1.types (fun q cs hq => hoth q cs _ hq (by decide)), h.ap⟩, ?_, ?_⟩
    · rw [blk_cell hg]
      exact ⟨_, Array.getElem?_eq_getElem (by omega)⟩
    · unfold World.frozen?
      rw [hg]
      simp
theorem L2.st {B : Nat} {w1 w : World} {AC : Option Addr} {nC gi cI : Nat} {A0 : Option Addr} {n0 c0 : Nat} {a : List Value} {A1 : Option Addr} {n1 c1 : Nat} {b : List Value} (h : L2 B w1 AC nC gi cI A0 n0 c0 a A1 n1 c1 b w) :
    ∃ CI, St B B gi (ZB.setIfInBounds 2 (.slice (some ⟨gi, 0, none⟩) 2 cI)) CI A0 A1 n0 n1 c0 c1 w1 a b w ∧ CI[0]? = some (.slice A0 n0 c0) ∧ CI[1]? = some (.slice A1 n1 c1) ∧ 2 ≤ cI := by
  rcases h.hd.2 with ⟨h0, _⟩ | ⟨g, cap, cur, hv, hbg, hg, hnc, hcm, hcs, htake⟩
  · cases h0
  · injection hv with e1 e2 e3
    injection e1 with e1
    injection e1 with e1
    subst e1 e3
    have hc : ∀ j, j < 2 → cur[j]? = ([Value.slice A0 n0 c0, Value.slice A1 n1 c1] : List Value)[j]? := by
      intro j hj
      rw [← htake, List.getElem?_take_of_lt (by simpa using hj)]
      simp
    exact ⟨cur, ⟨h.book, hg, h.r0, h.r1, h.below, h.lb⟩, hc 0 (by decide), hc 1 (by decide), hnc⟩
end BK
end Go.Proofs.Ytfmhdfgliamkkab.Own
