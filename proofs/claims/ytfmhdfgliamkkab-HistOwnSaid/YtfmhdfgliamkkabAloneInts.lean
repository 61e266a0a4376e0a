/- The book's look at two rows of ints of its own: it tells true, and writes into these rows and new memory alone. -/
import Derived.Test.YtfmhdfgliamkkabBookGrow
import Derived.Lib.Hide
import Derived.Outline
namespace Go.Proofs.Ytfmhdfgliamkkab.Own
open Go.RowKit Go.Proofs.YtfmhdfgliamkkabW.PrintWords Go.Proofs.YtfmhdfgliamkkabW.PrintLast Go.Proofs.YtfmhdfgliamkkabW.PrintMore
set_option linter.unusedVariables false
set_option linter.unusedSimpArgs false
namespace BK
abbrev m7 : Value := .int .i64 (-7)
abbrev m8 : Value := .int .i64 (-8)
/-- The book and its two rows. -/
structure St (B bk gi : Nat) (C CI : Array Value) (A0 A1 : Option Addr) (n0 n1 c0 c1 : Nat) (w0 : World) (a b : List Value) (w : World) : Prop where
  book : w.heap[bk]? = some (.cells C 53 (0, 0))
  hdr : w.heap[gi]? = some (.cells CI 27 (0, 0))
  r0 : OI B 3 w (.slice A0 n0 c0) a
  r1 : OI B 3 w (.slice A1 n1 c1) b
  below : Below B w0 w
  lb : B ≤ w.heap.size
theorem ne_type {w : World} {g k t q : Nat} {cs ds : Array Value} (h : w.heap[g]? = some (.cells cs t (0, 0))) (h2 : w.heap[k]? = some (.cells ds q (0, 0))) (hne : t ≠ q) : k ≠ g := by
  rintro rfl
  rw [h] at h2
  injection h2 with h2
  injection h2 with e1 e2 e3
  exact hne e2
theorem fill_step {a : List Value} {k : Nat} {x : Value} (hk : k < a.length) (h : a.take k = List.replicate k x) : (a.set k x).take (k + 1) = List.replicate (k + 1) x := by
  have h1 : (a.set k x).take k = a.take k := by
    rw [List.take_set]
    exact List.set_eq_of_length_le (by rw [List.length_take]; omega)
  rw [List.take_add_one, h1, h, List.getElem?_set_self hk, List.replicate_succ']
  rfl
theorem OI_len {B e : Nat} {w : World} {A : Option Addr} {n c : Nat} {xs : List Value} (h : OI B e w (.slice A n c) xs) : n = xs.length := by
  rcases h.2 with ⟨h0, h1⟩ | ⟨g, cap, cur, hv, _⟩
  · injection h0 with e1 e2 e3
    omega
  · injection hv
theorem St.put0 {B bk gi : Nat} {C CI : Array Value} {A1 : Option Addr} {n0 n1 c0 c1 g : Nat} {w0 w : World} {a b : List Value} (h : St B bk gi C CI (some ⟨g, 0, none⟩) A1 n0 n1 c0 c1 w0 a b w) (j : Nat) (hj : j < a.length) (u : Value) (hap : A1 = none ∨ (Value.slice A1 n1 c1).ownBlock ≠ some g) :
    St B bk gi C CI (some ⟨g, 0, none⟩) A1 n0 n1 c0 c1 w0 (a.set j u) b (w.setCell ⟨g, j, none⟩ u) := by
  obtain ⟨g', cap, cur, hv, hbg, hlt, hg, _⟩ := h.r0.form (by omega)
  injection hv with e1 e2 e3
  injection e1 with e1
  injection e1 with e1
  subst e1
  obtain ⟨p1, p2, p3⟩ := h.r0.put j hj u
  refine ⟨blk_grown h.book p3 (by simpa using ne_type hg h.book (by decide)), blk_grown h.hdr p3 (by simpa using ne_type hg h.hdr (by decide)), p1, h.r1.other p3 ?_, h.below.setCell hbg _, by simpa using h.lb⟩
  rcases hap with h0 | h0
  · subst h0; exact Or.inl rfl
  · exact Or.inr h0
theorem St.put1 {B bk gi : Nat} {C CI : Array Value} {A0 : Option Addr} {n0 n1 c0 c1 g : Nat} {w0 w : World} {a b : List Value} (h : St B bk gi C CI A0 (some ⟨g, 0, none⟩) n0 n1 c0 c1 w0 a b w) (j : Nat) (hj : j < b.length) (u : Value) (hap : A0 = none ∨ (Value.slice A0 n0 c0).ownBlock ≠ some g) :
    St B bk gi C CI A0 (some ⟨g, 0, none⟩) n0 n1 c0 c1 w0 a (b.set j u) (w.setCell ⟨g, j, none⟩ u) := by
  obtain ⟨g', cap, cur, hv, hbg, hlt, hg, _⟩ := h.r1.form (by omega)
  injection hv with e1 e2 e3
  injection e1 with e1
  injection e1 with e1
  subst e1
  obtain ⟨p1, p2, p3⟩ := h.r1.put j hj u
  refine ⟨blk_grown h.book p3 (by simpa using ne_type hg h.book (by decide)), blk_grown h.hdr p3 (by simpa using ne_type hg h.hdr (by decide)), h.r0.other p3 ?_, p1, h.below.setCell hbg _, by simpa using h.lb⟩
  rcases hap with h0 | h0
  · subst h0; exact Or.inl rfl
  · exact Or.inr h0
theorem OI_rep {B e : Nat} {w : World} {A : Option Addr} {n c m : Nat} {x : Value} (h : OI B e w (.slice A n c) (List.replicate m x)) (g : Nat) (hA : A = some ⟨g, 0, none⟩) : g < w.heap.size ∧ ∀ j, j < m → w.cell? ⟨g, j, none⟩ = some x := by
  subst hA
  refine ⟨(h.lt g rfl).1, fun j hj => ?_⟩
  have := h.cell j (by simpa using hj)
  rw [List.getElem_replicate] at this
  exact this
theorem cell_heap {w w' : World} {g j : Nat} (h : w'.heap[g]? = w.heap[g]?) : w'.cell? ⟨g, j, none⟩ = w.cell? ⟨g, j, none⟩ := by
  unfold World.cell?
  rw [h]
/-- Behind the first list's growth. -/
structure S1 (B bk gi : Nat) (C CI : Array Value) (A0 A1 : Option Addr) (n0 n1 c0 c1 : Nat) (w0 : World) (AG : Option Addr) (cG ga ca : Nat) (w : World) : Prop where
  book : w.heap[bk]? = some (.cells C 53 (0, 0))
  hdr : w.heap[gi]? = some (.cells CI 27 (0, 0))
  g0 : OI B 3 w (.slice AG (n0 + 20) cG) (List.replicate (n0 + 20) m7)
  k0 : ∀ g, A0 = some ⟨g, 0, none⟩ → g < w.heap.size ∧ ∀ j, j < n0 → w.cell? ⟨g, j, none⟩ = some m7
  r1 : OI B 3 w (.slice A1 n1 c1) (List.replicate n1 m8)
  al : OI B 27 w (.slice (some ⟨ga, 0, none⟩) 1 ca) [.slice AG (n0 + 20) cG]
  ap : ∀ q, (Value.slice A1 n1 c1).ownBlock = some q → (Value.slice AG (n0 + 20) cG).ownBlock ≠ some q
  below : Below B w0 w
  lb : B ≤ w.heap.size
  gg : ga ≠ gi
  nA0 : A0 ≠ some ⟨ga, 0, none⟩
  nA1 : A1 ≠ some ⟨ga, 0, none⟩
/-- Behind both lists' growth. -/
structure S2 (B bk gi : Nat) (C CI : Array Value) (A0 A1 : Option Addr) (n0 n1 c0 c1 : Nat) (w0 : World) (AG AH : Option Addr) (cG cH ga ca : Nat) (w : World) : Prop where
  book : w.heap[bk]? = some (.cells C 53 (0, 0))
  hdr : w.heap[gi]? = some (.cells CI 27 (0, 0))
  g0 : OI B 3 w (.slice AG (n0 + 20) cG) (List.replicate (n0 + 20) m7)
  g1 : OI B 3 w (.slice AH (n1 + 20) cH) (List.replicate (n1 + 20) m8)
  k0 : ∀ g, A0 = some ⟨g, 0, none⟩ → g < w.heap.size ∧ ∀ j, j < n0 → w.cell? ⟨g, j, none⟩ = some m7
  k1 : ∀ g, A1 = some ⟨g, 0, none⟩ → g < w.heap.size ∧ ∀ j, j < n1 → w.cell? ⟨g, j, none⟩ = some m8
  al : OI B 27 w (.slice (some ⟨ga, 0, none⟩) 2 ca) [.slice AG (n0 + 20) cG, .slice AH (n1 + 20) cH]
  below : Below B w0 w
/-- What lies beside the first list while it grows. -/
def F0 (B bk gi : Nat) (C CI : Array Value) (A1 : Option Addr) (n1 c1 : Nat) (u : World) : Prop := u.heap[bk]? = some (.cells C 53 (0, 0)) ∧ u.heap[gi]? = some (.cells CI 27 (0, 0)) ∧ OI B 3 u (.slice A1 n1 c1) (List.replicate n1 m8)
def D0 (bk gi : Nat) (A1 : Option Addr) (n1 c1 : Nat) (q : Nat) : Prop := q = bk ∨ q = gi ∨ (Value.slice A1 n1 c1).ownBlock = some q
theorem F0_kept {B bk gi : Nat} {C CI : Array Value} {A1 : Option Addr} {n1 c1 : Nat} (u u' : World) (h : F0 B bk gi C CI A1 n1 c1 u) (hq : ∀ q, D0 bk gi A1 n1 c1 q → u'.heap[q]? = u.heap[q]?) : F0 B bk gi C CI A1 n1 c1 u' :=
  ⟨(hq bk (Or.inl rfl)).trans h.1, (hq gi (Or.inr (Or.inl rfl))).trans h.2.1, h.2.2.heap (fun g hg => hq g (Or.inr (Or.inr hg)))⟩
theorem own_ne {B e t : Nat} {w : World} {v : Value} {xs : List Value} {k : Nat} {cs : Array Value} (h : OI B e w v xs) (hk : w.heap[k]? = some (.cells cs t (0, 0))) (hne : e ≠ t) : v.ownBlock ≠ some k := by
  intro hv
  obtain ⟨_, cur, hc⟩ := h.lt k hv
  rw [hk] at hc
  injection hc with hc
  injection hc with e1 e2 e3
  exact hne e2.symm
theorem lt_blk {w : World} {k : Nat} {o : Obj} (h : w.heap[k]? = some o) : k < w.heap.size := (Array.getElem?_eq_some_iff.1 h).1
theorem GX0 {B bk gi : Nat} {C CI : Array Value} {A0 A1 : Option Addr} {n0 n1 c0 c1 : Nat} {w0 w : World} (h : St B bk gi C CI A0 A1 n0 n1 c0 c1 w0 (List.replicate n0 m7) (List.replicate n1 m8) w) (hap : A0 = none ∨ A1 = none ∨ (Value.slice A0 n0 c0).ownBlock ≠ (Value.slice A1 n1 c1).ownBlock) :
    GX B w0 A0 n0 m7 (F0 B bk gi C CI A1 n1 c1) (D0 bk gi A1 n1 c1) A0 c0 0 w := by
  refine ⟨h.below, h.lb, h.r0, fun g hA => OI_rep h.r0 g hA, ⟨h.book, h.hdr, h.r1⟩, ?_⟩
  rintro q (rfl | rfl | hq)
  · exact ⟨lt_blk h.book, own_ne h.r0 h.book (by decide)⟩
  · exact ⟨lt_blk h.hdr, own_ne h.r0 h.hdr (by decide)⟩
  · refine ⟨(h.r1.lt q hq).1, ?_⟩
    rcases hap with rfl | rfl | h0
    · simp [Value.ownBlock]
    · cases hq
    · intro e
      exact h0 (e.trans hq.symm)
theorem S1.of {B bk gi : Nat} {C CI : Array Value} {A0 A1 : Option Addr} {n0 n1 c0 c1 : Nat} {w0 w w' : World} {AG : Option Addr} {cG ga ca : Nat} (h : GX B w0 A0 n0 m7 (F0 B bk gi C CI A1 n1 c1) (D0 bk gi A1 n1 c1) AG cG 20 w)
    (hk : ∀ q, q < w.heap.size → w'.heap[q]? = w.heap[q]?) (hal : OI B 27 w' (.slice (some ⟨ga, 0, none⟩) 1 ca) [.slice AG (n0 + 20) cG]) (hga : w.heap.size ≤ ga) (hb : Below B w0 w') (hs : w.heap.size ≤ w'.heap.size) : S1 B bk gi C CI A0 A1 n0 n1 c0 c1 w0 AG cG ga ca w' := by
  obtain ⟨f1, f2, f3⟩ := h.f
  refine ⟨(hk bk (lt_blk f1)).trans f1, (hk gi (lt_blk f2)).trans f2, h.g.heap (fun g hg => hk g (h.g.lt g hg).1), ?_, f3.heap (fun g hg => hk g (f3.lt g hg).1), hal, ?_, hb, by have := h.lb; omega, ?_, ?_, ?_⟩
  · intro g hA
    obtain ⟨q1, q2⟩ := h.ka g hA
    exact ⟨by omega, fun j hj => (cell_heap (hk g q1)).trans (q2 j hj)⟩
  · intro q hq
    exact (h.d q (Or.inr (Or.inr hq))).2
  · have := lt_blk f2
    omega
  · intro e
    have := (h.ka ga e).1
    omega
  · intro e
    have := (f3.lt ga (by rw [e]; rfl)).1
    omega
/-- What lies beside the second list while it grows. -/
def F1 (B bk gi : Nat) (C CI : Array Value) (A0 : Option Addr) (n0 : Nat) (AG : Option Addr) (cG ga ca : Nat) (u : World) : Prop := u.heap[bk]? = some (.cells C 53 (0, 0)) ∧ u.heap[gi]? = some (.cells CI 27 (0, 0)) ∧ OI B 3 u (.slice AG (n0 + 20) cG) (List.replicate (n0 + 20) m7) ∧
  (∀ g, A0 = some ⟨g, 0, none⟩ → ∀ j, j < n0 → u.cell? ⟨g, j, none⟩ = some m7) ∧ OI B 27 u (.slice (some ⟨ga, 0, none⟩) 1 ca) [.slice AG (n0 + 20) cG]
def D1 (bk gi : Nat) (A0 : Option Addr) (n0 : Nat) (AG : Option Addr) (cG ga : Nat) (q : Nat) : Prop := q = bk ∨ q = gi ∨ (Value.slice AG (n0 + 20) cG).ownBlock = some q ∨ A0 = some ⟨q, 0, none⟩ ∨ q = ga
theorem F1_kept {B bk gi : Nat} {C CI : Array Value} {A0 : Option Addr} {n0 : Nat} {AG : Option Addr} {cG ga ca : Nat} (u u' : World) (h : F1 B bk gi C CI A0 n0 AG cG ga ca u) (hq : ∀ q, D1 bk gi A0 n0 AG cG ga q → u'.heap[q]? = u.heap[q]?) : F1 B bk gi C CI A0 n0 AG cG ga ca u' :=
  ⟨(hq bk (Or.inl rfl)).trans h.1, (hq gi (Or.inr (Or.inl rfl))).trans h.2.1, h.2.2.1.heap (fun g hg => hq g (Or.inr (Or.inr (Or.inl hg)))),
    fun g hA j hj => (cell_heap (hq g (Or.inr (Or.inr (Or.inr (Or.inl hA)))))).trans (h.2.2.2.1 g hA j hj), h.2.2.2.2.heap (fun g hg => hq g (Or.inr (Or.inr (Or.inr (Or.inr (by injection hg with hg; exact hg.symm))))))⟩
theorem GX1 {B bk gi : Nat} {C CI : Array Value} {A0 A1 : Option Addr} {n0 n1 c0 c1 : Nat} {w0 w : World} {AG : Option Addr} {cG ga ca : Nat} (h : S1 B bk gi C CI A0 A1 n0 n1 c0 c1 w0 AG cG ga ca w) (hap : A0 = none ∨ A1 = none ∨ (Value.slice A0 n0 c0).ownBlock ≠ (Value.slice A1 n1 c1).ownBlock) :
    GX B w0 A1 n1 m8 (F1 B bk gi C CI A0 n0 AG cG ga ca) (D1 bk gi A0 n0 AG cG ga) A1 c1 0 w := by
  refine ⟨h.below, h.lb, h.r1, fun g hA => OI_rep h.r1 g hA, ⟨h.book, h.hdr, h.g0, fun g hA => (h.k0 g hA).2, h.al⟩, ?_⟩
  rintro q (rfl | rfl | hq | hq | rfl)
  · exact ⟨lt_blk h.book, own_ne h.r1 h.book (by decide)⟩
  · exact ⟨lt_blk h.hdr, own_ne h.r1 h.hdr (by decide)⟩
  · exact ⟨(h.g0.lt q hq).1, fun e => h.ap q e hq⟩
  · refine ⟨(h.k0 q hq).1, ?_⟩
    subst hq
    rcases hap with h0 | rfl | h0
    · cases h0
    · simp [Value.ownBlock]
    · exact fun e => h0 (by rw [show (Value.slice A1 n1 c1).ownBlock = some q from e]; rfl)
  · obtain ⟨q1, cur, q2⟩ := h.al.lt q rfl
    exact ⟨q1, own_ne h.r1 q2 (by decide)⟩
theorem S2.of {B bk gi : Nat} {C CI : Array Value} {A0 A1 : Option Addr} {n0 n1 c0 c1 : Nat} {w0 w w' : World} {AG AH : Option Addr} {cG cH ga ca ga2 ca2 : Nat} (h : GX B w0 A1 n1 m8 (F1 B bk gi C CI A0 n0 AG cG ga ca) (D1 bk gi A0 n0 AG cG ga) AH cH 20 w)
    (hgg : ga ≠ gi) (nA0 : A0 ≠ some ⟨ga, 0, none⟩) (nA1 : A1 ≠ some ⟨ga, 0, none⟩) (hA0 : ∀ g, A0 = some ⟨g, 0, none⟩ → g < w.heap.size)
    (hk : ∀ q, q < w.heap.size → (Value.slice (some ⟨ga, 0, none⟩) 1 ca).ownBlock ≠ some q → w'.heap[q]? = w.heap[q]?) (hal : OI B 27 w' (.slice (some ⟨ga2, 0, none⟩) 2 ca2) [.slice AG (n0 + 20) cG, .slice AH (n1 + 20) cH]) (hb : Below B w0 w') (hs : w.heap.size ≤ w'.heap.size) :
    S2 B bk gi C CI A0 A1 n0 n1 c0 c1 w0 AG AH cG cH ga2 ca2 w' := by
  obtain ⟨f1, f2, f3, f4, f5⟩ := h.f
  have hcell : ∀ q, q < w.heap.size → ∀ cs, w.heap[q]? = some (.cells cs 3 (0, 0)) → w'.heap[q]? = w.heap[q]? := fun q h1 cs h2 => hk q h1 (own_ne f5 h2 (by decide))
  have hnq : ∀ q, q ≠ ga → (Value.slice (some ⟨ga, 0, none⟩) 1 ca).ownBlock ≠ some q := fun q hq e => hq (by injection e with e; exact e.symm)
  refine ⟨(hk bk (lt_blk f1) (own_ne f5 f1 (by decide))).trans f1, (hk gi (lt_blk f2) (hnq gi (fun e => hgg e.symm))).trans f2, f3.heap (fun g hg => ?_), h.g.heap (fun g hg => ?_), ?_, ?_, hal, hb⟩
  · obtain ⟨q1, cu, q2⟩ := f3.lt g hg
    exact hcell g q1 cu q2
  · obtain ⟨q1, cu, q2⟩ := h.g.lt g hg
    exact hcell g q1 cu q2
  · intro g hA
    have q1 := hA0 g hA
    have hne := hk g q1 (hnq g (fun e => nA0 (by rw [hA, e])))
    exact ⟨by omega, fun j hj => (cell_heap hne).trans (f4 g hA j hj)⟩
  · intro g hA
    obtain ⟨q1, q2⟩ := h.ka g hA
    have hne := hk g q1 (hnq g (fun e => nA1 (by rw [hA, e])))
    exact ⟨by omega, fun j hj => (cell_heap hne).trans (q2 j hj)⟩
theorem info27' : (Try.prog.info? 27).map (fun i => (i.zero, i.size, i.bytes)) = some (some (.slice none 0 0), 1, 24) := by kernel_rfl
end BK
open BK in
set_option maxHeartbeats 8000000 in
set_option maxRecDepth 100000 in
theorem BK.aloneInts (B bk gi capI : Nat) (C CI : Array Value) (A0 A1 : Option Addr) (n0 n1 c0 c1 : Nat) (w0 : World) (a b : List Value) (w : World) (hC2 : C[2]? = some (.slice (some ⟨gi, 0, none⟩) 2 capI)) (hI0 : CI[0]? = some (.slice A0 n0 c0)) (hI1 : CI[1]? = some (.slice A1 n1 c1))
    (h : St B bk gi C CI A0 A1 n0 n1 c0 c1 w0 a b w) (hap : A0 = none ∨ A1 = none ∨ (Value.slice A0 n0 c0).ownBlock ≠ (Value.slice A1 n1 c1).ownBlock) (hn0 : n0 < 4398046511104) (hn1 : n1 < 4398046511104) (hcap : 2 ≤ capI) :
    Calls Try.prog 23 #[.pointer (some ⟨bk, 0, none⟩)] w fun e w' => e = .returned (.bool true) ∧ w'.heap[bk]? = some (.cells C 53 (0, 0)) ∧ Below B w0 w' := by
  have HS := Aside0.mk h
  have HC2 := Aside0.mk hC2
  have HI0 := Aside0.mk hI0
  have HI1 := Aside0.mk hI1
  have HAP := Aside0.mk hap
  have HSOME0 : Aside0 (0 < n0 → ∃ g, A0 = some ⟨g, 0, none⟩) := ⟨fun h0 => by
    have := OI_len h.r0
    obtain ⟨g, _, _, hv, _⟩ := h.r0.form (by omega)
    injection hv with e1
    exact ⟨g, e1⟩⟩
  have HSOME1 : Aside0 (0 < n1 → ∃ g, A1 = some ⟨g, 0, none⟩) := ⟨fun h0 => by
    have := OI_len h.r1
    obtain ⟨g, _, _, hv, _⟩ := h.r1.form (by omega)
    injection hv with e1
    exact ⟨g, e1⟩⟩
  have HLA := Aside0.mk (OI_len h.r0)
  have HLB := Aside0.mk (OI_len h.r1)
  clear h hC2 hI0 hI1 hap
  go_enter Try.func23, Try.ntmps23
  go_wp2
  go_loopw [3] (fun v3 wr => ∃ (i : Int) (x y : List Value), (i = 0 ∨ i = 1 ∨ i = 2) ∧ v3 = .int .i64 i ∧ x.length = n0 ∧ y.length = n1 ∧ (1 ≤ i → x = List.replicate n0 m7) ∧ (2 ≤ i → y = List.replicate n1 m8) ∧ Aside0 (St B bk gi C CI A0 A1 n0 n1 c0 c1 w0 x y wr)) (fun i _ => 2 - (intOf i).toNat)
  case atStart => exact ⟨0, a, b, Or.inl rfl, rfl, HLA.out.symm, HLB.out.symm, fun h => absurd h (by decide), fun h => absurd h (by decide), HS⟩
  case round =>
    clear HS
    obtain ⟨i, x, y, hi, rfl, hx, hy, hx2, hy2, HS⟩ := hrel
    have y2 : wr.cell? ⟨bk, 2, none⟩ = some (.slice (some ⟨gi, 0, none⟩) 2 capI) := (blk_cell HS.out.book 2).trans HC2.out
    have z0 : wr.cell? ⟨gi, 0, none⟩ = some (.slice A0 n0 c0) := (blk_cell HS.out.hdr 0).trans HI0.out
    have z1 : wr.cell? ⟨gi, 1, none⟩ = some (.slice A1 n1 c1) := (blk_cell HS.out.hdr 1).trans HI1.out
    rcases hi with rfl | rfl | rfl
    · have HX2 := Aside0.mk hx2
      clear hx2 hy2
      go_wp2_with fail
      clear y2 z0 z1
      go_loopw [4] (fun v4 wi => ∃ (k : Nat) (x2 : List Value), k ≤ n0 ∧ v4 = .int .i64 k ∧ x2.length = n0 ∧ x2.take k = List.replicate k m7 ∧ Aside0 (St B bk gi C CI A0 A1 n0 n1 c0 c1 w0 x2 y wi)) (fun k _ => n0 - (intOf k).toNat)
      case atStart => exact ⟨0, x, Nat.zero_le _, rfl, hx, rfl, HS⟩
      case round =>
        clear HS
        obtain ⟨k, x2, hk, rfl, hl2, htk, HS⟩ := hrel
        have y2 : wr.cell? ⟨bk, 2, none⟩ = some (.slice (some ⟨gi, 0, none⟩) 2 capI) := (blk_cell HS.out.book 2).trans HC2.out
        have z0 : wr.cell? ⟨gi, 0, none⟩ = some (.slice A0 n0 c0) := (blk_cell HS.out.hdr 0).trans HI0.out
        have z1 : wr.cell? ⟨gi, 1, none⟩ = some (.slice A1 n1 c1) := (blk_cell HS.out.hdr 1).trans HI1.out
        by_cases hlt : k < n0
        · have hk0 : (0 : Int) ≤ (k : Int) := by omega
          have hkl : (k : Int) < (n0 : Int) := by omega
          obtain ⟨g, cap, cur, hv, hbg, hgl, hgc, _⟩ := HS.out.r0.form (by omega)
          injection hv with e1 e2 e3
          subst e1
          clear e2 e3
          have hput := HS.out.put0 k (by omega) (.int .i64 (-7)) (by
            rcases HAP.out with h | h | h
            · cases h
            · exact Or.inl h
            · exact Or.inr (fun e => h e.symm))
          have hcl := HS.out.r0.cell k (by omega)
          have hfr := (HS.out.r0.put k (by omega) (.int .i64 (-7))).2.1
          have HPUT := Aside0.mk hput
          have HTK := Aside0.mk (fill_step (x := m7) (by omega) htk)
          generalize x2[k] = old at hcl
          clear hput htk hgc
          go_wp2
          exact ⟨⟨k + 1, _, by omega, by rfl, by simp [hl2], HTK.out, HPUT⟩, by simp [intOf]; omega⟩
        · have hkk : k = n0 := by omega
          have hfull : x2 = List.replicate n0 m7 := by
            have h5 := htk
            rw [hkk, List.take_of_length_le (by omega)] at h5
            exact h5
          have HF := Aside0.mk hfull
          have HL2 := Aside0.mk hl2
          clear hfull htk hkk hl2
          go_wp2
          exact ⟨⟨1, x2, y, by decide, by rfl, HL2.out, hy, fun _ => HF.out, fun h => absurd h (by decide), HS⟩, by simp [intOf]⟩
    · have HX2 := Aside0.mk hx2
      clear hx2 hy2
      go_wp2_with fail
      clear y2 z0 z1
      go_loopw [4] (fun v4 wi => ∃ (k : Nat) (y2_ : List Value), k ≤ n1 ∧ v4 = .int .i64 k ∧ y2_.length = n1 ∧ y2_.take k = List.replicate k m8 ∧ Aside0 (St B bk gi C CI A0 A1 n0 n1 c0 c1 w0 x y2_ wi)) (fun k _ => n1 - (intOf k).toNat)
      case atStart => exact ⟨0, y, Nat.zero_le _, rfl, hy, rfl, HS⟩
      case round =>
        clear HS
        obtain ⟨k, y2_, hk, rfl, hl2, htk, HS⟩ := hrel
        have y2 : wr.cell? ⟨bk, 2, none⟩ = some (.slice (some ⟨gi, 0, none⟩) 2 capI) := (blk_cell HS.out.book 2).trans HC2.out
        have z0 : wr.cell? ⟨gi, 0, none⟩ = some (.slice A0 n0 c0) := (blk_cell HS.out.hdr 0).trans HI0.out
        have z1 : wr.cell? ⟨gi, 1, none⟩ = some (.slice A1 n1 c1) := (blk_cell HS.out.hdr 1).trans HI1.out
        by_cases hlt : k < n1
        · have hk0 : (0 : Int) ≤ (k : Int) := by omega
          have hkl : (k : Int) < (n1 : Int) := by omega
          obtain ⟨g, cap, cur, hv, hbg, hgl, hgc, _⟩ := HS.out.r1.form (by omega)
          injection hv with e1 e2 e3
          subst e1
          clear e2 e3
          have hput := HS.out.put1 k (by omega) (.int .i64 (-8)) (by
            rcases HAP.out with h | h | h
            · exact Or.inl h
            · cases h
            · exact Or.inr h)
          have hcl := HS.out.r1.cell k (by omega)
          have hfr := (HS.out.r1.put k (by omega) (.int .i64 (-8))).2.1
          have HPUT := Aside0.mk hput
          have HTK := Aside0.mk (fill_step (x := m8) (by omega) htk)
          generalize y2_[k] = old at hcl
          clear hput htk hgc
          go_wp2
          exact ⟨⟨k + 1, _, by omega, by rfl, by simp [hl2], HTK.out, HPUT⟩, by simp [intOf]; omega⟩
        · have hkk : k = n1 := by omega
          have hfull : y2_ = List.replicate n1 m8 := by
            have h5 := htk
            rw [hkk, List.take_of_length_le (by omega)] at h5
            exact h5
          have HF := Aside0.mk hfull
          have HL2 := Aside0.mk hl2
          clear hfull htk hkk hl2
          go_wp2
          exact ⟨⟨2, x, y2_, by decide, by rfl, hx, HL2.out, fun _ => HX2.out (by decide), fun _ => HF.out, HS⟩, by simp [intOf]⟩
    · obtain rfl := hx2 (by decide)
      obtain rfl := hy2 (by decide)
      clear hx2 hy2 hx hy
      have HT := HS
      have y2 : wr.cell? ⟨bk, 2, none⟩ = some (.slice (some ⟨gi, 0, none⟩) 2 capI) := (blk_cell HT.out.book 2).trans HC2.out
      have z0 : wr.cell? ⟨gi, 0, none⟩ = some (.slice A0 n0 c0) := (blk_cell HT.out.hdr 0).trans HI0.out
      have z1 : wr.cell? ⟨gi, 1, none⟩ = some (.slice A1 n1 c1) := (blk_cell HT.out.hdr 1).trans HI1.out
      go_wp2
      clear y2 z0 z1
      go_loopw [5, 6] (fun v5 v6 wi => ∃ i : Int, v6 = .int .i64 i ∧ ((i = 0 ∧ v5 = .slice none 0 0 ∧ Aside0 (St B bk gi C CI A0 A1 n0 n1 c0 c1 w0 (List.replicate n0 m7) (List.replicate n1 m8) wi)) ∨ (i = 1 ∧ ∃ AG cG ga ca, v5 = .slice (some ⟨ga, 0, none⟩) 1 ca ∧ Aside0 (S1 B bk gi C CI A0 A1 n0 n1 c0 c1 w0 AG cG ga ca wi)) ∨
        (i = 2 ∧ ∃ AG AH cG cH ga ca, v5 = .slice (some ⟨ga, 0, none⟩) 2 ca ∧ Aside0 (S2 B bk gi C CI A0 A1 n0 n1 c0 c1 w0 AG AH cG cH ga ca wi)))) (fun _ i _ => 2 - (intOf i).toNat)
      case atStart => exact ⟨0, rfl, Or.inl ⟨rfl, rfl, HS⟩⟩
      case round =>
        clear HS HT
        obtain ⟨i, rfl, ⟨rfl, rfl, HT⟩ | ⟨rfl, AG, cG, ga, ca, rfl, HT⟩ | ⟨rfl, AG, AH, cG, cH, ga, ca, rfl, HT⟩⟩ := hrel
        · have y2 : wr.cell? ⟨bk, 2, none⟩ = some (.slice (some ⟨gi, 0, none⟩) 2 capI) := (blk_cell HT.out.book 2).trans HC2.out
          have z0 : wr.cell? ⟨gi, 0, none⟩ = some (.slice A0 n0 c0) := (blk_cell HT.out.hdr 0).trans HI0.out
          have z1 : wr.cell? ⟨gi, 1, none⟩ = some (.slice A1 n1 c1) := (blk_cell HT.out.hdr 1).trans HI1.out
          go_wp2_with fail
          clear y2 z0 z1
          go_loopw [7, 8] (fun v7 v8 wi => ∃ (k : Nat) (AG : Option Addr) (cG : Nat), k ≤ 20 ∧ v8 = .int .i64 k ∧ v7 = .slice AG (n0 + k) cG ∧ Aside0 (GX B w0 A0 n0 m7 (F0 B bk gi C CI A1 n1 c1) (D0 bk gi A1 n1 c1) AG cG k wi)) (fun _ k _ => 20 - (intOf k).toNat)
          case atStart => exact ⟨0, A0, c0, by decide, rfl, rfl, ⟨GX0 HT.out HAP.out⟩⟩
          case round =>
            obtain ⟨k, AG, cG, hk, rfl, rfl, HG⟩ := hrel
            by_cases hlt : k < 20
            · have hkl : (k : Int) < 20 := by omega
              have hrl : (List.replicate (n0 + k) m7).length = n0 + k := List.length_replicate
              go_wp2_with (at_builtin; refine wp_app rfl (.tmp 66) (.tmp 69) 27 3 (.int .i64 0) 8 rfl Try.underlying27 info3 rfl (by decide) B w0 wr (.slice AG (n0 + k) cG) (List.replicate (n0 + k) m7) m7 rfl HG.out.g ?aL HG.out.lb HG.out.below rfl rfl ?_; (case aL => omega); intro g' c' w' hO hk2 hc2 ha2 hb2 hs2)
              exact ⟨⟨k + 1, some ⟨g', 0, none⟩, c', by omega, by rfl, by first | rfl | (simp only [hrl]; rfl), ⟨HG.out.step F0_kept hO hk2 hc2 ha2 hb2 hs2⟩⟩, by simp [intOf]; omega⟩
            · have hkk : k = 20 := by omega
              subst hkk
              go_wp2_with (at_builtin; refine wp_app rfl (.tmp 71) (.tmp 73) 34 27 (.slice none 0 0) 24 rfl Try.underlying34 info27' rfl (by decide) B w0 wr (.slice none 0 0) [] (.slice AG (n0 + 20) cG) rfl (OI.nil _ _ _) (by decide) HG.out.lb HG.out.below rfl rfl ?_; intro g' c' w' hO hk2 hc2 ha2 hb2 hs2)
              have hfr : wr.heap.size ≤ g' := by
                rcases ha2 with h | h
                · cases h
                · exact h
              have hS1 : S1 B bk gi C CI A0 A1 n0 n1 c0 c1 w0 AG cG g' c' w' := S1.of HG.out (fun q hq => hk2 q hq (by simp [Value.ownBlock])) hO hfr hb2 hs2
              exact ⟨⟨1, by rfl, Or.inr (Or.inl ⟨rfl, AG, cG, g', c', by rfl, ⟨hS1⟩⟩)⟩, by simp [intOf]⟩
        · have y2 : wr.cell? ⟨bk, 2, none⟩ = some (.slice (some ⟨gi, 0, none⟩) 2 capI) := (blk_cell HT.out.book 2).trans HC2.out
          have z0 : wr.cell? ⟨gi, 0, none⟩ = some (.slice A0 n0 c0) := (blk_cell HT.out.hdr 0).trans HI0.out
          have z1 : wr.cell? ⟨gi, 1, none⟩ = some (.slice A1 n1 c1) := (blk_cell HT.out.hdr 1).trans HI1.out
          have HK0 : Aside0 (∀ g, A0 = some ⟨g, 0, none⟩ → g < wr.heap.size) := ⟨fun g hA => (HT.out.k0 g hA).1⟩
          have HGG := Aside0.mk HT.out.gg
          have HN0 := Aside0.mk HT.out.nA0
          have HN1 := Aside0.mk HT.out.nA1
          go_wp2_with fail
          clear y2 z0 z1
          go_loopw [7, 8] (fun v7 v8 wi => ∃ (k : Nat) (AH : Option Addr) (cH : Nat), k ≤ 20 ∧ v8 = .int .i64 k ∧ v7 = .slice AH (n1 + k) cH ∧ Aside0 (GX B w0 A1 n1 m8 (F1 B bk gi C CI A0 n0 AG cG ga ca) (D1 bk gi A0 n0 AG cG ga) AH cH k wi)) (fun _ k _ => 20 - (intOf k).toNat)
          case atStart => exact ⟨0, A1, c1, by decide, rfl, rfl, ⟨GX1 HT.out HAP.out⟩⟩
          case round =>
            obtain ⟨k, AH, cH, hk, rfl, rfl, HG⟩ := hrel
            by_cases hlt : k < 20
            · have hkl : (k : Int) < 20 := by omega
              have hrl : (List.replicate (n1 + k) m8).length = n1 + k := List.length_replicate
              go_wp2_with (at_builtin; refine wp_app rfl (.tmp 66) (.tmp 69) 27 3 (.int .i64 0) 8 rfl Try.underlying27 info3 rfl (by decide) B w0 wr (.slice AH (n1 + k) cH) (List.replicate (n1 + k) m8) m8 rfl HG.out.g ?aL HG.out.lb HG.out.below rfl rfl ?_; (case aL => omega); intro g' c' w' hO hk2 hc2 ha2 hb2 hs2)
              exact ⟨⟨k + 1, some ⟨g', 0, none⟩, c', by omega, by rfl, by first | rfl | (simp only [hrl]; rfl), ⟨HG.out.step F1_kept hO hk2 hc2 ha2 hb2 hs2⟩⟩, by simp [intOf]; omega⟩
            · have hkk : k = 20 := by omega
              subst hkk
              go_wp2_with (at_builtin; refine wp_app rfl (.tmp 71) (.tmp 73) 34 27 (.slice none 0 0) 24 rfl Try.underlying34 info27' rfl (by decide) B w0 wr (.slice (some ⟨ga, 0, none⟩) 1 ca) [.slice AG (n0 + 20) cG] (.slice AH (n1 + 20) cH) rfl HG.out.f.2.2.2.2 (by simp) HG.out.lb HG.out.below rfl rfl ?_; intro g' c' w' hO hk2 hc2 ha2 hb2 hs2)
              have hS2 : S2 B bk gi C CI A0 A1 n0 n1 c0 c1 w0 AG AH cG cH g' c' w' := S2.of HG.out HGG.out HN0.out HN1.out (fun g hA => (HG.out.d g (Or.inr (Or.inr (Or.inr (Or.inl hA))))).1) hk2 hO hb2 hs2
              exact ⟨⟨2, by rfl, Or.inr (Or.inr ⟨rfl, AG, AH, cG, cH, g', c', by rfl, ⟨hS2⟩⟩)⟩, by simp [intOf]⟩
        · have y2 : wr.cell? ⟨bk, 2, none⟩ = some (.slice (some ⟨gi, 0, none⟩) 2 capI) := (blk_cell HT.out.book 2).trans HC2.out
          have z0 : wr.cell? ⟨gi, 0, none⟩ = some (.slice A0 n0 c0) := (blk_cell HT.out.hdr 0).trans HI0.out
          have z1 : wr.cell? ⟨gi, 1, none⟩ = some (.slice A1 n1 c1) := (blk_cell HT.out.hdr 1).trans HI1.out
          go_wp2_with fail
          clear y2 z0 z1
          go_loopw [9] (fun v9 wi => ∃ i : Int, (i = 0 ∨ i = 1 ∨ i = 2) ∧ v9 = .int .i64 i ∧ wr = wi) (fun i _ => 2 - (intOf i).toNat)
          case atStart => exact ⟨0, Or.inl rfl, rfl, rfl⟩
          case round =>
            obtain ⟨i, hi, rfl, rfl⟩ := hrel
            rcases hi with rfl | rfl | rfl
            · have y2 : wr.cell? ⟨bk, 2, none⟩ = some (.slice (some ⟨gi, 0, none⟩) 2 capI) := (blk_cell HT.out.book 2).trans HC2.out
              have z0 : wr.cell? ⟨gi, 0, none⟩ = some (.slice A0 n0 c0) := (blk_cell HT.out.hdr 0).trans HI0.out
              have z1 : wr.cell? ⟨gi, 1, none⟩ = some (.slice A1 n1 c1) := (blk_cell HT.out.hdr 1).trans HI1.out
              have a0 : wr.cell? ⟨ga, 0, none⟩ = some (.slice AG (n0 + 20) cG) := HT.out.al.cell 0 (by simp)
              have a1 : wr.cell? ⟨ga, 1, none⟩ = some (.slice AH (n1 + 20) cH) := HT.out.al.cell 1 (by simp)
              go_wp2_with fail
              go_loopw [10] (fun v10 wi => ∃ (k : Nat), k ≤ n0 + 20 ∧ v10 = .int .i64 k ∧ wr = wi) (fun k _ => n0 + 20 - (intOf k).toNat)
              case atStart => exact ⟨0, Nat.zero_le _, rfl, rfl⟩
              case round =>
                obtain ⟨k, hk, rfl, rfl⟩ := hrel
                by_cases hlt : k < n0 + 20
                · have hk0 : (0 : Int) ≤ (k : Int) := by omega
                  obtain ⟨g, cap, cur, hv, _, _, _, _⟩ := HT.out.g0.form (by simp)
                  injection hv with e1 e2 e3
                  subst e1
                  clear e2 e3
                  have hcl := (OI_rep HT.out.g0 g rfl).2 k hlt
                  go_wp2
                  exact ⟨⟨k + 1, by omega, by rfl, by first | rfl | trivial⟩, by simp [intOf]; omega⟩
                · go_wp2_with fail
                  go_loopw [12] (fun v12 wi => ∃ (q : Nat), q ≤ n0 ∧ v12 = .int .i64 q ∧ wr = wi) (fun q _ => n0 - (intOf q).toNat)
                  case atStart => exact ⟨0, Nat.zero_le _, rfl, rfl⟩
                  case round =>
                    obtain ⟨q, hq, rfl, rfl⟩ := hrel
                    by_cases hlt2 : q < n0
                    · have hq0 : (0 : Int) ≤ (q : Int) := by omega
                      obtain ⟨g, hA⟩ := HSOME0.out (by omega)
                      have hcl := (HT.out.k0 g hA).2 q hlt2
                      subst hA
                      go_wp2
                      exact ⟨⟨q + 1, by omega, by rfl, by first | rfl | trivial⟩, by simp [intOf]; omega⟩
                    · go_wp2
                      exact ⟨⟨1, by decide, by rfl, by first | rfl | trivial⟩, by simp [intOf]⟩
            · have y2 : wr.cell? ⟨bk, 2, none⟩ = some (.slice (some ⟨gi, 0, none⟩) 2 capI) := (blk_cell HT.out.book 2).trans HC2.out
              have z0 : wr.cell? ⟨gi, 0, none⟩ = some (.slice A0 n0 c0) := (blk_cell HT.out.hdr 0).trans HI0.out
              have z1 : wr.cell? ⟨gi, 1, none⟩ = some (.slice A1 n1 c1) := (blk_cell HT.out.hdr 1).trans HI1.out
              have a0 : wr.cell? ⟨ga, 0, none⟩ = some (.slice AG (n0 + 20) cG) := HT.out.al.cell 0 (by simp)
              have a1 : wr.cell? ⟨ga, 1, none⟩ = some (.slice AH (n1 + 20) cH) := HT.out.al.cell 1 (by simp)
              go_wp2_with fail
              go_loopw [10] (fun v10 wi => ∃ (k : Nat), k ≤ n1 + 20 ∧ v10 = .int .i64 k ∧ wr = wi) (fun k _ => n1 + 20 - (intOf k).toNat)
              case atStart => exact ⟨0, Nat.zero_le _, rfl, rfl⟩
              case round =>
                obtain ⟨k, hk, rfl, rfl⟩ := hrel
                by_cases hlt : k < n1 + 20
                · have hk0 : (0 : Int) ≤ (k : Int) := by omega
                  obtain ⟨g, cap, cur, hv, _, _, _, _⟩ := HT.out.g1.form (by simp)
                  injection hv with e1 e2 e3
                  subst e1
                  clear e2 e3
                  have hcl := (OI_rep HT.out.g1 g rfl).2 k hlt
                  go_wp2
                  exact ⟨⟨k + 1, by omega, by rfl, by first | rfl | trivial⟩, by simp [intOf]; omega⟩
                · go_wp2_with fail
                  go_loopw [12] (fun v12 wi => ∃ (q : Nat), q ≤ n1 ∧ v12 = .int .i64 q ∧ wr = wi) (fun q _ => n1 - (intOf q).toNat)
                  case atStart => exact ⟨0, Nat.zero_le _, rfl, rfl⟩
                  case round =>
                    obtain ⟨q, hq, rfl, rfl⟩ := hrel
                    by_cases hlt2 : q < n1
                    · have hq0 : (0 : Int) ≤ (q : Int) := by omega
                      obtain ⟨g, hA⟩ := HSOME1.out (by omega)
                      have hcl := (HT.out.k1 g hA).2 q hlt2
                      subst hA
                      go_wp2
                      exact ⟨⟨q + 1, by omega, by rfl, by first | rfl | trivial⟩, by simp [intOf]; omega⟩
                    · go_wp2
                      exact ⟨⟨2, by decide, by rfl, by first | rfl | trivial⟩, by simp [intOf]⟩
            · go_wp2
              go_ret
              exact ⟨rfl, HT.out.book, HT.out.below⟩
end Go.Proofs.Ytfmhdfgliamkkab.Own
