/- The memory of package arena (the plain kind), as Lean sees it, and what note does to it. No condition. -/
import Derived.Test.YtndgfpfcdppfgaaGreatDoorWWords
import Derived.Test.YtndgfpfcdppfgaaGreatDoorWMore
import Derived.Test.YtndgfpfcdppfgaaGreatDoorWLast
import Derived.Test.YtndgfpfcdppfgaaGreatDoorRows
import Derived.Lib.Hide
import Derived.Outline
import Derived.WalkKit
import Derived.Deep.RegionHeld3
import Derived.Deep.AppendLies
import Derived.Deep.DrawnRows
import Derived.Deep.RegionLaw
import Derived.BigRegion
import Derived.WalkLawsBesides
import Derived.WalkSpells
import Derived.Laws.CopyOwn
import Derived.IntWalk
import Derived.Deep.QuietTactic
import Derived.BigQuiet
import Derived.Laws.MakeOwn
/- The memory of package arena (the plain kind), as Lean sees it, and what note does to it. No condition. -/
namespace Go.Proofs.YtndgfpfcdppfgaaGreatDoor
open Go.RowKit Go.Proofs.YtndgfpfcdppfgaaGreatDoorW.PrintWords
set_option linter.unusedVariables false
set_option linter.unusedSimpArgs false

/-- Between two memories: the blocks of K are as they were. -/
structure Kept (K : Nat → Prop) (w w' : World) : Prop where
  os : w'.os = w.os
  tape : w'.tape = w.tape
  output : w'.output = w.output
  size : w.heap.size ≤ w'.heap.size
  block : ∀ j, K j → j < w.heap.size → w'.heap[j]? = w.heap[j]?
theorem Kept.refl (K : Nat → Prop) (w : World) : Kept K w w := ⟨rfl, rfl, rfl, Nat.le_refl _, fun _ _ _ => rfl⟩
theorem Kept.trans {K : Nat → Prop} {a b c : World} (h : Kept K a b) (k : Kept K b c) : Kept K a c :=
  ⟨k.os.trans h.os, k.tape.trans h.tape, k.output.trans h.output, Nat.le_trans h.size k.size, fun j hj hl => (k.block j hj (Nat.lt_of_lt_of_le hl h.size)).trans (h.block j hj hl)⟩
theorem Kept.mono {K L : Nat → Prop} {a b : World} (h : Kept K a b) (hl : ∀ j, j < a.heap.size → L j → K j) : Kept L a b := ⟨h.os, h.tape, h.output, h.size, fun j hj hs => h.block j (hl j hs hj) hs⟩
theorem Kept.alloc {K : Nat → Prop} {a b : World} (h : Kept K a b) (o : Obj) : Kept K a (b.alloc o) := h.trans ⟨rfl, rfl, rfl, by rw [World.size_alloc]; omega, fun j _ hj => heap_alloc_old b o hj⟩
theorem Kept.drew {K : Nat → Prop} {a b : World} (h : Kept K a b) : Kept K a b.drew := h.trans ⟨rfl, rfl, rfl, Nat.le_refl _, fun _ _ _ => rfl⟩
theorem Kept.drewN {K : Nat → Prop} {a b : World} (h : Kept K a b) (n : Nat) : Kept K a (b.drewN n) := ⟨h.os, h.tape, h.output, h.size, h.block⟩
theorem Kept.setCell {K : Nat → Prop} {a b : World} (h : Kept K a b) {p : Addr} (hp : ¬ K p.block) (v : Value) : Kept K a (b.setCell p v) :=
  have hb := (Below.refl 0 b).setCell (p := p) (Nat.zero_le _) v
  h.trans ⟨hb.os, hb.tape, hb.output, hb.size, fun j hj _ => Below.heap_setCell _ _ _ _ (fun e => hp (e ▸ hj))⟩
theorem Kept.grown {K : Nat → Prop} {a b c : World} (h : Kept K a b) {row : Option Nat} (hg : b.grownBy c row) (hr : ∀ k, row = some k → ¬ K k) : Kept K a c :=
  h.trans ⟨hg.os, hg.tape, hg.output, hg.size, fun j hj hl => hg.block j hl (fun e => hr j e.symm hj)⟩
theorem Kept.of_below {K : Nat → Prop} {a b : World} (h : Below a.heap.size a b) : Kept K a b := ⟨h.os, h.tape, h.output, h.size, fun j _ hl => h.block j hl⟩
theorem Kept.below {K : Nat → Prop} {a b : World} (h : Kept K a b) {B : Nat} (hB : B ≤ a.heap.size) (hK : ∀ j, j < B → K j) : Below B a b := ⟨h.os, h.tape, h.output, h.size, fun j hj => h.block j (hK j hj) (by omega)⟩

/-- A plain memory: the Memory at bm, its cells' row at bp, the cells at bc; K: blocks that are none of its own. -/
structure Mem (w : World) (K : Nat → Prop) (bm bp bc : Nat) (cs : List Int) (fr n : Nat) (xs : List Value) : Prop where
  m : ∃ tv, w.heap[bm]? = some (.cells #[.iface 83 (.pointer (some ⟨bp, 0, none⟩)), .bool false, tv] 82 (0, 0)) ∧ w.ownsRow 0 92 8 tv n xs ∧ ∀ j, tv.ownBlock = some j → ¬ K j ∧ j ≠ bm ∧ j ≠ bp ∧ j ≠ bc
  p : w.heap[bp]? = some (.cells #[.slice (some ⟨bc, 0, none⟩) cs.length cs.length, .int .i64 fr] 85 (0, 0))
  c : w.heap[bc]? = some (.cells (cs.map fun x => Value.int .u64 x).toArray 27 (0, 0))
  ne : bm ≠ bp ∧ bm ≠ bc ∧ bp ≠ bc
  nk : ¬ K bm ∧ ¬ K bp ∧ ¬ K bc
  kl : ∀ j, K j → j < w.heap.size
  len : cs.length ≤ 4194304
  nlt : n ≤ 68719476736

/-- A thread's view of the memory. -/
def Vw (w : World) (bv bm : Nat) (th md : Int) : Prop := w.heap[bv]? = some (.cells #[.pointer (some ⟨bm, 0, none⟩), .int .i64 th, .int .i64 md] 87 (0, 0))

section
variable {w : World} {K : Nat → Prop} {bm bp bc : Nat} {cs : List Int} {fr n : Nat} {xs : List Value}
theorem Mem.alloc (h : Mem w K bm bp bc cs fr n xs) (o : Obj) : Mem (w.alloc o) (fun j => K j ∨ j = w.heap.size) bm bp bc cs fr n xs := by
  obtain ⟨tv, h1, h2, h3⟩ := h.m
  have l1 := (Array.getElem?_eq_some_iff.1 h1).1
  have l2 := (Array.getElem?_eq_some_iff.1 h.p).1
  have l3 := (Array.getElem?_eq_some_iff.1 h.c).1
  refine ⟨⟨tv, (heap_alloc_old w o l1).trans h1, h2.alloc o, fun j hj => ?_⟩, (heap_alloc_old w o l2).trans h.p, (heap_alloc_old w o l3).trans h.c, h.ne, ⟨?_, ?_, ?_⟩, fun j hj => ?_, h.len, h.nlt⟩
  · obtain ⟨a, b⟩ := h3 j hj
    refine ⟨fun hk => hk.elim a fun e => ?_, b⟩
    have := (own_lt h2 j hj)
    omega
  · exact fun hk => hk.elim h.nk.1 fun e => by omega
  · exact fun hk => hk.elim h.nk.2.1 fun e => by omega
  · exact fun hk => hk.elim h.nk.2.2 fun e => by omega
  · rw [World.size_alloc]
    exact hj.elim (fun hk => Nat.lt_succ_of_lt (h.kl j hk)) fun e => by omega
theorem Mem.less {L : Nat → Prop} (h : Mem w K bm bp bc cs fr n xs) (hl : ∀ j, L j → K j) : Mem w L bm bp bc cs fr n xs := by
  obtain ⟨tv, h1, h2, h3⟩ := h.m
  exact ⟨⟨tv, h1, h2, fun j hj => ⟨fun hk => (h3 j hj).1 (hl j hk), (h3 j hj).2⟩⟩, h.p, h.c, h.ne, ⟨fun hk => h.nk.1 (hl _ hk), fun hk => h.nk.2.1 (hl _ hk), fun hk => h.nk.2.2 (hl _ hk)⟩, fun j hj => h.kl j (hl j hj), h.len, h.nlt⟩
/-- Nothing of its own has been written. -/
theorem Mem.far {w' : World} (h : Mem w K bm bp bc cs fr n xs) (hs : w.heap.size ≤ w'.heap.size) (hb : ∀ j, j < w.heap.size → ¬ K j → w'.heap[j]? = w.heap[j]?) : Mem w' K bm bp bc cs fr n xs := by
  obtain ⟨tv, h1, h2, h3⟩ := h.m
  have l1 := (Array.getElem?_eq_some_iff.1 h1).1
  have l2 := (Array.getElem?_eq_some_iff.1 h.p).1
  have l3 := (Array.getElem?_eq_some_iff.1 h.c).1
  refine ⟨⟨tv, (hb _ l1 h.nk.1).trans h1, ⟨h2.1, ?_⟩, h3⟩, (hb _ l2 h.nk.2.1).trans h.p, (hb _ l3 h.nk.2.2).trans h.c, h.ne, h.nk, fun j hj => Nat.lt_of_lt_of_le (h.kl j hj) hs, h.len, h.nlt⟩
  rcases h2.2 with hn | ⟨g, cap, cur, rfl, hb0, hg, hrest⟩
  · exact .inl hn
  · exact .inr ⟨g, cap, cur, rfl, hb0, (hb g (Array.getElem?_eq_some_iff.1 hg).1 (h3 g rfl).1).trans hg, hrest⟩
theorem Mem.set (h : Mem w K bm bp bc cs fr n xs) {p : Addr} (hp : K p.block) (v : Value) : Mem (w.setCell p v) K bm bp bc cs fr n xs :=
  h.far (by rw [World.size_setCell]; exact Nat.le_refl _) fun j _ hk => Below.heap_setCell _ _ _ _ (fun e => hk (e ▸ hp))
theorem Mem.drew (h : Mem w K bm bp bc cs fr n xs) : Mem w.drew K bm bp bc cs fr n xs := h.far (Nat.le_refl _) fun _ _ _ => rfl
theorem Mem.drewN (h : Mem w K bm bp bc cs fr n xs) (k : Nat) : Mem (w.drewN k) K bm bp bc cs fr n xs := h.far (Nat.le_refl _) fun _ _ _ => rfl
theorem Mem.of_below {w' : World} (h : Mem w K bm bp bc cs fr n xs) (hb : Below w.heap.size w w') : Mem w' K bm bp bc cs fr n xs := h.far hb.size fun j hj _ => hb.block j hj
end

/-- Another row is the trace now; the memory's own block is written by one store. -/
theorem Mem.traced {w w1 w2 : World} {K : Nat → Prop} {bm bp bc : Nat} {cs : List Int} {fr n n' : Nat} {xs xs' : List Value} (h : Mem w K bm bp bc cs fr n xs) {tv : Value} (htv : w.cell? ⟨bm, 2, none⟩ = some tv)
    (hg : w.grownBy w1 tv.ownBlock) {g cap : Nat} (ho : w1.ownsRow 0 92 8 (.slice (some ⟨g, 0, none⟩) n' cap) n' xs') (hgg : tv.ownBlock = some g ∨ w.heap.size ≤ g) (hn : n' ≤ 68719476736)
    (hw : w2 = w1.setCell ⟨bm, 2, none⟩ (.slice (some ⟨g, 0, none⟩) n' cap)) : Mem w2 K bm bp bc cs fr n' xs' ∧ Kept K w w2 := by
  subst hw
  obtain ⟨tv', h1, h2, h3⟩ := h.m
  obtain rfl : tv = tv' := by
    have := (blk_cell h1 2).symm.trans htv
    simpa using this.symm
  have l1 := (Array.getElem?_eq_some_iff.1 h1).1
  have l2 := (Array.getElem?_eq_some_iff.1 h.p).1
  have l3 := (Array.getElem?_eq_some_iff.1 h.c).1
  have far : ∀ b, b < w.heap.size → (K b ∨ b = bm ∨ b = bp ∨ b = bc) → w1.heap[b]? = w.heap[b]? := fun b hb hk => hg.block b hb fun e => by
    obtain ⟨x1, x2, x3, x4⟩ := h3 b e.symm
    rcases hk with hk | hk | hk | hk
    · exact x1 hk
    · exact x2 hk
    · exact x3 hk
    · exact x4 hk
  have hm1 := (far bm l1 (.inr (.inl rfl))).trans h1
  have hgne : ¬ K g ∧ g ≠ bm ∧ g ≠ bp ∧ g ≠ bc := by
    rcases hgg with e | e
    · exact h3 g e
    · exact ⟨fun hk => by have := h.kl g hk; omega, by omega, by omega, by omega⟩
  have hbelow := (Below.refl 0 w1).setCell (p := ⟨bm, 2, none⟩) (Nat.zero_le _) (.slice (some ⟨g, 0, none⟩) n' cap)
  refine ⟨⟨⟨.slice (some ⟨g, 0, none⟩) n' cap, heap_setCell_same w1 bm 2 _ _ _ hm1, ⟨ho.1, ?_⟩, fun j hj => ?_⟩, ?_, ?_, h.ne, h.nk, fun j hj => ?_, h.len, hn⟩, ?_⟩
  · rcases ho.2 with hn0 | ⟨g', cap', cur, e, hb0, hg', hrest⟩
    · exact .inl hn0
    · refine .inr ⟨g', cap', cur, e, hb0, ?_, hrest⟩
      rw [Below.heap_setCell _ _ _ _ (by
        have : g = g' := by injection e with e1; injection e1 with e2; injection e2
        show g' ≠ bm
        rw [← this]; exact hgne.2.1)]
      exact hg'
  · have : g = j := by simpa [Value.ownBlock] using hj
    subst this
    exact hgne
  · rw [Below.heap_setCell _ _ _ _ (show bp ≠ bm from fun e => h.ne.1 e.symm)]
    exact (far bp l2 (.inr (.inr (.inl rfl)))).trans h.p
  · rw [Below.heap_setCell _ _ _ _ (show bc ≠ bm from fun e => h.ne.2.1 e.symm)]
    exact (far bc l3 (.inr (.inr (.inr rfl)))).trans h.c
  · rw [World.size_setCell]
    exact Nat.lt_of_lt_of_le (h.kl j hj) hg.size
  · refine ⟨hbelow.os.trans hg.os, hbelow.tape.trans hg.tape, hbelow.output.trans hg.output, by rw [World.size_setCell]; exact hg.size, fun j hk hj => ?_⟩
    rw [Below.heap_setCell _ _ _ _ (show j ≠ bm from fun e => h.nk.1 (e ▸ hk))]
    exact far j hj (.inl hk)

theorem infoAcc : (Tryz.prog.info? 92).map (fun i => (i.zero, i.size, i.bytes)) = some (some (.agg #[.int .i64 0, .int .u8 0, .int .u64 0, .int .u64 0, .int .u64 0, .slice none 0 0, .int .u64 0, .bool false]), 8, 80) := by kernel_rfl

/-- An access, as the trace holds it. -/
def acc (th kd ad xa xb : Int) (vs : Value) (gt : Int) (ok : Bool) : List Value := [.int .i64 th, .int .u8 kd, .int .u64 ad, .int .u64 xa, .int .u64 xb, vs, .int .u64 gt, .bool ok]

theorem note_end {w w1 w2 : World} {K : Nat → Prop} {bm bp bc b0 bv : Nat} {cs : List Int} {fr n : Nat} {xs : List Value} {th md : Int} (hM : Mem w1 (fun j => K j ∨ j = b0) bm bp bc cs fr n xs) (hV : Vw w1 bv bm th md) (hK : Kept (fun j => K j ∧ j ≠ bv) w w1) (hv : K bv) (hn : n < 68719476736)
    {tv : Value} (c2 : w1.cell? ⟨bm, 2, none⟩ = some tv) {o : Obj} (hgrow : (w1.alloc o).drew.grownBy w2 tv.ownBlock) {gg cap : Nat} {ys : List Value} (hown : w2.ownsRow 0 92 8 (.slice (some ⟨gg, 0, none⟩) (n + 1) cap) (n + 1) (xs ++ ys)) (hat : tv.ownBlock = some gg ∨ gg = w1.heap.size + 1) :
    Mem (w2.setCell ⟨bm, 2, none⟩ (.slice (some ⟨gg, 0, none⟩) (n + 1) cap)) K bm bp bc cs fr (n + 1) (xs ++ ys) ∧ Vw (w2.setCell ⟨bm, 2, none⟩ (.slice (some ⟨gg, 0, none⟩) (n + 1) cap)) bv bm th md ∧ Kept (fun j => K j ∧ j ≠ bv) w (w2.setCell ⟨bm, 2, none⟩ (.slice (some ⟨gg, 0, none⟩) (n + 1) cap)) := by
  have lm : bm < w1.heap.size := World.block_lt_of_cell? _ _ c2
  have hM2 := (hM.alloc o).drew.less (L := fun j => K j ∨ j = b0) fun j h => .inl h
  obtain ⟨r1, r2⟩ := hM2.traced (w2 := w2.setCell ⟨bm, 2, none⟩ (.slice (some ⟨gg, 0, none⟩) (n + 1) cap)) (tv := tv) ((World.cell?_alloc_past _ _ _ lm).trans c2) hgrow hown (by
    rcases hat with h | h
    · exact .inl h
    · right
      show (w1.alloc o).heap.size ≤ gg
      rw [World.size_alloc]; omega) (by omega) rfl
  have hk : Kept (fun j => K j ∨ j = b0) w1 (w2.setCell ⟨bm, 2, none⟩ (.slice (some ⟨gg, 0, none⟩) (n + 1) cap)) := ((Kept.refl _ w1).alloc o).drew.trans r2
  exact ⟨r1.less fun j h => .inl h, (hk.block bv (.inl hv) (Array.getElem?_eq_some_iff.1 hV).1).trans hV, hK.trans (hk.mono fun j _ h => .inl h.1)⟩

attribute [local go_sem ↓] Go.wp_at_zero Go.wp_at_succ
set_option maxHeartbeats 4000000 in
set_option maxRecDepth 100000 in
theorem note_calls {w : World} {K : Nat → Prop} {bm bp bc : Nat} {cs : List Int} {fr n : Nat} {xs : List Value} (hM : Mem w K bm bp bc cs fr n xs) {bv : Nat} (hv : K bv) {th md : Int} (hV : Vw w bv bm th md) (h0 : 0 ≤ md) (h1 : md ≤ 1152921504606846976) (hn : n < 68719476736)
    (t0 kd ad xa xb : Int) (A : Option Addr) (vl vc : Nat) (gt : Int) (ok : Bool) :
    Calls Tryz.prog 19 #[.pointer (some ⟨bv, 0, none⟩), .agg #[.int .i64 t0, .int .u8 kd, .int .u64 ad, .int .u64 xa, .int .u64 xb, .slice A vl vc, .int .u64 gt, .bool ok]] w fun e w' =>
      e = .returned (.tuple #[]) ∧ Mem w' K bm bp bc cs fr (n + 1) (xs ++ acc th kd ad xa xb (.slice A vl vc) gt ok) ∧ Vw w' bv bm th (md + 1) ∧ Kept (fun j => K j ∧ j ≠ bv) w w' := by
  have c0 : w.cell? ⟨bv, 0, none⟩ = some (.pointer (some ⟨bm, 0, none⟩)) := (blk_cell hV 0).trans rfl
  have c1 : w.cell? ⟨bv, 1, none⟩ = some (.int .i64 th) := (blk_cell hV 1).trans rfl
  have c2 : w.cell? ⟨bv, 2, none⟩ = some (.int .i64 md) := (blk_cell hV 2).trans rfl
  have f2 : w.frozen? ⟨bv, 2, none⟩ = false := blk_frozen hV 2
  obtain ⟨tv, m1, m2, m3⟩ := hM.m
  have c3 : w.cell? ⟨bm, 1, none⟩ = some (.bool false) := (blk_cell m1 1).trans rfl
  have nbv : bv ≠ bm := fun e => hM.nk.1 (e ▸ hv)
  have lv := hM.kl bv hv
  have lm := (Array.getElem?_eq_some_iff.1 m1).1
  have HM := Aside0.mk hM
  have HV := Aside0.mk hV
  have H1 := Aside0.mk m1
  have H2 := Aside0.mk m2
  have H3 := Aside0.mk m3
  clear hM hV m1 m2 m3
  go_enter Tryz.func19, Tryz.ntmps19
  go_upto_region 4 with (fail)
  have HM1 := Aside0.mk ((HM.out.set (p := ⟨bv, 2, none⟩) hv (.int .i64 (md + 1))).alloc (.cells #[.int .i64 th, .int .u8 kd, .int .u64 ad, .int .u64 xa, .int .u64 xb, .slice A vl vc, .int .u64 gt, .bool ok] 92))
  have HV1 : Aside0 (Vw ((w.setCell ⟨bv, 2, none⟩ (.int .i64 (md + 1))).alloc (.cells #[.int .i64 th, .int .u8 kd, .int .u64 ad, .int .u64 xa, .int .u64 xb, .slice A vl vc, .int .u64 gt, .bool ok] 92)) bv bm th (md + 1)) := ⟨(heap_alloc_old _ _ (by rw [World.size_setCell]; exact lv)).trans (heap_setCell_same w bv 2 _ _ (.int .i64 (md + 1)) HV.out)⟩
  have HBX : Aside0 ((((w.setCell ⟨bv, 2, none⟩ (.int .i64 (md + 1))).alloc (.cells #[.int .i64 th, .int .u8 kd, .int .u64 ad, .int .u64 xa, .int .u64 xb, .slice A vl vc, .int .u64 gt, .bool ok] 92))).heap[w.heap.size]? = some (.cells #[.int .i64 th, .int .u8 kd, .int .u64 ad, .int .u64 xa, .int .u64 xb, .slice A vl vc, .int .u64 gt, .bool ok] 92 (0, 0))) := ⟨by
    have := heap_alloc_new (w.setCell ⟨bv, 2, none⟩ (.int .i64 (md + 1))) (.cells #[.int .i64 th, .int .u8 kd, .int .u64 ad, .int .u64 xa, .int .u64 xb, .slice A vl vc, .int .u64 gt, .bool ok] 92)
    rwa [World.size_setCell] at this⟩
  have HKP : Aside0 (Kept (fun j => K j ∧ j ≠ bv) w ((w.setCell ⟨bv, 2, none⟩ (.int .i64 (md + 1))).alloc (.cells #[.int .i64 th, .int .u8 kd, .int .u64 ad, .int .u64 xa, .int .u64 xb, .slice A vl vc, .int .u64 gt, .bool ok] 92))) := ⟨((Kept.refl _ w).setCell (p := ⟨bv, 2, none⟩) (fun h => h.2 rfl) _).alloc _⟩
  rw [World.size_setCell] at HM1
  clear c0 c1 c2 f2 c3 HM HV H1 H2 H3 nbv lv lm
  generalize ((w.setCell ⟨bv, 2, none⟩ (.int .i64 (md + 1))).alloc (.cells #[.int .i64 th, .int .u8 kd, .int .u64 ad, .int .u64 xa, .int .u64 xb, .slice A vl vc, .int .u64 gt, .bool ok] 92)) = w1 at HM1 HV1 HBX HKP ⊢
  generalize w.heap.size = b0 at HM1 HBX ⊢
  obtain ⟨tv, m1, m2, m3⟩ := HM1.out.m
  obtain ⟨A4, c4, rfl⟩ : ∃ A4 c4, tv = .slice A4 n c4 := by
    rcases m2.2 with ⟨e, e2⟩ | ⟨g, cap, cur, e, _⟩
    · exact ⟨none, 0, by rw [e, e2]⟩
    · exact ⟨_, _, e⟩
  have c0 : w1.cell? ⟨bv, 0, none⟩ = some (.pointer (some ⟨bm, 0, none⟩)) := (blk_cell HV1.out 0).trans rfl
  have c2 : w1.cell? ⟨bm, 2, none⟩ = some (.slice A4 n c4) := (blk_cell m1 2).trans rfl
  have d0 : w1.cell? ⟨b0, 0, none⟩ = some (.int .i64 th) := (blk_cell HBX.out 0).trans rfl
  have d1 : w1.cell? ⟨b0, 1, none⟩ = some (.int .u8 kd) := (blk_cell HBX.out 1).trans rfl
  have d2 : w1.cell? ⟨b0, 2, none⟩ = some (.int .u64 ad) := (blk_cell HBX.out 2).trans rfl
  have d3 : w1.cell? ⟨b0, 3, none⟩ = some (.int .u64 xa) := (blk_cell HBX.out 3).trans rfl
  have d4 : w1.cell? ⟨b0, 4, none⟩ = some (.int .u64 xb) := (blk_cell HBX.out 4).trans rfl
  have d5 : w1.cell? ⟨b0, 5, none⟩ = some (.slice A vl vc) := (blk_cell HBX.out 5).trans rfl
  have d6 : w1.cell? ⟨b0, 6, none⟩ = some (.int .u64 gt) := (blk_cell HBX.out 6).trans rfl
  have d7 : w1.cell? ⟨b0, 7, none⟩ = some (.bool ok) := (blk_cell HBX.out 7).trans rfl
  have lv := HM1.out.kl bv (.inl hv)
  have lb := HM1.out.kl b0 (.inr rfl)
  have lm := (Array.getElem?_eq_some_iff.1 m1).1
  have ev : (Value.slice A4 n c4).ownBlock ≠ some bv := fun e => (m3 bv e).1 (.inl hv)
  have eb : (Value.slice A4 n c4).ownBlock ≠ some b0 := fun e => (m3 b0 e).1 (.inr rfl)
  have em : (Value.slice A4 n c4).ownBlock ≠ some bm := fun e => (m3 bm e).2.1 rfl
  have fm : w1.frozen? ⟨bm, 2, none⟩ = false := blk_frozen m1 2
  obtain ⟨i0, hi0, hz0, hz1, hz2⟩ := info_parts infoAcc
  have H2 := Aside0.mk m2
  clear m1 m2 m3
  go_region_law ((refine step_append_lies _ (by rfl) _ _ _ (by rfl) 0 92 i0 _ 8 80 Tryz.underlying80 hi0 hz0 hz1 hz2 rfl (by omega) (.slice A4 n c4) n xs (by rfl) ((H2.out.alloc _).drew) ⟨w1.heap.size, 0, none⟩ 1 1 (acc th kd ad xa xb (.slice A vl vc) gt ok) (by rfl) (by rfl) (World.news_of_block (cs := (acc th kd ad xa xb (.slice A vl vc) gt ok).toArray) (t := 92) (fr := (0, 0)) (heap_alloc_new w1 _)) (by simp [acc, Value.oneCell']) (by omega) (by unfold maxLen; omega) (by omega) (Nat.zero_le _) (w1.heap.size + 1) (by simp) ?_; intro gg cap w2 hown1 hgrow hat hlt; have fm2 : w2.frozen? ⟨bm, 2, none⟩ = false := (hgrow.frozen_far _ (by simp; omega) (Ne.symm em)).trans ((World.frozen?_alloc_past _ _ _ lm).trans fm); have cm2 : w2.cell? ⟨bm, 2, none⟩ = some (.slice A4 n c4) := (hgrow.cell_far _ (by simp; omega) (Ne.symm em)).trans ((World.cell?_alloc_past _ _ _ lm).trans c2); have ce2 : w2.cell? ⟨bv, 0, none⟩ = some (.pointer (some ⟨bm, 0, none⟩)) := (hgrow.cell_far _ (by simp; omega) (Ne.symm ev)).trans ((World.cell?_alloc_past _ _ _ lv).trans c0)))
  all_goals (go_end0; exact ⟨rfl, note_end HM1.out HV1.out HKP.out hv hn c2 hgrow hown1 hat⟩)
end Go.Proofs.YtndgfpfcdppfgaaGreatDoor

/- What the plain memory's own methods do, and Peek, Load, Store, Cas of a view. No condition. -/
namespace Go.Proofs.YtndgfpfcdppfgaaGreatDoor
open Go.RowKit Go.Proofs.YtndgfpfcdppfgaaGreatDoorW.PrintWords
set_option linter.unusedVariables false
set_option linter.unusedSimpArgs false

theorem meth_size (a : Addr) (w : World) : (method 352 83 (.pointer (some a)) "shutter/arena.size").run Tryz.prog w = .ok (152, .pointer (some a)) w := by kernel_rfl
theorem meth_load (a : Addr) (w : World) : (method 352 83 (.pointer (some a)) "shutter/arena.load").run Tryz.prog w = .ok (150, .pointer (some a)) w := by kernel_rfl
theorem meth_store (a : Addr) (w : World) : (method 352 83 (.pointer (some a)) "shutter/arena.store").run Tryz.prog w = .ok (153, .pointer (some a)) w := by kernel_rfl
theorem meth_cas (a : Addr) (w : World) : (method 352 83 (.pointer (some a)) "shutter/arena.cas").run Tryz.prog w = .ok (148, .pointer (some a)) w := by kernel_rfl
theorem meth_alloc (a : Addr) (w : World) : (method 352 83 (.pointer (some a)) "shutter/arena.alloc").run Tryz.prog w = .ok (147, .pointer (some a)) w := by kernel_rfl
section
variable {w : World} {K : Nat → Prop} {bm bp bc : Nat} {cs : List Int} {fr n : Nat} {xs : List Value}
theorem Mem.pc (hM : Mem w K bm bp bc cs fr n xs) : w.cell? ⟨bp, 0, none⟩ = some (.slice (some ⟨bc, 0, none⟩) cs.length cs.length) ∧ w.cell? ⟨bp, 1, none⟩ = some (.int .i64 fr) := ⟨(blk_cell hM.p 0).trans rfl, (blk_cell hM.p 1).trans rfl⟩
theorem Mem.mc (hM : Mem w K bm bp bc cs fr n xs) : w.cell? ⟨bm, 0, none⟩ = some (.iface 83 (.pointer (some ⟨bp, 0, none⟩))) ∧ w.cell? ⟨bm, 1, none⟩ = some (.bool false) := by
  obtain ⟨tv, h, _⟩ := hM.m
  exact ⟨(blk_cell h 0).trans rfl, (blk_cell h 1).trans rfl⟩
theorem Mem.cc (hM : Mem w K bm bp bc cs fr n xs) (i : Nat) (h : i < cs.length) : w.cell? ⟨bc, i, none⟩ = some (.int .u64 (rd cs i)) := by
  refine (blk_cell hM.c i).trans ?_
  unfold rd
  simp [h]
theorem size_calls (hM : Mem w K bm bp bc cs fr n xs) : Calls Tryz.prog 152 #[.pointer (some ⟨bp, 0, none⟩)] w fun e w' => e = .returned (.int .i64 cs.length) ∧ w = w' := by
  obtain ⟨p0, p1⟩ := hM.pc
  clear hM
  go_enter Tryz.func152, Tryz.ntmps152
  go_wp2
  go_ret
  exact ⟨rfl, rfl⟩
theorem pload_calls (hM : Mem w K bm bp bc cs fr n xs) (ad : Int) (h0 : 0 ≤ ad) (h1 : ad < cs.length) : Calls Tryz.prog 150 #[.pointer (some ⟨bp, 0, none⟩), .int .u64 ad] w fun e w' => e = .returned (.int .u64 (rd cs ad)) ∧ w = w' := by
  obtain ⟨p0, p1⟩ := hM.pc
  have hc := hM.cc ad.toNat (by omega)
  rw [show ((ad.toNat : Nat) : Int) = ad from by omega] at hc
  clear hM
  go_enter Tryz.func150, Tryz.ntmps150
  go_wp2
  go_ret
  exact ⟨rfl, rfl⟩
set_option maxRecDepth 100000 in
theorem has_calls (hM : Mem w K bm bp bc cs fr n xs) (ad : Int) (h0 : 0 ≤ ad) : Calls Tryz.prog 26 #[.pointer (some ⟨bm, 0, none⟩), .int .u64 ad] w fun e w' => e = .returned (.bool (decide (ad < (cs.length : Int)))) ∧ w = w' := by
  obtain ⟨p0, p1⟩ := hM.mc
  have HS := Lib.hid (size_calls hM)
  have hl := hM.len
  have hm := meth_size
  clear hM
  go_enter Tryz.func26, Tryz.ntmps26
  go_wp2_with (go_at_call 152; refine HS.out.mono ?_; rintro e w' ⟨rfl, rfl⟩)
  go_ret
  exact ⟨rfl, rfl⟩
set_option maxRecDepth 100000 in
theorem pcas_yes (hM : Mem w K bm bp bc cs fr n xs) (ad now : Int) (h0 : 0 ≤ ad) (h1 : ad < cs.length) : Calls Tryz.prog 148 #[.pointer (some ⟨bp, 0, none⟩), .int .u64 ad, .int .u64 (rd cs ad), .int .u64 now] w fun e w' => e = .returned (.bool true) ∧ w' = w.setCell ⟨bc, ad.toNat, none⟩ (.int .u64 now) := by
  obtain ⟨p0, p1⟩ := hM.pc
  have hc := hM.cc ad.toNat (by omega)
  rw [show ((ad.toNat : Nat) : Int) = ad from by omega] at hc
  have hf : w.frozen? ⟨bc, ad.toNat, none⟩ = false := blk_frozen hM.c _
  clear hM
  generalize rd cs ad = x at hc ⊢
  go_enter Tryz.func148, Tryz.ntmps148
  go_wp2
  go_ret
  exact ⟨rfl, rfl⟩
set_option maxRecDepth 100000 in
theorem pcas_no (hM : Mem w K bm bp bc cs fr n xs) (ad old now : Int) (h0 : 0 ≤ ad) (h1 : ad < cs.length) (hx : rd cs ad ≠ old) : Calls Tryz.prog 148 #[.pointer (some ⟨bp, 0, none⟩), .int .u64 ad, .int .u64 old, .int .u64 now] w fun e w' => e = .returned (.bool false) ∧ w = w' := by
  obtain ⟨p0, p1⟩ := hM.pc
  have hc := hM.cc ad.toNat (by omega)
  rw [show ((ad.toNat : Nat) : Int) = ad from by omega] at hc
  clear hM
  generalize rd cs ad = x at hc hx
  have hb : (x != old) = true := by simpa using hx
  clear hx
  go_enter Tryz.func148, Tryz.ntmps148
  go_wp2
  go_ret
  exact ⟨rfl, rfl⟩
/-- A cell of the memory is written. -/
theorem Mem.put (hM : Mem w K bm bp bc cs fr n xs) (ad v : Int) (h0 : 0 ≤ ad) : Mem (w.setCell ⟨bc, ad.toNat, none⟩ (.int .u64 v)) K bm bp bc (cs.set ad.toNat v) fr n xs ∧ Kept K w (w.setCell ⟨bc, ad.toNat, none⟩ (.int .u64 v)) := by
  obtain ⟨tv, h1, h2, h3⟩ := hM.m
  have hc := heap_setCell_same w bc ad.toNat _ _ (.int .u64 v) hM.c
  refine ⟨⟨⟨tv, ?_, ⟨h2.1, ?_⟩, h3⟩, ?_, ?_, hM.ne, hM.nk, fun j hj => ?_, by simpa using hM.len, hM.nlt⟩, (Kept.refl K w).setCell hM.nk.2.2 _⟩
  · rw [Below.heap_setCell _ _ _ _ (show bm ≠ bc from hM.ne.2.1)]; exact h1
  · rcases h2.2 with hn | ⟨g, cap, cur, rfl, hb0, hg, hrest⟩
    · exact .inl hn
    · refine .inr ⟨g, cap, cur, rfl, hb0, ?_, hrest⟩
      rw [Below.heap_setCell _ _ _ _ (show g ≠ bc from (h3 g rfl).2.2.2)]; exact hg
  · rw [Below.heap_setCell _ _ _ _ (show bp ≠ bc from hM.ne.2.2), List.length_set]; exact hM.p
  · rw [hc]
    congr 2
    apply Array.ext'
    simp [List.map_set]
  · rw [World.size_setCell]; exact hM.kl j hj
/-- What a cell holds; 0 where there is none. -/
def pk (cs : List Int) (ad : Int) : Int := if ad < (cs.length : Int) then rd cs ad else 0
set_option maxHeartbeats 1000000 in
set_option maxRecDepth 100000 in
theorem peek_calls (hM : Mem w K bm bp bc cs fr n xs) (ad : Int) (h0 : 0 ≤ ad) : Calls Tryz.prog 15 #[.pointer (some ⟨bm, 0, none⟩), .int .u64 ad] w fun e w' => e = .returned (.int .u64 (pk cs ad)) ∧ w = w' := by
  obtain ⟨p0, p1⟩ := hM.mc
  have HH := Lib.hid (has_calls hM ad h0)
  have hm := meth_load
  unfold pk
  by_cases h : ad < (cs.length : Int)
  · have HL := Lib.hid (pload_calls hM ad h0 h)
    have hd : decide (ad < (cs.length : Int)) = true := decide_eq_true h
    rw [if_pos h]
    clear hM
    go_enter Tryz.func15, Tryz.ntmps15
    go_wp2_with (first
      | (go_at_call 26; refine HH.out.mono ?_; rintro e w' ⟨rfl, rfl⟩)
      | (go_at_call 150; refine HL.out.mono ?_; rintro e w' ⟨rfl, rfl⟩))
    go_ret
    exact ⟨rfl, rfl⟩
  · have hd : decide (ad < (cs.length : Int)) = false := decide_eq_false h
    rw [if_neg h]
    clear hM
    go_enter Tryz.func15, Tryz.ntmps15
    go_wp2_with (go_at_call 26; refine HH.out.mono ?_; rintro e w' ⟨rfl, rfl⟩)
    go_ret
    exact ⟨rfl, rfl⟩
set_option maxHeartbeats 2000000 in
set_option maxRecDepth 100000 in
theorem load_calls (hM : Mem w K bm bp bc cs fr n xs) {bv : Nat} (hv : K bv) {th md : Int} (hV : Vw w bv bm th md) (hd0 : 0 ≤ md) (hd1 : md ≤ 1152921504606846976) (hn : n < 68719476736) (ad : Int) (h0 : 0 ≤ ad) :
    Calls Tryz.prog 128 #[.pointer (some ⟨bv, 0, none⟩), .int .u64 ad] w fun e w' => e = .returned (.int .u64 (pk cs ad)) ∧ Mem w' K bm bp bc cs fr (n + 1) (xs ++ acc th 1 ad 0 0 (.slice none 0 0) (pk cs ad) false) ∧ Vw w' bv bm th (md + 1) ∧ Kept (fun j => K j ∧ j ≠ bv) w w' := by
  have c0 : w.cell? ⟨bv, 0, none⟩ = some (.pointer (some ⟨bm, 0, none⟩)) := (blk_cell hV 0).trans rfl
  have HP := Lib.hid (peek_calls hM ad h0)
  have HN := Lib.hid (note_calls hM hv hV hd0 hd1 hn 0 1 ad 0 0 none 0 0 (pk cs ad) false)
  clear hM hV
  generalize pk cs ad = x at HP HN ⊢
  go_enter Tryz.func128, Tryz.ntmps128
  go_wp2_with (first
    | (go_at_call 15; refine HP.out.mono ?_; rintro e w' ⟨rfl, rfl⟩)
    | (go_at_call 19; refine HN.out.mono ?_; rintro e w' ⟨rfl, h⟩; have H := Aside0.mk h; clear h))
  go_ret
  exact ⟨rfl, H.out⟩
/-- What the cells are behind a store. -/
def stC (cs : List Int) (ad v : Int) : List Int := if ad < (cs.length : Int) then cs.set ad.toNat v else cs
/-- Is it swapped? -/
def casB (cs : List Int) (ad old : Int) : Bool := decide (ad < (cs.length : Int)) && (rd cs ad == old)
def casC (cs : List Int) (ad old now : Int) : List Int := if casB cs ad old = true then cs.set ad.toNat now else cs
set_option maxHeartbeats 2000000 in
set_option maxRecDepth 100000 in
theorem cas_calls (hM : Mem w K bm bp bc cs fr n xs) {bv : Nat} (hv : K bv) {th md : Int} (hV : Vw w bv bm th md) (hd0 : 0 ≤ md) (hd1 : md ≤ 1152921504606846976) (hn : n < 68719476736) (ad old now : Int) (h0 : 0 ≤ ad) :
    Calls Tryz.prog 129 #[.pointer (some ⟨bv, 0, none⟩), .int .u64 ad, .int .u64 old, .int .u64 now] w fun e w' => e = .returned (.bool (casB cs ad old)) ∧ Mem w' K bm bp bc (casC cs ad old now) fr (n + 1) (xs ++ acc th 3 ad old now (.slice none 0 0) 0 (casB cs ad old)) ∧ Vw w' bv bm th (md + 1) ∧ Kept (fun j => K j ∧ j ≠ bv) w w' := by
  have c0 : w.cell? ⟨bv, 0, none⟩ = some (.pointer (some ⟨bm, 0, none⟩)) := (blk_cell hV 0).trans rfl
  obtain ⟨m0, m1⟩ := hM.mc
  have HH := Lib.hid (has_calls hM ad h0)
  have hm := meth_cas
  by_cases h : ad < (cs.length : Int)
  · have hd : decide (ad < (cs.length : Int)) = true := decide_eq_true h
    by_cases hx : rd cs ad = old
    · subst hx
      have e1 : casB cs ad (rd cs ad) = true := by unfold casB; rw [hd]; simp
      have e2 : casC cs ad (rd cs ad) now = cs.set ad.toNat now := by unfold casC; rw [if_pos e1]
      rw [e1, e2]
      have HL := Lib.hid (pcas_yes hM ad now h0 h)
      obtain ⟨q1, q2⟩ := hM.put ad now h0
      have hV1 : Vw (w.setCell ⟨bc, ad.toNat, none⟩ (.int .u64 now)) bv bm th md := (q2.block bv hv (hM.kl bv hv)).trans hV
      have HN := Lib.hid (note_calls q1 hv hV1 hd0 hd1 hn 0 3 ad (rd cs ad) now none 0 0 0 true)
      have HQ := Aside0.mk (q2.mono (L := fun j => K j ∧ j ≠ bv) fun j _ h => h.1)
      clear hM hV q1 q2 hV1 e1 e2
      generalize rd cs ad = x at HL HN ⊢
      go_enter Tryz.func129, Tryz.ntmps129
      go_wp2_with (first
        | (go_at_call 26; refine HH.out.mono ?_; rintro e w' ⟨rfl, rfl⟩)
        | (go_at_call 148; refine HL.out.mono ?_; rintro e w' ⟨rfl, rfl⟩)
        | (go_at_call 19; refine HN.out.mono ?_; rintro e w' ⟨rfl, h⟩; have H := Aside0.mk h; clear h))
      go_ret
      exact ⟨rfl, H.out.1, H.out.2.1, HQ.out.trans H.out.2.2⟩
    · have e1 : casB cs ad old = false := by unfold casB; rw [hd]; simp [hx]
      have e2 : casC cs ad old now = cs := by unfold casC; rw [if_neg (by rw [e1]; decide)]
      rw [e1, e2]
      have HL := Lib.hid (pcas_no hM ad old now h0 h hx)
      have HN := Lib.hid (note_calls hM hv hV hd0 hd1 hn 0 3 ad old now none 0 0 0 false)
      clear hM hV e1 e2 hx
      go_enter Tryz.func129, Tryz.ntmps129
      go_wp2_with (first
        | (go_at_call 26; refine HH.out.mono ?_; rintro e w' ⟨rfl, rfl⟩)
        | (go_at_call 148; refine HL.out.mono ?_; rintro e w' ⟨rfl, rfl⟩)
        | (go_at_call 19; refine HN.out.mono ?_; rintro e w' ⟨rfl, h⟩; have H := Aside0.mk h; clear h))
      go_ret
      exact ⟨rfl, H.out⟩
  · have hd : decide (ad < (cs.length : Int)) = false := decide_eq_false h
    have e1 : casB cs ad old = false := by unfold casB; rw [hd]; rfl
    have e2 : casC cs ad old now = cs := by unfold casC; rw [if_neg (by rw [e1]; decide)]
    rw [e1, e2]
    have HN := Lib.hid (note_calls hM hv hV hd0 hd1 hn 0 3 ad old now none 0 0 0 false)
    clear hM hV e1 e2
    go_enter Tryz.func129, Tryz.ntmps129
    go_wp2_with (first
      | (go_at_call 26; refine HH.out.mono ?_; rintro e w' ⟨rfl, rfl⟩)
      | (go_at_call 19; refine HN.out.mono ?_; rintro e w' ⟨rfl, h⟩; have H := Aside0.mk h; clear h))
    go_ret
    exact ⟨rfl, H.out⟩
end
end Go.Proofs.YtndgfpfcdppfgaaGreatDoor

/- Alloc: cells are handed out, and hold what was asked. slices.Clone at []uint64. Lists of at least one number. -/
namespace Go.Proofs.YtndgfpfcdppfgaaGreatDoor
open Go.RowKit Go.Proofs.YtndgfpfcdppfgaaGreatDoorW.PrintWords
set_option linter.unusedVariables false
set_option linter.unusedSimpArgs false

/-- copy onto a known row, as one step of a region that draws its order; the world written out. -/
theorem step_copy_row {P : Program} {ops : Array Oper} {o : Oper} {a : Act} {w : World} {K : Act → World → Prop} {Q : Exit → Act → World → Prop} {E : Prop} (hgd : o.guard = none) (d s : Operand) (dT sT : TypeId)
    (ho : o.op = .call { callee := .builtin .copy, args := #[d, s], argTypes := #[dT, sT] }) (elem : TypeId) (hu : P.underlying dT = some (.slice elem)) (hsz : (P.info? elem).map (·.size) = some 1)
    (g off dLen dCap : Nat) (ad : Addr) (sLen sCap : Nat) (hd : a.eval d = .slice (some ⟨g, off, none⟩) dLen dCap) (hs : a.eval s = .slice (some ad) sLen sCap)
    (cur : Array Value) (t : TypeId) (hg : w.heap[g]? = some (.cells cur t (0, 0))) (cs : List Value) (hn : cs.length = Nat.min sLen dLen)
    (hsrc : ∀ j v, cs[j]? = some v → w.cell? (ad.add j) = some v) (hfit : off + cs.length ≤ cur.size) (h1 : ∀ v ∈ cs, v.oneCell' = true)
    (h : ∀ w', Hid (w' = w.setRow g (cur.toList.take off ++ (cs ++ cur.toList.drop (off + cs.length))).toArray) → K (a.put o.dst (goInt cs.length)) w') :
    if Region.wanted o (yielded ops a.tmps) = true then Oper.wp P o a w K Q else E := by
  have hw : Region.wanted o (yielded ops a.tmps) = true := by simp [Region.wanted, hgd]
  rw [if_pos hw]
  have hrun := run_copy_row (P := P) w dT sT o.type elem g off dLen dCap ad sLen sCap cur t cs hu hsz hg hn hsrc hfit h1
  unfold Oper.wp
  simp [execOp, ho, resolve, invoke, builtin, hd, hs, hrun, Result.andThen]
  exact h _ (Lib.hid rfl)

theorem infoU64 : (Tryz.prog.info? 27).map (fun i => (i.zero, i.size, i.bytes)) = some (some (.int .u64 0), 1, 8) := by kernel_rfl
set_option maxHeartbeats 1000000 in
set_option maxRecDepth 100000 in
theorem clone_calls (w : World) (ad : Addr) (m c : Nat) (vs : List Int) (hl : vs.length = m) (hm : 0 < m) (hmx : m ≤ 4194304) (hr : ∀ j, j < m → w.cell? (ad.add j) = some (.int .u64 (vs.getD j 0))) :
    Calls Tryz.prog 20 #[.slice (some ad) m c] w fun e w' => ∃ g cap, e = .returned (.slice (some ⟨g, 0, none⟩) m cap) ∧ w'.ownsRow w.heap.size 27 1 (.slice (some ⟨g, 0, none⟩) m cap) m (nums .u64 vs) ∧ Below w.heap.size w w' := by
  have hnil := fun wx a n c n' c' => Lib.run_eql_slice_nil (P := Tryz.prog) wx 31 27 a n c n' c' Tryz.underlying31
  obtain ⟨i0, hi0, hz0, hz1, hz2⟩ := info_parts infoU64
  have hmade := World.ownsRow_made (base := w.heap.size) (e := 27) (size := 1) w #[] 0 (Nat.le_refl _) (by decide) rfl
  have hnews : ∀ j u, (nums .u64 vs)[j]? = some u → (w.alloc (.cells #[] 27)).cell? (ad.add j) = some u := by
    intro j u hu
    have hj : j < m := by
      have := (List.getElem?_eq_some_iff.1 hu).1
      rw [nums_length] at this
      omega
    have h1 := hr j hj
    have hb := World.block_lt_of_cell? _ _ h1
    rw [World.cell?_of_block (heap_alloc_old w _ hb), h1]
    unfold nums at hu
    rw [List.getElem?_map] at hu
    obtain ⟨x, hx, rfl⟩ := Option.map_eq_some_iff.1 hu
    simp [List.getD_eq_getElem?_getD, hx]
  have HNW := Aside0.mk hnews
  have HMD := Aside0.mk hmade
  clear hr hnews hmade
  go_enter Tryz.func20, Tryz.ntmps20
  go_wp2_with (at_builtin; go_loud (refine wpList_append_lies _ rfl (.tmp 5) (.tmp 6) 31 rfl w.heap.size 27 i0 (.int .u64 0) 1 8 Tryz.underlying31 hi0 hz0 hz1 hz2 rfl (by omega) (.slice (some ⟨w.heap.size, 0, none⟩) 0 0) 0 [] (by rfl) HMD.out ad m c (nums .u64 vs) (by rfl) (by rw [nums_length]; omega) HNW.out (by simp [nums, Value.oneCell']) (by omega) (by unfold maxLen; omega) (by omega) (by simp) (w.heap.size + 1) (by simp) ?_); intro g cap w2 hown hgrow hat hlt; have HO := Aside0.mk hown; have HG := Aside0.mk hgrow; clear hown hgrow)
  go_ret
  refine ⟨g, cap, by simp, by simpa using HO.out, ?_⟩
  refine (((Below.refl w.heap.size w).alloc (Nat.le_refl _) _).grown HG.out (by simp) fun k hk => ?_)
  have : w.heap.size = k := by simpa [Value.ownBlock] using hk
  omega

section
variable {w : World} {K : Nat → Prop} {bm bp bc : Nat} {cs : List Int} {fr n : Nat} {xs : List Value}
/-- The cells behind an Alloc for which there is room. -/
def alC (cs : List Int) (fr : Nat) (vs : List Int) : List Int := cs.take fr ++ (vs ++ cs.drop (fr + vs.length))
/-- Cells are handed out. -/
theorem Mem.handed (hM : Mem w K bm bp bc cs fr n xs) (vs : List Int) (hfit : fr + vs.length ≤ cs.length) {w2 : World} (h2 : w2 = (w.setRow bc (((cs.map fun x => Value.int .u64 x).toArray).toList.take fr ++ (nums .u64 vs ++ ((cs.map fun x => Value.int .u64 x).toArray).toList.drop (fr + (nums .u64 vs).length))).toArray).setCell ⟨bp, 1, none⟩ (.int .i64 ((fr + vs.length : Nat) : Int))) :
    Mem w2 K bm bp bc (alC cs fr vs) (fr + vs.length) n xs ∧ Kept K w w2 := by
  subst h2
  obtain ⟨tv, h1, h2, h3⟩ := hM.m
  have hc := setRow_heap w bc _ (((cs.map fun x => Value.int .u64 x).toArray).toList.take fr ++ (nums .u64 vs ++ ((cs.map fun x => Value.int .u64 x).toArray).toList.drop (fr + (nums .u64 vs).length))).toArray _ _ hM.c
  have ho : ∀ j, j ≠ bc → (w.setRow bc (((cs.map fun x => Value.int .u64 x).toArray).toList.take fr ++ (nums .u64 vs ++ ((cs.map fun x => Value.int .u64 x).toArray).toList.drop (fr + (nums .u64 vs).length))).toArray).heap[j]? = w.heap[j]? := fun j hj => setRow_other _ _ _ _ hj
  have hlen : (alC cs fr vs).length = cs.length := by unfold alC; simp; omega
  have hz : (w.setRow bc (((cs.map fun x => Value.int .u64 x).toArray).toList.take fr ++ (nums .u64 vs ++ ((cs.map fun x => Value.int .u64 x).toArray).toList.drop (fr + (nums .u64 vs).length))).toArray).heap.size = w.heap.size := setRow_size _ _ _
  have hk : Kept K w (w.setRow bc (((cs.map fun x => Value.int .u64 x).toArray).toList.take fr ++ (nums .u64 vs ++ ((cs.map fun x => Value.int .u64 x).toArray).toList.drop (fr + (nums .u64 vs).length))).toArray) := ⟨rfl, rfl, rfl, by rw [hz]; exact Nat.le_refl _, fun j hj _ => ho j fun e => hM.nk.2.2 (e ▸ hj)⟩
  have hA : (((cs.map fun x => Value.int .u64 x).toArray).toList.take fr ++ (nums .u64 vs ++ ((cs.map fun x => Value.int .u64 x).toArray).toList.drop (fr + (nums .u64 vs).length))).toArray = ((alC cs fr vs).map fun x => Value.int .u64 x).toArray := by
    unfold alC
    simp only [nums_length, List.map_append, List.map_take, List.map_drop]
    rfl
  rw [hA] at hc ho hz hk ⊢
  generalize w.setRow bc ((alC cs fr vs).map fun x => Value.int .u64 x).toArray = w1 at hc ho hz hk ⊢
  have hp := heap_setCell_same w1 bp 1 _ _ (.int .i64 ((fr + vs.length : Nat) : Int)) ((ho bp hM.ne.2.2).trans hM.p)
  refine ⟨⟨⟨tv, ?_, ⟨h2.1, ?_⟩, h3⟩, ?_, ?_, hM.ne, hM.nk, fun j hj => ?_, by rw [hlen]; exact hM.len, hM.nlt⟩, hk.setCell hM.nk.2.1 _⟩
  · rw [Below.heap_setCell _ _ _ _ (show bm ≠ bp from hM.ne.1), ho _ hM.ne.2.1]; exact h1
  · rcases h2.2 with hn | ⟨g, cap, cur, rfl, hb0, hg, hrest⟩
    · exact .inl hn
    · refine .inr ⟨g, cap, cur, rfl, hb0, ?_, hrest⟩
      rw [Below.heap_setCell _ _ _ _ (show g ≠ bp from (h3 g rfl).2.2.1), ho _ (h3 g rfl).2.2.2]; exact hg
  · rw [hp, hlen]; rfl
  · rw [Below.heap_setCell _ _ _ _ (show bc ≠ bp from fun e => hM.ne.2.2 e.symm)]; exact hc
  · rw [World.size_setCell, hz]; exact hM.kl j hj
set_option maxHeartbeats 4000000 in
set_option maxRecDepth 100000 in
theorem palloc_calls (hM : Mem w K bm bp bc cs fr n xs) (hfr : fr ≤ cs.length) (ad : Addr) (hK : K ad.block) (m c : Nat) (vs : List Int) (hl : vs.length = m) (hm : 0 < m) (hmx : m ≤ 4194304) (hr : ∀ j, j < m → w.cell? (ad.add j) = some (.int .u64 (vs.getD j 0))) (hfit : fr + m ≤ cs.length) :
    Calls Tryz.prog 147 #[.pointer (some ⟨bp, 0, none⟩), .slice (some ad) m c] w fun e w' => e = .returned (.int .u64 fr) ∧ Mem w' K bm bp bc (alC cs fr vs) (fr + m) n xs ∧ Kept K w w' := by
  have hlen := hM.len
  have HM := Aside0.mk hM
  have HR := Aside0.mk hr
  obtain ⟨p0, p1⟩ := hM.pc
  have b0 : (0 : Int) ≤ (fr : Int) := by omega
  have b1 : (fr : Int) < (cs.length : Int) := by omega
  have b2 : ((cs.length : Int) - (fr : Int)) ≥ (m : Int) := by omega
  have b3 : (m : Int) ≤ (cs.length : Int) - (fr : Int) := by omega
  have b4 : IntKind.i64.wrap ((cs.length : Int) - (fr : Int)) = (cs.length : Int) - (fr : Int) := IntWalk.i64_in _ (by omega)
  have b5 : IntKind.i64.wrap ((fr : Int) + (m : Int)) = (fr : Int) + (m : Int) := IntWalk.i64_in _ (by omega)
  clear hM hr
  go_enter Tryz.func147, Tryz.ntmps147
  go_wp2_with fail
  go_quiet (fail)
  go_wp2_with fail
  have HM1 := Aside0.mk (HM.out.drewN nq)
  have HR1 : Aside0 (∀ j v, (nums .u64 vs)[j]? = some v → (w.drewN nq).drew.cell? (ad.add j) = some v) := ⟨fun j u hu => by
    have hj : j < m := by
      have := (List.getElem?_eq_some_iff.1 hu).1
      rw [nums_length] at this
      omega
    refine (HR.out j hj).trans ?_
    unfold nums at hu
    rw [List.getElem?_map] at hu
    obtain ⟨x, hx, rfl⟩ := Option.map_eq_some_iff.1 hu
    simp [List.getD_eq_getElem?_getD, hx]⟩
  have HK1 := Aside0.mk ((Kept.refl K w).drewN nq)
  clear p0 p1 HM HR
  generalize w.drewN nq = w1 at HM1 HR1 HK1 ⊢
  obtain ⟨p0, p1⟩ := HM1.out.pc
  have HC := Aside0.mk HM1.out.drew.c
  have f1 : w1.frozen? ⟨bp, 1, none⟩ = false := blk_frozen HM1.out.p 1
  have hmin : (nums .u64 vs).length = Nat.min m (cs.length - fr) := by rw [nums_length, hl]; exact (Nat.min_eq_left (by omega)).symm
  have HMN := Aside0.mk hmin
  have HFT : Aside0 (fr + (nums .u64 vs).length ≤ ((cs.map fun x => Value.int .u64 x).toArray).size) := ⟨by rw [nums_length, hl, List.size_toArray, List.length_map]; exact hfit⟩
  have hne : ¬ cs.length = fr := by omega
  have hnl : (nums .u64 vs).length = m := by rw [nums_length, hl]
  clear hmin
  go_region_law ((refine step_copy_row (by rfl) (.tmp 32) (.tmp 33) 31 31 (by rfl) 27 Tryz.underlying31 (by kernel_rfl) bc fr (cs.length - fr) (cs.length - fr) ad m c (by rfl) (by rfl) _ _ HC.out (nums .u64 vs) HMN.out HR1.out HFT.out (by simp [nums, Value.oneCell']) ?_; intro w2 hw2; have cp1 : w2.cell? ⟨bp, 1, none⟩ = some (.int .i64 fr) := (congrArg (fun W : World => W.cell? ⟨bp, 1, none⟩) hw2.out).trans ((cell_setRow_other _ _ _ _ (show bp ≠ bc from HM1.out.ne.2.2)).trans p1); have fp1 : w2.frozen? ⟨bp, 1, none⟩ = false := (congrArg (fun W : World => W.frozen? ⟨bp, 1, none⟩) hw2.out).trans ((World.frozen?_of_block (setRow_other _ _ _ _ (show bp ≠ bc from HM1.out.ne.2.2))).trans f1)))
  all_goals
    have HW2 := Aside0.mk hw2.out
    clear hw2
    go_wp2
    go_ret
    obtain ⟨r1, r2⟩ := HM1.out.drew.handed vs (by omega) (w2 := w2.setCell ⟨bp, 1, none⟩ (.int .i64 ((fr + vs.length : Nat) : Int))) (by rw [HW2.out])
    rw [hl] at r1 r2
    exact ⟨by simp, by simpa using r1, HK1.out.drew.trans (by simpa using r2)⟩
end
end Go.Proofs.YtndgfpfcdppfgaaGreatDoor

/- Alloc of a view, New (the plain kind), View, announce.Make: a memory is made, and slots in it. -/
namespace Go.Proofs.YtndgfpfcdppfgaaGreatDoor
open Go.RowKit Go.Proofs.YtndgfpfcdppfgaaGreatDoorW.PrintWords
set_option linter.unusedVariables false
set_option linter.unusedSimpArgs false
section
variable {w : World} {K : Nat → Prop} {bm bp bc : Nat} {cs : List Int} {fr n : Nat} {xs : List Value}
set_option maxHeartbeats 2000000 in
set_option maxRecDepth 100000 in
theorem alloc_calls (hM : Mem w K bm bp bc cs fr n xs) (hfr : fr ≤ cs.length) {bv : Nat} (hv : K bv) {th md : Int} (hV : Vw w bv bm th md) (hd0 : 0 ≤ md) (hd1 : md ≤ 1152921504606846976) (hn : n < 68719476736)
    (ad : Addr) (hK : ∀ j, (ad.add j).block = ad.block) (hKa : K ad.block) (m c : Nat) (vs : List Int) (hl : vs.length = m) (hm : 0 < m) (hmx : m ≤ 4194304) (hr : ∀ j, j < m → w.cell? (ad.add j) = some (.int .u64 (vs.getD j 0))) (hfit : fr + m ≤ cs.length) :
    Calls Tryz.prog 6 #[.pointer (some ⟨bv, 0, none⟩), .slice (some ad) m c] w fun e w' => e = .returned (.int .u64 fr) ∧ ∃ g cap, Mem w' K bm bp bc (alC cs fr vs) (fr + m) (n + 1) (xs ++ acc th 5 fr 0 0 (.slice (some ⟨g, 0, none⟩) m cap) 0 false) ∧ Vw w' bv bm th (md + 1) ∧ Kept (fun j => K j ∧ j ≠ bv) w w' := by
  have c0 : w.cell? ⟨bv, 0, none⟩ = some (.pointer (some ⟨bm, 0, none⟩)) := (blk_cell hV 0).trans rfl
  obtain ⟨m0, m1⟩ := hM.mc
  have HP := Lib.hid (palloc_calls hM hfr ad hKa m c vs hl hm hmx hr hfit)
  have hmeth := meth_alloc
  have hm' : (0 : Int) < (m : Int) := by omega
  have HM := Aside0.mk hM
  have HV := Aside0.mk hV
  have HR := Aside0.mk hr
  clear hM hV hr
  go_enter Tryz.func6, Tryz.ntmps6
  go_upto_region 6 with (go_at_call 147; refine HP.out.mono ?_; rintro e1 w1 ⟨rfl, hM1, hK1⟩; have HM1 := Aside0.mk hM1; have HK1 := Aside0.mk hK1; clear hM1 hK1)
  have HC := Lib.hid (clone_calls w1 ad m c vs hl hm hmx fun j hj => (World.cell?_of_block (HK1.out.block _ (by rw [hK]; exact hKa) (World.block_lt_of_cell? _ _ (HR.out j hj)))).trans (HR.out j hj))
  have HN : Hid (∀ (w2 : World) (hb : Below w1.heap.size w1 w2) (g cap : Nat), Calls Tryz.prog 19 #[.pointer (some ⟨bv, 0, none⟩), .agg #[.int .i64 0, .int .u8 5, .int .u64 fr, .int .u64 0, .int .u64 0, .slice (some ⟨g, 0, none⟩) m cap, .int .u64 0, .bool false]] w2 fun e w' =>
      e = .returned (.tuple #[]) ∧ Mem w' K bm bp bc (alC cs fr vs) (fr + m) (n + 1) (xs ++ acc th 5 fr 0 0 (.slice (some ⟨g, 0, none⟩) m cap) 0 false) ∧ Vw w' bv bm th (md + 1) ∧ Kept (fun j => K j ∧ j ≠ bv) w2 w') := Lib.hid fun w2 hb g cap =>
    note_calls (HM1.out.of_below hb) hv ((hb.block bv (HM1.out.kl bv hv)).trans ((HK1.out.block bv hv (HM.out.kl bv hv)).trans HV.out)) hd0 hd1 hn 0 5 fr 0 0 _ m cap 0 false
  clear c0 m0 m1 HP
  go_wp2_with (first
    | (go_at_call 20; refine HC.out.mono ?_; rintro e2 w2 ⟨g, cap, rfl, hO, hB⟩; have HB := Aside0.mk hB; clear hO hB)
    | (go_at_call 19; refine (HN.out _ HB.out _ _).mono ?_; rintro e3 w3 ⟨rfl, h⟩; have H := Aside0.mk h; clear h))
  go_ret
  exact ⟨rfl, g, cap, H.out.1, H.out.2.1, (HK1.out.mono fun j _ h => h.1).trans ((Kept.of_below HB.out).trans H.out.2.2)⟩
end
/-- So many zeros. -/
def ZC (n : Nat) : Array Value := ((List.replicate n (0 : Int)).map fun x => Value.int .u64 x).toArray
theorem made_zeros (n : Nat) : madeCells #[Value.int .u64 0] n = ZC n := by
  unfold madeCells ZC
  apply Array.ext
  · simp
  · intro i h1 h2
    simp [Nat.mod_one]
theorem make_u64 (n : Nat) (h : n ≤ 4194304) (W : World) : (Instr.makeSlice 31 (.int .i64 (n : Int)) (.int .i64 (n : Int))).run Tryz.prog W = .ok (.slice (some ⟨W.heap.size, 0, none⟩) n n) (W.alloc (.cells (ZC n) 27)) := by
  obtain ⟨i0, hi0, hz0, hz1, hz2⟩ := info_parts infoU64
  rw [run_make W 31 27 i0 (.int .u64 0) Tryz.underlying31 hi0 hz0 .i64 .i64 n n (by omega) (Int.le_refl _) (by rw [hz2]; omega) (by omega), hz1, Nat.mul_one, Int.toNat_natCast]
  show Result.ok _ (W.alloc (.cells (madeCells #[Value.int .u64 0] n) _)) = _
  rw [made_zeros]
set_option maxHeartbeats 1000000 in
set_option maxRecDepth 100000 in
theorem new_calls (w : World) (n : Nat) (h0 : 128 ≤ n) (h1 : n ≤ 4194304) : Calls Tryz.prog 4 #[.int .i64 n, .bool false] w fun e w' => e = .returned (.tuple #[.pointer (some ⟨w.heap.size + 1 + 1, 0, none⟩), .int .i64 0]) ∧
    Mem w' (fun j => j < w.heap.size) (w.heap.size + 1 + 1) (w.heap.size + 1) w.heap.size (List.replicate n 0) 1 0 [] ∧ Below w.heap.size w w' ∧ w'.heap.size = w.heap.size + 3 := by
  have hmk := make_u64 n h1
  have g0 : ¬ (n : Int) < 128 := by omega
  have g1 : ¬ (4194304 : Int) < (n : Int) := by omega
  have HE : Aside0 (let W := ((w.alloc (.cells (ZC n) 27)).alloc (.cells #[.slice (some ⟨w.heap.size, 0, none⟩) n n, .int .i64 1] 85)).alloc (.cells #[.iface 83 (.pointer (some ⟨w.heap.size + 1, 0, none⟩)), .bool false, .slice none 0 0] 82)
      Mem W (fun j => j < w.heap.size) (w.heap.size + 1 + 1) (w.heap.size + 1) w.heap.size (List.replicate n 0) 1 0 [] ∧ Below w.heap.size w W ∧ W.heap.size = w.heap.size + 3) := ⟨by
    intro W
    have s1 : (w.alloc (.cells (ZC n) 27)).heap.size = w.heap.size + 1 := World.size_alloc _ _
    have s2 : ((w.alloc (.cells (ZC n) 27)).alloc (.cells #[.slice (some ⟨w.heap.size, 0, none⟩) n n, .int .i64 1] 85)).heap.size = w.heap.size + 1 + 1 := by rw [World.size_alloc, s1]
    have s3 : W.heap.size = w.heap.size + 3 := by show (World.alloc _ _).heap.size = _; rw [World.size_alloc, s2]
    have b0 : W.heap[w.heap.size]? = some (.cells (ZC n) 27 (0, 0)) := (heap_alloc_old _ _ (by rw [s2]; omega)).trans ((heap_alloc_old _ _ (by rw [s1]; omega)).trans (heap_alloc_new w _))
    have b1 : W.heap[w.heap.size + 1]? = some (.cells #[.slice (some ⟨w.heap.size, 0, none⟩) n n, .int .i64 1] 85 (0, 0)) := (heap_alloc_old _ _ (by rw [s2]; omega)).trans (by
      have := heap_alloc_new (w.alloc (.cells (ZC n) 27)) (.cells #[.slice (some ⟨w.heap.size, 0, none⟩) n n, .int .i64 1] 85)
      rwa [s1] at this)
    have b2 : W.heap[w.heap.size + 1 + 1]? = some (.cells #[.iface 83 (.pointer (some ⟨w.heap.size + 1, 0, none⟩)), .bool false, .slice none 0 0] 82 (0, 0)) := by
      have := heap_alloc_new ((w.alloc (.cells (ZC n) 27)).alloc (.cells #[.slice (some ⟨w.heap.size, 0, none⟩) n n, .int .i64 1] 85)) (.cells #[.iface 83 (.pointer (some ⟨w.heap.size + 1, 0, none⟩)), .bool false, .slice none 0 0] 82)
      rwa [s2] at this
    refine ⟨⟨⟨.slice none 0 0, b2, World.ownsRow_nil _ _ _ _, fun j hj => by cases hj⟩, ?_, b0, ⟨by omega, by omega, by omega⟩, ⟨by omega, by omega, by omega⟩, fun j hj => by rw [s3]; omega, by rw [List.length_replicate]; exact h1, by omega⟩, ?_, s3⟩
    · rw [List.length_replicate]; exact b1
    · exact (((Below.refl w.heap.size w).alloc (Nat.le_refl _) _).alloc (by rw [s1]; omega) _).alloc (by rw [s2]; omega) _⟩
  go_enter Tryz.func4, Tryz.ntmps4
  go_wp2
  go_ret2
  exact ⟨rfl, HE.out⟩
theorem view_calls (w : World) (bm : Nat) (th : Int) : Calls Tryz.prog 5 #[.pointer (some ⟨bm, 0, none⟩), .int .i64 th] w fun e w' => e = .returned (.pointer (some ⟨w.heap.size, 0, none⟩)) ∧ w' = w.alloc (.cells #[.pointer (some ⟨bm, 0, none⟩), .int .i64 th, .int .i64 0] 87) := by
  go_enter Tryz.func5, Tryz.ntmps5
  go_wp2
  go_ret
  exact ⟨rfl, rfl⟩
end Go.Proofs.YtndgfpfcdppfgaaGreatDoor
