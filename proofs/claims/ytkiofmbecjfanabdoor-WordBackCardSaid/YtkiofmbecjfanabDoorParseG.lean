/- word.Parse tells the slot of every text that Print tells, and the error of every other one. -/
import Derived.Test.YtkiofmbecjfanabDoorPrintG
import Derived.Test.YtkiofmbecjfanabDoorTextMath
import Derived.Lib.AtoiErrMem
namespace Go.Proofs.YtkiofmbecjfanabDoor
open Go.RowKit Go.Lib Go.Proofs.YtkiofmbecjfanabDoor.Math Go.Proofs.YtkiofmbecjfanabDoorW.PrintWords Go.Proofs.YtkiofmbecjfanabDoorW.PrintLast Go.Proofs.YtkiofmbecjfanabDoorW.PrintMore
set_option linter.unusedSimpArgs false
set_option linter.unusedVariables false

theorem parseU (s : ByteArray) (hs : s.size ≤ 1099511627776) (w : World) (T : Tabs w) :
    Calls Tryd.prog 12 #[.string s, .int .i64 10, .int .i64 64] w fun e w' => ∃ v, e = .returned (.tuple #[.int .u64 (PU s.data.toList), v]) ∧ Below w.heap.size w w' := by
  unfold PU
  cases h : Lib.parseUintB 64 s.data.toList with
  | ok u =>
    refine (Tryd.strconv_ParseUint_10_at64_ok s (by omega) u h w).mono ?_
    rintro e w' ⟨rfl, hw⟩
    refine ⟨_, rfl, ?_⟩
    rcases hw with rfl | rfl
    · exact Below.refl _ _
    · exact Lib.bytesWorld_below _ _ _
  | range =>
    obtain ⟨tp, p, hv⟩ := T.rng
    refine (Tryd.strconv_ParseUint_10_at64_range_var s (by omega) h tp p w hv).mono ?_
    rintro e w' ⟨n, rfl, _, _, hb⟩
    exact ⟨_, rfl, hb⟩
  | _ =>
    obtain ⟨tp, p, hv⟩ := T.syn
    refine (Tryd.strconv_ParseUint_10_at64_syntax_var s (by omega) h tp p w hv).mono ?_
    rintro e w' ⟨n, rfl, _, _, hb⟩
    exact ⟨_, rfl, hb⟩

/-- A text of a slot in range. -/
def IsText (t : ByteArray) (k g s : Nat) : Prop := k ≤ 3 ∧ g < 1048576 ∧ s ≤ 1099511627776 ∧ t = ⟨(three (KL k) (Lib.decDigits g) (Lib.decDigits s)).toArray⟩
/-- What Parse tells. -/
def Told (t : ByteArray) (k g s : Nat) (er : Int) : Prop := (er = 0 ∧ IsText t k g s) ∨ (er = 52 ∧ k = 0 ∧ g = 0 ∧ s = 0 ∧ ∀ k' g' s', ¬ IsText t k' g' s')

theorem isText_parts {t : ByteArray} {k g s : Nat} (h : IsText t k g s) : Lib.countB t ⟨#[32]⟩ = 2 ∧ Lib.splitB ⟨#[32]⟩ 0 2 t = [KB k, ⟨(Lib.decDigits g).toArray⟩, ⟨(Lib.decDigits s).toArray⟩] := by
  obtain ⟨_, _, _, rfl⟩ := h
  exact split_three (KL_no_blank k) (dec_no_blank g) (dec_no_blank s)
theorem KB_inj {j k : Nat} (hj : j ≤ 3) (hk : k ≤ 3) (h : KB j = KB k) : j = k := KL_inj hj hk (by simpa [KB] using congrArg (fun x => x.data.toList) h)
theorem isText_one {t : ByteArray} {k g s k' g' s' : Nat} (h : IsText t k g s) (h' : IsText t k' g' s') : k = k' ∧ g = g' ∧ s = s' := by
  have e := (isText_parts h).2.symm.trans (isText_parts h').2
  simp only [List.cons.injEq, and_true] at e
  obtain ⟨e1, e2, e3⟩ := e
  have f2 : Lib.decDigits g = Lib.decDigits g' := by simpa using congrArg (fun x => x.data.toList) e2
  have f3 : Lib.decDigits s = Lib.decDigits s' := by simpa using congrArg (fun x => x.data.toList) e3
  refine ⟨KB_inj h.1 h'.1 e1, ?_, ?_⟩
  · rw [← PU_dec g (by have := h.2.1; omega), f2, PU_dec g' (by have := h'.2.1; omega)]
  · rw [← PU_dec s (by have := h.2.2.1; omega), f3, PU_dec s' (by have := h'.2.2.1; omega)]
theorem told_one {t : ByteArray} {k g s k' g' s' : Nat} {e e' : Int} (h : Told t k g s e) (h' : Told t k' g' s' e') : k = k' ∧ g = g' ∧ s = s' ∧ e = e' := by
  rcases h with ⟨rfl, h⟩ | ⟨rfl, rfl, rfl, rfl, h⟩ <;> rcases h' with ⟨rfl, h'⟩ | ⟨rfl, rfl, rfl, rfl, h'⟩
  · obtain ⟨a, b, c⟩ := isText_one h h'
    exact ⟨a, b, c, rfl⟩
  · exact absurd h (h' _ _ _)
  · exact absurd h' (h _ _ _)
  · exact ⟨rfl, rfl, rfl, rfl⟩
/-- A text of three parts that Print tells of a slot is that slot's. -/
theorem ptb_text {t : ByteArray} {k g s : Nat} (h : PTB k g s = t) (hne : t ≠ ⟨#[]⟩) : IsText t k g s := by
  unfold PTB at h
  split at h
  · rename_i c
    exact ⟨c.1, c.2.1, c.2.2, h.symm⟩
  · exact absurd h.symm hne
theorem text_ptb {t : ByteArray} {k g s : Nat} (h : IsText t k g s) : PTB k g s = t := by
  unfold PTB
  rw [if_pos ⟨h.1, h.2.1, h.2.2.1⟩]
  exact h.2.2.2.symm

theorem splitB_le (sep : ByteArray) : ∀ (n : Nat) (s x : ByteArray), x ∈ Lib.splitB sep 0 n s → x.size ≤ s.size
  | 0, s, x, h => by
    rw [Lib.splitB_zero, List.mem_singleton] at h
    subst h
    exact Nat.le_refl _
  | n + 1, s, x, h => by
    unfold Lib.splitB at h
    split at h
    · rw [List.mem_singleton] at h
      subst h
      exact Nat.le_refl _
    · rcases List.mem_cons.1 h with rfl | h
      · rw [ByteArray.size_extract]; omega
      · have := splitB_le sep n _ x h
        rw [ByteArray.size_extract] at this
        omega

/-- The memory of Parse: its result, the three parts, what it builds. -/
structure PS (w : World) (p0 p1 p2 : ByteArray) (k g s : Nat) (wx : World) : Prop where
  res : wx.heap[w.heap.size]? = some (.cells #[.int .u8 0, .int .u64 0, .int .u64 0] 26 (0, 0))
  parts : wx.heap[w.heap.size + 1]? = some (.cells #[.string p0, .string p1, .string p2] 9 (0, 0))
  out : wx.heap[w.heap.size + 1 + 1]? = some (.cells #[.int .u8 k, .int .u64 g, .int .u64 s] 26 (0, 0))
  bel : Below w.heap.size w wx
  lt : w.heap.size + 1 + 1 < wx.heap.size
theorem PS.of {w wx wy : World} {p0 p1 p2 : ByteArray} {k g s : Nat} (h : PS w p0 p1 p2 k g s wx) (hb : Below wx.heap.size wx wy) : PS w p0 p1 p2 k g s wy :=
  ⟨(hb.block _ (lt_blk h.res)).trans h.res, (hb.block _ (lt_blk h.parts)).trans h.parts, (hb.block _ (lt_blk h.out)).trans h.out, h.bel.trans (hb.mono h.bel.size), Nat.lt_of_lt_of_le h.lt hb.size⟩
theorem PS.put {w wx : World} {p0 p1 p2 : ByteArray} {k g s : Nat} (h : PS w p0 p1 p2 k g s wx) :
    (∀ k', PS w p0 p1 p2 k' g s (wx.setCell ⟨w.heap.size + 1 + 1, 0, none⟩ (.int .u8 (k' : Nat)))) ∧ (∀ g', PS w p0 p1 p2 k g' s (wx.setCell ⟨w.heap.size + 1 + 1, 1, none⟩ (.int .u64 (g' : Nat)))) ∧ (∀ s', PS w p0 p1 p2 k g s' (wx.setCell ⟨w.heap.size + 1 + 1, 2, none⟩ (.int .u64 (s' : Nat)))) := by
  have key : ∀ (i : Nat) (v : Value) (cs' : Array Value), (#[Value.int .u8 (k : Int), Value.int .u64 (g : Int), Value.int .u64 (s : Int)] : Array Value).setIfInBounds i v = cs' →
      (wx.setCell ⟨w.heap.size + 1 + 1, i, none⟩ v).heap[w.heap.size]? = some (.cells #[.int .u8 0, .int .u64 0, .int .u64 0] 26 (0, 0)) ∧
      (wx.setCell ⟨w.heap.size + 1 + 1, i, none⟩ v).heap[w.heap.size + 1]? = some (.cells #[.string p0, .string p1, .string p2] 9 (0, 0)) ∧
      (wx.setCell ⟨w.heap.size + 1 + 1, i, none⟩ v).heap[w.heap.size + 1 + 1]? = some (.cells cs' 26 (0, 0)) ∧
      Below w.heap.size w (wx.setCell ⟨w.heap.size + 1 + 1, i, none⟩ v) ∧ w.heap.size + 1 + 1 < (wx.setCell ⟨w.heap.size + 1 + 1, i, none⟩ v).heap.size := by
    intro i v cs' e
    refine ⟨?_, ?_, ?_, h.bel.setCell (by show w.heap.size ≤ w.heap.size + 1 + 1; omega) _, ?_⟩
    · rw [Below.heap_setCell _ _ _ _ (by show w.heap.size ≠ w.heap.size + 1 + 1; omega)]; exact h.res
    · rw [Below.heap_setCell _ _ _ _ (by show w.heap.size + 1 ≠ w.heap.size + 1 + 1; omega)]; exact h.parts
    · rw [← e]; exact heap_setCell_same wx _ i _ _ v h.out
    · rw [World.size_setCell]; exact h.lt
  refine ⟨fun k' => ?_, fun g' => ?_, fun s' => ?_⟩
  · obtain ⟨a, b, c, d, e⟩ := key 0 (.int .u8 (k' : Nat)) _ rfl
    exact ⟨a, b, c, d, e⟩
  · obtain ⟨a, b, c, d, e⟩ := key 1 (.int .u64 (g' : Nat)) _ rfl
    exact ⟨a, b, c, d, e⟩
  · obtain ⟨a, b, c, d, e⟩ := key 2 (.int .u64 (s' : Nat)) _ rfl
    exact ⟨a, b, c, d, e⟩
theorem PS.c {w wx : World} {p0 p1 p2 : ByteArray} {k g s : Nat} (h : PS w p0 p1 p2 k g s wx) :
    wx.cell? ⟨w.heap.size + 1 + 1, 0, none⟩ = some (.int .u8 k) ∧ wx.cell? ⟨w.heap.size + 1 + 1, 1, none⟩ = some (.int .u64 g) ∧ wx.cell? ⟨w.heap.size + 1 + 1, 2, none⟩ = some (.int .u64 s) ∧
    wx.frozen? ⟨w.heap.size + 1 + 1, 0, none⟩ = false ∧ wx.frozen? ⟨w.heap.size + 1 + 1, 1, none⟩ = false ∧ wx.frozen? ⟨w.heap.size + 1 + 1, 2, none⟩ = false :=
  ⟨(blk_cell h.out 0).trans rfl, (blk_cell h.out 1).trans rfl, (blk_cell h.out 2).trans rfl, blk_frozen h.out 0, blk_frozen h.out 1, blk_frozen h.out 2⟩
theorem PS.d {w wx : World} {p0 p1 p2 : ByteArray} {k g s : Nat} (h : PS w p0 p1 p2 k g s wx) :
    wx.cell? ⟨w.heap.size, 0, none⟩ = some (.int .u8 0) ∧ wx.cell? ⟨w.heap.size, 1, none⟩ = some (.int .u64 0) ∧ wx.cell? ⟨w.heap.size, 2, none⟩ = some (.int .u64 0) ∧
    wx.frozen? ⟨w.heap.size, 0, none⟩ = false ∧ wx.frozen? ⟨w.heap.size, 1, none⟩ = false ∧ wx.frozen? ⟨w.heap.size, 2, none⟩ = false :=
  ⟨(blk_cell h.res 0).trans rfl, (blk_cell h.res 1).trans rfl, (blk_cell h.res 2).trans rfl, blk_frozen h.res 0, blk_frozen h.res 1, blk_frozen h.res 2⟩
/-- No slot's text where the count of blanks is another. -/
theorem no_text {t : ByteArray} {n : Nat} (hn : Lib.countB t ⟨#[32]⟩ = n) (h : n ≠ 2) : Told t 0 0 0 52 := Or.inr ⟨rfl, rfl, rfl, rfl, fun k g s hx => h (hn.symm.trans (isText_parts hx).1)⟩

theorem str_eq {a b : ByteArray} (h : a = b) : (a.toList == b.toList) = true := by rw [h]; exact beq_self_eq_true _
theorem str_ne {a b : ByteArray} (h : a ≠ b) : (a.toList == b.toList) = false := by
  refine beq_eq_false_iff_ne.2 fun e => h (bytes_ext ?_)
  rw [← Lib.toList_data, ← Lib.toList_data]
  exact e
/-- What is stored into the result lies there. -/
theorem PS.ret {w wx : World} {p0 p1 p2 : ByteArray} {k g s : Nat} (h : PS w p0 p1 p2 k g s wx) (k' g' s' : Nat) :
    (((wx.setCell ⟨w.heap.size, 0, none⟩ (.int .u8 k')).setCell ⟨w.heap.size, 1, none⟩ (.int .u64 g')).setCell ⟨w.heap.size, 2, none⟩ (.int .u64 s')).heap[w.heap.size]? = some (.cells #[.int .u8 k', .int .u64 g', .int .u64 s'] 26 (0, 0)) ∧
    Below w.heap.size w (((wx.setCell ⟨w.heap.size, 0, none⟩ (.int .u8 k')).setCell ⟨w.heap.size, 1, none⟩ (.int .u64 g')).setCell ⟨w.heap.size, 2, none⟩ (.int .u64 s')) := by
  have h1 := heap_setCell_same wx w.heap.size 0 _ _ (.int .u8 k') h.res
  have h2 := heap_setCell_same _ w.heap.size 1 _ _ (.int .u64 g') h1
  have h3 := heap_setCell_same _ w.heap.size 2 _ _ (.int .u64 s') h2
  exact ⟨h3, ((h.bel.setCell (Nat.le_refl _) _).setCell (Nat.le_refl _) _).setCell (Nat.le_refl _) _⟩

set_option maxHeartbeats 8000000 in
set_option maxRecDepth 100000 in
theorem parse_calls (t : ByteArray) (ht : t.size ≤ 1048576) (w : World) (T : Tabs w) :
    Calls Tryd.prog 7 #[.string t] w fun e w' => ∃ (k g s : Nat) (er : Int), e = .returned (.tuple #[.agg #[.int .u8 k, .int .u64 g, .int .u64 s], .int .i64 er]) ∧ Below w.heap.size w w' ∧ Told t k g s er := by
  have TT := Lib.hid T
  have hbw : Below w.heap.size w (w.alloc (.cells #[.int .u8 0, .int .u64 0, .int .u64 0] 26)) := (Below.refl _ _).alloc (Nat.le_refl _) _
  obtain ⟨m, hm⟩ := (T.move hbw).max
  have HS := Lib.hid (Tryd.strings_Split t ⟨#[32]⟩ m _ (by omega) hm (by decide))
  clear hm T hbw
  generalize hn : Lib.countB t ⟨#[32]⟩ = n at HS
  by_cases h2 : n = 2
  · subst h2
    have hlen := Lib.splitB_all ⟨#[32]⟩ (by decide) 0 _ t hn
    have hall := splitB_le ⟨#[32]⟩ 2 t
    generalize hsp : Lib.splitB ⟨#[32]⟩ 0 2 t = ps at HS hlen hall
    match ps, hlen with
    | [p0, p1, p2], _ =>
    have HH := Lib.hid (And.intro hn hsp)
    have hp1 := hall p1 (by simp)
    have hp2 := hall p2 (by simp)
    simp only [List.map_cons, List.map_nil] at HS
    clear hall hn hsp
    go_enter Tryd.func7, Tryd.ntmps7
    go_upto_region 5 with (go_at_call 11; refine HS.out.mono ?_; rintro e1 w1 ⟨rfl, rfl⟩)
    have hPS : PS w p0 p1 p2 0 0 0 (((w.alloc (.cells #[.int .u8 0, .int .u64 0, .int .u64 0] 26)).alloc (.cells #[.string p0, .string p1, .string p2] 9)).alloc (.cells #[.int .u8 0, .int .u64 0, .int .u64 0] 26)) := by
      refine ⟨?_, ?_, ?_, (((Below.refl w.heap.size w).alloc (Nat.le_refl _) _).alloc (by rw [World.size_alloc]; omega) _).alloc (by rw [World.size_alloc, World.size_alloc]; omega) _, by rw [World.size_alloc, World.size_alloc, World.size_alloc]; omega⟩
      · rw [Below.heap_alloc _ _ _ (by rw [World.size_alloc, World.size_alloc]; omega), Below.heap_alloc _ _ _ (by rw [World.size_alloc]; omega)]
        exact heap_alloc_new w _
      · rw [Below.heap_alloc _ _ _ (by rw [World.size_alloc, World.size_alloc]; omega)]
        have := heap_alloc_new (w.alloc (.cells #[.int .u8 0, .int .u64 0, .int .u64 0] 26)) (.cells #[.string p0, .string p1, .string p2] 9)
        rwa [World.size_alloc] at this
      · have := heap_alloc_new ((w.alloc (.cells #[.int .u8 0, .int .u64 0, .int .u64 0] 26)).alloc (.cells #[.string p0, .string p1, .string p2] 9)) (.cells #[.int .u8 0, .int .u64 0, .int .u64 0] 26)
        rwa [World.size_alloc, World.size_alloc] at this
    generalize (((w.alloc (.cells #[.int .u8 0, .int .u64 0, .int .u64 0] 26)).alloc (.cells #[.string p0, .string p1, .string p2] 9)).alloc (.cells #[.int .u8 0, .int .u64 0, .int .u64 0] 26)) = w3 at hPS ⊢
    have T3 := Lib.hid (TT.out.move hPS.bel)
    have V1 := Lib.hid (parseU p1 (by omega) w3 T3.out)
    have y1 : w3.cell? ⟨w.heap.size + 1, 1, none⟩ = some (.string p1) := (blk_cell hPS.parts 1).trans rfl
    have HP3 := Aside0.mk hPS
    clear hPS
    go_upto_region 6 with (go_at_call 12; refine V1.out.mono ?_; rintro e4 w4 ⟨v4, rfl, hb4⟩; have HP4 := Aside0.mk (HP3.out.of hb4); clear hb4; obtain ⟨-, c41, -, -, f41, -⟩ := HP4.out.c)
    have hPS := HP4.out.put.2.1 (PU p1.data.toList)
    clear c41 f41 y1 V1 T3 HP3 HP4 HS
    generalize w4.setCell ⟨w.heap.size + 1 + 1, 1, none⟩ (.int .u64 (PU p1.data.toList : Nat)) = w5 at hPS ⊢
    have T5 := Lib.hid (TT.out.move hPS.bel)
    have V2 := Lib.hid (parseU p2 (by omega) w5 T5.out)
    have y2 : w5.cell? ⟨w.heap.size + 1, 2, none⟩ = some (.string p2) := (blk_cell hPS.parts 2).trans rfl
    have HP5 := Aside0.mk hPS
    clear hPS
    go_upto_region 7 with (go_at_call 12; refine V2.out.mono ?_; rintro e6 w6 ⟨v6, rfl, hb6⟩; have HP6 := Aside0.mk (HP5.out.of hb6); clear hb6; obtain ⟨-, -, c62, -, -, f62⟩ := HP6.out.c)
    have hPS := HP6.out.put.2.2 (PU p2.data.toList)
    clear c62 f62 y2 V2 T5 HP5 HP6
    generalize w6.setCell ⟨w.heap.size + 1 + 1, 2, none⟩ (.int .u64 (PU p2.data.toList : Nat)) = w7 at hPS ⊢
    have hg := PU_lt p1.data.toList
    have hs := PU_lt p2.data.toList
    have hgs : ∀ k' g' s', IsText t k' g' s' → KB k' = p0 ∧ g' = PU p1.data.toList ∧ s' = PU p2.data.toList := by
      intro k' g' s' hx
      have e := HH.out.2.symm.trans (isText_parts hx).2
      simp only [List.cons.injEq, and_true] at e
      obtain ⟨e1, e2, e3⟩ := e
      refine ⟨e1.symm, ?_, ?_⟩
      · rw [e2]; exact (PU_dec g' (by have := hx.2.1; omega)).symm
      · rw [e3]; exact (PU_dec s' (by have := hx.2.2.1; omega)).symm
    have hne : t ≠ ⟨#[]⟩ := by
      intro e
      have := HH.out.1
      rw [e] at this
      revert this
      decide
    have HGS := Lib.hid hgs
    have HNE := Lib.hid hne
    clear hgs hne
    generalize PU p1.data.toList = g at hPS hg HGS
    generalize PU p2.data.toList = s at hPS hs HGS
    have T7 := TT.out.move hPS.bel
    have k0 := T7.kind 0 (by decide)
    have k1 := T7.kind 1 (by decide)
    have k2 := T7.kind 2 (by decide)
    have k3 := T7.kind 3 (by decide)
    have HP7 := Aside0.mk hPS
    clear hPS T7 HH
    go_wp2_with fail
    go_loopw [31] (fun v31 wi => ∃ (i kk : Nat), i ≤ 4 ∧ v31 = .int .i64 i ∧ Aside0 (PS w p0 p1 p2 kk g s wi) ∧ Aside0 (∀ j, j < i → ¬ (KB j = p0 ∧ PTB j g s = t))) (fun i _ => 4 - (Lib.intOf i).toNat)
    case atStart => exact ⟨0, 0, by omega, rfl, HP7, ⟨fun j hj => absurd hj (by omega)⟩⟩
    case round =>
      clear HP7 k0 k1 k2 k3
      obtain ⟨i, kk, hi, rfl, HP, HQ⟩ := hrel
      have hPS := HP.out
      obtain ⟨ck0, -, -, fk0, -, -⟩ := hPS.c
      clear hPS
      have hi' : i = 0 ∨ i = 1 ∨ i = 2 ∨ i = 3 ∨ i = 4 := by omega
      rcases hi' with rfl | rfl | rfl | rfl | rfl
      · have i0 : ∀ W, (Instr.index 46 (.agg #[.string (KB 0), .string (KB 1), .string (KB 2), .string (KB 3)]) (.int .i64 0)).run Tryd.prog W = .ok (.string (KB 0)) W := fun _ => by kernel_rfl
        go_upto_region 11 with (fail)
        have hPS : PS w p0 p1 p2 0 g s (wr.setCell ⟨w.heap.size + 1 + 1, 0, none⟩ (.int .u8 0)) := HP.out.put.1 0
        clear ck0 fk0 HP i0
        generalize wr.setCell ⟨w.heap.size + 1 + 1, 0, none⟩ (.int .u8 0) = w8 at hPS ⊢
        have y0 : w8.cell? ⟨w.heap.size + 1, 0, none⟩ = some (.string p0) := (blk_cell hPS.parts 0).trans rfl
        have VP := Lib.hid (print_calls 0 g s (by omega) hg hs w8 (TT.out.move hPS.bel))
        obtain ⟨z0, z1, z2, -, -, -⟩ := hPS.c
        have HP8 := Aside0.mk hPS
        clear hPS
        by_cases hK : KB 0 = p0
        · have q1 := str_eq hK
          have HK := Lib.hid hK
          clear hK
          by_cases hT : PTB 0 g s = t
          · have q2 := str_eq hT
            have HT := Lib.hid (ptb_text hT HNE.out)
            clear hT
            go_wp2_with (go_at_call 8; refine VP.out.mono ?_; rintro e9 w9 ⟨rfl, hb9⟩; have HP9 := Aside0.mk (HP8.out.of hb9); clear hb9 z0 z1 z2 y0; obtain ⟨z0, z1, z2, -, -, -⟩ := HP9.out.c; obtain ⟨d0, d1, d2, df0, df1, df2⟩ := HP9.out.d)
            obtain ⟨hres, hbel⟩ := HP9.out.ret 0 g s
            refine bodyPost_ret (results_ct rfl _ _ w.heap.size 26 #[.int .u8 0, .int .u64 g, .int .u64 s] (0, 0) _ rfl hres Tryd.underlying26 rfl (by kernel_rfl)) rfl ?_
            exact ⟨0, g, s, 0, rfl, hbel, Or.inl ⟨rfl, HT.out⟩⟩
          · have q2 := str_ne hT
            have HQ' : Aside0 (∀ j, j < 0 + 1 → ¬ (KB j = p0 ∧ PTB j g s = t)) := ⟨fun j hj h => by
              by_cases e : j = 0
              · subst e; exact hT h.2
              · exact HQ.out j (by omega) h⟩
            clear hT
            go_wp2_with (go_at_call 8; refine VP.out.mono ?_; rintro e9 w9 ⟨rfl, hb9⟩; have HP9 := Aside0.mk (HP8.out.of hb9); clear hb9 z0 z1 z2 y0)
            go_roundw
            case rel => exact ⟨0 + 1, 0, by omega, by go_num, HP9, HQ'⟩
            case measure => decide
        · have q1 := str_ne hK
          have HQ' : Aside0 (∀ j, j < 0 + 1 → ¬ (KB j = p0 ∧ PTB j g s = t)) := ⟨fun j hj h => by
            by_cases e : j = 0
            · subst e; exact hK h.1
            · exact HQ.out j (by omega) h⟩
          clear hK
          go_wp2
          go_roundw
          case rel => exact ⟨0 + 1, 0, by omega, by go_num, HP8, HQ'⟩
          case measure => decide
      · have i0 : ∀ W, (Instr.index 46 (.agg #[.string (KB 0), .string (KB 1), .string (KB 2), .string (KB 3)]) (.int .i64 1)).run Tryd.prog W = .ok (.string (KB 1)) W := fun _ => by kernel_rfl
        go_upto_region 11 with (fail)
        have hPS : PS w p0 p1 p2 1 g s (wr.setCell ⟨w.heap.size + 1 + 1, 0, none⟩ (.int .u8 1)) := HP.out.put.1 1
        clear ck0 fk0 HP i0
        generalize wr.setCell ⟨w.heap.size + 1 + 1, 0, none⟩ (.int .u8 1) = w8 at hPS ⊢
        have y0 : w8.cell? ⟨w.heap.size + 1, 0, none⟩ = some (.string p0) := (blk_cell hPS.parts 0).trans rfl
        have VP := Lib.hid (print_calls 1 g s (by omega) hg hs w8 (TT.out.move hPS.bel))
        obtain ⟨z0, z1, z2, -, -, -⟩ := hPS.c
        have HP8 := Aside0.mk hPS
        clear hPS
        by_cases hK : KB 1 = p0
        · have q1 := str_eq hK
          have HK := Lib.hid hK
          clear hK
          by_cases hT : PTB 1 g s = t
          · have q2 := str_eq hT
            have HT := Lib.hid (ptb_text hT HNE.out)
            clear hT
            go_wp2_with (go_at_call 8; refine VP.out.mono ?_; rintro e9 w9 ⟨rfl, hb9⟩; have HP9 := Aside0.mk (HP8.out.of hb9); clear hb9 z0 z1 z2 y0; obtain ⟨z0, z1, z2, -, -, -⟩ := HP9.out.c; obtain ⟨d0, d1, d2, df0, df1, df2⟩ := HP9.out.d)
            obtain ⟨hres, hbel⟩ := HP9.out.ret 1 g s
            refine bodyPost_ret (results_ct rfl _ _ w.heap.size 26 #[.int .u8 1, .int .u64 g, .int .u64 s] (0, 0) _ rfl hres Tryd.underlying26 rfl (by kernel_rfl)) rfl ?_
            exact ⟨1, g, s, 0, rfl, hbel, Or.inl ⟨rfl, HT.out⟩⟩
          · have q2 := str_ne hT
            have HQ' : Aside0 (∀ j, j < 1 + 1 → ¬ (KB j = p0 ∧ PTB j g s = t)) := ⟨fun j hj h => by
              by_cases e : j = 1
              · subst e; exact hT h.2
              · exact HQ.out j (by omega) h⟩
            clear hT
            go_wp2_with (go_at_call 8; refine VP.out.mono ?_; rintro e9 w9 ⟨rfl, hb9⟩; have HP9 := Aside0.mk (HP8.out.of hb9); clear hb9 z0 z1 z2 y0)
            go_roundw
            case rel => exact ⟨1 + 1, 1, by omega, by go_num, HP9, HQ'⟩
            case measure => decide
        · have q1 := str_ne hK
          have HQ' : Aside0 (∀ j, j < 1 + 1 → ¬ (KB j = p0 ∧ PTB j g s = t)) := ⟨fun j hj h => by
            by_cases e : j = 1
            · subst e; exact hK h.1
            · exact HQ.out j (by omega) h⟩
          clear hK
          go_wp2
          go_roundw
          case rel => exact ⟨1 + 1, 1, by omega, by go_num, HP8, HQ'⟩
          case measure => decide
      · have i0 : ∀ W, (Instr.index 46 (.agg #[.string (KB 0), .string (KB 1), .string (KB 2), .string (KB 3)]) (.int .i64 2)).run Tryd.prog W = .ok (.string (KB 2)) W := fun _ => by kernel_rfl
        go_upto_region 11 with (fail)
        have hPS : PS w p0 p1 p2 2 g s (wr.setCell ⟨w.heap.size + 1 + 1, 0, none⟩ (.int .u8 2)) := HP.out.put.1 2
        clear ck0 fk0 HP i0
        generalize wr.setCell ⟨w.heap.size + 1 + 1, 0, none⟩ (.int .u8 2) = w8 at hPS ⊢
        have y0 : w8.cell? ⟨w.heap.size + 1, 0, none⟩ = some (.string p0) := (blk_cell hPS.parts 0).trans rfl
        have VP := Lib.hid (print_calls 2 g s (by omega) hg hs w8 (TT.out.move hPS.bel))
        obtain ⟨z0, z1, z2, -, -, -⟩ := hPS.c
        have HP8 := Aside0.mk hPS
        clear hPS
        by_cases hK : KB 2 = p0
        · have q1 := str_eq hK
          have HK := Lib.hid hK
          clear hK
          by_cases hT : PTB 2 g s = t
          · have q2 := str_eq hT
            have HT := Lib.hid (ptb_text hT HNE.out)
            clear hT
            go_wp2_with (go_at_call 8; refine VP.out.mono ?_; rintro e9 w9 ⟨rfl, hb9⟩; have HP9 := Aside0.mk (HP8.out.of hb9); clear hb9 z0 z1 z2 y0; obtain ⟨z0, z1, z2, -, -, -⟩ := HP9.out.c; obtain ⟨d0, d1, d2, df0, df1, df2⟩ := HP9.out.d)
            obtain ⟨hres, hbel⟩ := HP9.out.ret 2 g s
            refine bodyPost_ret (results_ct rfl _ _ w.heap.size 26 #[.int .u8 2, .int .u64 g, .int .u64 s] (0, 0) _ rfl hres Tryd.underlying26 rfl (by kernel_rfl)) rfl ?_
            exact ⟨2, g, s, 0, rfl, hbel, Or.inl ⟨rfl, HT.out⟩⟩
          · have q2 := str_ne hT
            have HQ' : Aside0 (∀ j, j < 2 + 1 → ¬ (KB j = p0 ∧ PTB j g s = t)) := ⟨fun j hj h => by
              by_cases e : j = 2
              · subst e; exact hT h.2
              · exact HQ.out j (by omega) h⟩
            clear hT
            go_wp2_with (go_at_call 8; refine VP.out.mono ?_; rintro e9 w9 ⟨rfl, hb9⟩; have HP9 := Aside0.mk (HP8.out.of hb9); clear hb9 z0 z1 z2 y0)
            go_roundw
            case rel => exact ⟨2 + 1, 2, by omega, by go_num, HP9, HQ'⟩
            case measure => decide
        · have q1 := str_ne hK
          have HQ' : Aside0 (∀ j, j < 2 + 1 → ¬ (KB j = p0 ∧ PTB j g s = t)) := ⟨fun j hj h => by
            by_cases e : j = 2
            · subst e; exact hK h.1
            · exact HQ.out j (by omega) h⟩
          clear hK
          go_wp2
          go_roundw
          case rel => exact ⟨2 + 1, 2, by omega, by go_num, HP8, HQ'⟩
          case measure => decide
      · have i0 : ∀ W, (Instr.index 46 (.agg #[.string (KB 0), .string (KB 1), .string (KB 2), .string (KB 3)]) (.int .i64 3)).run Tryd.prog W = .ok (.string (KB 3)) W := fun _ => by kernel_rfl
        go_upto_region 11 with (fail)
        have hPS : PS w p0 p1 p2 3 g s (wr.setCell ⟨w.heap.size + 1 + 1, 0, none⟩ (.int .u8 3)) := HP.out.put.1 3
        clear ck0 fk0 HP i0
        generalize wr.setCell ⟨w.heap.size + 1 + 1, 0, none⟩ (.int .u8 3) = w8 at hPS ⊢
        have y0 : w8.cell? ⟨w.heap.size + 1, 0, none⟩ = some (.string p0) := (blk_cell hPS.parts 0).trans rfl
        have VP := Lib.hid (print_calls 3 g s (by omega) hg hs w8 (TT.out.move hPS.bel))
        obtain ⟨z0, z1, z2, -, -, -⟩ := hPS.c
        have HP8 := Aside0.mk hPS
        clear hPS
        by_cases hK : KB 3 = p0
        · have q1 := str_eq hK
          have HK := Lib.hid hK
          clear hK
          by_cases hT : PTB 3 g s = t
          · have q2 := str_eq hT
            have HT := Lib.hid (ptb_text hT HNE.out)
            clear hT
            go_wp2_with (go_at_call 8; refine VP.out.mono ?_; rintro e9 w9 ⟨rfl, hb9⟩; have HP9 := Aside0.mk (HP8.out.of hb9); clear hb9 z0 z1 z2 y0; obtain ⟨z0, z1, z2, -, -, -⟩ := HP9.out.c; obtain ⟨d0, d1, d2, df0, df1, df2⟩ := HP9.out.d)
            obtain ⟨hres, hbel⟩ := HP9.out.ret 3 g s
            refine bodyPost_ret (results_ct rfl _ _ w.heap.size 26 #[.int .u8 3, .int .u64 g, .int .u64 s] (0, 0) _ rfl hres Tryd.underlying26 rfl (by kernel_rfl)) rfl ?_
            exact ⟨3, g, s, 0, rfl, hbel, Or.inl ⟨rfl, HT.out⟩⟩
          · have q2 := str_ne hT
            have HQ' : Aside0 (∀ j, j < 3 + 1 → ¬ (KB j = p0 ∧ PTB j g s = t)) := ⟨fun j hj h => by
              by_cases e : j = 3
              · subst e; exact hT h.2
              · exact HQ.out j (by omega) h⟩
            clear hT
            go_wp2_with (go_at_call 8; refine VP.out.mono ?_; rintro e9 w9 ⟨rfl, hb9⟩; have HP9 := Aside0.mk (HP8.out.of hb9); clear hb9 z0 z1 z2 y0)
            go_roundw
            case rel => exact ⟨3 + 1, 3, by omega, by go_num, HP9, HQ'⟩
            case measure => decide
        · have q1 := str_ne hK
          have HQ' : Aside0 (∀ j, j < 3 + 1 → ¬ (KB j = p0 ∧ PTB j g s = t)) := ⟨fun j hj h => by
            by_cases e : j = 3
            · subst e; exact hK h.1
            · exact HQ.out j (by omega) h⟩
          clear hK
          go_wp2
          go_roundw
          case rel => exact ⟨3 + 1, 3, by omega, by go_num, HP8, HQ'⟩
          case measure => decide
      · have HT : Aside0 (Told t 0 0 0 52) := ⟨Or.inr ⟨rfl, rfl, rfl, rfl, fun k' g' s' hx => by
          obtain ⟨e1, e2, e3⟩ := HGS.out k' g' s' hx
          subst e2 e3
          exact HQ.out k' (by have := hx.1; omega) ⟨e1, text_ptb hx⟩⟩⟩
        obtain ⟨d0, d1, d2, df0, df1, df2⟩ := HP.out.d
        clear ck0 fk0
        go_wp2
        obtain ⟨hres, hbel⟩ := HP.out.ret 0 0 0
        refine bodyPost_ret (results_ct rfl _ _ w.heap.size 26 #[.int .u8 0, .int .u64 0, .int .u64 0] (0, 0) _ rfl hres Tryd.underlying26 rfl (by kernel_rfl)) rfl ?_
        exact ⟨0, 0, 0, 52, rfl, hbel, HT.out⟩
  · have HT := Lib.hid (no_text hn h2)
    have h2' : ¬ ((n : Int) + 1 = 3) := by omega
    clear hn
    go_enter Tryd.func7, Tryd.ntmps7
    go_wp2_with (go_at_call 11; refine HS.out.mono ?_; rintro e1 w1 ⟨rfl, rfl⟩)
    refine bodyPost_ret (results_ct rfl _ _ w.heap.size 26 #[.int .u8 0, .int .u64 0, .int .u64 0] (0, 0) _ rfl ((Below.heap_alloc _ _ _ (by rw [World.size_alloc]; omega)).trans (heap_alloc_new w _)) Tryd.underlying26 rfl (by kernel_rfl)) rfl ?_
    exact ⟨0, 0, 0, 52, rfl, ((Below.refl w.heap.size w).alloc (Nat.le_refl _) _).alloc (by rw [World.size_alloc]; omega) _, HT.out⟩
end Go.Proofs.YtkiofmbecjfanabDoor
