/- The reference's Parse tells, of every text up to 1048576 bytes, the slot whose text it is, or that it is none. -/
import Derived.Test.YtkiofmbecjfanaaDoorParseG
import Derived.Test.YtkiofmbecjfanaaDoorPrintR
import Derived.Deep.CutBlock
import Derived.Deep.LoopGhost
namespace Go.Proofs.YtkiofmbecjfanaaDoor
open Go.Lib Go.RowKit Go.Proofs.YtkiofmbecjfanaaDoorW.PrintWords Go.Proofs.YtkiofmbecjfanaaDoorW.PrintLast Go.Proofs.YtkiofmbecjfanaaDoorW.PrintMore
set_option linter.unusedSimpArgs false
set_option linter.unusedVariables false

/-- The first blank is behind what has none. -/
theorem first_blank {l a r : List UInt8} {i : Nat} (h1 : ∀ j, j < i → l[j]? ≠ some 32) (h2 : l.length ≤ i ∨ l[i]? = some 32) (e : l = a ++ 32 :: r) (ha : (32 : UInt8) ∉ a) : i = a.length := by
  have hla : l[a.length]? = some 32 := by rw [e, List.getElem?_append_right (Nat.le_refl _)]; simp
  have hle : i ≤ a.length := by
    rcases Nat.lt_or_ge a.length i with h | h
    · exact absurd hla (h1 _ h)
    · exact h
  rcases Nat.lt_or_ge i a.length with h | h
  · rcases h2 with h2 | h2
    · exfalso
      have : l.length = a.length + (r.length + 1) := by rw [e]; simp
      omega
    · rw [e, List.getElem?_append_left h] at h2
      exact absurd (List.mem_of_getElem? h2) ha
  · omega

/-- The memory of the reference's Parse. -/
structure RS (w : World) (k g s : Nat) (wx : World) : Prop where
  res : wx.heap[w.heap.size]? = some (.cells #[.int .u8 0, .int .u64 0, .int .u64 0] 25 (0, 0))
  out : wx.heap[w.heap.size + 1]? = some (.cells #[.int .u8 k, .int .u64 g, .int .u64 s] 25 (0, 0))
  bel : Below w.heap.size w wx
  lt : w.heap.size + 1 < wx.heap.size
theorem RS.of {w wx wy : World} {k g s : Nat} (h : RS w k g s wx) (hb : Below wx.heap.size wx wy) : RS w k g s wy :=
  ⟨(hb.block _ (lt_blk h.res)).trans h.res, (hb.block _ (lt_blk h.out)).trans h.out, h.bel.trans (hb.mono h.bel.size), Nat.lt_of_lt_of_le h.lt hb.size⟩
theorem RS.put {w wx : World} {k g s : Nat} (h : RS w k g s wx) :
    (∀ k', RS w k' g s (wx.setCell ⟨w.heap.size + 1, 0, none⟩ (.int .u8 (k' : Nat)))) ∧ (∀ g', RS w k g' s (wx.setCell ⟨w.heap.size + 1, 1, none⟩ (.int .u64 (g' : Nat)))) ∧ (∀ s', RS w k g s' (wx.setCell ⟨w.heap.size + 1, 2, none⟩ (.int .u64 (s' : Nat)))) := by
  have key : ∀ (i : Nat) (v : Value) (cs' : Array Value), (#[Value.int .u8 (k : Int), Value.int .u64 (g : Int), Value.int .u64 (s : Int)] : Array Value).setIfInBounds i v = cs' →
      (wx.setCell ⟨w.heap.size + 1, i, none⟩ v).heap[w.heap.size]? = some (.cells #[.int .u8 0, .int .u64 0, .int .u64 0] 25 (0, 0)) ∧
      (wx.setCell ⟨w.heap.size + 1, i, none⟩ v).heap[w.heap.size + 1]? = some (.cells cs' 25 (0, 0)) ∧
      Below w.heap.size w (wx.setCell ⟨w.heap.size + 1, i, none⟩ v) ∧ w.heap.size + 1 < (wx.setCell ⟨w.heap.size + 1, i, none⟩ v).heap.size := by
    intro i v cs' e
    refine ⟨?_, ?_, h.bel.setCell (by show w.heap.size ≤ w.heap.size + 1; omega) _, ?_⟩
    · rw [Below.heap_setCell _ _ _ _ (by show w.heap.size ≠ w.heap.size + 1; omega)]; exact h.res
    · rw [← e]; exact heap_setCell_same wx _ i _ _ v h.out
    · rw [World.size_setCell]; exact h.lt
  refine ⟨fun k' => ?_, fun g' => ?_, fun s' => ?_⟩
  · obtain ⟨a, b, c, d⟩ := key 0 (.int .u8 (k' : Nat)) _ rfl
    exact ⟨a, b, c, d⟩
  · obtain ⟨a, b, c, d⟩ := key 1 (.int .u64 (g' : Nat)) _ rfl
    exact ⟨a, b, c, d⟩
  · obtain ⟨a, b, c, d⟩ := key 2 (.int .u64 (s' : Nat)) _ rfl
    exact ⟨a, b, c, d⟩
theorem RS.c {w wx : World} {k g s : Nat} (h : RS w k g s wx) :
    wx.cell? ⟨w.heap.size + 1, 0, none⟩ = some (.int .u8 k) ∧ wx.cell? ⟨w.heap.size + 1, 1, none⟩ = some (.int .u64 g) ∧ wx.cell? ⟨w.heap.size + 1, 2, none⟩ = some (.int .u64 s) ∧
    wx.frozen? ⟨w.heap.size + 1, 0, none⟩ = false ∧ wx.frozen? ⟨w.heap.size + 1, 1, none⟩ = false ∧ wx.frozen? ⟨w.heap.size + 1, 2, none⟩ = false :=
  ⟨(blk_cell h.out 0).trans rfl, (blk_cell h.out 1).trans rfl, (blk_cell h.out 2).trans rfl, blk_frozen h.out 0, blk_frozen h.out 1, blk_frozen h.out 2⟩
theorem RS.d {w wx : World} {k g s : Nat} (h : RS w k g s wx) :
    wx.cell? ⟨w.heap.size, 0, none⟩ = some (.int .u8 0) ∧ wx.cell? ⟨w.heap.size, 1, none⟩ = some (.int .u64 0) ∧ wx.cell? ⟨w.heap.size, 2, none⟩ = some (.int .u64 0) ∧
    wx.frozen? ⟨w.heap.size, 0, none⟩ = false ∧ wx.frozen? ⟨w.heap.size, 1, none⟩ = false ∧ wx.frozen? ⟨w.heap.size, 2, none⟩ = false :=
  ⟨(blk_cell h.res 0).trans rfl, (blk_cell h.res 1).trans rfl, (blk_cell h.res 2).trans rfl, blk_frozen h.res 0, blk_frozen h.res 1, blk_frozen h.res 2⟩
theorem RS.ret {w wx : World} {k g s : Nat} (h : RS w k g s wx) (k' g' s' : Nat) :
    (((wx.setCell ⟨w.heap.size, 0, none⟩ (.int .u8 k')).setCell ⟨w.heap.size, 1, none⟩ (.int .u64 g')).setCell ⟨w.heap.size, 2, none⟩ (.int .u64 s')).heap[w.heap.size]? = some (.cells #[.int .u8 k', .int .u64 g', .int .u64 s'] 25 (0, 0)) ∧
    Below w.heap.size w (((wx.setCell ⟨w.heap.size, 0, none⟩ (.int .u8 k')).setCell ⟨w.heap.size, 1, none⟩ (.int .u64 g')).setCell ⟨w.heap.size, 2, none⟩ (.int .u64 s')) := by
  have h1 := heap_setCell_same wx w.heap.size 0 _ _ (.int .u8 k') h.res
  have h2 := heap_setCell_same _ w.heap.size 1 _ _ (.int .u64 g') h1
  have h3 := heap_setCell_same _ w.heap.size 2 _ _ (.int .u64 s') h2
  exact ⟨h3, ((h.bel.setCell (Nat.le_refl _) _).setCell (Nat.le_refl _) _).setCell (Nat.le_refl _) _⟩
/-- The names' block. -/
def NM (b : Nat) (wx : World) : Prop := wx.heap[b]? = some (.cells #[.string ⟨#[102, 114, 101, 101]⟩, .string ⟨#[99, 108, 97, 105, 109, 101, 100]⟩, .string ⟨#[101, 97, 114, 108, 121]⟩, .string ⟨#[101, 120, 97, 99, 116]⟩] 38 (0, 0))
theorem NM.at_ {b : Nat} {wx : World} (h : NM b wx) (k : Nat) (hk : k < 4) : wx.cell? ⟨b, k, none⟩ = some (.string (KB k)) := (blk_cell h k).trans (names_at k hk)
/-- What the word of the kind has been found to be behind n names. -/
def Kinded (word : ByteArray) (n kk : Nat) : Prop := (kk = 0 ∧ ∀ j, j < n → KB j ≠ word) ∨ (kk < n ∧ KB kk = word)
theorem Kinded.hit {word : ByteArray} {n : Nat} (h : KB n = word) : Kinded word (n + 1) n := Or.inr ⟨by omega, h⟩
theorem Kinded.miss {word : ByteArray} {n kk : Nat} (hk : Kinded word n kk) (h : KB n ≠ word) : Kinded word (n + 1) kk := by
  rcases hk with ⟨h0, hk⟩ | ⟨h0, hk⟩
  · exact Or.inl ⟨h0, fun j hj => by
      by_cases e : j = n
      · subst e; exact h
      · exact hk j (by omega)⟩
  · exact Or.inr ⟨by omega, hk⟩
theorem Kinded.is {word : ByteArray} {kk k : Nat} (hk : Kinded word 4 kk) (h : KB k = word) (h3 : k ≤ 3) : kk = k := by
  rcases hk with ⟨_, hk⟩ | ⟨h0, hk⟩
  · exact absurd h (hk k (by omega))
  · exact KB_inj (by omega) h3 (hk.trans h.symm)
theorem Kinded.le {word : ByteArray} {n kk : Nat} (hk : Kinded word n kk) (h : n ≤ 4) : kk ≤ 3 := by
  rcases hk with ⟨h0, _⟩ | ⟨h0, _⟩ <;> omega
theorem add_big (a b : ByteArray) (h : a.size + b.size ≤ 1048576) (w : World) : (Op.stringOp .add a b).run Tryd.prog w = .ok (.string (a ++ b)) w := run_string_add_sum w a b (by omega)
/-- The first i bytes of a text. -/
def TK (t : ByteArray) (i : Nat) : ByteArray := ⟨(t.data.toList.take i).toArray⟩
theorem TK_size' (t : ByteArray) (i : Nat) (h : i ≤ t.size) : (TK t i).size = i := by
  show (t.data.toList.take i).toArray.size = i
  have : t.data.toList.length = t.size := rfl
  rw [List.size_toArray, List.length_take, this]
  omega
theorem TK_succ (t : ByteArray) (i : Nat) (h : i < t.size) : TK t i ++ t.extract i (i + 1) = TK t (i + 1) := by
  apply bytes_ext
  have h' : i < t.data.toList.length := h
  rw [ByteArray.data_append, Array.toList_append, Lib.extract_data]
  show t.data.toList.take i ++ _ = t.data.toList.take (i + 1)
  rw [List.take_succ_eq_append_getElem h', List.drop_eq_getElem_cons h', show i + 1 - i = 1 from by omega]
  rfl

theorem slice_at (t : ByteArray) (a b : Nat) (h1 : a ≤ b) (h2 : b ≤ t.size) (x y : Int) (hx : x = a) (hy : y = b) (W : World) : (Instr.slice 9 (.string t) (some (.int .i64 x)) (some (.int .i64 y)) none).run Tryd.prog W = .ok (.string (t.extract a b)) W := by
  rw [run_slice_string W 9 t .i64 .i64 x y Tryd.underlying9 (by omega) (by omega) (by omega)]
  rw [show x.toNat = a from by omega, show y.toNat = b from by omega]
theorem slice_from (t : ByteArray) (a : Nat) (h1 : a ≤ t.size) (x : Int) (hx : x = a) (W : World) : (Instr.slice 9 (.string t) (some (.int .i64 x)) none none).run Tryd.prog W = .ok (.string (t.extract a t.size)) W := by
  rw [run_slice_string_l W 9 t Tryd.underlying9 .i64 x (by omega) (by omega)]
  rw [show x.toNat = a from by omega]
theorem text_list {t : ByteArray} {k g s : Nat} (h : IsText t k g s) : t.data.toList = KL k ++ 32 :: (Lib.decDigits g ++ 32 :: Lib.decDigits s) := by
  obtain ⟨_, _, _, rfl⟩ := h
  show three (KL k) (Lib.decDigits g) (Lib.decDigits s) = _
  exact three_eq _ _ _
theorem ref_kind {t : ByteArray} {i kk : Nat} (h1 : ∀ j, j < i → t.data.toList[j]? ≠ some 32) (h2 : t.data.toList.length ≤ i ∨ t.data.toList[i]? = some 32) (hk : Kinded (TK t i) 4 kk) {k g s : Nat} (h : IsText t k g s) : i = (KL k).length ∧ kk = k := by
  have e := text_list h
  have ei := first_blank h1 h2 e (KL_no_blank k)
  refine ⟨ei, hk.is ?_ h.1⟩
  unfold TK KB
  rw [e, ei, List.take_left' rfl]
theorem ref_rest {t : ByteArray} {i j k g s : Nat} (h1 : ∀ m, i + 1 ≤ m → m < j → t.data.toList[m]? ≠ some 32) (h2 : t.data.toList.length ≤ j ∨ t.data.toList[j]? = some 32) (hij : i + 1 ≤ j) (hi : i = (KL k).length) (h : IsText t k g s) :
    j = i + 1 + (Lib.decDigits g).length ∧ j < t.size ∧ (t.data.toList.drop (i + 1)).take (j - (i + 1)) = Lib.decDigits g ∧ t.data.toList.drop (j + 1) = Lib.decDigits s := by
  have e := text_list h
  have ed : t.data.toList.drop (i + 1) = Lib.decDigits g ++ 32 :: Lib.decDigits s := by
    rw [e, hi, List.drop_append]
    simp
  have hl : t.data.toList.length = i + 1 + ((Lib.decDigits g).length + ((Lib.decDigits s).length + 1)) := by
    rw [e, hi]; simp; omega
  have hj : j - (i + 1) = (Lib.decDigits g).length := by
    refine first_blank (l := t.data.toList.drop (i + 1)) (fun m hm => ?_) ?_ ed (dec_no_blank g)
    · rw [List.getElem?_drop]
      exact h1 _ (by omega) (by omega)
    · rw [List.length_drop, List.getElem?_drop]
      rcases h2 with h2 | h2
      · exact Or.inl (by omega)
      · exact Or.inr (by rw [show i + 1 + (j - (i + 1)) = j from by omega]; exact h2)
  have hjj : j = i + 1 + (Lib.decDigits g).length := by omega
  have hsz : t.size = t.data.toList.length := rfl
  refine ⟨hjj, by omega, ?_, ?_⟩
  · rw [ed, hj, List.take_left' rfl]
  · have : t.data.toList.drop (j + 1) = (t.data.toList.drop (i + 1)).drop (j - (i + 1) + 1) := by
      rw [List.drop_drop]; congr 1; omega
    rw [this, ed, hj, List.drop_append]
    simp
theorem setCell_NM {b : Nat} {wx : World} (h : NM b wx) {a : Addr} (ha : b ≠ a.block) (v : Value) : NM b (wx.setCell a v) := (Below.heap_setCell _ _ _ _ ha).trans h

set_option maxHeartbeats 8000000 in
set_option maxRecDepth 100000 in
theorem parser_calls (t : ByteArray) (ht : t.size ≤ 1048576) (w : World) (T : Tabs w) :
    Calls Tryd.prog 5 #[.string t] w fun e w' => ∃ (k g s : Nat) (er : Int), e = .returned (.tuple #[.agg #[.int .u8 k, .int .u64 g, .int .u64 s], .int .i64 er]) ∧ Below w.heap.size w w' ∧ Told t k g s er := by
  have TT := Lib.hid T
  clear T
  have hRS : RS w 0 0 0 ((w.alloc (.cells #[.int .u8 0, .int .u64 0, .int .u64 0] 25)).alloc (.cells #[.int .u8 0, .int .u64 0, .int .u64 0] 25)) := by
    refine ⟨?_, ?_, ((Below.refl w.heap.size w).alloc (Nat.le_refl _) _).alloc (by rw [World.size_alloc]; omega) _, by rw [World.size_alloc, World.size_alloc]; omega⟩
    · rw [Below.heap_alloc _ _ _ (by rw [World.size_alloc]; omega)]
      exact heap_alloc_new w _
    · have := heap_alloc_new (w.alloc (.cells #[.int .u8 0, .int .u64 0, .int .u64 0] 25)) (.cells #[.int .u8 0, .int .u64 0, .int .u64 0] 25)
      rwa [World.size_alloc] at this
  have H0 := Aside0.mk hRS
  clear hRS
  go_enter Tryd.func5, Tryd.ntmps5
  go_upto_block 0 with (fail)
  generalize (w.alloc (.cells #[.int .u8 0, .int .u64 0, .int .u64 0] 25)).alloc (.cells #[.int .u8 0, .int .u64 0, .int .u64 0] 25) = w1 at H0 ⊢
  go_cut [4, 6] (fun v4 v6 wc => ∃ i : Nat, i ≤ t.size ∧ v4 = .int .i64 i ∧ v6 = .string (TK t i) ∧ Aside0 (∀ j, j < i → t.data.toList[j]? ≠ some 32) ∧ Aside0 (t.data.toList.length ≤ i ∨ t.data.toList[i]? = some 32) ∧ w1 = wc)
  case first =>
    go_wp2_with fail
    go_loop [4, 6] (fun v4 v6 => ∃ i : Nat, i ≤ t.size ∧ v4 = .int .i64 i ∧ v6 = .string (TK t i) ∧ Aside0 (∀ j, j < i → t.data.toList[j]? ≠ some 32)) (fun i _ => t.size - (Lib.intOf i).toNat)
    case atStart => exact ⟨0, Nat.zero_le _, rfl, rfl, ⟨fun j hj => absurd hj (by omega)⟩⟩
    case round =>
      obtain ⟨i, hi, rfl, rfl, HJ⟩ := hrel
      by_cases hlt : i < t.size
      · have hget : t.data.toList[i]? = some t[i] := by
          rw [List.getElem?_eq_getElem (show i < t.data.toList.length from hlt)]
          rfl
        by_cases hc : t[i] = 32
        · have q1 : ((t[i].toNat : Int) != 32) = false := by rw [hc]; rfl
          have HX : Aside0 (t.data.toList.length ≤ i ∨ t.data.toList[i]? = some 32) := ⟨Or.inr (by rw [hget, hc])⟩
          clear hc hget
          go_wp2
          go_meet
          case rel => exact ⟨i, hi, rfl, rfl, HJ, HX, rfl⟩
        · have q1 : ((t[i].toNat : Int) != 32) = true := by
            rw [bne_iff_ne]
            intro e
            exact hc (UInt8.toNat_inj.1 (by have : t[i].toNat = 32 := by omega
                                            rw [this]; rfl))
          have HJ' : Aside0 (∀ j, j < i + 1 → t.data.toList[j]? ≠ some 32) := ⟨fun j hj => by
            by_cases e : j = i
            · subst e; rw [hget]; intro e2; injection e2 with e2; exact hc e2
            · exact HJ.out j (by omega)⟩
          have hadd : ∀ W, (Op.stringOp .add (TK t i) (t.extract i (i + 1))).run Tryd.prog W = .ok (.string (TK t (i + 1))) W := fun W => by
            rw [← TK_succ t i hlt]
            exact add_big _ _ (by rw [TK_size' t i hi, ByteArray.size_extract]; omega) W
          have hsl : ∀ W, (Instr.slice 9 (.string t) (some (.int .i64 (i : Int))) (some (.int .i64 ((i : Int) + 1))) none).run Tryd.prog W = .ok (.string (t.extract i (i + 1))) W := fun W => slice_at t i (i + 1) (by omega) (by omega) _ _ rfl (by omega) W
          clear hc hget
          go_wp2
          go_round
          case rel => exact ⟨i + 1, by omega, by go_num, rfl, HJ'⟩
          case measure => simp [Lib.intOf]; omega
      · have HX : Aside0 (t.data.toList.length ≤ i ∨ t.data.toList[i]? = some 32) := ⟨Or.inl (Nat.le_of_not_lt hlt)⟩
        go_wp2
        go_meet
        case rel => exact ⟨i, hi, rfl, rfl, HJ, HX, rfl⟩
  case rest =>
    obtain ⟨i, hi, rfl, rfl, HJ, HX, rfl⟩ := hcut
    go_upto_block 2 with (fail)
    have HR : Aside0 (RS w 0 0 0 (w1.alloc (.cells #[.string ⟨#[102, 114, 101, 101]⟩, .string ⟨#[99, 108, 97, 105, 109, 101, 100]⟩, .string ⟨#[101, 97, 114, 108, 121]⟩, .string ⟨#[101, 120, 97, 99, 116]⟩] 38))) := ⟨H0.out.of ((Below.refl _ _).alloc (Nat.le_refl _) _)⟩
    have HN : Aside0 (NM w1.heap.size (w1.alloc (.cells #[.string ⟨#[102, 114, 101, 101]⟩, .string ⟨#[99, 108, 97, 105, 109, 101, 100]⟩, .string ⟨#[101, 97, 114, 108, 121]⟩, .string ⟨#[101, 120, 97, 99, 116]⟩] 38))) := ⟨heap_alloc_new w1 _⟩
    have hbn : w1.heap.size ≠ w.heap.size + 1 := by have := H0.out.lt; omega
    clear H0
    generalize w1.alloc (.cells #[.string ⟨#[102, 114, 101, 101]⟩, .string ⟨#[99, 108, 97, 105, 109, 101, 100]⟩, .string ⟨#[101, 97, 114, 108, 121]⟩, .string ⟨#[101, 120, 97, 99, 116]⟩] 38) = w2 at HR HN ⊢
    generalize w1.heap.size = b at HN hbn ⊢
    have HBN := Aside0.mk hbn
    clear hbn
    go_cut [8] (fun v8 wc => ∃ kk : Nat, Aside0 (RS w kk 0 0 wc) ∧ Aside0 (Kinded (TK t i) 4 kk))
    case first =>
      go_wp2_with fail
      go_loopw [8] (fun v8 wr => ∃ (n kk : Nat), n ≤ 4 ∧ v8 = .int .i64 n ∧ Aside0 (RS w kk 0 0 wr) ∧ Aside0 (NM b wr) ∧ Aside0 (Kinded (TK t i) n kk)) (fun v8 _ => 4 - (Lib.intOf v8).toNat)
      case atStart => exact ⟨0, 0, by omega, rfl, HR, HN, ⟨Or.inl ⟨rfl, fun j hj => absurd hj (by omega)⟩⟩⟩
      case round =>
        clear HR HN
        obtain ⟨n, kk, hn, rfl, HR, HN, HK⟩ := hrel
        have hn' : n = 0 ∨ n = 1 ∨ n = 2 ∨ n = 3 ∨ n = 4 := by omega
        rcases hn' with rfl | rfl | rfl | rfl | rfl
        · have yn := HN.out.at_ 0 (by omega)
          obtain ⟨z0, -, -, f0, -, -⟩ := HR.out.c
          by_cases hK : KB 0 = TK t i
          · have q1 := str_eq hK
            have HK' : Aside0 (Kinded (TK t i) (0 + 1) 0) := ⟨Kinded.hit hK⟩
            have HR' : Aside0 (RS w 0 0 0 (wr.setCell ⟨w.heap.size + 1, 0, none⟩ (.int .u8 0))) := ⟨HR.out.put.1 0⟩
            have HN' : Aside0 (NM b (wr.setCell ⟨w.heap.size + 1, 0, none⟩ (.int .u8 0))) := ⟨setCell_NM HN.out HBN.out _⟩
            clear hK
            go_wp2
            go_roundw
            case rel => exact ⟨0 + 1, 0, by omega, by go_num, HR', HN', HK'⟩
            case measure => decide
          · have q1 := str_ne hK
            have HK' : Aside0 (Kinded (TK t i) (0 + 1) kk) := ⟨HK.out.miss hK⟩
            clear hK
            go_wp2
            go_roundw
            case rel => exact ⟨0 + 1, kk, by omega, by go_num, HR, HN, HK'⟩
            case measure => decide
        · have yn := HN.out.at_ 1 (by omega)
          obtain ⟨z0, -, -, f0, -, -⟩ := HR.out.c
          by_cases hK : KB 1 = TK t i
          · have q1 := str_eq hK
            have HK' : Aside0 (Kinded (TK t i) (1 + 1) 1) := ⟨Kinded.hit hK⟩
            have HR' : Aside0 (RS w 1 0 0 (wr.setCell ⟨w.heap.size + 1, 0, none⟩ (.int .u8 1))) := ⟨HR.out.put.1 1⟩
            have HN' : Aside0 (NM b (wr.setCell ⟨w.heap.size + 1, 0, none⟩ (.int .u8 1))) := ⟨setCell_NM HN.out HBN.out _⟩
            clear hK
            go_wp2
            go_roundw
            case rel => exact ⟨1 + 1, 1, by omega, by go_num, HR', HN', HK'⟩
            case measure => decide
          · have q1 := str_ne hK
            have HK' : Aside0 (Kinded (TK t i) (1 + 1) kk) := ⟨HK.out.miss hK⟩
            clear hK
            go_wp2
            go_roundw
            case rel => exact ⟨1 + 1, kk, by omega, by go_num, HR, HN, HK'⟩
            case measure => decide
        · have yn := HN.out.at_ 2 (by omega)
          obtain ⟨z0, -, -, f0, -, -⟩ := HR.out.c
          by_cases hK : KB 2 = TK t i
          · have q1 := str_eq hK
            have HK' : Aside0 (Kinded (TK t i) (2 + 1) 2) := ⟨Kinded.hit hK⟩
            have HR' : Aside0 (RS w 2 0 0 (wr.setCell ⟨w.heap.size + 1, 0, none⟩ (.int .u8 2))) := ⟨HR.out.put.1 2⟩
            have HN' : Aside0 (NM b (wr.setCell ⟨w.heap.size + 1, 0, none⟩ (.int .u8 2))) := ⟨setCell_NM HN.out HBN.out _⟩
            clear hK
            go_wp2
            go_roundw
            case rel => exact ⟨2 + 1, 2, by omega, by go_num, HR', HN', HK'⟩
            case measure => decide
          · have q1 := str_ne hK
            have HK' : Aside0 (Kinded (TK t i) (2 + 1) kk) := ⟨HK.out.miss hK⟩
            clear hK
            go_wp2
            go_roundw
            case rel => exact ⟨2 + 1, kk, by omega, by go_num, HR, HN, HK'⟩
            case measure => decide
        · have yn := HN.out.at_ 3 (by omega)
          obtain ⟨z0, -, -, f0, -, -⟩ := HR.out.c
          by_cases hK : KB 3 = TK t i
          · have q1 := str_eq hK
            have HK' : Aside0 (Kinded (TK t i) (3 + 1) 3) := ⟨Kinded.hit hK⟩
            have HR' : Aside0 (RS w 3 0 0 (wr.setCell ⟨w.heap.size + 1, 0, none⟩ (.int .u8 3))) := ⟨HR.out.put.1 3⟩
            have HN' : Aside0 (NM b (wr.setCell ⟨w.heap.size + 1, 0, none⟩ (.int .u8 3))) := ⟨setCell_NM HN.out HBN.out _⟩
            clear hK
            go_wp2
            go_roundw
            case rel => exact ⟨3 + 1, 3, by omega, by go_num, HR', HN', HK'⟩
            case measure => decide
          · have q1 := str_ne hK
            have HK' : Aside0 (Kinded (TK t i) (3 + 1) kk) := ⟨HK.out.miss hK⟩
            clear hK
            go_wp2
            go_roundw
            case rel => exact ⟨3 + 1, kk, by omega, by go_num, HR, HN, HK'⟩
            case measure => decide
        · go_wp2
          go_meet
          case rel => exact ⟨kk, HR, HK⟩
    case rest =>
      obtain ⟨kk, HR, HK⟩ := hcut
      go_upto_block 4 with (fail)
      go_cut [9] (fun v9 wx => ∃ j : Nat, i + 1 ≤ j ∧ j ≤ 1048577 ∧ v9 = .int .i64 j ∧ Aside0 (∀ m, i + 1 ≤ m → m < j → t.data.toList[m]? ≠ some 32) ∧ Aside0 (t.data.toList.length ≤ j ∨ t.data.toList[j]? = some 32) ∧ wc = wx)
      case first =>
        go_wp2_with fail
        go_loop [9] (fun v9 => ∃ j : Nat, i + 1 ≤ j ∧ j ≤ 1048577 ∧ v9 = .int .i64 j ∧ Aside0 (∀ m, i + 1 ≤ m → m < j → t.data.toList[m]? ≠ some 32)) (fun v9 => t.size - (Lib.intOf v9).toNat)
        case atStart => exact ⟨i + 1, by omega, by omega, by go_num, ⟨fun m h1 h2 => absurd h2 (by omega)⟩⟩
        case round =>
          obtain ⟨j, hj, hj2, rfl, HM⟩ := hrel
          by_cases hlt : j < t.size
          · have hget : t.data.toList[j]? = some t[j] := by
              rw [List.getElem?_eq_getElem (show j < t.data.toList.length from hlt)]
              rfl
            by_cases hc : t[j] = 32
            · have q1 : ((t[j].toNat : Int) != 32) = false := by rw [hc]; rfl
              have HE : Aside0 (t.data.toList.length ≤ j ∨ t.data.toList[j]? = some 32) := ⟨Or.inr (by rw [hget, hc])⟩
              clear hc hget
              go_wp2
              go_meet
              case rel => exact ⟨j, hj, hj2, rfl, HM, HE, rfl⟩
            · have q1 : ((t[j].toNat : Int) != 32) = true := by
                rw [bne_iff_ne]
                intro e
                exact hc (UInt8.toNat_inj.1 (by have : t[j].toNat = 32 := by omega
                                                rw [this]; rfl))
              have HM' : Aside0 (∀ m, i + 1 ≤ m → m < j + 1 → t.data.toList[m]? ≠ some 32) := ⟨fun m h1 h2 => by
                by_cases e : m = j
                · subst e; rw [hget]; intro e2; injection e2 with e2; exact hc e2
                · exact HM.out m h1 (by omega)⟩
              clear hc hget
              go_wp2
              go_round
              case rel => exact ⟨j + 1, by omega, by omega, by go_num, HM'⟩
              case measure => simp [Lib.intOf]; omega
          · have HE : Aside0 (t.data.toList.length ≤ j ∨ t.data.toList[j]? = some 32) := ⟨Or.inl (Nat.le_of_not_lt hlt)⟩
            go_wp2
            go_meet
            case rel => exact ⟨j, hj, hj2, rfl, HM, HE, rfl⟩
      case rest =>
        obtain ⟨j, hj, hj2, rfl, HM, HE, rfl⟩ := hcut
        go_upto_if 59 with (fail)
        go_cut [59] (fun v59 wx => ∃ g s : Nat, g < 18446744073709551616 ∧ s < 18446744073709551616 ∧ Aside0 (RS w kk g s wx) ∧ Aside0 (∀ k' g' s', IsText t k' g' s' → kk = k' ∧ g = g' ∧ s = s'))
        case first =>
          by_cases hlt : j < t.size
          · have HA : Aside0 (∀ k' g' s', IsText t k' g' s' → kk = k' ∧ PU (t.extract (i + 1) j).data.toList = g' ∧ PU (t.extract (j + 1) t.size).data.toList = s') := ⟨fun k' g' s' hx => by
              obtain ⟨e1, e2⟩ := ref_kind HJ.out HX.out HK.out hx
              obtain ⟨-, -, e3, e4⟩ := ref_rest HM.out HE.out hj e1 hx
              refine ⟨e2, ?_, ?_⟩
              · rw [Lib.extract_data, e3]; exact PU_dec g' (by have := hx.2.1; omega)
              · rw [Lib.extract_data, e4, List.take_of_length_le (by rw [← e4, List.length_drop]; show t.size - (j + 1) ≤ _; omega)]; exact PU_dec s' (by have := hx.2.2.1; omega)⟩
            have hs1 : ∀ W, (Instr.slice 9 (.string t) (some (.int .i64 ((i : Int) + 1))) (some (.int .i64 (j : Int))) none).run Tryd.prog W = .ok (.string (t.extract (i + 1) j)) W := fun W => slice_at t (i + 1) j (by omega) (by omega) _ _ (by omega) rfl W
            have hs2 : ∀ W, (Instr.slice 9 (.string t) (some (.int .i64 ((j : Int) + 1))) none none).run Tryd.prog W = .ok (.string (t.extract (j + 1) t.size)) W := fun W => slice_from t (j + 1) (by omega) _ (by omega) W
            have hz1 : (t.extract (i + 1) j).size ≤ 1048576 := by rw [ByteArray.size_extract]; omega
            have hz2 : (t.extract (j + 1) t.size).size ≤ 1048576 := by rw [ByteArray.size_extract]; omega
            generalize t.extract (i + 1) j = p1 at HA hs1 hz1
            generalize t.extract (j + 1) t.size = p2 at HA hs2 hz2
            have V1 := Lib.hid (parseU p1 (by omega) wc (TT.out.move HR.out.bel))
            go_upto_region 18 with (go_at_call 10; refine V1.out.mono ?_; rintro e4 w4 ⟨v4, rfl, hb4⟩; have HR4 := Aside0.mk (HR.out.of hb4); clear hb4; obtain ⟨-, c41, -, -, f41, -⟩ := HR4.out.c)
            have HR5 : Aside0 (RS w kk (PU p1.data.toList) 0 (w4.setCell ⟨w.heap.size + 1, 1, none⟩ (.int .u64 (PU p1.data.toList : Nat)))) := ⟨HR4.out.put.2.1 _⟩
            clear c41 f41 V1 HR4 hs1
            have hg := PU_lt p1.data.toList
            generalize PU p1.data.toList = g at HR5 HA hg ⊢
            generalize w4.setCell ⟨w.heap.size + 1, 1, none⟩ (.int .u64 (g : Nat)) = w5 at HR5 ⊢
            have V2 := Lib.hid (parseU p2 (by omega) w5 (TT.out.move HR5.out.bel))
            go_wp2_with (go_at_call 10; refine V2.out.mono ?_; rintro e6 w6 ⟨v6, rfl, hb6⟩; have HR6 := Aside0.mk (HR5.out.of hb6); clear hb6; obtain ⟨-, -, c62, -, -, f62⟩ := HR6.out.c)
            have HR7 : Aside0 (RS w kk g (PU p2.data.toList) (w6.setCell ⟨w.heap.size + 1, 2, none⟩ (.int .u64 (PU p2.data.toList : Nat)))) := ⟨HR6.out.put.2.2 _⟩
            have hs := PU_lt p2.data.toList
            go_meet
            case rel => exact ⟨_, _, hg, hs, HR7, HA⟩
          · have HA : Aside0 (∀ k' g' s', IsText t k' g' s' → kk = k' ∧ 0 = g' ∧ 0 = s') := ⟨fun k' g' s' hx => by
              obtain ⟨e1, e2⟩ := ref_kind HJ.out HX.out HK.out hx
              exact absurd (ref_rest HM.out HE.out hj e1 hx).2.1 hlt⟩
            go_wp2
            go_meet
            case rel => exact ⟨0, 0, by omega, by omega, HR, HA⟩
        case rest =>
          obtain ⟨g, s, hg, hs, HR, HA⟩ := hcut
          have hk3 := HK.out.le (Nat.le_refl 4)
          have VP := Lib.hid (printr_calls kk g s (by omega) hg hs wc (TT.out.move HR.out.bel))
          obtain ⟨z0, z1, z2, -, -, -⟩ := HR.out.c
          by_cases hT : PTB kk g s = t
          · have q1 := str_eq hT
            by_cases hE : t = ⟨#[]⟩
            · have HF : Aside0 (Told t 0 0 0 52) := ⟨Or.inr ⟨rfl, rfl, rfl, rfl, fun k' g' s' hx => by
                have e := text_list hx
                rw [hE] at e
                exact absurd e (by simp)⟩⟩
              have q3 : t.toList.isEmpty = true := by rw [Lib.toList_data, hE]; rfl
              clear hE hT
              go_wp2_with (go_at_call 8; refine VP.out.mono ?_; rintro e9 w9 ⟨rfl, hb9⟩; have HR9 := Aside0.mk (HR.out.of hb9); clear hb9 z0 z1 z2; obtain ⟨z0, z1, z2, -, -, -⟩ := HR9.out.c; obtain ⟨d0, d1, d2, df0, df1, df2⟩ := HR9.out.d)
              obtain ⟨hres, hbel⟩ := HR9.out.ret 0 0 0
              refine bodyPost_ret (results_ct rfl _ _ w.heap.size 25 #[.int .u8 0, .int .u64 0, .int .u64 0] (0, 0) _ rfl hres Tryd.underlying25 rfl (by kernel_rfl)) rfl ?_
              exact ⟨0, 0, 0, 52, rfl, hbel, HF.out⟩

            · have HF : Aside0 (Told t kk g s 0) := ⟨Or.inl ⟨rfl, ptb_text hT hE⟩⟩
              have q3 : t.toList.isEmpty = false := by
                rw [Lib.toList_data]
                cases h : t.data.toList with
                | nil => exact absurd (bytes_ext h) hE
                | cons a r => rfl
              clear hE hT
              go_wp2_with (go_at_call 8; refine VP.out.mono ?_; rintro e9 w9 ⟨rfl, hb9⟩; have HR9 := Aside0.mk (HR.out.of hb9); clear hb9 z0 z1 z2; obtain ⟨z0, z1, z2, -, -, -⟩ := HR9.out.c; obtain ⟨d0, d1, d2, df0, df1, df2⟩ := HR9.out.d)
              obtain ⟨hres, hbel⟩ := HR9.out.ret kk g s
              refine bodyPost_ret (results_ct rfl _ _ w.heap.size 25 #[.int .u8 kk, .int .u64 g, .int .u64 s] (0, 0) _ rfl hres Tryd.underlying25 rfl (by kernel_rfl)) rfl ?_
              exact ⟨kk, g, s, 0, rfl, hbel, HF.out⟩
          · have HF : Aside0 (Told t 0 0 0 52) := ⟨Or.inr ⟨rfl, rfl, rfl, rfl, fun k' g' s' hx => by
              obtain ⟨rfl, rfl, rfl⟩ := HA.out k' g' s' hx
              exact hT (text_ptb hx)⟩⟩
            have q1 := str_ne hT
            clear hT
            go_wp2_with (go_at_call 8; refine VP.out.mono ?_; rintro e9 w9 ⟨rfl, hb9⟩; have HR9 := Aside0.mk (HR.out.of hb9); clear hb9 z0 z1 z2; obtain ⟨z0, z1, z2, -, -, -⟩ := HR9.out.c; obtain ⟨d0, d1, d2, df0, df1, df2⟩ := HR9.out.d)
            obtain ⟨hres, hbel⟩ := HR9.out.ret 0 0 0
            refine bodyPost_ret (results_ct rfl _ _ w.heap.size 25 #[.int .u8 0, .int .u64 0, .int .u64 0] (0, 0) _ rfl hres Tryd.underlying25 rfl (by kernel_rfl)) rfl ?_
            exact ⟨0, 0, 0, 52, rfl, hbel, HF.out⟩
end Go.Proofs.YtkiofmbecjfanaaDoor
