/- The reference's Print: the lines of spans that are right. The spans are of ints, not too many. -/
import Derived.Test.YtfmhdfgliamkkabDoorHistTabs
import Derived.Test.YtfmhdfgliamkkabDoorOwnx6
import Derived.Deep.RegionHeld3
import Derived.RegionTactic
import Derived.BigRegion
import Derived.Lib.Builder
import Derived.Lib.FrozenHead
import Derived.Lib.Join
import Derived.Test.YtfmhdfgliamkkabDoorHistRightG
import Derived.Lib.OthersKept
/- The reference's Print: the lines of spans that are right. The spans are of ints, not too many. -/
namespace Go.Proofs.YtfmhdfgliamkkabDoor.HT
open Go.RowKit Go.Lib Go.Proofs.YtfmhdfgliamkkabDoor.Own Go.Proofs.YtfmhdfgliamkkabDoorW.PrintWords Go.Proofs.YtfmhdfgliamkkabDoorW.PrintLast Go.Proofs.YtfmhdfgliamkkabDoorW.PrintMore
set_option linter.unusedVariables false
set_option linter.unusedSimpArgs false
theorem add_run (x y : ByteArray) (h : x.size + y.size ≤ 9223372036854775807) : ¬ 9223372036854775807 < x.size + y.size := by omega
theorem itoa_len (n : Int) (h0 : -9223372036854775808 ≤ n) (h1 : n ≤ 9223372036854775807) : (itoa n).length ≤ 21 := by
  unfold itoa
  split
  · have := nDigits_le20 n.natAbs (by omega)
    rw [List.length_cons, decDigits_length]
    omega
  · have := nDigits_le20 n.toNat (by omega)
    rw [decDigits_length]
    omega
theorem toL_len (n : Int) (h0 : -9223372036854775808 ≤ n) (h1 : n ≤ 9223372036854775807) : (toL n).length ≤ 21 := by
  unfold toL
  split
  · decide
  · exact itoa_len n h0 h1
theorem lineL_len (s : S38) (h : fitS s) : (lineL s).length ≤ 90 := by
  obtain ⟨⟨a0, a1⟩, ⟨b0, b1⟩, ⟨c0, c1⟩, d0, d1⟩ := h
  have x0 := itoa_len _ a0 a1
  have x1 := itoa_len _ b0 b1
  have x2 := itoa_len _ c0 c1
  have x3 := toL_len _ d0 d1
  unfold lineL
  simp only [List.length_append, List.length_cons]
  omega
theorem printL_len : ∀ (l : List S38), (∀ s ∈ l, fitS s) → (printL l).length ≤ 91 * l.length
  | [], _ => by simp [printL]
  | s :: l, h => by
    have ih := printL_len l fun t ht => h t (List.mem_cons_of_mem _ ht)
    have := lineL_len s (h s (List.mem_cons_self ..))
    unfold printL at ih ⊢
    rw [List.flatMap_cons, List.length_append, List.length_append, List.length_cons, List.length_cons, List.length_nil]
    omega
theorem printL_snoc (l : List S38) (s : S38) : printL (l ++ [s]) = printL l ++ (lineL s ++ [10]) := by
  unfold printL
  rw [List.flatMap_append]
  simp
/-- Two texts one behind the other. -/
theorem addB (a b : List UInt8) (h : a.length + b.length ≤ 1000000000000) (w : World) : (Op.stringOp .add (toBA a) (toBA b)).run Tryd.prog w = .ok (.string (toBA (a ++ b))) w := by
  rw [← toBA_app]
  exact run_string_add_sum w _ _ (by rw [toBA_size, toBA_size]; omega)
theorem addC (a b : List UInt8) (h : a.length + b.length ≤ 1000000000000) (w : World) : (Op.stringOp .add (toBA a) ⟨b.toArray⟩).run Tryd.prog w = .ok (.string (toBA (a ++ b))) w := addB a b h w
set_option maxHeartbeats 8000000 in
set_option maxRecDepth 100000 in
theorem ref_print_yes (K : Nat) (A0 : Option Addr) (c0 : Nat) (l0 : List (S38)) (w : World) (hr0 : Kd.C k38 w A0 l0.length l0) (hc0 : l0.length ≤ c0) (hT : HTabs w) (hl : l0.length ≤ 134217728) (hf : ∀ s ∈ l0, fitS s) (ho : ∀ s ∈ l0, s.f3 = -1 ∨ 0 ≤ s.f3) (hr : shutterref05_Right.f K l0 = some 0) :
    Calls Tryd.prog 6 #[.slice A0 l0.length c0] w fun e w' => e = .returned (.tuple #[.string (toBA (printL l0)), .int .i64 0]) ∧ Below w.heap.size w w' := by
  have HR := Lib.hid (shutterref05_Right.calls K A0 c0 l0 0 w hr0 hc0 hr)
  have HR0 := Aside0.mk hr0
  have HTT := Aside0.mk hT
  have HF := Aside0.mk hf
  have HO := Aside0.mk ho
  clear hr0 hT hf ho hr
  go_enter Tryd.func6, Tryd.ntmps6
  go_wp2_with (go_at_call 18; refine HR.out.mono ?_; rintro e1 w1 ⟨rfl, h1⟩; have H1 := Aside0.mk h1; clear h1 HR)
  go_loopw [5, 6] (fun v5 v6 WR => ∃ (k : Nat), k ≤ l0.length ∧ v5 = .string (toBA (printL (l0.take k))) ∧ v6 = .int .i64 k ∧ Aside0 (Below w.heap.size w WR)) (fun _ q _ => l0.length - (RowKit.intOf q).toNat)
  case atStart => exact ⟨0, Nat.zero_le _, rfl, rfl, H1⟩
  case round =>
    obtain ⟨k, hk, rfl, rfl, HS⟩ := hrel
    by_cases hlt : k < l0.length
    · have hk0 : (0 : Int) ≤ (k : Int) := by omega
      have hkl : (k : Int) < (l0.length : Int) := by omega
      obtain ⟨ad, rfl, x0, x1, x2, x3⟩ := at_T38 (Kd.C_below HR0.out HS.out) (k : Int) hk0 hkl
      rw [Int.toNat_natCast] at x0 x1 x2 x3
      have hsp : rd_T38 l0 (k : Int) = l0[k] := by
        show l0.getD ((k : Int)).toNat z38 = _
        rw [Int.toNat_natCast, List.getD_eq_getElem?_getD, List.getElem?_eq_getElem hlt]
        rfl
      have htk : l0.take (k + 1) = l0.take k ++ [l0[k]] := by rw [List.take_add_one, List.getElem?_eq_getElem hlt]; rfl
      have hfk := HF.out _ (List.getElem_mem hlt)
      have hok := HO.out _ (List.getElem_mem hlt)
      have nS := printL_len (l0.take k) fun s hs => HF.out s (List.mem_of_mem_take hs)
      rw [List.length_take] at nS
      rw [hsp] at x0 x1 x2 x3
      have hps := printL_snoc (l0.take k) l0[k]
      rw [← htk] at hps
      clear hsp htk
      generalize l0[k] = sp at x0 x1 x2 x3 hfk hok hps
      obtain ⟨s0, s1, s2, s3⟩ := sp
      obtain ⟨⟨a0, a1⟩, ⟨b0, b1⟩, ⟨c0', c1'⟩, d0, d1⟩ := hfk
      simp only at a0 a1 b0 b1 c0' c1' d0 d1 hok
      have z0 : ∀ wx, Below wr.heap.size wr wx → _ := fun wx h => (h.cell (World.block_lt_of_cell? _ _ x0)).trans x0
      have z1 : ∀ wx, Below wr.heap.size wr wx → _ := fun wx h => (h.cell (World.block_lt_of_cell? _ _ x1)).trans x1
      have z2 : ∀ wx, Below wr.heap.size wr wx → _ := fun wx h => (h.cell (World.block_lt_of_cell? _ _ x2)).trans x2
      have T1 := HTT.out.move HS.out
      have I0 := Lib.hid (fun wx (hx : Below wr.heap.size wr wx) => itoa_calls (T1.move hx) s0 a0 a1)
      have I1 := Lib.hid (fun wx (hx : Below wr.heap.size wr wx) => itoa_calls (T1.move hx) s1 b0 b1)
      have I2 := Lib.hid (fun wx (hx : Below wr.heap.size wr wx) => itoa_calls (T1.move hx) s2 c0' c1')
      have I3 := Lib.hid (fun wx (hx : Below wr.heap.size wr wx) => itoa_calls (T1.move hx) s3 d0 d1)
      have nA := itoa_len s0 a0 a1
      have nB := itoa_len s1 b0 b1
      have nC := itoa_len s2 c0' c1'
      have nT := toL_len s3 d0 d1
      have HLN : Aside0 (printL (l0.take (k + 1)) = printL (l0.take k) ++ (itoa s0 ++ [32] ++ itoa s1 ++ [32] ++ itoa s2 ++ [32] ++ toL s3 ++ [10])) := ⟨by rw [hps]; unfold lineL; simp⟩
      clear hps
      generalize printL (l0.take k) = S at nS HLN
      generalize itoa s0 = A at nA HLN I0
      generalize itoa s1 = B at nB HLN I1
      generalize itoa s2 = C at nC HLN I2
      have hr : Below wr.heap.size wr wr := Below.refl _ _
      have hr2 : Below wr.heap.size wr wr.drew := hr.drew
      by_cases h3 : 0 ≤ s3
      · have e3 : toL s3 = itoa s3 := by unfold toL; rw [if_neg (by omega)]
        rw [← e3] at I3
        generalize toL s3 = T at nT HLN I3
        have h3' : s3 ≥ 0 := h3
        clear hok e3
        go_upto_region 11 with (go_at_call 14; refine (I3.out _ hr).mono ?_; rintro e2 w2 ⟨rfl, h2⟩; have hr3 : Below wr.heap.size wr w2 := h2; have hr4 : Below wr.heap.size wr w2.drew := hr3.drew; clear h2)
        have y1 := addC A [32] (by simp; omega)
        have y2 := addB (A ++ [32]) B (by simp; omega)
        have y3 := addC (A ++ [32] ++ B) [32] (by simp; omega)
        have y4 := addB (A ++ [32] ++ B ++ [32]) C (by simp; omega)
        have y5 := addC (A ++ [32] ++ B ++ [32] ++ C) [32] (by simp; omega)
        have y6 := addB (A ++ [32] ++ B ++ [32] ++ C ++ [32]) T (by simp; omega)
        have y7 := addC (A ++ [32] ++ B ++ [32] ++ C ++ [32] ++ T) [10] (by simp; omega)
        have y8 := addB S (A ++ [32] ++ B ++ [32] ++ C ++ [32] ++ T ++ [10]) (by simp; omega)
        generalize A ++ [32] ++ B ++ [32] ++ C ++ [32] ++ T ++ [10] = q7 at y7 y8 HLN
        generalize A ++ [32] ++ B ++ [32] ++ C ++ [32] ++ T = q6 at y6 y7
        generalize A ++ [32] ++ B ++ [32] ++ C ++ [32] = q5 at y5 y6
        generalize A ++ [32] ++ B ++ [32] ++ C = q4 at y4 y5
        generalize A ++ [32] ++ B ++ [32] = q3 at y3 y4
        generalize A ++ [32] ++ B = q2 at y2 y3
        generalize A ++ [32] = q1 at y1 y2
        clear nA nB nC nT nS
        go_region_held3 (fun w' => Below wr.heap.size wr w') (assumption) (first
          | (go_at_call 14; with_reducible refine (I0.out _ (by assumption)).mono ?_; rintro e w' ⟨rfl, hb⟩; have hs_ : Below wr.heap.size wr w' := below_step (by assumption) hb; clear hb)
          | (go_at_call 14; with_reducible refine (I1.out _ (by assumption)).mono ?_; rintro e w' ⟨rfl, hb⟩; have hs_ : Below wr.heap.size wr w' := below_step (by assumption) hb; clear hb)
          | (go_at_call 14; with_reducible refine (I2.out _ (by assumption)).mono ?_; rintro e w' ⟨rfl, hb⟩; have hs_ : Below wr.heap.size wr w' := below_step (by assumption) hb; clear hb))
        all_goals (
          have hc := Aside0.mk (HS.out.trans ((show Below wr.heap.size wr _ by assumption).mono HS.out.size))
          go_wp2_with fail
          exact ⟨⟨k + 1, hlt, by rw [HLN.out], by rfl, hc⟩, by simp [RowKit.intOf]; omega⟩)
      · have e3 : toL s3 = [45] := by unfold toL; rw [if_pos (by omega)]
        rw [e3] at nT HLN
        have h3' : ¬ s3 ≥ 0 := h3
        clear hok e3
        go_upto_region 11 with fail
        have y1 := addC A [32] (by simp; omega)
        have y2 := addB (A ++ [32]) B (by simp; omega)
        have y3 := addC (A ++ [32] ++ B) [32] (by simp; omega)
        have y4 := addB (A ++ [32] ++ B ++ [32]) C (by simp; omega)
        have y5 := addC (A ++ [32] ++ B ++ [32] ++ C) [32] (by simp; omega)
        have y6 := addC (A ++ [32] ++ B ++ [32] ++ C ++ [32]) [45] (by simp; omega)
        have y7 := addC (A ++ [32] ++ B ++ [32] ++ C ++ [32] ++ [45]) [10] (by simp; omega)
        have y8 := addB S (A ++ [32] ++ B ++ [32] ++ C ++ [32] ++ [45] ++ [10]) (by simp; omega)
        generalize A ++ [32] ++ B ++ [32] ++ C ++ [32] ++ [45] ++ [10] = q7 at y7 y8 HLN
        generalize A ++ [32] ++ B ++ [32] ++ C ++ [32] ++ [45] = q6 at y6 y7
        generalize A ++ [32] ++ B ++ [32] ++ C ++ [32] = q5 at y5 y6
        generalize A ++ [32] ++ B ++ [32] ++ C = q4 at y4 y5
        generalize A ++ [32] ++ B ++ [32] = q3 at y3 y4
        generalize A ++ [32] ++ B = q2 at y2 y3
        generalize A ++ [32] = q1 at y1 y2
        clear nA nB nC nT nS
        go_region_held3 (fun w' => Below wr.heap.size wr w') (assumption) (first
          | (go_at_call 14; with_reducible refine (I0.out _ (by assumption)).mono ?_; rintro e w' ⟨rfl, hb⟩; have hs_ : Below wr.heap.size wr w' := below_step (by assumption) hb; clear hb)
          | (go_at_call 14; with_reducible refine (I1.out _ (by assumption)).mono ?_; rintro e w' ⟨rfl, hb⟩; have hs_ : Below wr.heap.size wr w' := below_step (by assumption) hb; clear hb)
          | (go_at_call 14; with_reducible refine (I2.out _ (by assumption)).mono ?_; rintro e w' ⟨rfl, hb⟩; have hs_ : Below wr.heap.size wr w' := below_step (by assumption) hb; clear hb))
        all_goals (
          have hc := Aside0.mk (HS.out.trans ((show Below wr.heap.size wr _ by assumption).mono HS.out.size))
          go_wp2_with fail
          exact ⟨⟨k + 1, hlt, by rw [HLN.out], by rfl, hc⟩, by simp [RowKit.intOf]; omega⟩)
    · obtain rfl : k = l0.length := by omega
      have hge : ¬ (l0.length : Int) < (l0.length : Int) := by omega
      rw [List.take_length]
      go_wp2_with fail
      first | go_ret | go_ret2
      exact ⟨rfl, HS.out⟩
set_option maxHeartbeats 4000000 in
set_option maxRecDepth 100000 in
theorem ref_print_no (K : Nat) (A0 : Option Addr) (c0 : Nat) (l0 : List (S38)) (r : Int) (w : World) (hr0 : Kd.C k38 w A0 l0.length l0) (hc0 : l0.length ≤ c0) (hr : shutterref05_Right.f K l0 = some r) (hne : r ≠ 0) :
    Calls Tryd.prog 6 #[.slice A0 l0.length c0] w fun e w' => e = .returned (.tuple #[.string ⟨#[]⟩, .int .i64 r]) ∧ Below w.heap.size w w' := by
  have HR := Lib.hid (shutterref05_Right.calls K A0 c0 l0 r w hr0 hc0 hr)
  have hb : (r != 0) = true := by simpa using hne
  clear hr0 hr
  go_enter Tryd.func6, Tryd.ntmps6
  go_wp2_with (go_at_call 18; refine HR.out.mono ?_; rintro e1 w1 ⟨rfl, h1⟩; have H1 := Aside0.mk h1; clear h1 HR)
  first | go_ret | go_ret2
  exact ⟨rfl, H1.out⟩
end Go.Proofs.YtfmhdfgliamkkabDoor.HT

/- The builder's state lasts; four texts joined by blanks are a line. No condition. -/
namespace Go.Proofs.YtfmhdfgliamkkabDoor.HT
open Go.RowKit Go.Lib Go.Proofs.YtfmhdfgliamkkabDoor.Own Go.Proofs.YtfmhdfgliamkkabDoorW.PrintWords
set_option linter.unusedVariables false
set_option linter.unusedSimpArgs false
theorem builderAt_move {T e : TypeId} {B b : Nat} {p : Value} {bs : List Value} {w w' : World} (h : Lib.BuilderAt T e B b p bs w) (hb : Below w.heap.size w w') : Lib.BuilderAt T e B b p bs w' := by
  obtain ⟨h1, v, h2, h3, h4⟩ := h
  exact ⟨h1, v, (hb.block _ (Array.getElem?_eq_some_iff.1 h2).1).trans h2, own_move h3 fun k hk => hb.block k (own_lt h3 k hk), h4⟩
theorem builder_move {T e : TypeId} {B b : Nat} {bs : List Value} {w w' : World} (h : Lib.IsBuilder T e B b bs w) (hb : Below w.heap.size w w') : Lib.IsBuilder T e B b bs w' :=
  h.imp (fun h => builderAt_move h hb) fun h => builderAt_move h hb
theorem builderAtF_move {T e : TypeId} {B b : Nat} {p : Value} {bs : List Value} {w w' : World} (h : Lib.BuilderAtF T e B b p bs w) (hb : Below w.heap.size w w') : Lib.BuilderAtF T e B b p bs w' := by
  obtain ⟨h1, v, h2, h3, h4⟩ := h
  have hg : w.grownBy w' none := ⟨hb.os, hb.tape, hb.output, hb.size, fun j hj _ => hb.block j hj⟩
  refine ⟨h1, v, (hb.block _ (Array.getElem?_eq_some_iff.1 h2).1).trans h2, h3.kept hg ?_, h4⟩
  cases hv : v.ownBlock with
  | none => exact .inl rfl
  | some k => exact .inr (by simp)
theorem builderF_move {T e : TypeId} {B b : Nat} {bs : List Value} {w w' : World} (h : Lib.IsBuilderF T e B b bs w) (hb : Below w.heap.size w w') : Lib.IsBuilderF T e B b bs w' :=
  h.imp (fun h => builderAtF_move h hb) fun h => builderAtF_move h hb
theorem join_line (a b c d : List UInt8) : Lib.join [a, b, c, d] [32] = a ++ 32 :: (b ++ 32 :: (c ++ 32 :: d)) := by
  simp [Lib.join, List.intercalate, List.intersperse]
end Go.Proofs.YtfmhdfgliamkkabDoor.HT

/- hist.Print: the lines of spans that are right, by the library's builder. The spans are of ints, not too many. -/
namespace Go.Proofs.YtfmhdfgliamkkabDoor.HT
open Go.RowKit Go.Lib Go.Proofs.YtfmhdfgliamkkabDoor.Own Go.Proofs.YtfmhdfgliamkkabDoorW.PrintWords Go.Proofs.YtfmhdfgliamkkabDoorW.PrintLast Go.Proofs.YtfmhdfgliamkkabDoorW.PrintMore
set_option linter.unusedVariables false
set_option linter.unusedSimpArgs false
/-- A block's cells are these. -/
def Blk (q : Nat) (T : TypeId) (cs : Array Value) (w : World) : Prop := w.heap[q]? = some (.cells cs T (0, 0))
theorem Blk.lt {q : Nat} {T : TypeId} {cs : Array Value} {w : World} (h : Blk q T cs w) : q < w.heap.size := (Array.getElem?_eq_some_iff.1 h).1
theorem Blk.below {q : Nat} {T : TypeId} {cs : Array Value} {w w' : World} (h : Blk q T cs w) (hb : Below w.heap.size w w') : Blk q T cs w' := (hb.block q h.lt).trans h
theorem Blk.alloc {q : Nat} {T : TypeId} {cs : Array Value} {w : World} (h : Blk q T cs w) (o : Obj) : Blk q T cs (w.alloc o) := h.below ((Below.refl _ w).alloc (Nat.le_refl _) o)
theorem Blk.others {q : Nat} {T : TypeId} {cs : Array Value} {w w' : World} {e : TypeId} {b : Nat} (h : Blk q T cs w) (hk : Lib.OthersKept e (some b) w w') (hq : q ≠ b) (hT : T ≠ e) : Blk q T cs w' :=
  hk q _ h (fun e => hq (Option.some.inj e)) (fun c fz e => hT (by injection e))
theorem Blk.cell {q : Nat} {T : TypeId} {cs : Array Value} {w : World} (h : Blk q T cs w) (i : Nat) : w.cell? ⟨q, i, none⟩ = cs[i]? := by
  unfold Blk at h
  simp [World.cell?, h]
theorem Blk.new (w : World) (cs : Array Value) (T : TypeId) : Blk w.heap.size T cs (w.alloc (.cells cs T)) := heap_alloc_new w _
/-- Four texts in a row are joined. -/
theorem join4 (g c : Nat) (t0 t1 t2 t3 : List UInt8) (w : World) (h : Blk g 9 #[.string (toBA t0), .string (toBA t1), .string (toBA t2), .string (toBA t3)] w) (hc : 4 ≤ c) (hl : t0.length + t1.length + t2.length + t3.length ≤ 1000000) :
    Calls Tryd.prog 16 #[.slice (some ⟨g, 0, none⟩) 4 c, .string ⟨#[32]⟩] w fun e w' => e = .returned (.string (toBA (t0 ++ 32 :: (t1 ++ 32 :: (t2 ++ 32 :: t3))))) ∧ Below w.heap.size w w' := by
  have hj : Lib.join ([toBA t0, toBA t1, toBA t2, toBA t3].map (·.data.toList)) (⟨#[32]⟩ : ByteArray).data.toList = t0 ++ 32 :: (t1 ++ 32 :: (t2 ++ 32 :: t3)) := join_line t0 t1 t2 t3
  have := Tryd.strings_Join g 0 c [toBA t0, toBA t1, toBA t2, toBA t3] ⟨#[32]⟩ w (by
    intro j x hx
    have h4 := h.cell
    match j, hx with
    | 0, hx => exact (h4 0).trans (by simpa using hx)
    | 1, hx => exact (h4 1).trans (by simpa using hx)
    | 2, hx => exact (h4 2).trans (by simpa using hx)
    | 3, hx => exact (h4 3).trans (by simpa using hx)
    | n + 4, hx => simp at hx) h.lt (by simp) (by simpa using hc) (by rw [hj]; simp; omega)
  rw [hj] at this
  exact this
theorem strCells_byte (l : List UInt8) : Lib.strCells (toBA l) = Lib.byteCells l := rfl
theorem byteCells_app (a b : List UInt8) : Lib.byteCells a ++ Lib.byteCells b = Lib.byteCells (a ++ b) := by simp [Lib.byteCells]
theorem byteCells_len (a : List UInt8) : (Lib.byteCells a).length = a.length := by simp [Lib.byteCells]
/-- One more line. -/
theorem writeLine {B b : Nat} {l x : List UInt8} {w : World} (h : Lib.IsBuilderF 36 5 B b (Lib.byteCells l) w) (hl : l.length + x.length ≤ 1000000000000) (hB : B ≤ w.heap.size) :
    Calls Tryd.prog 15 #[.pointer (some ⟨b, 0, none⟩), .string (toBA x)] w fun e w' => e = .returned (.tuple #[.int .i64 (toBA x).size, .nilIface]) ∧ Lib.IsBuilderF 36 5 B b (Lib.byteCells (l ++ x)) w' ∧ Below B w w' ∧ Lib.OthersKept 5 (some b) w w' :=
  (writeString_k B b (Lib.byteCells l) (toBA x) w h (by rw [byteCells_len, toBA_size]; omega) hB).mono fun e w' ⟨a, c, d, f⟩ => ⟨a, Or.inr (by rw [strCells_byte, byteCells_app] at c; exact c), d, f⟩
set_option maxHeartbeats 8000000 in
set_option maxRecDepth 100000 in
theorem hist_print_yes (K : Nat) (A0 : Option Addr) (c0 : Nat) (l0 : List (S38)) (w : World) (hr0 : Kd.C k38 w A0 l0.length l0) (hc0 : l0.length ≤ c0) (hT : HTabs w) (hl : l0.length ≤ 134217728) (hf : ∀ s ∈ l0, fitS s) (ho : ∀ s ∈ l0, s.f3 = -1 ∨ 0 ≤ s.f3)
    (hr : Calls Tryd.prog 13 #[.slice A0 l0.length c0] w fun e w' => e = .returned (.int .i64 0) ∧ Below w.heap.size w w') :
    Calls Tryd.prog 5 #[.slice A0 l0.length c0] w fun e w' => e = .returned (.tuple #[.string (toBA (printL l0)), .int .i64 0]) ∧ Below w.heap.size w w' := by
  have HR := Lib.hid hr
  have HR0 := Aside0.mk hr0
  have HTT := Aside0.mk hT
  have HF := Aside0.mk hf
  have HO := Aside0.mk ho
  clear hr0 hT hf ho hr
  go_enter Tryd.func5, Tryd.ntmps5
  go_upto_region 5 with (go_at_call 13; refine HR.out.mono ?_; rintro e1 w1 ⟨rfl, h1⟩; have H1 := Aside0.mk h1; clear h1 HR)
  have HB := Aside0.mk (Lib.IsBuilderF.of (Lib.fresh_isBuilder 36 5 w1))
  have HS1 := Aside0.mk (below_alloc H1.out (.cells #[.pointer none, .slice none 0 0] 36))
  have HLT := H1.out.size
  clear H1
  have HZ : Aside0 (w1.heap.size < (w1.alloc (.cells #[.pointer none, .slice none 0 0] 36)).heap.size) := ⟨by rw [World.size_alloc]; omega⟩
  generalize w1.alloc (.cells #[.pointer none, .slice none 0 0] 36) = w2 at HB HS1 HZ ⊢
  generalize w1.heap.size = b at HB HLT HZ ⊢
  go_wp2_with fail
  go_loopw [16] (fun v16 WR => ∃ (k : Nat), k ≤ l0.length ∧ v16 = .int .i64 k ∧ Aside0 (Below w.heap.size w WR) ∧ Aside0 (b < WR.heap.size) ∧ Aside0 (Lib.IsBuilderF 36 5 b b (Lib.byteCells (printL (l0.take k))) WR)) (fun q _ => l0.length - (RowKit.intOf q).toNat)
  case atStart => exact ⟨0, Nat.zero_le _, rfl, HS1, HZ, HB⟩
  case round =>
    clear HB HS1 HZ
    obtain ⟨k, hk, rfl, HS, HZ, HB⟩ := hrel
    by_cases hlt : k < l0.length
    · have hk0 : (0 : Int) ≤ (k : Int) := by omega
      have hkl : (k : Int) < (l0.length : Int) := by omega
      obtain ⟨ad, rfl, x0, x1, x2, x3⟩ := at_T38 (Kd.C_below HR0.out HS.out) (k : Int) hk0 hkl
      rw [Int.toNat_natCast] at x0 x1 x2 x3
      have hsp : rd_T38 l0 (k : Int) = l0[k] := by
        show l0.getD ((k : Int)).toNat z38 = _
        rw [Int.toNat_natCast, List.getD_eq_getElem?_getD, List.getElem?_eq_getElem hlt]
        rfl
      have htk : l0.take (k + 1) = l0.take k ++ [l0[k]] := by rw [List.take_add_one, List.getElem?_eq_getElem hlt]; rfl
      have hfk := HF.out _ (List.getElem_mem hlt)
      have hok := HO.out _ (List.getElem_mem hlt)
      have nS := printL_len (l0.take k) fun s hs => HF.out s (List.mem_of_mem_take hs)
      rw [List.length_take] at nS
      rw [hsp] at x0 x1 x2 x3
      have hps := printL_snoc (l0.take k) l0[k]
      rw [← htk] at hps
      clear hsp htk
      generalize l0[k] = sp at x0 x1 x2 x3 hfk hok hps
      obtain ⟨s0, s1, s2, s3⟩ := sp
      obtain ⟨⟨a0, a1⟩, ⟨b0, b1⟩, ⟨c0', c1'⟩, d0, d1⟩ := hfk
      simp only at a0 a1 b0 b1 c0' c1' d0 d1 hok
      go_upto_region 8 with fail
      have HK := Aside0.mk (show Blk wr.heap.size 38 #[.int .i64 s0, .int .i64 s1, .int .i64 s2, .int .i64 s3] (wr.alloc (.cells #[.int .i64 s0, .int .i64 s1, .int .i64 s2, .int .i64 s3] 38)) from heap_alloc_new wr _)
      have HS2 := Aside0.mk (below_alloc HS.out (.cells #[.int .i64 s0, .int .i64 s1, .int .i64 s2, .int .i64 s3] 38))
      have HB2 := Aside0.mk (HB.out.alloc (.cells #[.int .i64 s0, .int .i64 s1, .int .i64 s2, .int .i64 s3] 38))
      have HQ : Aside0 (wr.heap.size ≠ b) := ⟨by have := HZ.out; omega⟩
      have HZ2 : Aside0 (b < (wr.alloc (.cells #[.int .i64 s0, .int .i64 s1, .int .i64 s2, .int .i64 s3] 38)).heap.size) := ⟨by rw [World.size_alloc]; have := HZ.out; omega⟩
      clear x0 x1 x2 x3 HS HB HZ
      generalize wr.alloc (.cells #[.int .i64 s0, .int .i64 s1, .int .i64 s2, .int .i64 s3] 38) = wr2 at HK HS2 HB2 HZ2 ⊢
      generalize wr.heap.size = q at HK HQ ⊢
      clear wr
      obtain ⟨wr, rfl⟩ : ∃ wr : World, wr = wr2 := ⟨wr2, rfl⟩
      have z3 := (HK.out.cell 3).trans (show _ = some (Value.int .i64 s3) from rfl)
      have T1 := HTT.out.move HS2.out
      have I0 := Lib.hid (fun wx (hx : Below wr.heap.size wr wx) => itoa_calls (T1.move hx) s0 a0 a1)
      have I1 := Lib.hid (fun wx (hx : Below wr.heap.size wr wx) => itoa_calls (T1.move hx) s1 b0 b1)
      have I2 := Lib.hid (fun wx (hx : Below wr.heap.size wr wx) => itoa_calls (T1.move hx) s2 c0' c1')
      have I3 := Lib.hid (itoa_calls T1 s3 d0 d1)
      clear T1
      have nA := itoa_len s0 a0 a1
      have nB := itoa_len s1 b0 b1
      have nC := itoa_len s2 c0' c1'
      have nT := toL_len s3 d0 d1
      have HLN : Aside0 (printL (l0.take (k + 1)) = printL (l0.take k) ++ (itoa s0 ++ 32 :: (itoa s1 ++ 32 :: (itoa s2 ++ 32 :: toL s3)) ++ [10])) := ⟨by rw [hps]; unfold lineL; simp⟩
      clear hps
      generalize printL (l0.take k) = S at nS HLN HB2
      generalize itoa s0 = A at nA HLN I0
      generalize itoa s1 = B at nB HLN I1
      generalize itoa s2 = C at nC HLN I2
      by_cases h3 : s3 = -1
      · have e3 : toL s3 = [45] := by unfold toL; rw [if_pos h3]
        have h3' : s3 = -1 := h3
        clear hok
        go_upto_region 11 with fail
        have e45 : ({ data := #[45] } : ByteArray) = toBA (toL s3) := by rw [e3]; rfl
        rw [e45]
        clear e45 e3 h3 h3'
        generalize toL s3 = T at nT HLN ⊢
        have hr : Below wr.heap.size wr wr := Below.refl _ _
        have hr2 : Below wr.heap.size wr wr.drew := hr.drew
        have hk1 := HK.out
        have hk2 : Blk q 38 #[.int .i64 s0, .int .i64 s1, .int .i64 s2, .int .i64 s3] wr.drew := hk1
        have y7 := addC (A ++ 32 :: (B ++ 32 :: (C ++ 32 :: T))) [10] (by simp; omega)
        have HWL := Lib.hid (fun (wx : World) (hx : Below wr.heap.size wr wx) => (writeLine (x := A ++ 32 :: (B ++ 32 :: (C ++ 32 :: T)) ++ [10]) (builderF_move HB2.out hx) (by simp; omega) (Nat.le_trans (Nat.le_of_lt HZ2.out) hx.size)).mono fun e w' ⟨h1, h2, h3, h4⟩ => (show _ ∧ _ ∧ Below w.heap.size w w' ∧ b < w'.heap.size ∧ _ from ⟨h1, h2, (HS2.out.trans (hx.mono HS2.out.size)).trans (h3.mono HLT), Nat.lt_of_lt_of_le HZ2.out (Nat.le_trans hx.size h3.size), h4⟩))
        have HJ := Lib.hid (fun (g c : Nat) (wx : World) (h : Blk g 9 #[.string (toBA A), .string (toBA B), .string (toBA C), .string (toBA T)] wx) (hc : 4 ≤ c) => join4 g c A B C T wx h hc (by omega))
        have z0 : ∀ wx, Blk q 38 #[.int .i64 s0, .int .i64 s1, .int .i64 s2, .int .i64 s3] wx → wx.cell? ⟨q, 0, none⟩ = some (.int .i64 s0) := fun wx h => (h.cell 0).trans rfl
        have z1 : ∀ wx, Blk q 38 #[.int .i64 s0, .int .i64 s1, .int .i64 s2, .int .i64 s3] wx → wx.cell? ⟨q, 1, none⟩ = some (.int .i64 s1) := fun wx h => (h.cell 1).trans rfl
        have z2 : ∀ wx, Blk q 38 #[.int .i64 s0, .int .i64 s1, .int .i64 s2, .int .i64 s3] wx → wx.cell? ⟨q, 2, none⟩ = some (.int .i64 s2) := fun wx h => (h.cell 2).trans rfl
        generalize hq6 : A ++ 32 :: (B ++ 32 :: (C ++ 32 :: T)) = q6 at y7 HLN HWL HJ
        clear hq6
        generalize hq7 : q6 ++ [10] = q7 at y7 HLN HWL
        clear hq7 nA nB nC nT nS
        go_region_held3 (fun w' => Blk q 38 #[.int .i64 s0, .int .i64 s1, .int .i64 s2, .int .i64 s3] w') (first | assumption | exact Blk.alloc (by assumption) _) (first
          | (go_at_call 14; with_reducible refine (I0.out _ (by assumption)).mono ?_; rintro e w' ⟨rfl, hb⟩; have hs_ : Below wr.heap.size wr w' := below_step (by assumption) hb; have hk_ : Blk q _ _ w' := Blk.below (by assumption) hb; clear hb)
          | (go_at_call 14; with_reducible refine (I1.out _ (by assumption)).mono ?_; rintro e w' ⟨rfl, hb⟩; have hs_ : Below wr.heap.size wr w' := below_step (by assumption) hb; have hk_ : Blk q _ _ w' := Blk.below (by assumption) hb; clear hb)
          | (go_at_call 14; with_reducible refine (I2.out _ (by assumption)).mono ?_; rintro e w' ⟨rfl, hb⟩; have hs_ : Below wr.heap.size wr w' := below_step (by assumption) hb; have hk_ : Blk q _ _ w' := Blk.below (by assumption) hb; clear hb)
          | (go_at_call 16; with_reducible refine (HJ.out _ _ _ (Blk.new _ _ _) (by omega)).mono ?_; rintro e w' ⟨rfl, hb⟩; have hs_ : Below wr.heap.size wr w' := below_step (below_alloc (by assumption) _) hb; have hk_ : Blk q _ _ w' := Blk.below (Blk.alloc (by assumption) _) hb; clear hb)
          | (go_at_call 15; with_reducible refine (HWL.out _ (by assumption)).mono ?_; rintro e w' ⟨rfl, hi_, hb_, hz_, ho_⟩; have hk_ : Blk q _ _ w' := Blk.others (by assumption) ho_ HQ.out (by decide); have HI_ := Aside0.mk hi_; have HB_ := Aside0.mk hb_; have HZ_ := Aside0.mk hz_; clear hi_ hb_ hz_ ho_))
        all_goals (
          go_wp2_with fail
          exact ⟨⟨k + 1, hlt, by rfl, HB_, HZ_, by rw [HLN.out]; exact HI_⟩, by simp [RowKit.intOf]; omega⟩)
      · have e3 : toL s3 = itoa s3 := by unfold toL; rw [if_neg h3]
        rw [← e3] at I3
        generalize toL s3 = T at nT HLN I3
        clear hok e3
        go_upto_region 11 with (go_at_call 14; refine I3.out.mono ?_; rintro e2 w2 ⟨rfl, h2⟩; have h2a := Aside0.mk h2; clear h2)
        have hr : Below wr.heap.size wr w2 := h2a.out
        have hr2 : Below wr.heap.size wr w2.drew := hr.drew
        have hk1 := HK.out.below hr
        have hk2 : Blk q 38 #[.int .i64 s0, .int .i64 s1, .int .i64 s2, .int .i64 s3] w2.drew := hk1
        have y7 := addC (A ++ 32 :: (B ++ 32 :: (C ++ 32 :: T))) [10] (by simp; omega)
        have HWL := Lib.hid (fun (wx : World) (hx : Below wr.heap.size wr wx) => (writeLine (x := A ++ 32 :: (B ++ 32 :: (C ++ 32 :: T)) ++ [10]) (builderF_move HB2.out hx) (by simp; omega) (Nat.le_trans (Nat.le_of_lt HZ2.out) hx.size)).mono fun e w' ⟨h1, h2, h3, h4⟩ => (show _ ∧ _ ∧ Below w.heap.size w w' ∧ b < w'.heap.size ∧ _ from ⟨h1, h2, (HS2.out.trans (hx.mono HS2.out.size)).trans (h3.mono HLT), Nat.lt_of_lt_of_le HZ2.out (Nat.le_trans hx.size h3.size), h4⟩))
        have HJ := Lib.hid (fun (g c : Nat) (wx : World) (h : Blk g 9 #[.string (toBA A), .string (toBA B), .string (toBA C), .string (toBA T)] wx) (hc : 4 ≤ c) => join4 g c A B C T wx h hc (by omega))
        have z0 : ∀ wx, Blk q 38 #[.int .i64 s0, .int .i64 s1, .int .i64 s2, .int .i64 s3] wx → wx.cell? ⟨q, 0, none⟩ = some (.int .i64 s0) := fun wx h => (h.cell 0).trans rfl
        have z1 : ∀ wx, Blk q 38 #[.int .i64 s0, .int .i64 s1, .int .i64 s2, .int .i64 s3] wx → wx.cell? ⟨q, 1, none⟩ = some (.int .i64 s1) := fun wx h => (h.cell 1).trans rfl
        have z2 : ∀ wx, Blk q 38 #[.int .i64 s0, .int .i64 s1, .int .i64 s2, .int .i64 s3] wx → wx.cell? ⟨q, 2, none⟩ = some (.int .i64 s2) := fun wx h => (h.cell 2).trans rfl
        generalize hq6 : A ++ 32 :: (B ++ 32 :: (C ++ 32 :: T)) = q6 at y7 HLN HWL HJ
        clear hq6
        generalize hq7 : q6 ++ [10] = q7 at y7 HLN HWL
        clear hq7 nA nB nC nT nS
        go_region_held3 (fun w' => Blk q 38 #[.int .i64 s0, .int .i64 s1, .int .i64 s2, .int .i64 s3] w') (first | assumption | exact Blk.alloc (by assumption) _) (first
          | (go_at_call 14; with_reducible refine (I0.out _ (by assumption)).mono ?_; rintro e w' ⟨rfl, hb⟩; have hs_ : Below wr.heap.size wr w' := below_step (by assumption) hb; have hk_ : Blk q _ _ w' := Blk.below (by assumption) hb; clear hb)
          | (go_at_call 14; with_reducible refine (I1.out _ (by assumption)).mono ?_; rintro e w' ⟨rfl, hb⟩; have hs_ : Below wr.heap.size wr w' := below_step (by assumption) hb; have hk_ : Blk q _ _ w' := Blk.below (by assumption) hb; clear hb)
          | (go_at_call 14; with_reducible refine (I2.out _ (by assumption)).mono ?_; rintro e w' ⟨rfl, hb⟩; have hs_ : Below wr.heap.size wr w' := below_step (by assumption) hb; have hk_ : Blk q _ _ w' := Blk.below (by assumption) hb; clear hb)
          | (go_at_call 16; with_reducible refine (HJ.out _ _ _ (Blk.new _ _ _) (by omega)).mono ?_; rintro e w' ⟨rfl, hb⟩; have hs_ : Below wr.heap.size wr w' := below_step (below_alloc (by assumption) _) hb; have hk_ : Blk q _ _ w' := Blk.below (Blk.alloc (by assumption) _) hb; clear hb)
          | (go_at_call 15; with_reducible refine (HWL.out _ (by assumption)).mono ?_; rintro e w' ⟨rfl, hi_, hb_, hz_, ho_⟩; have hk_ : Blk q _ _ w' := Blk.others (by assumption) ho_ HQ.out (by decide); have HI_ := Aside0.mk hi_; have HB_ := Aside0.mk hb_; have HZ_ := Aside0.mk hz_; clear hi_ hb_ hz_ ho_))
        all_goals (
          go_wp2_with fail
          exact ⟨⟨k + 1, hlt, by rfl, HB_, HZ_, by rw [HLN.out]; exact HI_⟩, by simp [RowKit.intOf]; omega⟩)
    · obtain rfl : k = l0.length := by omega
      have hge : ¬ (l0.length : Int) < (l0.length : Int) := by omega
      rw [List.take_length] at HB
      have HSt := Lib.hid (Any.Builder_String_any_f Tryd.lays169 Tryd.Builder_Extra_169 b b (printL l0) wr HB.out (Nat.le_of_lt HZ.out))
      go_wp2_with (go_at_call 17; refine HSt.out.mono ?_; rintro e9 w9 ⟨rfl, _, h9⟩; have H9 := Aside0.mk h9; clear h9)
      first | go_ret | go_ret2
      exact ⟨rfl, HS.out.trans (H9.out.mono HLT)⟩
set_option maxHeartbeats 4000000 in
set_option maxRecDepth 100000 in
theorem hist_print_no (A0 : Option Addr) (c0 : Nat) (l0 : List (S38)) (r : Int) (w : World) (hne : r ≠ 0)
    (hr : Calls Tryd.prog 13 #[.slice A0 l0.length c0] w fun e w' => e = .returned (.int .i64 r) ∧ Below w.heap.size w w') :
    Calls Tryd.prog 5 #[.slice A0 l0.length c0] w fun e w' => e = .returned (.tuple #[.string ⟨#[]⟩, .int .i64 r]) ∧ Below w.heap.size w w' := by
  have HR := Lib.hid hr
  have hb : (r != 0) = true := by simpa using hne
  clear hr
  go_enter Tryd.func5, Tryd.ntmps5
  go_wp2_with (go_at_call 13; refine HR.out.mono ?_; rintro e1 w1 ⟨rfl, h1⟩; have H1 := Aside0.mk h1; clear h1 HR)
  first | go_ret | go_ret2
  exact ⟨rfl, H1.out⟩
end Go.Proofs.YtfmhdfgliamkkabDoor.HT
