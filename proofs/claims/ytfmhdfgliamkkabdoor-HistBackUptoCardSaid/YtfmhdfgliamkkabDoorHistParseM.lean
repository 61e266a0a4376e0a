/- hist.lines' iterator, walked with a loop's yield: each ended line comes, one by one. Texts up to 134217728 bytes. -/
import Derived.Test.YtfmhdfgliamkkabDoorPrintsM
import Derived.RangeFuncRecord
import Derived.RangeFuncLeaves
import Derived.RangeFuncCalls
import Derived.TacticsInMore
import Derived.BigFrameIn
import Derived.BigGuardPartIn
import Derived.LoopIn
import Derived.Test.YtfmhdfgliamkkabDoorCutsG
import Derived.OwnWalkIn
import Derived.Maps.AppendAt
/- hist.lines' iterator, walked with a loop's yield: each ended line comes, one by one. Texts up to 134217728 bytes. -/
namespace Go.Proofs.YtfmhdfgliamkkabDoor.HT
open Go.RowKit Go.Lib Go.Proofs.YtfmhdfgliamkkabDoor.Own Go.Proofs.YtfmhdfgliamkkabDoorW.PrintWords
set_option linter.unusedVariables false
set_option linter.unusedSimpArgs false
/-- From w to w': but for the blocks of X all is as it was. -/
structure But (X : Nat → Prop) (w w' : World) : Prop where
  os : w'.os = w.os
  tape : w'.tape = w.tape
  output : w'.output = w.output
  size : w.heap.size ≤ w'.heap.size
  block : ∀ j, ¬ X j → j < w.heap.size → w'.heap[j]? = w.heap[j]?
theorem But.refl (X : Nat → Prop) (w : World) : But X w w := ⟨rfl, rfl, rfl, Nat.le_refl _, fun _ _ _ => rfl⟩
theorem But.trans {X : Nat → Prop} {a b c : World} (h : But X a b) (k : But X b c) : But X a c :=
  ⟨k.os.trans h.os, k.tape.trans h.tape, k.output.trans h.output, Nat.le_trans h.size k.size, fun j hj hl => (k.block j hj (Nat.lt_of_lt_of_le hl h.size)).trans (h.block j hj hl)⟩
theorem But.of_below {X : Nat → Prop} {a b : World} (h : Below a.heap.size a b) : But X a b := ⟨h.os, h.tape, h.output, h.size, fun j _ hl => h.block j hl⟩
theorem But.below {X : Nat → Prop} {a b : World} (h : But X a b) {B : Nat} (hB : B ≤ a.heap.size) (hX : ∀ j, j < B → ¬ X j) : Below B a b := ⟨h.os, h.tape, h.output, h.size, fun j hj => h.block j (hX j hj) (by omega)⟩
theorem But.mono {X Y : Nat → Prop} {a b : World} (h : But X a b) (hl : ∀ j, X j → Y j) : But Y a b := ⟨h.os, h.tape, h.output, h.size, fun j hj hs => h.block j (fun e => hj (hl j e)) hs⟩
theorem But.set {X : Nat → Prop} (w : World) (p : Addr) (v : Value) (hp : X p.block) : But X w (w.setCell p v) :=
  have hb := (Below.refl 0 w).setCell (p := p) (Nat.zero_le _) v
  ⟨hb.os, hb.tape, hb.output, hb.size, fun j hj _ => Below.heap_setCell _ _ _ _ (fun e => hj (e ▸ hp))⟩
theorem But.put {X : Nat → Prop} (w : World) (l : Nat) (o : Obj) (hp : X l) : But X w (w.putObj l o) :=
  ⟨rfl, rfl, rfl, by simp [World.putObj], fun j hj _ => World.putObj_heap_other (fun e => hj (e ▸ hp))⟩
theorem But.blk {X : Nat → Prop} {w w' : World} (h : But X w w') {q : Nat} {T : TypeId} {cs : Array Value} (hb : Blk q T cs w) (hq : ¬ X q) : Blk q T cs w' := (h.block q hq hb.lt).trans hb
/-- The loop's record and the block for its rounds' deferred calls. -/
structure Lp (fn : FuncId) (tmps : Array Value) (assign body : Code) (l D : Nat) (st : LoopState) (pend : Option Code) (W : World) : Prop where
  L : W.heap[l]? = some (.loop { state := st, pending := pend, fn, tmps, params := #[14], assign, body, defers := D })
  K : W.heap[D]? = some (.deferred (some []))
theorem Lp.but {X : Nat → Prop} {fn : FuncId} {tmps : Array Value} {assign body : Code} {l D : Nat} {st : LoopState} {pend : Option Code} {w w' : World} (h : Lp fn tmps assign body l D st pend w) (hb : But X w w') (hl : ¬ X l) (hD : ¬ X D) : Lp fn tmps assign body l D st pend w' :=
  ⟨(hb.block l hl (Array.getElem?_eq_some_iff.1 h.L).1).trans h.L, (hb.block D hD (Array.getElem?_eq_some_iff.1 h.K).1).trans h.K⟩
theorem wide_room : Fence.wide.depth.isSome = true → ∀ n : Nat, 1 ≤ n := fun h => by simp [Fence.wide] at h
def szOf (Bs : Nat) (W : World) : Nat := match W.cell? ⟨Bs, 0, none⟩ with
  | some (.string b) => b.size
  | _ => 0
theorem szOf_is {Bs : Nat} {W : World} {T : TypeId} {b : ByteArray} (h : Blk Bs T #[.string b] W) : szOf Bs W = b.size := by
  unfold szOf
  rw [h.cell 0]
  rfl
set_option maxHeartbeats 4000000 in
set_option maxRecDepth 100000 in
theorem lines_in {fn : FuncId} {tmps : Array Value} {assign body : Code} (l D Bs m : Nat) (hm1 : 1 ≤ m) (hne : Bs ≠ l ∧ Bs ≠ D ∧ l ≠ D) (s : List UInt8) (hs : s.length ≤ 134217728) (J : List (List UInt8) → World → Prop) (Jx : World → Prop)
    (hJ : ∀ pre W W', J pre W → But (fun j => j = Bs ∨ j = l ∨ j = D) W W' → J pre W') (hT : ∀ pre W, J pre W → HTabs W)
    (hrow : ∀ pre x W, J pre W → x.length ≤ 134217728 → (∃ r, linesL s = pre ++ x :: r) → Lp fn tmps assign body l D .ready none W → RoundIn Fence.wide (m - 1) Tryd.prog l fn (tmps.setIfInBounds 14 (.string (toBA x))) assign body W
      fun e W' => (e = .returned (.bool true) ∧ J (pre ++ [x]) W' ∧ Lp fn tmps assign body l D .ready none W' ∧ ∀ cs, Blk Bs 9 cs W → Blk Bs 9 cs W') ∨ (e = .returned (.bool false) ∧ Jx W' ∧ Lp fn tmps assign body l D .done (some .ret) W'))
    (W : World) (h0 : J [] W) (hL : Lp fn tmps assign body l D .ready none W) (hB : Blk Bs 9 #[.string (toBA s)] W) :
    CallsIn Fence.wide m Tryd.prog 31 #[.func (.yield l) #[] #[], .pointer (some ⟨Bs, 0, none⟩)] W fun e W' => (∃ v, e = .returned v) ∧ ((J (linesL s) W' ∧ Lp fn tmps assign body l D .ready none W') ∨ (Jx W' ∧ Lp fn tmps assign body l D .done (some .ret) W')) := by
  refine callsIn_of_wp Tryd.func31 rfl trivial ?_ rfl
  simp only [Tryd.ntmps31, List.size_toArray, List.length_cons, List.length_nil, Nat.reduceAdd, Nat.reduceSub, Array.replicate_succ, Array.replicate_zero, List.push_toArray, List.append_toArray, List.nil_append, List.cons_append]
  gi_wp2
  gi_loopw [3] (fun _ wr => ∃ (pre : List (List UInt8)) (r : List UInt8), linesL s = pre ++ linesL r ∧ r.length ≤ s.length ∧ J pre wr ∧ Lp fn tmps assign body l D .ready none wr ∧ Blk Bs 9 #[.string (toBA r)] wr) (fun _ wr => szOf Bs wr)
  case atStart => exact ⟨[], s, rfl, Nat.le_refl _, h0, hL, hB⟩
  case round =>
    obtain ⟨pre, r, hr, hrl, hJs, hLs, hBs⟩ := hrel
    have hf32 : Fence.wide.fn 32 := trivial
    by_cases hm : (10 : UInt8) ∈ r
    · obtain ⟨x, r', rfl, hx⟩ := first_of 10 hm
      have hlr : (x ++ 10 :: r').length ≤ 134217728 := by omega
      have hlin : linesL s = (pre ++ [x]) ++ linesL r' := by rw [hr, linesL_hit x r' hx]; simp
      have hxs : ∃ r, linesL s = pre ++ x :: r := ⟨linesL r', by rw [hlin]; simp⟩
      have hr'l : r'.length ≤ s.length := by simp at hrl; omega
      have HC := Lib.hid ((callsIn_wide (n := m - 1)).2 (cut_calls (hT pre wr hJs) (toBA (x ++ 10 :: r')) (by rw [toBA_size]; omega)))
      rw [toBA_data, cut_hit x r' hx] at HC
      have c0 := (hBs.cell 0).trans (show _ = some (Value.string (toBA (x ++ 10 :: r'))) from rfl)
      have hxl : x.length ≤ 134217728 := by simp at hlr; omega
      clear hm hr hx
      gi_wp2_with (gi_at_call 32; refine HC.out.mono ?_; rintro e1 w1 ⟨rfl, h1⟩; have hJ1 := hJ pre wr w1 hJs (But.of_below h1); have hL1 : Lp fn tmps assign body l D .ready none w1 := hLs.but (X := fun _ => False) (But.of_below h1) id id; have hB1 := Blk.below hBs h1; have hy : (Instr.yield l #[.string (toBA x)]).run Tryd.prog w1 = .ok (.round l fn (tmps.setIfInBounds 14 (.string (toBA x))) assign body) w1 := by simpa using run_yield (P := Tryd.prog) (args := #[.string (toBA x)]) hL1.L rfl)
      refine (hrow pre x w1 hJ1 hxl hxs hL1).mono ?_
      rintro e W3 (⟨rfl, hJ3, hL3, hB3⟩ | ⟨rfl, hx3, hL3⟩)
      · have hB4 := hB3 _ hB1
        have c3 := (hB4.cell 0).trans (show _ = some (Value.string (toBA (x ++ 10 :: r'))) from rfl)
        have f3 := blk_frozen hB4 0
        gi_wp2
        have hbt : But (fun j => j = Bs ∨ j = l ∨ j = D) W3 (W3.setCell ⟨Bs, 0, none⟩ (.string (toBA r'))) := But.set _ _ _ (.inl rfl)
        have hB5 : Blk Bs 9 #[.string (toBA r')] (W3.setCell ⟨Bs, 0, none⟩ (.string (toBA r'))) := heap_setCell_same W3 Bs 0 _ _ _ hB4
        go_roundw
        case rel => exact ⟨pre ++ [x], r', hlin, hr'l, hJ _ _ _ hJ3 hbt, hL3.but (X := fun j => j = Bs) (But.set _ _ _ rfl) (fun e => hne.1 e.symm) (fun e => hne.2.1 e.symm), hB5⟩
        case measure =>
          rw [szOf_is hB5, szOf_is hBs, toBA_size, toBA_size]
          simp
          omega
      · gi_wp2
        refine bodyPost_ret (results_none rfl _ _ _) rfl ?_
        exact ⟨⟨_, rfl⟩, .inr ⟨hx3, hL3⟩⟩
    · have HC := Lib.hid ((callsIn_wide (n := m - 1)).2 (cut_calls (hT pre wr hJs) (toBA r) (by rw [toBA_size]; omega)))
      rw [toBA_data, cut_miss r hm] at HC
      have c0 := (hBs.cell 0).trans (show _ = some (Value.string (toBA r)) from rfl)
      rw [linesL_miss r hm, List.append_nil] at hr
      gi_wp2_with (gi_at_call 32; refine HC.out.mono ?_; rintro e1 w1 ⟨rfl, h1⟩; have hJ1 := hJ pre wr w1 hJs (But.of_below h1); have hL1 : Lp fn tmps assign body l D .ready none w1 := hLs.but (X := fun _ => False) (But.of_below h1) id id)
      refine ⟨(fun _ h => by cases h), ?_⟩
      go_at_K
      gi_wp2
      refine bodyPost_ret (results_none rfl _ _ _) rfl ?_
      exact ⟨⟨_, rfl⟩, .inl ⟨hr ▸ hJ1, hL1⟩⟩
/-- The statement 'for line := range lines(s) { .. }': the caller's two invariants (J between two rounds, Jx where a round has returned), the body's walk, what stands behind. -/
theorem range_lines {assign body : Code} {Q : Exit → Act → World → Prop} {tmps : Array Value} {W0 : World} (g Bs : Nat) (s : List UInt8) (hs : s.length ≤ 134217728) (hBs : Blk Bs 9 #[.string (toBA s)] W0)
    (hg : ∀ (l : Nat) (w : World), (resolve (Act.mk tmps []).eval (rangeCall (.tmp g) l) 0).run Tryd.prog w = .ok { target := .fn (.func 31) #[.pointer (some ⟨Bs, 0, none⟩)], args := #[.func (.yield l) #[] #[]] } w)
    (J : List (List UInt8) → World → Prop) (Jx : World → Prop)
    (hJ : ∀ pre W W', J pre W → But (fun j => j = Bs ∨ j = W0.heap.size + 1 ∨ j = W0.heap.size) W W' → J pre W') (hJx : ∀ W W', Jx W → But (fun j => j = Bs ∨ j = W0.heap.size + 1 ∨ j = W0.heap.size) W W' → Jx W')
    (hT : ∀ pre W, J pre W → HTabs W) (h0 : ∀ W1, Below W0.heap.size W0 W1 → W0.heap.size + 2 ≤ W1.heap.size → J [] W1)
    (hassign : ∀ x W, assign.wpIn (Fence.wide.inRound (W0.heap.size + 1)) 1 Tryd.prog (Exit.then (fun a₁ w₁ => w₁ = W ∧ a₁ = { tmps := (tmps.setIfInBounds 14 (.string (toBA x))).setIfInBounds 5 (.string (toBA x)), defers := [] }) (fun _ _ _ => False)) { tmps := tmps.setIfInBounds 14 (.string (toBA x)), defers := [] } W)
    (hbody : ∀ pre x W, J pre W → x.length ≤ 134217728 → (∃ r, linesL s = pre ++ x :: r) → body.wpIn (Fence.wide.inRound (W0.heap.size + 1)) 1 Tryd.prog (fun e a W' => (e = .normal ∧ J (pre ++ [x]) W' ∨ e = .ret ∧ Jx W') ∧ ∀ j, j = Bs ∨ j = W0.heap.size + 1 ∨ j = W0.heap.size → j < W.heap.size → W'.heap[j]? = W.heap[j]?) { tmps := (tmps.setIfInBounds 14 (.string (toBA x))).setIfInBounds 5 (.string (toBA x)), defers := [] } W)
    (hdone : ∀ W3, J (linesL s) W3 → W3.heap[W0.heap.size]? = some (.deferred (some [])) → Q .normal { tmps := tmps, defers := [{ target := .collected W0.heap.size, args := #[] }] } W3)
    (hstop : ∀ W3, Jx W3 → W3.heap[W0.heap.size]? = some (.deferred (some [])) → Code.ret.wpIn Fence.wide 3 Tryd.prog Q { tmps := tmps, defers := [{ target := .collected W0.heap.size, args := #[] }] } W3) :
    (Code.rangeFunc (.tmp g) #[14] assign body).wpIn Fence.wide 3 Tryd.prog Q { tmps := tmps, defers := [] } W0 := by
  refine wpIn_rangeFunc ?_
  intro fn hfn
  have hBl := hBs.lt
  obtain ⟨W1, hW1⟩ : ∃ W1, (W0.alloc (.deferred (some []))).alloc (.loop { state := .ready, pending := none, fn, tmps := tmps, params := #[14], assign, body, defers := W0.heap.size }) = W1 := ⟨_, rfl⟩
  have hb1 : Below W0.heap.size W0 W1 := by rw [← hW1]; exact below_alloc (below_alloc (Below.refl _ _) _) _
  have hz1 : W1.heap.size = W0.heap.size + 2 := by rw [← hW1]; simp
  have hL : Lp fn tmps assign body (W0.heap.size + 1) W0.heap.size .ready none W1 :=
    ⟨by rw [← hW1]; have := World.alloc_heap_new (W0.alloc (.deferred (some []))) (.loop { state := .ready, pending := none, fn, tmps := tmps, params := #[14], assign, body, defers := W0.heap.size }); rwa [World.size_alloc] at this,
     by rw [← hW1]; exact (Below.heap_alloc _ _ _ (by simp)).trans (World.alloc_heap_new W0 _)⟩
  refine ⟨W0.heap.size + 1, [{ target := .collected W0.heap.size, args := #[] }], W1, { target := .fn (.func 31) #[.pointer (some ⟨Bs, 0, none⟩)], args := #[.func (.yield (W0.heap.size + 1)) #[] #[]] }, W1, 31,
    #[.func (.yield (W0.heap.size + 1)) #[] #[], .pointer (some ⟨Bs, 0, none⟩)], W1, ?_, hg _ _, fun _ _ => trivial, ?_, fun h => by simp [Fence.wide] at h, ?_⟩
  · rw [← hW1]; exact run_enterLoop_outer _ _ _ _ _
  · simp [invoke, go_sem]
  refine (lines_in (fn := fn) (tmps := tmps) (assign := assign) (body := body) (W0.heap.size + 1) W0.heap.size Bs 2 (by decide) ⟨by omega, by omega, by omega⟩ s hs J Jx hJ hT ?_ W1 (h0 W1 hb1 (by omega)) hL (hBs.below hb1)).mono ?_
  · intro pre x W hJp hx hxs hLp
    refine roundIn_of_wpIn trivial ?_
    refine wpIn_mono (hassign x W) ?_
    rintro e a1 w1 hq
    have hne : W0.heap.size ≠ W0.heap.size + 1 := by omega
    cases e with
    | normal =>
      obtain ⟨rfl, rfl⟩ := hq
      have hl := (Array.getElem?_eq_some_iff.1 hLp.L).1
      refine ⟨_, run_beginRound hLp.L rfl, ?_⟩
      have hb2 : ∀ o : Obj, But (fun j => j = Bs ∨ j = W0.heap.size + 1 ∨ j = W0.heap.size) w1 (w1.putObj (W0.heap.size + 1) o) := fun o => But.put _ _ _ (.inr (.inl rfl))
      refine wpIn_mono (hbody pre x _ (hJ _ _ _ hJp (hb2 _)) hx hxs) ?_
      rintro e a2 w2 ⟨h1, h2⟩
      have hsz : ∀ o : Obj, (w1.putObj (W0.heap.size + 1) o).heap.size = w1.heap.size := fun o => by simp [World.putObj]
      have hLb := (h2 (W0.heap.size + 1) (.inr (.inl rfl)) (by rw [hsz]; exact hl)).trans (World.putObj_heap_same hl)
      have hKb := (h2 W0.heap.size (.inr (.inr rfl)) (by rw [hsz]; omega)).trans ((World.putObj_heap_other hne).trans hLp.K)
      have hl2 := (Array.getElem?_eq_some_iff.1 hLb).1
      rcases h1 with ⟨rfl, hj⟩ | ⟨rfl, hx⟩
      · refine ⟨_, _, run_endRound none hLb, .inl ⟨rfl, hJ _ _ _ hj (But.put _ _ _ (.inr (.inl rfl))), ⟨World.putObj_heap_same hl2, (World.putObj_heap_other hne).trans hKb⟩, fun cs hcs => ?_⟩⟩
        have hbl : Bs ≠ W0.heap.size + 1 := by omega
        exact (World.putObj_heap_other hbl).trans ((h2 Bs (.inl rfl) (by rw [hsz]; exact hcs.lt)).trans ((World.putObj_heap_other hbl).trans hcs))
      · exact ⟨_, _, run_endRound (some .ret) hLb, .inr ⟨rfl, hJx _ _ hx (But.put _ _ _ (.inr (.inl rfl))), ⟨World.putObj_heap_same hl2, (World.putObj_heap_other hne).trans hKb⟩⟩⟩
    | _ => exact hq.elim
  · rintro e W2 ⟨⟨v, rfl⟩, ⟨hJ2, hL2⟩ | ⟨hX2, hL2⟩⟩
    · refine ⟨none, _, run_endLoop hL2.L (by simp), ?_⟩
      exact hdone _ (hJ _ _ _ hJ2 (But.put _ _ _ (.inr (.inl rfl)))) ((World.putObj_heap_other (by omega)).trans hL2.K)
    · refine ⟨some .ret, _, run_endLoop hL2.L (by simp), ?_⟩
      exact hstop _ (hJx _ _ hX2 (But.put _ _ _ (.inr (.inl rfl)))) ((World.putObj_heap_other (by omega)).trans hL2.K)
end Go.Proofs.YtfmhdfgliamkkabDoor.HT

/- The reference's Parse. Texts up to 134217728 bytes. -/
namespace Go.Proofs.YtfmhdfgliamkkabDoor.HT
open Go.RowKit Go.Lib Go.Proofs.YtfmhdfgliamkkabDoor.Own Go.Proofs.YtfmhdfgliamkkabDoorW.PrintWords Go.Proofs.YtfmhdfgliamkkabDoorW.PrintLast Go.Proofs.YtfmhdfgliamkkabDoorW.PrintMore
set_option linter.unusedVariables false
set_option linter.unusedSimpArgs false
theorem Blk.frozen {q : Nat} {T : TypeId} {cs : Array Value} {w : World} (h : Blk q T cs w) (i : Nat) : w.frozen? ⟨q, i, none⟩ = false := blk_frozen h i
theorem Blk.put {q : Nat} {T : TypeId} {cs : Array Value} {w : World} (h : Blk q T cs w) (i : Nat) (v : Value) : Blk q T (cs.setIfInBounds i v) (w.setCell ⟨q, i, none⟩ v) := heap_setCell_same w q i _ _ v h
theorem four_of {l : List (List UInt8)} (h : l.length = 4) : ∃ a b c d, l = [a, b, c, d] := by
  match l, h with
  | [a, b, c, d], _ => exact ⟨a, b, c, d, rfl⟩
theorem strs_row {w : World} {base : Nat} {v : Value} {l : List ByteArray} (h : Kd.R Kd.string 9 w base (fun _ => True) v l) : ∃ A c, v = .slice A l.length c ∧ l.length ≤ c ∧ Kd.C Kd.string w A l.length l := Kd.R_reads h
theorem readL_four {x a b c d : List UInt8} (h : wordsL x = [a, b, c, d]) : readL x = some ⟨AV a, AV b, AV c, if d = [45] then -1 else AV d⟩ := by unfold readL; rw [h]
theorem readL_no {x : List UInt8} (h : ¬ (wordsL x).length = 4) : readL x = none := by
  unfold readL
  split
  · rename_i e; rw [e] at h; exact absurd rfl h
  · rfl
theorem dash_eq (d : List UInt8) : (toBA d = ⟨#[45]⟩) = (d = [45]) := by
  apply propext
  constructor
  · intro h
    have := congrArg (fun x : ByteArray => x.data.toList) h
    exact this
  · rintro rfl; rfl
/-- What the loop holds behind k lines. -/
structure PrI (w : World) (s : List UInt8) (k : Nat) (v4 : Value) (wr : World) : Prop where
  l : ∃ done, readAll ((linesL s).take k) = some done ∧ done.length = k ∧ Kd.R k38 38 wr w.heap.size (fun _ => True) v4 done
set_option maxHeartbeats 8000000 in
set_option maxRecDepth 100000 in
theorem ref_parse (s : ByteArray) (hs : s.size ≤ 134217728) (w : World) (hT : HTabs w) : Calls Tryd.prog 8 #[.string s] w fun e w' => ParseOut s.data.toList w w' e := by
  have HTT := Aside0.mk hT
  have hu36 := Tryd.underlying38
  have HL := Lib.hid (shutterref05_Lines.calls (s.size + 1) s _ w (lines_f s (by omega)))
  obtain ⟨hle, hln⟩ := lines_le s.data.toList
  rw [size_data] at hln
  have HLE := Aside0.mk hle
  clear hT hle
  go_enter Tryd.func8, Tryd.ntmps8
  go_wp2_with (go_at_call 22; refine HL.out.mono ?_; rintro e1 w1 ⟨v1, rfl, hr1, hb1⟩; obtain ⟨A, cA, rfl, hcA, hC⟩ := strs_row hr1; rw [List.length_map] at hC; have HC := Aside0.mk hC; have HB1 := Aside0.mk hb1; clear hr1 hb1 hC HL hcA)
  go_loopw [4, 6] (fun v4 v6 WR => ∃ (k : Nat), k ≤ (linesL s.data.toList).length ∧ v6 = .int .i64 k ∧ Aside0 (Below w1.heap.size w1 WR) ∧ Aside0 (PrI w1 s.data.toList k v4 WR)) (fun _ q _ => (linesL s.data.toList).length - (RowKit.intOf q).toNat)
  case atStart => exact ⟨0, Nat.zero_le _, rfl, ⟨Below.refl _ _⟩, ⟨[], rfl, rfl, Kd.R_nil _ _ _ _ _⟩⟩
  case round =>
    obtain ⟨k, hk, rfl, HS, HI⟩ := hrel
    by_cases hlt : k < (linesL s.data.toList).length
    · have hk0 : (0 : Int) ≤ (k : Int) := by omega
      have hkl : (k : Int) < ((linesL s.data.toList).length : Int) := by omega
      obtain ⟨ad, rfl, x0⟩ := Kd.at_string (Kd.C_below HC.out HS.out) (k : Int) hk0 hkl
      have hrd : rdOf ByteArray.empty ((linesL s.data.toList).map toBA) (k : Int) = toBA (linesL s.data.toList)[k] := by
        unfold rdOf
        rw [Int.toNat_natCast, List.getD_eq_getElem?_getD, List.getElem?_map, List.getElem?_eq_getElem hlt]
        rfl
      rw [Int.toNat_natCast, hrd] at x0
      have hlx := HLE.out _ (List.getElem_mem hlt)
      rw [size_data] at hlx
      have HLK := Aside0.mk (show (linesL s.data.toList)[k]? = some (linesL s.data.toList)[k] from List.getElem?_eq_getElem hlt)
      have HRN := Aside0.mk (fun h => readAll_bad (a := linesL s.data.toList) (k := k) hlt h)
      have HRS := Aside0.mk (fun (sp : S38) (l : List S38) h hl => readAll_snoc (a := linesL s.data.toList) (k := k) (s := sp) (l := l) hlt h hl)
      clear hrd
      generalize (linesL s.data.toList)[k] = x at x0 hlx HRN HRS HLK
      have HW := Lib.hid (words_calls (toBA x) (by rw [toBA_size]; omega) wr)
      rw [toBA_data] at HW
      go_upto_region 7 with (go_at_call 23; refine HW.out.mono ?_; rintro e2 w2 ⟨g, cap, rfl, hg2, hb2⟩; have HG := Aside0.mk hg2; have HB2 := Aside0.mk hb2; clear hg2 hb2 HW)
      clear x0
      by_cases h4 : (wordsL x).length = 4
      · obtain ⟨a, b, c, d, habcd⟩ := four_of h4
        have hla := word_le (s := x) (x := a) (by rw [habcd]; simp)
        have hlb := word_le (s := x) (x := b) (by rw [habcd]; simp)
        have hlc := word_le (s := x) (x := c) (by rw [habcd]; simp)
        have hld := word_le (s := x) (x := d) (by rw [habcd]; simp)
        have HR4 := Aside0.mk (readL_four habcd)
        rw [habcd] at HG h4 ⊢
        have rw4 := row_word HG.out
        have HGL : Aside0 (g < w2.heap.size) := ⟨World.block_lt_of_cell? _ _ (rw4 0 (by simp))⟩
        have zaa : Aside0 (∀ wx, Below w2.heap.size w2 wx → wx.cell? ⟨g, 0, none⟩ = some (.string (toBA a))) := ⟨fun wx h => (h.cell HGL.out).trans (rw4 0 (by simp))⟩
        have zab : Aside0 (∀ wx, Below w2.heap.size w2 wx → wx.cell? ⟨g, 1, none⟩ = some (.string (toBA b))) := ⟨fun wx h => (h.cell HGL.out).trans (rw4 1 (by simp))⟩
        have zac : Aside0 (∀ wx, Below w2.heap.size w2 wx → wx.cell? ⟨g, 2, none⟩ = some (.string (toBA c))) := ⟨fun wx h => (h.cell HGL.out).trans (rw4 2 (by simp))⟩
        have zad : Aside0 (∀ wx, Below w2.heap.size w2 wx → wx.cell? ⟨g, 3, none⟩ = some (.string (toBA d))) := ⟨fun wx h => (h.cell HGL.out).trans (rw4 3 (by simp))⟩
        have T5 := Aside0.mk ((HTT.out.move HB1.out).move (HS.out.trans (HB2.out.mono HS.out.size)))
        clear rw4 HGL habcd HG
        go_upto_region 10 with fail
        have HX0 := Aside0.mk (show Blk w2.heap.size 38 #[.int .i64 0, .int .i64 0, .int .i64 0, .int .i64 0] (w2.alloc (.cells #[.int .i64 0, .int .i64 0, .int .i64 0, .int .i64 0] 38)) from Blk.new _ _ _)
        have HB0 := Aside0.mk (below_alloc (Below.refl w2.heap.size w2) (.cells #[.int .i64 0, .int .i64 0, .int .i64 0, .int .i64 0] 38))
        generalize w2.alloc (.cells #[.int .i64 0, .int .i64 0, .int .i64 0, .int .i64 0] 38) = V0 at HX0 HB0 ⊢
        obtain ⟨bx, hbx⟩ : ∃ b, w2.heap.size = b := ⟨_, rfl⟩
        have HGX : Aside0 (w2.heap.size ≤ bx) := ⟨by omega⟩
        rw [hbx] at HX0
        simp only [hbx]
        clear hbx
        have HA := Lib.hid (atoi_calls (T5.out.move HB0.out) (toBA a) (by rw [toBA_size]; omega))
        have cc := zaa.out _ HB0.out
        go_upto_region 11 with (go_at_call 21; refine HA.out.mono ?_; rintro e1 W1 ⟨⟨v, rfl⟩, h1⟩; have HXa := Aside0.mk (HX0.out.below h1); have HBa := Aside0.mk (below_step HB0.out h1); have cx := HXa.out.cell 0; have fx := HXa.out.frozen 0; clear h1)
        have HX1 := Aside0.mk (HXa.out.put 0 (.int .i64 (AV (toBA a).data.toList)))
        have HB1 := Aside0.mk (HBa.out.setCell (p := ⟨bx, 0, none⟩) HGX.out (.int .i64 (AV (toBA a).data.toList)))
        clear HXa HBa cx fx cc HA HX0 HB0
        generalize W1.setCell ⟨bx, 0, none⟩ (.int .i64 (AV (toBA a).data.toList)) = V1 at HX1 HB1 ⊢
        have HA := Lib.hid (atoi_calls (T5.out.move HB1.out) (toBA b) (by rw [toBA_size]; omega))
        have cc := zab.out _ HB1.out
        go_upto_region 12 with (go_at_call 21; refine HA.out.mono ?_; rintro e1 W2 ⟨⟨v, rfl⟩, h1⟩; have HXa := Aside0.mk (HX1.out.below h1); have HBa := Aside0.mk (below_step HB1.out h1); have cx := HXa.out.cell 1; have fx := HXa.out.frozen 1; clear h1)
        have HX2 := Aside0.mk (HXa.out.put 1 (.int .i64 (AV (toBA b).data.toList)))
        have HB2 := Aside0.mk (HBa.out.setCell (p := ⟨bx, 1, none⟩) HGX.out (.int .i64 (AV (toBA b).data.toList)))
        clear HXa HBa cx fx cc HA HX1 HB1
        generalize W2.setCell ⟨bx, 1, none⟩ (.int .i64 (AV (toBA b).data.toList)) = V2 at HX2 HB2 ⊢
        have HA := Lib.hid (atoi_calls (T5.out.move HB2.out) (toBA c) (by rw [toBA_size]; omega))
        have cc := zac.out _ HB2.out
        go_upto_region 13 with (go_at_call 21; refine HA.out.mono ?_; rintro e1 W3 ⟨⟨v, rfl⟩, h1⟩; have HXa := Aside0.mk (HX2.out.below h1); have HBa := Aside0.mk (below_step HB2.out h1); have cx := HXa.out.cell 2; have fx := HXa.out.frozen 2; clear h1)
        have HX3 := Aside0.mk (HXa.out.put 2 (.int .i64 (AV (toBA c).data.toList)))
        have HB3 := Aside0.mk (HBa.out.setCell (p := ⟨bx, 2, none⟩) HGX.out (.int .i64 (AV (toBA c).data.toList)))
        clear HXa HBa cx fx cc HA HX2 HB2
        generalize W3.setCell ⟨bx, 2, none⟩ (.int .i64 (AV (toBA c).data.toList)) = V3 at HX3 HB3 ⊢
        have cx := HX3.out.cell 3
        have fx := HX3.out.frozen 3
        go_upto_region 14 with fail
        have HX4 := Aside0.mk (HX3.out.put 3 (.int .i64 (-1)))
        have HB4 := Aside0.mk (HB3.out.setCell (p := ⟨bx, 3, none⟩) HGX.out (.int .i64 (-1)))
        clear cx fx HX3 HB3
        generalize V3.setCell ⟨bx, 3, none⟩ (.int .i64 (-1)) = V4 at HX4 HB4 ⊢
        have cc := zad.out _ HB4.out
        by_cases hd : d = [45]
        · subst hd
          rw [if_pos rfl] at HR4
          have e45 : toBA [45] = ⟨#[45]⟩ := rfl
          rw [e45] at cc
          go_upto_region 16 with fail
          have HX := Aside0.mk (show Blk bx 38 #[.int .i64 (AV a), .int .i64 (AV b), .int .i64 (AV c), .int .i64 (-1)] V4 from HX4.out)
          have hbw := HB4.out
          have HBL := Aside0.mk (HS.out.trans ((HB2.out.trans (hbw.mono HB2.out.size)).mono HS.out.size))
          obtain ⟨done, hd1, hd2, hd3⟩ := HI.out.l
          have HO2 := Aside0.mk (Kd.R_below hd3 (HB2.out.trans (hbw.mono HB2.out.size)))
          have HRA := Aside0.mk (HRS.out _ _ HR4.out hd1)
          have hdk := Aside0.mk hd2
          clear hd1 hd3 hbw HX4 HB4
          have y0 := (HX.out.cell 0).trans (show _ = some (Value.int .i64 (AV a)) from rfl)
          have y1 := (HX.out.cell 1).trans (show _ = some (Value.int .i64 (AV b)) from rfl)
          have y2 := (HX.out.cell 2).trans (show _ = some (Value.int .i64 (AV c)) from rfl)
          have y3 := (HX.out.cell 3).trans (show _ = some (Value.int .i64 (-1)) from rfl)
          go_wp2_with (at_builtin; refine Kd.R_append k38 (w0 := w1) w1.heap.size rfl (.tmp 64) (.tmp 66) 22 38 (.agg #[(.int .i64 0), (.int .i64 0), (.int .i64 0), (.int .i64 0)]) 32 rfl Tryd.underlying22 info38 rfl (by decide) (by omega) u4 done (⟨AV a, AV b, AV c, -1⟩ : S38) [.int .i64 (AV a), .int .i64 (AV b), .int .i64 (AV c), .int .i64 (-1)] (fun _ => True) (fun _ => False) rfl rfl ?aP (fun _ hk => hk.elim) (fun _ _ => trivial) HO2.out HBL.out ?aS ?aL ?_; (case aP => exact k38_mkM _ _ _ (⟨AV a, AV b, AV c, -1⟩ : S38)); (case aS => exact HBL.out.size); (case aL => omega); intro v1 wc ho hb hg hat)
          exact ⟨⟨k + 1, hlt, by rfl, ⟨hb⟩, ⟨_, HRA.out, by rw [List.length_append, List.length_singleton, hdk.out], ho⟩⟩, by simp [RowKit.intOf]; omega⟩
        · rw [if_neg hd] at HR4
          have hd2 : ((toBA d).toList == [45]) = false := by rw [Lib.toList_data, toBA_data]; simpa using hd
          go_upto_region 15 with fail
          clear cc hd2 hd
          have HA := Lib.hid (atoi_calls (T5.out.move HB4.out) (toBA d) (by rw [toBA_size]; omega))
          have cc := zad.out _ HB4.out
          go_upto_region 16 with (go_at_call 21; refine HA.out.mono ?_; rintro e1 W5 ⟨⟨v, rfl⟩, h1⟩; have HXa := Aside0.mk (HX4.out.below h1); have HBa := Aside0.mk (below_step HB4.out h1); have cx := HXa.out.cell 3; have fx := HXa.out.frozen 3; clear h1)
          have HX5 := Aside0.mk (HXa.out.put 3 (.int .i64 (AV (toBA d).data.toList)))
          have HB5 := Aside0.mk (HBa.out.setCell (p := ⟨bx, 3, none⟩) HGX.out (.int .i64 (AV (toBA d).data.toList)))
          clear HXa HBa cx fx cc HA HX4 HB4
          generalize W5.setCell ⟨bx, 3, none⟩ (.int .i64 (AV (toBA d).data.toList)) = V5 at HX5 HB5 ⊢
          have HX := Aside0.mk (show Blk bx 38 #[.int .i64 (AV a), .int .i64 (AV b), .int .i64 (AV c), .int .i64 (AV d)] V5 from HX5.out)
          have hbw := HB5.out
          have HBL := Aside0.mk (HS.out.trans ((HB2.out.trans (hbw.mono HB2.out.size)).mono HS.out.size))
          obtain ⟨done, hd1, hd2, hd3⟩ := HI.out.l
          have HO2 := Aside0.mk (Kd.R_below hd3 (HB2.out.trans (hbw.mono HB2.out.size)))
          have HRA := Aside0.mk (HRS.out _ _ HR4.out hd1)
          have hdk := Aside0.mk hd2
          clear hd1 hd3 hbw HX5 HB5
          have y0 := (HX.out.cell 0).trans (show _ = some (Value.int .i64 (AV a)) from rfl)
          have y1 := (HX.out.cell 1).trans (show _ = some (Value.int .i64 (AV b)) from rfl)
          have y2 := (HX.out.cell 2).trans (show _ = some (Value.int .i64 (AV c)) from rfl)
          have y3 := (HX.out.cell 3).trans (show _ = some (Value.int .i64 (AV d)) from rfl)
          go_wp2_with (at_builtin; refine Kd.R_append k38 (w0 := w1) w1.heap.size rfl (.tmp 64) (.tmp 66) 22 38 (.agg #[(.int .i64 0), (.int .i64 0), (.int .i64 0), (.int .i64 0)]) 32 rfl Tryd.underlying22 info38 rfl (by decide) (by omega) u4 done (⟨AV a, AV b, AV c, AV d⟩ : S38) [.int .i64 (AV a), .int .i64 (AV b), .int .i64 (AV c), .int .i64 (AV d)] (fun _ => True) (fun _ => False) rfl rfl ?aP (fun _ hk => hk.elim) (fun _ _ => trivial) HO2.out HBL.out ?aS ?aL ?_; (case aP => exact k38_mkM _ _ _ (⟨AV a, AV b, AV c, AV d⟩ : S38)); (case aS => exact HBL.out.size); (case aL => omega); intro v1 wc ho hb hg hat)
          exact ⟨⟨k + 1, hlt, by rfl, ⟨hb⟩, ⟨_, HRA.out, by rw [List.length_append, List.length_singleton, hdk.out], ho⟩⟩, by simp [RowKit.intOf]; omega⟩
      · have HN := Aside0.mk (parseS_none (HRN.out (readL_no h4)))
        have h4' : ¬ ((wordsL x).length : Int) = 4 := by omega
        go_wp2_with fail
        first | go_ret | go_ret2
        refine ⟨HB1.out.trans ((HS.out.trans (HB2.out.mono HS.out.size)).mono HB1.out.size), ?_⟩
        rw [HN.out]
        rfl
    · obtain rfl : k = (linesL s.data.toList).length := by omega
      have hge : ¬ ((linesL s.data.toList).length : Int) < ((linesL s.data.toList).length : Int) := by omega
      obtain ⟨l, hl1, hl2, hl3⟩ := HI.out.l
      rw [List.take_length] at hl1
      obtain ⟨A4, c4, rfl, hc4, hC4⟩ := Kd.R_reads hl3
      have HF := readAll_fit hl1
      have HBw := Aside0.mk (HB1.out.trans (HS.out.mono HB1.out.size))
      have HP := Lib.hid (ref_print A4 c4 l wr hC4 hc4 (HTT.out.move HBw.out) (by omega) HF)
      have HC4 := Aside0.mk hC4
      have HL1 := Aside0.mk hl1
      clear hl1 hl2 hl3 hC4 HF
      by_cases hok : hist_Right.f l = some 0 ∧ printL l = s.data.toList
      · have HY := Aside0.mk (parseS_yes HL1.out hok.1 hok.2)
        have hp : prS l = (s, 0) := by unfold prS; rw [if_pos hok.1, hok.2, toBA_of]
        rw [hp] at HP
        clear hok hp
        go_wp2_with (go_at_call 6; with_reducible refine HP.out.mono ?_; rintro e3 w3 ⟨rfl, h3⟩; have H3 := Aside0.mk h3; clear h3)
        first | go_ret | go_ret2
        refine ⟨HBw.out.trans (H3.out.mono HBw.out.size), ?_⟩
        rw [HY.out]
        exact ⟨A4, c4, rfl, hc4, Kd.C_below HC4.out H3.out⟩
      · have HY := Aside0.mk (parseS_no HL1.out hok)
        by_cases h0 : hist_Right.f l = some 0
        · have hne : ((prS l).1.toList == s.toList) = false := by
            unfold prS
            rw [if_pos h0, Lib.toList_data, Lib.toList_data, toBA_data]
            simpa using fun h => hok ⟨h0, h⟩
          have hp : (prS l).2 = 0 := by unfold prS; rw [if_pos h0]
          rw [hp] at HP
          clear hok h0
          go_wp2_with (go_at_call 6; with_reducible refine HP.out.mono ?_; rintro e3 w3 ⟨rfl, h3⟩; have H3 := Aside0.mk h3; clear h3)
          first | go_ret | go_ret2
          refine ⟨HBw.out.trans (H3.out.mono HBw.out.size), ?_⟩
          rw [HY.out]
          rfl
        · have hp : (prS l).2 = 50 := by unfold prS; rw [if_neg h0]
          rw [hp] at HP
          clear hok h0
          go_wp2_with (go_at_call 6; with_reducible refine HP.out.mono ?_; rintro e3 w3 ⟨rfl, h3⟩; have H3 := Aside0.mk h3; clear h3)
          first | go_ret | go_ret2
          refine ⟨HBw.out.trans (H3.out.mono HBw.out.size), ?_⟩
          rw [HY.out]
          rfl
end Go.Proofs.YtfmhdfgliamkkabDoor.HT

/- hist.Parse. Texts up to 134217728 bytes. -/
namespace Go.Proofs.YtfmhdfgliamkkabDoor.HT
open Go.RowKit Go.Lib Go.Proofs.YtfmhdfgliamkkabDoor.Own Go.Proofs.YtfmhdfgliamkkabDoorW.PrintWords Go.Proofs.YtfmhdfgliamkkabDoorW.PrintLast Go.Proofs.YtfmhdfgliamkkabDoorW.PrintMore
set_option linter.unusedVariables false
set_option linter.unusedSimpArgs false
attribute [local go_sem] Oper.semAt_some
set_option maxHeartbeats 1000000 in
theorem lines_calls (s : ByteArray) (w : World) : Calls Tryd.prog 19 #[.string s] w fun e w' => e = .returned (.func (.func 31) #[] #[.pointer (some ⟨w.heap.size, 0, none⟩)]) ∧ w' = w.alloc (.cells #[.string s] 9) := by
  go_enter Tryd.func19, Tryd.ntmps19
  go_wp2
  go_ret
  exact ⟨rfl, rfl⟩
/-- Between two rounds: what has been read; the two results' cells are empty. -/
structure PJ (w : World) (n0 : Nat) (pre : List (List UInt8)) (W : World) : Prop where
  b : Below n0 w W
  sz : n0 + 6 ≤ W.heap.size
  c2 : Blk n0 22 #[.slice none 0 0] W
  c3 : Blk (n0 + 1) 23 #[.int .i64 0] W
  l : ∃ done v, readAll pre = some done ∧ done.length = pre.length ∧ Blk (n0 + 2) 22 #[v] W ∧ Kd.R k38 38 W (n0 + 6) (fun j => n0 + 6 ≤ j) v done
/-- A line was none. -/
structure PX (w : World) (n0 : Nat) (s : List UInt8) (W : World) : Prop where
  b : Below n0 w W
  sz : n0 + 6 ≤ W.heap.size
  c2 : Blk n0 22 #[.slice none 0 0] W
  c3 : Blk (n0 + 1) 23 #[.int .i64 52] W
  no : parseS s = none
theorem PJ.but {w W W' : World} {n0 : Nat} {pre : List (List UInt8)} (h : PJ w n0 pre W) (hn : n0 = w.heap.size) (hb : But (fun j => j = n0 + 3 ∨ j = n0 + 5 ∨ j = n0 + 4) W W') : PJ w n0 pre W' := by
  have hsz := h.sz
  obtain ⟨done, v, h1, h2, h3, h4⟩ := h.l
  refine ⟨h.b.trans (hb.below (by omega) (fun j hj => by omega)), Nat.le_trans h.sz hb.size, hb.blk h.c2 (by omega), hb.blk h.c3 (by omega), done, v, h1, h2, hb.blk h3 (by omega), Kd.R_step h4 fun k ho hl => hb.block k (by omega) hl⟩
theorem PX.but {w W W' : World} {n0 : Nat} {s : List UInt8} (h : PX w n0 s W) (hn : n0 = w.heap.size) (hb : But (fun j => j = n0 + 3 ∨ j = n0 + 5 ∨ j = n0 + 4) W W') : PX w n0 s W' := by
  have hsz := h.sz
  exact ⟨h.b.trans (hb.below (by omega) (fun j hj => by omega)), Nat.le_trans h.sz hb.size, hb.blk h.c2 (by omega), hb.blk h.c3 (by omega), h.no⟩
/-- 'append(s, x)' of one struct in a round. -/
theorem R_appendIn {α : Type} (d : Kd α) {F : Fence} {n : Nat} {P : Program} {ops : Array Oper} {rest : List Oper} {o : Oper} {a : Act} {Q : Exit → Act → World → Prop} {w0 W : World} (base : Nat) (hgd : o.guard = none) (s x : Operand) (t e : TypeId) (z : Value) (bytes : Nat)
    (ho : o.op = .call { callee := .builtin .append, args := #[s, x], argTypes := #[t, t] })
    (ht : P.underlying t = some (.slice e)) (hinfo : (P.info? e).map (fun i => (i.zero, i.size, i.bytes)) = some (some z, d.sz, bytes)) (hz : z.cells.size = d.sz) (hs0 : 0 < d.sz) (hb0 : 0 < bytes)
    (v : Value) (xs : List α) (p : α) (cs : List Value) (ok okp : Nat → Prop) (hs : a.eval s = v) (hx : a.eval x = .slice (some ⟨W.heap.size, 0, none⟩) 1 1) (hp : d.M W base okp p cs) (hokp : ∀ k, okp k → ok k ∧ some k ≠ v.ownBlock) (hfresh : ∀ k, W.heap.size ≤ k → ok k)
    (HO : d.R e W base ok v xs) (HB : Below base w0 W) (hbase : base ≤ W.heap.size) (hl : (xs.length + 1) * bytes ≤ 140737488355328)
    (h : ∀ v1 w1, d.R e w1 base ok v1 (xs ++ [p]) → Below base w0 w1 → W.grownBy w1 v.ownBlock → wpListIn F n P ops Q rest (a.put o.dst v1) w1) :
    wpListIn F n P ops Q (o :: rest) a (W.alloc (.cells cs.toArray e)) := by
  obtain ⟨h0, inner, hown, hr⟩ := HO
  obtain ⟨i0, hi, hzz⟩ := Option.map_eq_some_iff.1 hinfo
  simp only [Prod.mk.injEq] at hzz
  obtain ⟨hz0, hz1, hz2⟩ := hzz
  have hlen : xs.length + 1 ≤ 140737488355328 := Nat.le_trans (Nat.le_mul_of_pos_right _ hb0) hl
  have hys := d.K_len (d.K_of_M hp)
  obtain ⟨v1, w1, hrun, hown1, hg, _, hat⟩ := run_append_own_at (P := P) (W.alloc (.cells cs.toArray e)) base t o.type e i0 z d.sz bytes ht hi hz0 hz1 hz2 hz hs0 v xs.length inner (hown.alloc _) ⟨W.heap.size, 0, none⟩ 1 1 cs (by rw [hys]; simp)
    (by simpa using World.news_of_block (cs := cs.toArray) (t := e) (fr := (0, 0)) (heap_alloc_new W (.cells cs.toArray e))) (d.K_one (d.K_of_M hp)) (by simp only [maxLen]; omega) hl (by simp; omega)
  have hgg := World.grownBy.trans (World.grownBy_alloc W (.cells cs.toArray e) _) hg
  have hat' : v1.ownBlock = v.ownBlock ∨ ∃ b, v1.ownBlock = some b ∧ W.heap.size ≤ b := hat.imp id fun e => ⟨_, e, by simp⟩
  refine wpListIn_plain hgd fun K hK' => ?_
  unfold Oper.wpIn
  refine ⟨?_, ?_⟩
  · simp [Oper.about, ho, resolve, Target.leads, Sem.run_pure]
  · rw [Oper.semAt_plain F _ _ (by rw [ho]; intro c hc'; cases hc')]
    simp [execOp, ho, resolve, invoke, builtin, hs, hx, hrun, Result.andThen]
    exact hK' _ _ (h v1 w1 (Kd.R_appended h0 hr hp hokp hfresh hown1 hgg hat') ((HB.alloc hbase _).grown hg (by simp; omega) (own_base hown)) hgg)
theorem Blk.set2 {q : Nat} {T : TypeId} {cs : Array Value} {w : World} (h : Blk q T cs w) {p : Addr} (hp : q ≠ p.block) (v : Value) : Blk q T cs (w.setCell p v) := (Below.heap_setCell _ _ _ _ hp).trans h
theorem Blk.below6 {q n : Nat} {T : TypeId} {cs : Array Value} {w w' : World} (h : Blk q T cs w) (hb : Below n w w') (hq : q < n) : Blk q T cs w' := (hb.block q hq).trans h
/-- The way out: the mark is come to, the results' cells are read. -/
theorem leave_res {tmps : Array Value} {R : Ending → World → Prop} {W : World} {D n0 : Nat} {v2 v3 : Value} (t2 : tmps[2]? = some (.pointer (some ⟨n0, 0, none⟩))) (t3 : tmps[3]? = some (.pointer (some ⟨n0 + 1, 0, none⟩)))
    (hK : W.heap[D]? = some (.deferred (some []))) (h2 : W.cell? ⟨n0, 0, none⟩ = some v2) (h3 : W.cell? ⟨n0 + 1, 0, none⟩ = some v3) (hD : n0 + 1 < D) (hR : R (.returned (.tuple #[v2, v3])) (W.putObj D (.deferred none))) :
    bodyPostM Fence.wide 3 Tryd.prog Tryd.f7 R .ret { tmps := tmps, defers := [{ target := .collected D, args := #[] }] } W := by
  have c2 : (W.putObj D (.deferred none)).cell? ⟨n0, 0, none⟩ = some v2 := (World.cell?_of_block (World.putObj_heap_other (k := n0) (by omega))).trans h2
  have c3 : (W.putObj D (.deferred none)).cell? ⟨n0 + 1, 0, none⟩ = some v3 := (World.cell?_of_block (World.putObj_heap_other (k := n0 + 1) (by omega))).trans h3
  refine ⟨by simp, .inl ⟨_, _, rfl, run_takeDeferred hK, ?_⟩⟩
  refine ⟨.tuple #[v2, v3], ?_, hR⟩
  simp [results, Tryd.f7, go_sem, t2, t3, c2, c3]
theorem keep3 {P : Prop} {W W' : World} {n0 D : Nat} (hD : D = n0 + 4) (h : P) (hk : ∀ j, n0 + 3 ≤ j → j < n0 + 6 → j < W.heap.size → W'.heap[j]? = W.heap[j]?) :
    P ∧ (n0 + 3 < W.heap.size → W'.heap[n0 + 3]? = W.heap[n0 + 3]?) ∧ (D + 1 < W.heap.size → W'.heap[D + 1]? = W.heap[D + 1]?) ∧ (D < W.heap.size → W'.heap[D]? = W.heap[D]?) :=
  ⟨h, fun hl => hk _ (by omega) (by omega) hl, fun hl => hk _ (by omega) (by omega) hl, fun hl => hk _ (by omega) (by omega) hl⟩
theorem readAll_none {a : List (List UInt8)} {x : List UInt8} (hx : x ∈ a) (h : readL x = none) : readAll a = none := by
  obtain ⟨k, hk, rfl⟩ := List.getElem_of_mem hx
  exact readAll_bad hk h
theorem readAll_snoc' {a : List (List UInt8)} {l : List S38} {x : List UInt8} {s : S38} (hl : readAll a = some l) (h : readL x = some s) : readAll (a ++ [x]) = some (l ++ [s]) := by
  rw [readAll_cut, hl]
  simp [readAll, h]
/-- The four numbers, k of them read. -/
def arrV (a b c d : List UInt8) : Nat → Array Value
  | 0 => #[.int .i64 0, .int .i64 0, .int .i64 0, .int .i64 0]
  | 1 => #[.int .i64 (AV a), .int .i64 0, .int .i64 0, .int .i64 0]
  | 2 => #[.int .i64 (AV a), .int .i64 (AV b), .int .i64 0, .int .i64 0]
  | 3 => #[.int .i64 (AV a), .int .i64 (AV b), .int .i64 (AV c), .int .i64 0]
  | _ => #[.int .i64 (AV a), .int .i64 (AV b), .int .i64 (AV c), .int .i64 (AV d)]
set_option maxHeartbeats 8000000 in
set_option maxRecDepth 100000 in
theorem hist_parse (s : ByteArray) (hs : s.size ≤ 134217728) (w : World) (hT : HTabs w) : Calls Tryd.prog 7 #[.string s] w fun e w' => ParseOut s.data.toList w w' e := by
  obtain ⟨L, rfl⟩ : ∃ L, s = toBA L := ⟨s.data.toList, (toBA_of s).symm⟩
  rw [toBA_data]
  refine (callsIn_wide (n := 3)).1 ?_
  have hd1 : (1 : Nat) ≤ 3 := by decide
  have hf19 : Fence.wide.fn 19 := trivial
  refine callsIn_of_wp_marks Tryd.func7 rfl trivial ?_ rfl
  simp only [Tryd.ntmps7, List.size_toArray, List.length_cons, List.length_nil, Nat.reduceAdd, Nat.reduceSub, Array.replicate_succ, Array.replicate_zero, List.push_toArray, List.append_toArray, List.nil_append, List.cons_append]
  gi_wp2_with (gi_at_call 19; refine ((callsIn_wide (n := 2)).2 (lines_calls (toBA L) _)).mono ?_; rintro e1 w1 ⟨rfl, rfl⟩)
  obtain ⟨W0, hW0⟩ : ∃ W0, ((((w.alloc (.cells #[.slice none 0 0] 22)).alloc (.cells #[.int .i64 0] 23)).alloc (.cells #[.slice none 0 0] 22)).alloc (.cells #[.string (toBA L)] 9)) = W0 := ⟨_, rfl⟩
  have hs0 : W0.heap.size = w.heap.size + 4 := by rw [← hW0]; simp
  have hb0 : Below w.heap.size w W0 := by rw [← hW0]; exact below_alloc (below_alloc (below_alloc (below_alloc (Below.refl _ _) _) _) _) _
  have k0 : Blk w.heap.size 22 #[.slice none 0 0] W0 := by rw [← hW0]; exact ((((Blk.new _ _ _).alloc _).alloc _).alloc _)
  have k1 : Blk (w.heap.size + 1) 23 #[.int .i64 0] W0 := by
    rw [← hW0]
    have := (((Blk.new (w.alloc (.cells #[.slice none 0 0] 22)) #[.int .i64 0] 23).alloc (.cells #[.slice none 0 0] 22)).alloc (.cells #[.string (toBA L)] 9))
    rwa [World.size_alloc] at this
  have k2 : Blk (w.heap.size + 2) 22 #[.slice none 0 0] W0 := by
    rw [← hW0]
    have := ((Blk.new ((w.alloc (.cells #[.slice none 0 0] 22)).alloc (.cells #[.int .i64 0] 23)) #[.slice none 0 0] 22).alloc (.cells #[.string (toBA L)] 9))
    rwa [World.size_alloc, World.size_alloc] at this
  have k3 : Blk (w.heap.size + 3) 9 #[.string (toBA L)] W0 := by
    rw [← hW0]
    have := (Blk.new (((w.alloc (.cells #[.slice none 0 0] 22)).alloc (.cells #[.int .i64 0] 23)).alloc (.cells #[.slice none 0 0] 22)) #[.string (toBA L)] 9)
    rwa [World.size_alloc, World.size_alloc, World.size_alloc] at this
  rw [hW0]
  clear hW0
  rw [show w.heap.size + 1 + 1 = w.heap.size + 2 from rfl, show w.heap.size + 2 + 1 = w.heap.size + 3 from rfl]
  have HT0 := Aside0.mk hT
  have HS0 := Aside0.mk hs0
  clear hs0 hT
  rw [toBA_size] at hs
  refine range_lines 13 (w.heap.size + 3) L hs k3 ?hg (PJ w w.heap.size) (PX w w.heap.size L) ?hJ ?hJx ?hT ?h0 ?hassign ?hbody ?hdone ?hstop
  case hg => intro l wx; simp [resolve, go_sem]
  case hJ => intro pre W W' h hb; exact h.but rfl (hb.mono fun j hj => by have := HS0.out; omega)
  case hJx => intro W W' h hb; exact h.but rfl (hb.mono fun j hj => by have := HS0.out; omega)
  case hT => intro pre W h; exact HT0.out.move h.b
  case h0 => intro W1 hb hz; exact ⟨hb0.trans (hb.mono hb0.size), by have := HS0.out; omega, k0.below hb, k1.below hb, [], _, rfl, rfl, k2.below hb, Kd.R_nil _ _ _ _ _⟩
  case hassign =>
    intro x W
    gi_wp2
    exact ⟨trivial, rfl⟩
  case hbody =>
    intro pre x W hJ hx hxs
    simp only [List.setIfInBounds_toArray, List.set_cons_zero, List.set_cons_succ]
    have hsz := hJ.sz
    obtain ⟨rest, hrest⟩ := hxs
    have hxs : x ∈ linesL L := by rw [hrest]; simp
    have hpl : pre.length ≤ 134217728 := by
      have h1 := (lines_le L).2
      rw [hrest] at h1
      simp at h1
      omega
    have HRE := Aside0.mk hrest
    clear hrest
    have HSp := Lib.hid (split_calls (HT0.out.move hJ.b) (toBA x) (by rw [toBA_size]; omega))
    rw [toBA_data] at HSp
    have hf20 : Fence.wide.fn 20 := trivial
    have hf21 : Fence.wide.fn 21 := trivial
    have hn1 : (1 : Nat) ≤ 1 := Nat.le_refl 1
    have HG := Aside0.mk (Blk.new W ((wordsL x).map fun x => Value.string (toBA x)).toArray 9)
    have HB1 := Aside0.mk (below_alloc (Below.refl W.heap.size W) (.cells ((wordsL x).map fun x => Value.string (toBA x)).toArray 9))
    have HZ1 : Aside0 ((W.alloc (.cells ((wordsL x).map fun x => Value.string (toBA x)).toArray 9)).heap.size = W.heap.size + 1) := ⟨by simp⟩
    have HJ := Aside0.mk hJ
    have c2 := ((hJ.c2.below HB1.out).cell 0).trans (show _ = some (Value.slice none 0 0) from rfl)
    have f2 := (hJ.c2.below HB1.out).frozen 0
    have c3 := ((hJ.c3.below HB1.out).cell 0).trans (show _ = some (Value.int .i64 0) from rfl)
    have f3 := (hJ.c3.below HB1.out).frozen 0
    clear hJ
    by_cases h4 : (wordsL x).length = 4
    · obtain ⟨a, b, c, d, habcd⟩ := four_of h4
      have hla := word_le (s := x) (x := a) (by rw [habcd]; simp)
      have hlb := word_le (s := x) (x := b) (by rw [habcd]; simp)
      have hlc := word_le (s := x) (x := c) (by rw [habcd]; simp)
      have hld := word_le (s := x) (x := d) (by rw [habcd]; simp)
      have HR4 := Aside0.mk (readL_four habcd)
      rw [habcd] at HG HB1 HZ1 h4 HSp c2 c3 f2 f3
      clear habcd c2 c3 f2 f3 h4
      gi_wp2_with (gi_at_call 20; refine (CallsIn.inRound (W0.heap.size + 1) ((callsIn_wide (n := 0)).2 HSp.out)).mono ?_; rintro e2 w2 ⟨rfl, rfl⟩)
      have HX0 := Aside0.mk (show Blk (W.heap.size + 1) 51 (arrV a b c d 0) ((W.alloc (.cells #[.string (toBA a), .string (toBA b), .string (toBA c), .string (toBA d)] 9)).alloc (.cells #[.int .i64 0, .int .i64 0, .int .i64 0, .int .i64 0] 51)) from by have := Blk.new (W.alloc (.cells #[.string (toBA a), .string (toBA b), .string (toBA c), .string (toBA d)] 9)) (arrV a b c d 0) 51; rwa [World.size_alloc] at this)
      have HG0 := Aside0.mk ((show Blk W.heap.size 9 #[.string (toBA a), .string (toBA b), .string (toBA c), .string (toBA d)] (W.alloc (.cells #[.string (toBA a), .string (toBA b), .string (toBA c), .string (toBA d)] 9)) from HG.out).alloc (.cells #[.int .i64 0, .int .i64 0, .int .i64 0, .int .i64 0] 51))
      have HBV := Aside0.mk (below_alloc (below_alloc (Below.refl W.heap.size W) (.cells #[.string (toBA a), .string (toBA b), .string (toBA c), .string (toBA d)] 9)) (.cells #[.int .i64 0, .int .i64 0, .int .i64 0, .int .i64 0] 51))
      clear HG HB1 HZ1 HSp
      generalize (W.alloc (.cells #[.string (toBA a), .string (toBA b), .string (toBA c), .string (toBA d)] 9)).alloc (.cells #[.int .i64 0, .int .i64 0, .int .i64 0, .int .i64 0] 51) = V1 at HX0 HG0 HBV ⊢
      have HBN : Aside0 (W.heap.size ≤ W.heap.size + 1) := ⟨Nat.le_succ _⟩
      have HGN : Aside0 (W.heap.size ≠ W.heap.size + 1) := ⟨by omega⟩
      have T2 := Aside0.mk (HT0.out.move HJ.out.b)
      have hB6c2 : ∀ V, Below W.heap.size W V → Blk w.heap.size 22 #[.slice none 0 0] V := fun V h => HJ.out.c2.below h
      have hB6c3 : ∀ V, Below W.heap.size W V → Blk (w.heap.size + 1) 23 #[.int .i64 0] V := fun V h => HJ.out.c3.below h
      generalize hbn : W.heap.size + 1 = bn at HX0 HBN HGN ⊢
      clear hbn
      gi_loopw [22] (fun v22 WR => ∃ (k : Nat), k ≤ 4 ∧ v22 = .int .i64 k ∧ Aside0 (Blk bn 51 (arrV a b c d k) WR) ∧ Aside0 (Below W.heap.size W WR) ∧ Aside0 (Blk W.heap.size 9 #[.string (toBA a), .string (toBA b), .string (toBA c), .string (toBA d)] WR)) (fun v _ => 4 - (RowKit.intOf v).toNat)
      case atStart => exact ⟨0, by omega, rfl, HX0, HBV, HG0⟩
      case round =>
        clear HX0 HBV HG0
        obtain ⟨k, hk4, rfl, HXr, HBr, HGr⟩ := hrel
        have hkk : k = 0 ∨ k = 1 ∨ k = 2 ∨ k = 3 ∨ k = 4 := by omega
        rcases hkk with rfl | rfl | rfl | rfl | rfl
        · have HA := Lib.hid (atoi_calls (T2.out.move HBr.out) (toBA a) (by rw [toBA_size]; omega))
          have cc := (HGr.out.cell 0).trans (show _ = some (Value.string (toBA a)) from rfl)
          gi_wp2_with (gi_at_call 21; refine (CallsIn.inRound (W0.heap.size + 1) ((callsIn_wide (n := 0)).2 HA.out)).mono ?_; rintro e3 w3 ⟨⟨vv, rfl⟩, h3⟩; have HX3 := Aside0.mk (HXr.out.below h3); have cx := HX3.out.cell 0; have fx := HX3.out.frozen 0; have HB3 := Aside0.mk (HBr.out.trans (h3.mono HBr.out.size)); have HG3 := Aside0.mk (HGr.out.below h3); clear h3)
          have hX4 := HX3.out.put 0 (.int .i64 (AV (toBA a).data.toList))
          have hB4 := HB3.out.setCell (p := ⟨bn, 0, none⟩) HBN.out (.int .i64 (AV (toBA a).data.toList))
          have hG4 := HG3.out.set2 (p := ⟨bn, 0, none⟩) HGN.out (.int .i64 (AV (toBA a).data.toList))
          go_roundw
          case rel => exact ⟨1, by omega, rfl, ⟨hX4⟩, ⟨hB4⟩, ⟨hG4⟩⟩
          case measure => simp [RowKit.intOf]
        · have HA := Lib.hid (atoi_calls (T2.out.move HBr.out) (toBA b) (by rw [toBA_size]; omega))
          have cc := (HGr.out.cell 1).trans (show _ = some (Value.string (toBA b)) from rfl)
          gi_wp2_with (gi_at_call 21; refine (CallsIn.inRound (W0.heap.size + 1) ((callsIn_wide (n := 0)).2 HA.out)).mono ?_; rintro e3 w3 ⟨⟨vv, rfl⟩, h3⟩; have HX3 := Aside0.mk (HXr.out.below h3); have cx := HX3.out.cell 1; have fx := HX3.out.frozen 1; have HB3 := Aside0.mk (HBr.out.trans (h3.mono HBr.out.size)); have HG3 := Aside0.mk (HGr.out.below h3); clear h3)
          have hX4 := HX3.out.put 1 (.int .i64 (AV (toBA b).data.toList))
          have hB4 := HB3.out.setCell (p := ⟨bn, 1, none⟩) HBN.out (.int .i64 (AV (toBA b).data.toList))
          have hG4 := HG3.out.set2 (p := ⟨bn, 1, none⟩) HGN.out (.int .i64 (AV (toBA b).data.toList))
          go_roundw
          case rel => exact ⟨2, by omega, rfl, ⟨hX4⟩, ⟨hB4⟩, ⟨hG4⟩⟩
          case measure => simp [RowKit.intOf]
        · have HA := Lib.hid (atoi_calls (T2.out.move HBr.out) (toBA c) (by rw [toBA_size]; omega))
          have cc := (HGr.out.cell 2).trans (show _ = some (Value.string (toBA c)) from rfl)
          gi_wp2_with (gi_at_call 21; refine (CallsIn.inRound (W0.heap.size + 1) ((callsIn_wide (n := 0)).2 HA.out)).mono ?_; rintro e3 w3 ⟨⟨vv, rfl⟩, h3⟩; have HX3 := Aside0.mk (HXr.out.below h3); have cx := HX3.out.cell 2; have fx := HX3.out.frozen 2; have HB3 := Aside0.mk (HBr.out.trans (h3.mono HBr.out.size)); have HG3 := Aside0.mk (HGr.out.below h3); clear h3)
          have hX4 := HX3.out.put 2 (.int .i64 (AV (toBA c).data.toList))
          have hB4 := HB3.out.setCell (p := ⟨bn, 2, none⟩) HBN.out (.int .i64 (AV (toBA c).data.toList))
          have hG4 := HG3.out.set2 (p := ⟨bn, 2, none⟩) HGN.out (.int .i64 (AV (toBA c).data.toList))
          go_roundw
          case rel => exact ⟨3, by omega, rfl, ⟨hX4⟩, ⟨hB4⟩, ⟨hG4⟩⟩
          case measure => simp [RowKit.intOf]
        · have HA := Lib.hid (atoi_calls (T2.out.move HBr.out) (toBA d) (by rw [toBA_size]; omega))
          have cc := (HGr.out.cell 3).trans (show _ = some (Value.string (toBA d)) from rfl)
          gi_wp2_with (gi_at_call 21; refine (CallsIn.inRound (W0.heap.size + 1) ((callsIn_wide (n := 0)).2 HA.out)).mono ?_; rintro e3 w3 ⟨⟨vv, rfl⟩, h3⟩; have HX3 := Aside0.mk (HXr.out.below h3); have cx := HX3.out.cell 3; have fx := HX3.out.frozen 3; have HB3 := Aside0.mk (HBr.out.trans (h3.mono HBr.out.size)); have HG3 := Aside0.mk (HGr.out.below h3); clear h3)
          have hX4 := HX3.out.put 3 (.int .i64 (AV (toBA d).data.toList))
          have hB4 := HB3.out.setCell (p := ⟨bn, 3, none⟩) HBN.out (.int .i64 (AV (toBA d).data.toList))
          have hG4 := HG3.out.set2 (p := ⟨bn, 3, none⟩) HGN.out (.int .i64 (AV (toBA d).data.toList))
          go_roundw
          case rel => exact ⟨4, by omega, rfl, ⟨hX4⟩, ⟨hB4⟩, ⟨hG4⟩⟩
          case measure => simp [RowKit.intOf]
        · clear hk4
          have cx := (HXr.out.cell 3).trans (show _ = some (Value.int .i64 (AV d)) from rfl)
          have fx := HXr.out.frozen 3
          have cc := (HGr.out.cell 3).trans (show _ = some (Value.string (toBA d)) from rfl)
          by_cases hd : d = [45]
          · subst hd
            rw [if_pos rfl] at HR4
            have e45 : toBA [45] = ⟨#[45]⟩ := rfl
            rw [e45] at cc
            have HX4 := Aside0.mk (HXr.out.put 3 (.int .i64 (-1)))
            have HB4 := Aside0.mk (HBr.out.setCell (p := ⟨bn, 3, none⟩) HBN.out (.int .i64 (-1)))
            have w0 := (HXr.out.cell 0).trans (show _ = some (Value.int .i64 (AV a)) from rfl)
            have w1 := (HXr.out.cell 1).trans (show _ = some (Value.int .i64 (AV b)) from rfl)
            have w2 := (HXr.out.cell 2).trans (show _ = some (Value.int .i64 (AV c)) from rfl)
            have HX := Aside0.mk (show Blk bn 51 #[.int .i64 (AV a), .int .i64 (AV b), .int .i64 (AV c), .int .i64 (-1)] (wr.setCell ⟨bn, 3, none⟩ (.int .i64 (-1))) from HX4.out)
            have hz6 := HB4.out.size
            obtain ⟨done, v4, hd1, hd2, hd3, hd4⟩ := HJ.out.l
            have HO2 := Aside0.mk (Kd.R_below hd4 HB4.out)
            have HC4 := Aside0.mk (hd3.below HB4.out)
            have HRA := Aside0.mk (readAll_snoc' hd1 HR4.out)
            have y0 := (HX.out.cell 0).trans (show _ = some (Value.int .i64 (AV a)) from rfl)
            have y1 := (HX.out.cell 1).trans (show _ = some (Value.int .i64 (AV b)) from rfl)
            have y2 := (HX.out.cell 2).trans (show _ = some (Value.int .i64 (AV c)) from rfl)
            have y3 := (HX.out.cell 3).trans (show _ = some (Value.int .i64 (-1)) from rfl)
            have x4 := (HC4.out.cell 0).trans (show _ = some v4 from rfl)
            have hdl : done.length ≤ 134217728 := by rw [hd2]; exact hpl
            have HB6 := Aside0.mk (HB4.out)
            clear hd1 hd3 hd4
            gi_wp2_with (gi_at_builtin; go_loud (refine R_appendIn k38 (w0 := (wr.setCell ⟨bn, 3, none⟩ (.int .i64 (-1)))) (w.heap.size + 6) rfl (.tmp 40) (.tmp 50) 22 38 (.agg #[(.int .i64 0), (.int .i64 0), (.int .i64 0), (.int .i64 0)]) 32 rfl Tryd.underlying22 info38 rfl (by decide) (by omega) v4 done (⟨AV a, AV b, AV c, -1⟩ : S38) [.int .i64 (AV a), .int .i64 (AV b), .int .i64 (AV c), .int .i64 (-1)] (fun j => w.heap.size + 6 ≤ j) (fun _ => False) rfl (by rw [World.size_setCell]; rfl) ?aP (fun _ hk => hk.elim) (fun k hk => by omega) HO2.out (Below.refl _ _) ?aS ?aL ?_; (case aP => exact k38_mkM _ _ _ (⟨AV a, AV b, AV c, -1⟩ : S38)); (case aS => omega); (case aL => omega); intro v1 wc ho hb hg; obtain ⟨A9, c9, rfl, _, _⟩ := Kd.R_reads ho; have HOC := Aside0.mk ho; have HBC := Aside0.mk hb; have HC5 : Blk (w.heap.size + 2) 22 #[v4] wc := (hb.block _ (by omega)).trans HC4.out; have x5 := HC5.cell 0; have f5 := HC5.frozen 0; clear ho hb hg))
            refine keep3 HS0.out ?_ ?_
            · refine ⟨?_, ?_, ?_, ?_, done ++ [_], _, HRA.out, by simp [hd2], HC5.put 0 _, ?_⟩
              · exact (HJ.out.b.trans (HB6.out.mono HJ.out.b.size)).trans ((HBC.out.mono (by omega)).setCell (by simp) _)
              · rw [World.size_setCell]; have := HBC.out.size; omega
              · exact ((hB6c2 _ HB6.out).below6 HBC.out (by omega)).set2 (by simp) _
              · exact ((hB6c3 _ HB6.out).below6 HBC.out (by omega)).set2 (by simp) _
              · exact Kd.R_step (by have h := HOC.out; rw [List.length_append, List.length_singleton, hd2] at h; exact h) fun k ho hl => Below.heap_setCell _ _ _ _ (by simp; omega)
            · intro j hj1 hj2 hj3
              exact (Below.heap_setCell _ _ _ _ (by simp; omega)).trans ((HBC.out.block j (by omega)).trans (HB6.out.block j (by omega)))
          · rw [if_neg hd] at HR4
            have hd2 : ((toBA d).toList == [45]) = false := by rw [Lib.toList_data, toBA_data]; simpa using hd
            have HX := Aside0.mk (show Blk bn 51 #[.int .i64 (AV a), .int .i64 (AV b), .int .i64 (AV c), .int .i64 (AV d)] wr from HXr.out)
            have hz6 := HBr.out.size
            obtain ⟨done, v4, hd1, hd2, hd3, hd4⟩ := HJ.out.l
            have HO2 := Aside0.mk (Kd.R_below hd4 HBr.out)
            have HC4 := Aside0.mk (hd3.below HBr.out)
            have HRA := Aside0.mk (readAll_snoc' hd1 HR4.out)
            have y0 := (HX.out.cell 0).trans (show _ = some (Value.int .i64 (AV a)) from rfl)
            have y1 := (HX.out.cell 1).trans (show _ = some (Value.int .i64 (AV b)) from rfl)
            have y2 := (HX.out.cell 2).trans (show _ = some (Value.int .i64 (AV c)) from rfl)
            have y3 := (HX.out.cell 3).trans (show _ = some (Value.int .i64 (AV d)) from rfl)
            have x4 := (HC4.out.cell 0).trans (show _ = some v4 from rfl)
            have hdl : done.length ≤ 134217728 := by rw [hd2]; exact hpl
            have HB6 := Aside0.mk (HBr.out)
            clear hd1 hd3 hd4
            gi_wp2_with (gi_at_builtin; refine R_appendIn k38 (w0 := wr) (w.heap.size + 6) rfl (.tmp 40) (.tmp 50) 22 38 (.agg #[(.int .i64 0), (.int .i64 0), (.int .i64 0), (.int .i64 0)]) 32 rfl Tryd.underlying22 info38 rfl (by decide) (by omega) v4 done (⟨AV a, AV b, AV c, AV d⟩ : S38) [.int .i64 (AV a), .int .i64 (AV b), .int .i64 (AV c), .int .i64 (AV d)] (fun j => w.heap.size + 6 ≤ j) (fun _ => False) rfl rfl ?aP (fun _ hk => hk.elim) (fun k hk => by omega) HO2.out (Below.refl _ _) ?aS ?aL ?_; (case aP => exact k38_mkM _ _ _ (⟨AV a, AV b, AV c, AV d⟩ : S38)); (case aS => omega); (case aL => omega); intro v1 wc ho hb hg; obtain ⟨A9, c9, rfl, _, _⟩ := Kd.R_reads ho; have HOC := Aside0.mk ho; have HBC := Aside0.mk hb; have HC5 : Blk (w.heap.size + 2) 22 #[v4] wc := (hb.block _ (by omega)).trans HC4.out; have x5 := HC5.cell 0; have f5 := HC5.frozen 0; clear ho hb hg)
            refine keep3 HS0.out ?_ ?_
            · refine ⟨?_, ?_, ?_, ?_, done ++ [_], _, HRA.out, by simp [hd2], HC5.put 0 _, ?_⟩
              · exact (HJ.out.b.trans (HB6.out.mono HJ.out.b.size)).trans ((HBC.out.mono (by omega)).setCell (by simp) _)
              · rw [World.size_setCell]; have := HBC.out.size; omega
              · exact ((hB6c2 _ HB6.out).below6 HBC.out (by omega)).set2 (by simp) _
              · exact ((hB6c3 _ HB6.out).below6 HBC.out (by omega)).set2 (by simp) _
              · exact Kd.R_step (by have h := HOC.out; rw [List.length_append, List.length_singleton, hd2] at h; exact h) fun k ho hl => Below.heap_setCell _ _ _ _ (by simp; omega)
            · intro j hj1 hj2 hj3
              exact (Below.heap_setCell _ _ _ _ (by simp; omega)).trans ((HBC.out.block j (by omega)).trans (HB6.out.block j (by omega)))
    · have h4' : ¬ ((wordsL x).length : Int) = 4 := by omega
      have HN := Aside0.mk (parseS_none (readAll_none hxs (readL_no h4)))
      gi_wp2_with (gi_at_call 20; refine (CallsIn.inRound (W0.heap.size + 1) ((callsIn_wide (n := 0)).2 HSp.out)).mono ?_; rintro e2 w2 ⟨rfl, rfl⟩)
      clear c2 f2 c3 f3 hf20 hf21
      refine keep3 HS0.out ?_ ?_
      · refine ⟨(HJ.out.b.trans (HB1.out.mono HJ.out.b.size)).trans (((Below.refl _ _).setCell (by simp) _).setCell (by simp) _), ?_, ?_, ?_, HN.out⟩
        · rw [World.size_setCell, World.size_setCell, HZ1.out]; omega
        · exact ((HJ.out.c2.below HB1.out).put 0 _).set2 (by simp) _
        · exact ((HJ.out.c3.below HB1.out).set2 (p := ⟨w.heap.size, 0, none⟩) (by simp) _).put 0 _
      · intro j hj1 hj2 hj3
        exact (Below.heap_setCell _ _ _ _ (by simp; omega)).trans ((Below.heap_setCell _ _ _ _ (by simp; omega)).trans (HB1.out.block j hj3))
  case hdone =>
    intro W3 hJ hK
    obtain ⟨l, v, hl1, hl2, hl3, hl4⟩ := hJ.l
    have hll := (lines_le L).2
    obtain ⟨A4, c4, rfl, hc4, hC4⟩ := Kd.R_reads hl4
    have HF := readAll_fit hl1
    have hf5 : Fence.wide.fn 5 := trivial
    have HP := Lib.hid (hist_print A4 c4 l W3 hC4 hc4 (HT0.out.move hJ.b) (by omega) HF)
    have HC4 := Aside0.mk hl4
    have HL1 := Aside0.mk hl1
    have HJ := Aside0.mk hJ
    have c4x := (hl3.cell 0).trans (show _ = some (Value.slice A4 l.length c4) from rfl)
    have hsz := hJ.sz
    have k20 := hJ.c2
    have k30 := hJ.c3
    clear hl1 hl2 hl3 hl4 hC4 HF hJ
    have HKD := Aside0.mk hK
    clear hK
    by_cases hok : hist_Right.f l = some 0 ∧ printL l = L
    · have HY := Aside0.mk (parseS_yes HL1.out hok.1 hok.2)
      have hp : prS l = (toBA L, 0) := by unfold prS; rw [if_pos hok.1, hok.2]
      rw [hp] at HP
      clear hok hp
      gi_wp2_with (gi_at_call 5; with_reducible refine ((callsIn_wide (n := 2)).2 HP.out).mono ?_; rintro e3 w3 ⟨rfl, h3⟩; have H3 := Aside0.mk h3; have k2x := Aside0.mk (k20.below h3); have k3x := Aside0.mk (k30.below h3); have c4y := (h3.cell (World.block_lt_of_cell? _ _ c4x)).trans c4x; have c2x := k2x.out.cell 0; have f2x := k2x.out.frozen 0; have c3x := k3x.out.cell 0; have f3x := k3x.out.frozen 0; have HK3 := Aside0.mk ((h3.block _ (Array.getElem?_eq_some_iff.1 HKD.out).1).trans HKD.out); clear h3)
      refine leave_res (n0 := w.heap.size) (v2 := .slice A4 l.length c4) (v3 := .int .i64 0) (by rfl) (by rfl) ?_ ?_ ?_ (by have := HS0.out; omega) ?_
      · exact (Below.heap_setCell _ _ _ _ (by have := HS0.out; simp; omega)).trans ((Below.heap_setCell _ _ _ _ (by have := HS0.out; simp; omega)).trans HK3.out)
      · exact (((k2x.out.put 0 (.slice A4 l.length c4)).set2 (p := ⟨w.heap.size + 1, 0, none⟩) (by simp) _).cell 0).trans rfl
      · exact (((k3x.out.set2 (p := ⟨w.heap.size, 0, none⟩) (by simp) (.slice A4 l.length c4)).put 0 (.int .i64 0)).cell 0).trans rfl
      · refine ⟨(HJ.out.b.trans (H3.out.mono HJ.out.b.size)).trans (((((Below.refl _ _).setCell (by simp) _).setCell (by simp) _)).trans ((But.put (X := fun j => j = W0.heap.size) _ _ _ rfl).below (by rw [World.size_setCell, World.size_setCell]; have := H3.out.size; omega) (fun j hj => by have := HS0.out; omega))), ?_⟩
        rw [HY.out]
        refine ⟨A4, c4, rfl, hc4, ?_⟩
        exact (Kd.R_reads' (Kd.R_step HC4.out fun k ho hl => (World.putObj_heap_other (by have := HS0.out; omega)).trans ((Below.heap_setCell _ _ _ _ (by simp; omega)).trans ((Below.heap_setCell _ _ _ _ (by simp; omega)).trans (H3.out.block k hl))))).2.2
    · have HY := Aside0.mk (parseS_no HL1.out hok)
      by_cases h0 : hist_Right.f l = some 0
      · have hne : ((prS l).1.toList == (toBA L).toList) = false := by
          unfold prS
          rw [if_pos h0, Lib.toList_data, Lib.toList_data, toBA_data, toBA_data]
          simpa using fun h => hok ⟨h0, h⟩
        have hp : (prS l).2 = 0 := by unfold prS; rw [if_pos h0]
        rw [hp] at HP
        clear hok h0
        gi_wp2_with (gi_at_call 5; with_reducible refine ((callsIn_wide (n := 2)).2 HP.out).mono ?_; rintro e3 w3 ⟨rfl, h3⟩; have H3 := Aside0.mk h3; have k2x := Aside0.mk (k20.below h3); have k3x := Aside0.mk (k30.below h3); have c4y := (h3.cell (World.block_lt_of_cell? _ _ c4x)).trans c4x; have c2x := k2x.out.cell 0; have f2x := k2x.out.frozen 0; have c3x := k3x.out.cell 0; have f3x := k3x.out.frozen 0; have HK3 := Aside0.mk ((h3.block _ (Array.getElem?_eq_some_iff.1 HKD.out).1).trans HKD.out); clear h3)
        refine leave_res (n0 := w.heap.size) (v2 := .slice none 0 0) (v3 := .int .i64 52) rfl rfl ?_ ?_ ?_ (by have := HS0.out; omega) ?_
        · exact (Below.heap_setCell _ _ _ _ (by have := HS0.out; simp; omega)).trans ((Below.heap_setCell _ _ _ _ (by have := HS0.out; simp; omega)).trans HK3.out)
        · exact (((k2x.out.put 0 (.slice none 0 0)).set2 (p := ⟨w.heap.size + 1, 0, none⟩) (by simp) _).cell 0).trans rfl
        · exact (((k3x.out.set2 (p := ⟨w.heap.size, 0, none⟩) (by simp) (.slice none 0 0)).put 0 (.int .i64 52)).cell 0).trans rfl
        · refine ⟨(HJ.out.b.trans (H3.out.mono HJ.out.b.size)).trans (((((Below.refl _ _).setCell (by simp) _).setCell (by simp) _)).trans ((But.put (X := fun j => j = W0.heap.size) _ _ _ rfl).below (by rw [World.size_setCell, World.size_setCell]; have := H3.out.size; omega) (fun j hj => by have := HS0.out; omega))), ?_⟩
          rw [HY.out]
      · have hp : (prS l).2 = 50 := by unfold prS; rw [if_neg h0]
        rw [hp] at HP
        clear hok h0
        gi_wp2_with (gi_at_call 5; with_reducible refine ((callsIn_wide (n := 2)).2 HP.out).mono ?_; rintro e3 w3 ⟨rfl, h3⟩; have H3 := Aside0.mk h3; have k2x := Aside0.mk (k20.below h3); have k3x := Aside0.mk (k30.below h3); have c4y := (h3.cell (World.block_lt_of_cell? _ _ c4x)).trans c4x; have c2x := k2x.out.cell 0; have f2x := k2x.out.frozen 0; have c3x := k3x.out.cell 0; have f3x := k3x.out.frozen 0; have HK3 := Aside0.mk ((h3.block _ (Array.getElem?_eq_some_iff.1 HKD.out).1).trans HKD.out); clear h3)
        refine leave_res (n0 := w.heap.size) (v2 := .slice none 0 0) (v3 := .int .i64 52) rfl rfl ?_ ?_ ?_ (by have := HS0.out; omega) ?_
        · exact (Below.heap_setCell _ _ _ _ (by have := HS0.out; simp; omega)).trans ((Below.heap_setCell _ _ _ _ (by have := HS0.out; simp; omega)).trans HK3.out)
        · exact (((k2x.out.put 0 (.slice none 0 0)).set2 (p := ⟨w.heap.size + 1, 0, none⟩) (by simp) _).cell 0).trans rfl
        · exact (((k3x.out.set2 (p := ⟨w.heap.size, 0, none⟩) (by simp) (.slice none 0 0)).put 0 (.int .i64 52)).cell 0).trans rfl
        · refine ⟨(HJ.out.b.trans (H3.out.mono HJ.out.b.size)).trans (((((Below.refl _ _).setCell (by simp) _).setCell (by simp) _)).trans ((But.put (X := fun j => j = W0.heap.size) _ _ _ rfl).below (by rw [World.size_setCell, World.size_setCell]; have := H3.out.size; omega) (fun j hj => by have := HS0.out; omega))), ?_⟩
          rw [HY.out]
  case hstop =>
    intro W3 hX hK
    have hsz := hX.sz
    gi_wp2
    refine leave_res (n0 := w.heap.size) (v2 := .slice none 0 0) (v3 := .int .i64 52) rfl rfl hK ((hX.c2.cell 0).trans rfl) ((hX.c3.cell 0).trans rfl) (by have := HS0.out; omega) ⟨hX.b.trans ((But.put (X := fun j => j = W0.heap.size) W3 _ _ rfl).below (by omega) (fun j hj => by have := HS0.out; omega)), ?_⟩
    rw [hX.no]
end Go.Proofs.YtfmhdfgliamkkabDoor.HT
