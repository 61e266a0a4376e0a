/- step.Runner: how it lies in memory, and its isIdle. No condition. -/
import Derived.Test.YtndgfpfcdppfgaaGreatDoorProc
import Derived.RegionTactic
import Derived.BigRegion
/- step.Runner: how it lies in memory, and its isIdle. No condition. -/
namespace Go.Proofs.YtndgfpfcdppfgaaGreatDoor
open Go.RowKit Go.Proofs.YtndgfpfcdppfgaaGreatDoorW.PrintWords Go.Proofs.YtndgfpfcdppfgaaGreatDoorW.PrintMore
set_option linter.unusedVariables false
set_option linter.unusedSimpArgs false
/-- A block's cells are these. -/
def Bk (q : Nat) (T : TypeId) (cs : Array Value) (w : World) : Prop := w.heap[q]? = some (.cells cs T (0, 0))
theorem Bk.lt {q : Nat} {T : TypeId} {cs : Array Value} {w : World} (h : Bk q T cs w) : q < w.heap.size := (Array.getElem?_eq_some_iff.1 h).1
theorem Bk.below {q : Nat} {T : TypeId} {cs : Array Value} {w w' : World} (h : Bk q T cs w) (hb : Below w.heap.size w w') : Bk q T cs w' := (hb.block q h.lt).trans h
theorem Bk.cell {q : Nat} {T : TypeId} {cs : Array Value} {w : World} (h : Bk q T cs w) {i : Nat} {v : Value} (hv : cs[i]? = some v) : w.cell? ⟨q, i, none⟩ = some v := (blk_cell h i).trans hv
theorem Bk.frozen {q : Nat} {T : TypeId} {cs : Array Value} {w : World} (h : Bk q T cs w) (i : Nat) : w.frozen? ⟨q, i, none⟩ = false := blk_frozen h i
theorem Bk.put {q : Nat} {T : TypeId} {cs : Array Value} {w : World} (h : Bk q T cs w) (i : Nat) (v : Value) : Bk q T (cs.setIfInBounds i v) (w.setCell ⟨q, i, none⟩ v) := heap_setCell_same w q i _ _ v h
theorem Bk.new (w : World) (cs : Array Value) (T : TypeId) : Bk w.heap.size T cs (w.alloc (.cells cs T)) := heap_alloc_new w _
theorem Bk.other {q : Nat} {T : TypeId} {cs : Array Value} {w : World} (h : Bk q T cs w) {p : Addr} (hp : q ≠ p.block) (v : Value) : Bk q T cs (w.setCell p v) := (Below.heap_setCell _ _ _ _ hp).trans h
theorem Bk.ne {q r : Nat} {T U : TypeId} {cs ds : Array Value} {w : World} (h : Bk q T cs w) (k : Bk r U ds w) (ht : T ≠ U) : q ≠ r := by
  rintro rfl
  unfold Bk at h k
  rw [h] at k
  injection k with k
  injection k with _ k _
  exact ht k
/-- The state of a runner: of each thread which call is next and whether it has begun; the picks so far; the events' cells; the accesses' steps. -/
structure RS where
  at_ : Nat → Nat
  op : Nat → Bool
  st : Nat
  nev : Nat
  ev : List Value
  ats : List Int
/-- A runner at br: its threads at bt, its procs' rows (pr t: address, cnt t: how many), its views. -/
structure Rn (w : World) (br bt bm T tcap : Nat) (pr : Nat → Option Addr) (cnt pcap vw : Nat → Nat) (evv atv : Value) (R : RS) : Prop where
  r : ∃ rc, Bk br 100 rc w ∧ rc[0]? = some (.pointer (some ⟨bm, 0, none⟩)) ∧ rc[1]? = some (.slice (if 0 < T then some ⟨bt, 0, none⟩ else none) T tcap) ∧ (∀ t, t < T → rc[2 + t]? = some (.pointer (some ⟨vw t, 0, none⟩))) ∧ rc[66]? = some (.int .i64 R.st) ∧ rc[67]? = some evv ∧ rc[68]? = some atv ∧ rc.size = 69
  t : 0 < T → ∃ tc, Bk bt 105 tc w ∧ (∀ t, t < T → tc[3 * t]? = some (.slice (pr t) (cnt t) (pcap t)) ∧ tc[3 * t + 1]? = some (.int .i64 (R.at_ t)) ∧ tc[3 * t + 2]? = some (.bool (R.op t))) ∧ 3 * T ≤ tc.size
  e : w.ownsRow 0 109 4 evv R.nev R.ev
  a : w.ownsRow 0 3 1 atv R.ats.length (R.ats.map (Value.int .i64))
  T64 : T ≤ 64
  tc : T ≤ tcap
  c : ∀ t, t < T → R.at_ t ≤ cnt t ∧ cnt t ≤ 4096 ∧ cnt t ≤ pcap t
  ne : ∀ t, t < T → R.op t = true → R.at_ t < cnt t
section
variable {w : World} {br bt bm T tcap : Nat} {pr : Nat → Option Addr} {cnt pcap vw : Nat → Nat} {evv atv : Value} {R : RS}
theorem Rn.c1 (h : Rn w br bt bm T tcap pr cnt pcap vw evv atv R) : w.cell? ⟨br, 1, none⟩ = some (.slice (if 0 < T then some ⟨bt, 0, none⟩ else none) T tcap) := by
  obtain ⟨rc, h1, h2, h3, _⟩ := h.r
  exact h1.cell h3
theorem Rn.c1' (h : Rn w br bt bm T tcap pr cnt pcap vw evv atv R) (hT : 0 < T) : w.cell? ⟨br, 1, none⟩ = some (.slice (some ⟨bt, 0, none⟩) T tcap) := by
  have := h.c1
  rwa [if_pos hT] at this
theorem Rn.tt (h : Rn w br bt bm T tcap pr cnt pcap vw evv atv R) {t : Nat} (ht : t < T) : w.cell? ⟨bt, 3 * t, none⟩ = some (.slice (pr t) (cnt t) (pcap t)) ∧ w.cell? ⟨bt, 3 * t + 1, none⟩ = some (.int .i64 (R.at_ t)) ∧ w.cell? ⟨bt, 3 * t + 2, none⟩ = some (.bool (R.op t)) := by
  obtain ⟨tc, h1, h2, _⟩ := h.t (by omega)
  obtain ⟨a, b, c⟩ := h2 t ht
  exact ⟨h1.cell a, h1.cell b, h1.cell c⟩
def idle (T : Nat) (cnt : Nat → Nat) (R : RS) (t : Int) : Bool := decide (t < 0) || decide ((T : Int) ≤ t) || decide (cnt t.toNat ≤ R.at_ t.toNat)
/-- What isIdle reads. -/
def SIdle (br bt T tcap k : Nat) (sl : Value) (at_ : Int) (w : World) : Prop := w.cell? ⟨br, 1, none⟩ = some (.slice (some ⟨bt, 0, none⟩) T tcap) ∧ w.cell? ⟨bt, 3 * k, none⟩ = some sl ∧ w.cell? ⟨bt, 3 * k + 1, none⟩ = some (.int .i64 at_)
set_option maxHeartbeats 2000000 in
set_option maxRecDepth 100000 in
theorem idle_calls (h : Rn w br bt bm T tcap pr cnt pcap vw evv atv R) (t : Int) : Calls Tryz.prog 31 #[.pointer (some ⟨br, 0, none⟩), .int .i64 t] w fun e w' => e = .returned (.bool (idle T cnt R t)) ∧ Drawn0 w w' := by
  have c1 := h.c1
  have h64 := h.T64
  unfold idle
  by_cases h1 : t < 0
  · rw [decide_eq_true h1]
    clear h c1
    go_enter Tryz.func31, Tryz.ntmps31
    go_wp2
    go_region
    go_wp2
    go_ret
    exact ⟨rfl, ⟨⟨1, rfl⟩⟩⟩
  · rw [decide_eq_false h1]
    by_cases h2 : (T : Int) ≤ t
    · rw [decide_eq_true h2]
      have h2b : ¬ t < (T : Int) := by omega
      generalize (if 0 < T then some (⟨bt, 0, none⟩ : Addr) else none) = ta at c1
      have z1 : ∀ wx : World, wx.cell? ⟨br, 1, none⟩ = some (.slice ta T tcap) → wx.cell? ⟨br, 1, none⟩ = some (.slice ta T tcap) := fun _ h => h
      have hs1 : (fun w' : World => w'.cell? ⟨br, 1, none⟩ = some (.slice ta T tcap)) w.drew := c1
      clear h
      go_enter Tryz.func31, Tryz.ntmps31
      go_wp2
      refine wp_region_held_drew (S := fun w' => (fun w' : World => w'.cell? ⟨br, 1, none⟩ = some (.slice ta T tcap)) w') (by kernel_rfl) (by assumption) (fun hHeld => ?_)
      refine wpAnyH_take (i := 0) (v := ?vv0) rfl (by kernel_rfl) (by kernel_rfl) (by kernel_rfl) (fun _ _ _ h => h) (Or.inl ⟨by rfl, ?hy0⟩) (by assumption) ?rest0
      case hy0 =>
        intro wq hSw
        go_simp
        try with_reducible rfl
      simp only [Act.put, List.getElem_toArray, List.getElem_cons_succ, List.getElem_cons_zero, List.setIfInBounds_toArray, List.set_cons_zero, List.set_cons_succ]
      refine wpAnyH_take (i := 1) (v := ?vv1) rfl (by kernel_rfl) (by kernel_rfl) (by kernel_rfl) (fun _ _ _ h => h) (Or.inl ⟨by rfl, ?hy1⟩) (by assumption) ?rest1
      case hy1 =>
        intro wq hSw
        go_simp
        rw [show decide (t < 0) = false from decide_eq_false (by omega)]
        try with_reducible rfl
      simp only [Act.put, List.getElem_toArray, List.getElem_cons_succ, List.getElem_cons_zero, List.setIfInBounds_toArray, List.set_cons_zero, List.set_cons_succ]
      refine wpAnyH_take (i := 2) (v := ?vv2) rfl (by kernel_rfl) (by kernel_rfl) (by kernel_rfl) (fun _ _ _ h => h) (Or.inl ⟨by rfl, ?hy2⟩) (by assumption) ?rest2
      case hy2 =>
        intro wq hSw
        go_simp
        try with_reducible rfl
      simp only [Act.put, List.getElem_toArray, List.getElem_cons_succ, List.getElem_cons_zero, List.setIfInBounds_toArray, List.set_cons_zero, List.set_cons_succ]
      refine wpAnyH_take (i := 3) (v := ?vv3) rfl (by kernel_rfl) (by kernel_rfl) (by kernel_rfl) (fun _ _ _ h => h) (Or.inl ⟨by rfl, ?hy3⟩) (by assumption) ?rest3
      case hy3 =>
        intro wq hSw
        go_simp
        try with_reducible rfl
      simp only [Act.put, List.getElem_toArray, List.getElem_cons_succ, List.getElem_cons_zero, List.setIfInBounds_toArray, List.set_cons_zero, List.set_cons_succ]
      refine wpAnyH_take (i := 4) (v := ?vv4) rfl (by kernel_rfl) (by kernel_rfl) (by kernel_rfl) (fun _ _ _ h => h) (Or.inl ⟨by rfl, ?hy4⟩) (by assumption) ?rest4
      case hy4 =>
        intro wq hSw
        go_simp
        try with_reducible rfl
      simp only [Act.put, List.getElem_toArray, List.getElem_cons_succ, List.getElem_cons_zero, List.setIfInBounds_toArray, List.set_cons_zero, List.set_cons_succ]
      refine wpAnyH_take (i := 5) (v := ?vv5) rfl (by kernel_rfl) (by kernel_rfl) (by kernel_rfl) (fun _ _ _ h => h) (Or.inl ⟨by rfl, ?hy5⟩) (by assumption) ?rest5
      case hy5 =>
        intro wq hSw
        go_simp
        try with_reducible rfl
      simp only [Act.put, List.getElem_toArray, List.getElem_cons_succ, List.getElem_cons_zero, List.setIfInBounds_toArray, List.set_cons_zero, List.set_cons_succ]
      refine wpAnyH_take (i := 6) (v := ?vv6) rfl (by kernel_rfl) (by kernel_rfl) (by kernel_rfl) (fun _ _ _ h => h) (Or.inl ⟨by rfl, ?hy6⟩) (by assumption) ?rest6
      case hy6 =>
        intro wq hSw
        go_simp
        try with_reducible rfl
      simp only [Act.put, List.getElem_toArray, List.getElem_cons_succ, List.getElem_cons_zero, List.setIfInBounds_toArray, List.set_cons_zero, List.set_cons_succ]
      refine wpAnyH_take (i := 7) (v := ?vv7) rfl (by kernel_rfl) (by kernel_rfl) (by kernel_rfl) (fun _ _ _ h => h) (Or.inl ⟨by rfl, ?hy7⟩) (by assumption) ?rest7
      case hy7 =>
        intro wq hSw
        go_simp
        try with_reducible rfl
      simp only [Act.put, List.getElem_toArray, List.getElem_cons_succ, List.getElem_cons_zero, List.setIfInBounds_toArray, List.set_cons_zero, List.set_cons_succ]
      refine wpAnyH_take (i := 8) (v := ?vv8) rfl (by kernel_rfl) (by kernel_rfl) (by kernel_rfl) (fun _ _ _ h => h) (Or.inl ⟨by rfl, ?hy8⟩) (by assumption) ?rest8
      case hy8 =>
        intro wq hSw
        go_simp
        try with_reducible rfl
      simp only [Act.put, List.getElem_toArray, List.getElem_cons_succ, List.getElem_cons_zero, List.setIfInBounds_toArray, List.set_cons_zero, List.set_cons_succ]
      refine wpAnyH_take (i := 9) (v := ?vv9) rfl (by kernel_rfl) (by kernel_rfl) (by kernel_rfl) (fun _ _ _ h => h) (Or.inl ⟨by rfl, ?hy9⟩) (by assumption) ?rest9
      case hy9 =>
        intro wq hSw
        go_simp
        try with_reducible rfl
      simp only [Act.put, List.getElem_toArray, List.getElem_cons_succ, List.getElem_cons_zero, List.setIfInBounds_toArray, List.set_cons_zero, List.set_cons_succ]
      refine wpAnyH_take (i := 10) (v := ?vv10) rfl (by kernel_rfl) (by kernel_rfl) (by kernel_rfl) (fun _ _ _ h => h) (Or.inl ⟨by rfl, ?hy10⟩) (by assumption) ?rest10
      case hy10 =>
        intro wq hSw
        go_simp
        try with_reducible rfl
      simp only [Act.put, List.getElem_toArray, List.getElem_cons_succ, List.getElem_cons_zero, List.setIfInBounds_toArray, List.set_cons_zero, List.set_cons_succ]
      refine wpAnyH_take (i := 11) (v := ?vv11) rfl (by kernel_rfl) (by kernel_rfl) (by kernel_rfl) (fun _ _ _ h => h) (Or.inl ⟨by rfl, ?hy11⟩) (by assumption) ?rest11
      case hy11 =>
        intro wq hSw
        go_simp
        try with_reducible rfl
      simp only [Act.put, List.getElem_toArray, List.getElem_cons_succ, List.getElem_cons_zero, List.setIfInBounds_toArray, List.set_cons_zero, List.set_cons_succ]
      refine wpAnyH_take (i := 12) (v := undef) rfl (by kernel_rfl) (by kernel_rfl) (by kernel_rfl) (fun _ _ _ h => h) (Or.inr ⟨by rfl, rfl⟩) (by assumption) ?_
      simp only [Act.put, List.getElem_toArray, List.getElem_cons_succ, List.getElem_cons_zero, List.setIfInBounds_toArray, List.set_cons_zero, List.set_cons_succ]
      refine wpAnyH_take (i := 13) (v := undef) rfl (by kernel_rfl) (by kernel_rfl) (by kernel_rfl) (fun _ _ _ h => h) (Or.inr ⟨by rfl, rfl⟩) (by assumption) ?_
      simp only [Act.put, List.getElem_toArray, List.getElem_cons_succ, List.getElem_cons_zero, List.setIfInBounds_toArray, List.set_cons_zero, List.set_cons_succ]
      refine wpAnyH_take (i := 14) (v := undef) rfl (by kernel_rfl) (by kernel_rfl) (by kernel_rfl) (fun _ _ _ h => h) (Or.inr ⟨by rfl, rfl⟩) (by assumption) ?_
      simp only [Act.put, List.getElem_toArray, List.getElem_cons_succ, List.getElem_cons_zero, List.setIfInBounds_toArray, List.set_cons_zero, List.set_cons_succ]
      refine wpAnyH_take (i := 15) (v := undef) rfl (by kernel_rfl) (by kernel_rfl) (by kernel_rfl) (fun _ _ _ h => h) (Or.inr ⟨by rfl, rfl⟩) (by assumption) ?_
      simp only [Act.put, List.getElem_toArray, List.getElem_cons_succ, List.getElem_cons_zero, List.setIfInBounds_toArray, List.set_cons_zero, List.set_cons_succ]
      refine wpAnyH_take (i := 16) (v := undef) rfl (by kernel_rfl) (by kernel_rfl) (by kernel_rfl) (fun _ _ _ h => h) (Or.inr ⟨by rfl, rfl⟩) (by assumption) ?_
      simp only [Act.put, List.getElem_toArray, List.getElem_cons_succ, List.getElem_cons_zero, List.setIfInBounds_toArray, List.set_cons_zero, List.set_cons_succ]
      refine wpAnyH_take (i := 17) (v := undef) rfl (by kernel_rfl) (by kernel_rfl) (by kernel_rfl) (fun _ _ _ h => h) (Or.inr ⟨by rfl, rfl⟩) (by assumption) ?_
      simp only [Act.put, List.getElem_toArray, List.getElem_cons_succ, List.getElem_cons_zero, List.setIfInBounds_toArray, List.set_cons_zero, List.set_cons_succ]
      refine wpAnyH_take (i := 18) (v := undef) rfl (by kernel_rfl) (by kernel_rfl) (by kernel_rfl) (fun _ _ _ h => h) (Or.inr ⟨by rfl, rfl⟩) (by assumption) ?_
      simp only [Act.put, List.getElem_toArray, List.getElem_cons_succ, List.getElem_cons_zero, List.setIfInBounds_toArray, List.set_cons_zero, List.set_cons_succ]
      refine wpAnyH_take (i := 19) (v := undef) rfl (by kernel_rfl) (by kernel_rfl) (by kernel_rfl) (fun _ _ _ h => h) (Or.inr ⟨by rfl, rfl⟩) (by assumption) ?_
      simp only [Act.put, List.getElem_toArray, List.getElem_cons_succ, List.getElem_cons_zero, List.setIfInBounds_toArray, List.set_cons_zero, List.set_cons_succ]
      refine wpAnyH_take (i := 20) (v := undef) rfl (by kernel_rfl) (by kernel_rfl) (by kernel_rfl) (fun _ _ _ h => h) (Or.inr ⟨by rfl, rfl⟩) (by assumption) ?_
      simp only [Act.put, List.getElem_toArray, List.getElem_cons_succ, List.getElem_cons_zero, List.setIfInBounds_toArray, List.set_cons_zero, List.set_cons_succ]
      refine wpAnyH_take (i := 21) (v := undef) rfl (by kernel_rfl) (by kernel_rfl) (by kernel_rfl) (fun _ _ _ h => h) (Or.inr ⟨by rfl, rfl⟩) (by assumption) ?_
      simp only [Act.put, List.getElem_toArray, List.getElem_cons_succ, List.getElem_cons_zero, List.setIfInBounds_toArray, List.set_cons_zero, List.set_cons_succ]
      refine wpAnyH_take (i := 22) (v := undef) rfl (by kernel_rfl) (by kernel_rfl) (by kernel_rfl) (fun _ _ _ h => h) (Or.inr ⟨by rfl, rfl⟩) (by assumption) ?_
      simp only [Act.put, List.getElem_toArray, List.getElem_cons_succ, List.getElem_cons_zero, List.setIfInBounds_toArray, List.set_cons_zero, List.set_cons_succ]
      refine wpAnyH_take (i := 23) (v := undef) rfl (by kernel_rfl) (by kernel_rfl) (by kernel_rfl) (fun _ _ _ h => h) (Or.inr ⟨by rfl, rfl⟩) (by assumption) ?_
      simp only [Act.put, List.getElem_toArray, List.getElem_cons_succ, List.getElem_cons_zero, List.setIfInBounds_toArray, List.set_cons_zero, List.set_cons_succ]
      refine wpAnyH_take (i := 24) (v := undef) rfl (by kernel_rfl) (by kernel_rfl) (by kernel_rfl) (fun _ _ _ h => h) (Or.inr ⟨by rfl, rfl⟩) (by assumption) ?_
      simp only [Act.put, List.getElem_toArray, List.getElem_cons_succ, List.getElem_cons_zero, List.setIfInBounds_toArray, List.set_cons_zero, List.set_cons_succ]
      refine wpAnyH_take (i := 25) (v := undef) rfl (by kernel_rfl) (by kernel_rfl) (by kernel_rfl) (fun _ _ _ h => h) (Or.inr ⟨by rfl, rfl⟩) (by assumption) ?_
      simp only [Act.put, List.getElem_toArray, List.getElem_cons_succ, List.getElem_cons_zero, List.setIfInBounds_toArray, List.set_cons_zero, List.set_cons_succ]
      refine wpAnyH_take (i := 26) (v := undef) rfl (by kernel_rfl) (by kernel_rfl) (by kernel_rfl) (fun _ _ _ h => h) (Or.inr ⟨by rfl, rfl⟩) (by assumption) ?_
      simp only [Act.put, List.getElem_toArray, List.getElem_cons_succ, List.getElem_cons_zero, List.setIfInBounds_toArray, List.set_cons_zero, List.set_cons_succ]
      refine wpAnyH_take (i := 27) (v := undef) rfl (by kernel_rfl) (by kernel_rfl) (by kernel_rfl) (fun _ _ _ h => h) (Or.inr ⟨by rfl, rfl⟩) (by assumption) ?_
      simp only [Act.put, List.getElem_toArray, List.getElem_cons_succ, List.getElem_cons_zero, List.setIfInBounds_toArray, List.set_cons_zero, List.set_cons_succ]
      refine wpAnyH_take (i := 28) (v := undef) rfl (by kernel_rfl) (by kernel_rfl) (by kernel_rfl) (fun _ _ _ h => h) (Or.inr ⟨by rfl, rfl⟩) (by assumption) ?_
      simp only [Act.put, List.getElem_toArray, List.getElem_cons_succ, List.getElem_cons_zero, List.setIfInBounds_toArray, List.set_cons_zero, List.set_cons_succ]
      refine wpAnyH_take (i := 29) (v := undef) rfl (by kernel_rfl) (by kernel_rfl) (by kernel_rfl) (fun _ _ _ h => h) (Or.inr ⟨by rfl, rfl⟩) (by assumption) ?_
      simp only [Act.put, List.getElem_toArray, List.getElem_cons_succ, List.getElem_cons_zero, List.setIfInBounds_toArray, List.set_cons_zero, List.set_cons_succ]
      refine wpAnyH_take (i := 30) (v := ?vv30) rfl (by kernel_rfl) (by kernel_rfl) (by kernel_rfl) (fun _ _ _ h => h) (Or.inl ⟨by rfl, ?hy30⟩) (by assumption) ?rest30
      case hy30 =>
        intro wq hSw
        go_simp
        try with_reducible rfl
      simp only [Act.put, List.getElem_toArray, List.getElem_cons_succ, List.getElem_cons_zero, List.setIfInBounds_toArray, List.set_cons_zero, List.set_cons_succ]
      refine wpAnyH_take (i := 31) (v := ?vv31) rfl (by kernel_rfl) (by kernel_rfl) (by kernel_rfl) (fun _ _ _ h => h) (Or.inl ⟨by rfl, ?hy31⟩) (by assumption) ?rest31
      case hy31 =>
        intro wq hSw
        go_simp
        try with_reducible rfl
      simp only [Act.put, List.getElem_toArray, List.getElem_cons_succ, List.getElem_cons_zero, List.setIfInBounds_toArray, List.set_cons_zero, List.set_cons_succ]
      refine wpAnyH_done (by kernel_rfl) ?_ _
      go_wp2_with fail
      go_ret
      exact ⟨rfl, ⟨⟨1, rfl⟩⟩⟩
    · rw [decide_eq_false h2]
      obtain ⟨k, rfl⟩ := Int.eq_ofNat_of_zero_le (show 0 ≤ t by omega)
      rw [Int.toNat_natCast]
      have hk : k < T := by omega
      have c1 := h.c1' (by omega)
      obtain ⟨a0, a1, a2⟩ := h.tt hk
      have hs1 : SIdle br bt T tcap k (.slice (pr k) (cnt k) (pcap k)) (R.at_ k) w.drew := ⟨c1, a0, a1⟩
      have z1 : ∀ wx : World, SIdle br bt T tcap k (.slice (pr k) (cnt k) (pcap k)) (R.at_ k) wx → wx.cell? ⟨br, 1, none⟩ = some (.slice (some ⟨bt, 0, none⟩) T tcap) := fun _ h => h.1
      have z2 : ∀ wx : World, SIdle br bt T tcap k (.slice (pr k) (cnt k) (pcap k)) (R.at_ k) wx → wx.cell? ⟨bt, 3 * k, none⟩ = some (.slice (pr k) (cnt k) (pcap k)) := fun _ h => h.2.1
      have z3 : ∀ wx : World, SIdle br bt T tcap k (.slice (pr k) (cnt k) (pcap k)) (R.at_ k) wx → wx.cell? ⟨bt, 3 * k + 1, none⟩ = some (.int .i64 (R.at_ k)) := fun _ h => h.2.2
      have e3 : k * 3 = 3 * k := by omega
      have hkk : (k : Int) < (T : Int) := by omega
      clear h a0 a1 a2
      go_enter Tryz.func31, Tryz.ntmps31
      go_wp2
      refine wp_region_held_drew (S := fun w' => SIdle br bt T tcap k (.slice (pr k) (cnt k) (pcap k)) (R.at_ k) w') (by kernel_rfl) (by assumption) (fun hHeld => ?_)
      refine wpAnyH_take (i := 0) (v := ?vvb0) rfl (by kernel_rfl) (by kernel_rfl) (by kernel_rfl) (fun _ _ _ h => h) (Or.inl ⟨by rfl, ?hyb0⟩) (by assumption) ?restb0
      case hyb0 =>
        intro wq hSw
        go_simp
        try with_reducible rfl
      simp only [Act.put, List.getElem_toArray, List.getElem_cons_succ, List.getElem_cons_zero, List.setIfInBounds_toArray, List.set_cons_zero, List.set_cons_succ]
      refine wpAnyH_take (i := 1) (v := ?vvb1) rfl (by kernel_rfl) (by kernel_rfl) (by kernel_rfl) (fun _ _ _ h => h) (Or.inl ⟨by rfl, ?hyb1⟩) (by assumption) ?restb1
      case hyb1 =>
        intro wq hSw
        go_simp
        rw [show decide ((k : Int) < 0) = false from decide_eq_false (by omega)]
        try with_reducible rfl
      simp only [Act.put, List.getElem_toArray, List.getElem_cons_succ, List.getElem_cons_zero, List.setIfInBounds_toArray, List.set_cons_zero, List.set_cons_succ]
      refine wpAnyH_take (i := 2) (v := ?vvb2) rfl (by kernel_rfl) (by kernel_rfl) (by kernel_rfl) (fun _ _ _ h => h) (Or.inl ⟨by rfl, ?hyb2⟩) (by assumption) ?restb2
      case hyb2 =>
        intro wq hSw
        go_simp
        try with_reducible rfl
      simp only [Act.put, List.getElem_toArray, List.getElem_cons_succ, List.getElem_cons_zero, List.setIfInBounds_toArray, List.set_cons_zero, List.set_cons_succ]
      refine wpAnyH_take (i := 3) (v := ?vvb3) rfl (by kernel_rfl) (by kernel_rfl) (by kernel_rfl) (fun _ _ _ h => h) (Or.inl ⟨by rfl, ?hyb3⟩) (by assumption) ?restb3
      case hyb3 =>
        intro wq hSw
        go_simp
        try with_reducible rfl
      simp only [Act.put, List.getElem_toArray, List.getElem_cons_succ, List.getElem_cons_zero, List.setIfInBounds_toArray, List.set_cons_zero, List.set_cons_succ]
      refine wpAnyH_take (i := 4) (v := ?vvb4) rfl (by kernel_rfl) (by kernel_rfl) (by kernel_rfl) (fun _ _ _ h => h) (Or.inl ⟨by rfl, ?hyb4⟩) (by assumption) ?restb4
      case hyb4 =>
        intro wq hSw
        go_simp
        try with_reducible rfl
      simp only [Act.put, List.getElem_toArray, List.getElem_cons_succ, List.getElem_cons_zero, List.setIfInBounds_toArray, List.set_cons_zero, List.set_cons_succ]
      refine wpAnyH_take (i := 5) (v := ?vvb5) rfl (by kernel_rfl) (by kernel_rfl) (by kernel_rfl) (fun _ _ _ h => h) (Or.inl ⟨by rfl, ?hyb5⟩) (by assumption) ?restb5
      case hyb5 =>
        intro wq hSw
        go_simp
        try with_reducible rfl
      simp only [Act.put, List.getElem_toArray, List.getElem_cons_succ, List.getElem_cons_zero, List.setIfInBounds_toArray, List.set_cons_zero, List.set_cons_succ]
      refine wpAnyH_take (i := 6) (v := ?vvb6) rfl (by kernel_rfl) (by kernel_rfl) (by kernel_rfl) (fun _ _ _ h => h) (Or.inl ⟨by rfl, ?hyb6⟩) (by assumption) ?restb6
      case hyb6 =>
        intro wq hSw
        go_simp
        try with_reducible rfl
      simp only [Act.put, List.getElem_toArray, List.getElem_cons_succ, List.getElem_cons_zero, List.setIfInBounds_toArray, List.set_cons_zero, List.set_cons_succ]
      refine wpAnyH_take (i := 7) (v := ?vvb7) rfl (by kernel_rfl) (by kernel_rfl) (by kernel_rfl) (fun _ _ _ h => h) (Or.inl ⟨by rfl, ?hyb7⟩) (by assumption) ?restb7
      case hyb7 =>
        intro wq hSw
        go_simp
        try with_reducible rfl
      simp only [Act.put, List.getElem_toArray, List.getElem_cons_succ, List.getElem_cons_zero, List.setIfInBounds_toArray, List.set_cons_zero, List.set_cons_succ]
      refine wpAnyH_take (i := 8) (v := ?vvb8) rfl (by kernel_rfl) (by kernel_rfl) (by kernel_rfl) (fun _ _ _ h => h) (Or.inl ⟨by rfl, ?hyb8⟩) (by assumption) ?restb8
      case hyb8 =>
        intro wq hSw
        go_simp
        try with_reducible rfl
      simp only [Act.put, List.getElem_toArray, List.getElem_cons_succ, List.getElem_cons_zero, List.setIfInBounds_toArray, List.set_cons_zero, List.set_cons_succ]
      refine wpAnyH_take (i := 9) (v := ?vvb9) rfl (by kernel_rfl) (by kernel_rfl) (by kernel_rfl) (fun _ _ _ h => h) (Or.inl ⟨by rfl, ?hyb9⟩) (by assumption) ?restb9
      case hyb9 =>
        intro wq hSw
        go_simp
        rw [show decide (T ≤ k) = false from decide_eq_false (by omega)]
        try with_reducible rfl
      simp only [Act.put, List.getElem_toArray, List.getElem_cons_succ, List.getElem_cons_zero, List.setIfInBounds_toArray, List.set_cons_zero, List.set_cons_succ]
      refine wpAnyH_take (i := 10) (v := ?vvb10) rfl (by kernel_rfl) (by kernel_rfl) (by kernel_rfl) (fun _ _ _ h => h) (Or.inl ⟨by rfl, ?hyb10⟩) (by assumption) ?restb10
      case hyb10 =>
        intro wq hSw
        go_simp
        try with_reducible rfl
      simp only [Act.put, List.getElem_toArray, List.getElem_cons_succ, List.getElem_cons_zero, List.setIfInBounds_toArray, List.set_cons_zero, List.set_cons_succ]
      refine wpAnyH_take (i := 11) (v := ?vvb11) rfl (by kernel_rfl) (by kernel_rfl) (by kernel_rfl) (fun _ _ _ h => h) (Or.inl ⟨by rfl, ?hyb11⟩) (by assumption) ?restb11
      case hyb11 =>
        intro wq hSw
        go_simp
        try with_reducible rfl
      simp only [Act.put, List.getElem_toArray, List.getElem_cons_succ, List.getElem_cons_zero, List.setIfInBounds_toArray, List.set_cons_zero, List.set_cons_succ]
      refine wpAnyH_take (i := 12) (v := ?vvb12) rfl (by kernel_rfl) (by kernel_rfl) (by kernel_rfl) (fun _ _ _ h => h) (Or.inl ⟨by rfl, ?hyb12⟩) (by assumption) ?restb12
      case hyb12 =>
        intro wq hSw
        go_simp
        try with_reducible rfl
      simp only [Act.put, List.getElem_toArray, List.getElem_cons_succ, List.getElem_cons_zero, List.setIfInBounds_toArray, List.set_cons_zero, List.set_cons_succ]
      refine wpAnyH_take (i := 13) (v := ?vvb13) rfl (by kernel_rfl) (by kernel_rfl) (by kernel_rfl) (fun _ _ _ h => h) (Or.inl ⟨by rfl, ?hyb13⟩) (by assumption) ?restb13
      case hyb13 =>
        intro wq hSw
        go_simp
        try with_reducible rfl
      simp only [Act.put, List.getElem_toArray, List.getElem_cons_succ, List.getElem_cons_zero, List.setIfInBounds_toArray, List.set_cons_zero, List.set_cons_succ]
      refine wpAnyH_take (i := 14) (v := ?vvb14) rfl (by kernel_rfl) (by kernel_rfl) (by kernel_rfl) (fun _ _ _ h => h) (Or.inl ⟨by rfl, ?hyb14⟩) (by assumption) ?restb14
      case hyb14 =>
        intro wq hSw
        go_simp
        try with_reducible rfl
      simp only [Act.put, List.getElem_toArray, List.getElem_cons_succ, List.getElem_cons_zero, List.setIfInBounds_toArray, List.set_cons_zero, List.set_cons_succ]
      refine wpAnyH_take (i := 15) (v := ?vvb15) rfl (by kernel_rfl) (by kernel_rfl) (by kernel_rfl) (fun _ _ _ h => h) (Or.inl ⟨by rfl, ?hyb15⟩) (by assumption) ?restb15
      case hyb15 =>
        intro wq hSw
        go_simp
        try with_reducible rfl
      simp only [Act.put, List.getElem_toArray, List.getElem_cons_succ, List.getElem_cons_zero, List.setIfInBounds_toArray, List.set_cons_zero, List.set_cons_succ]
      refine wpAnyH_take (i := 16) (v := ?vvb16) rfl (by kernel_rfl) (by kernel_rfl) (by kernel_rfl) (fun _ _ _ h => h) (Or.inl ⟨by rfl, ?hyb16⟩) (by assumption) ?restb16
      case hyb16 =>
        intro wq hSw
        go_simp
        try with_reducible rfl
      simp only [Act.put, List.getElem_toArray, List.getElem_cons_succ, List.getElem_cons_zero, List.setIfInBounds_toArray, List.set_cons_zero, List.set_cons_succ]
      refine wpAnyH_take (i := 17) (v := ?vvb17) rfl (by kernel_rfl) (by kernel_rfl) (by kernel_rfl) (fun _ _ _ h => h) (Or.inl ⟨by rfl, ?hyb17⟩) (by assumption) ?restb17
      case hyb17 =>
        intro wq hSw
        go_simp
        try with_reducible rfl
      simp only [Act.put, List.getElem_toArray, List.getElem_cons_succ, List.getElem_cons_zero, List.setIfInBounds_toArray, List.set_cons_zero, List.set_cons_succ]
      refine wpAnyH_take (i := 18) (v := ?vvb18) rfl (by kernel_rfl) (by kernel_rfl) (by kernel_rfl) (fun _ _ _ h => h) (Or.inl ⟨by rfl, ?hyb18⟩) (by assumption) ?restb18
      case hyb18 =>
        intro wq hSw
        go_simp
        try with_reducible rfl
      simp only [Act.put, List.getElem_toArray, List.getElem_cons_succ, List.getElem_cons_zero, List.setIfInBounds_toArray, List.set_cons_zero, List.set_cons_succ]
      refine wpAnyH_take (i := 19) (v := ?vvb19) rfl (by kernel_rfl) (by kernel_rfl) (by kernel_rfl) (fun _ _ _ h => h) (Or.inl ⟨by rfl, ?hyb19⟩) (by assumption) ?restb19
      case hyb19 =>
        intro wq hSw
        go_simp
        try with_reducible rfl
      simp only [Act.put, List.getElem_toArray, List.getElem_cons_succ, List.getElem_cons_zero, List.setIfInBounds_toArray, List.set_cons_zero, List.set_cons_succ]
      refine wpAnyH_take (i := 20) (v := ?vvb20) rfl (by kernel_rfl) (by kernel_rfl) (by kernel_rfl) (fun _ _ _ h => h) (Or.inl ⟨by rfl, ?hyb20⟩) (by assumption) ?restb20
      case hyb20 =>
        intro wq hSw
        go_simp
        try with_reducible rfl
      simp only [Act.put, List.getElem_toArray, List.getElem_cons_succ, List.getElem_cons_zero, List.setIfInBounds_toArray, List.set_cons_zero, List.set_cons_succ]
      refine wpAnyH_take (i := 21) (v := ?vvb21) rfl (by kernel_rfl) (by kernel_rfl) (by kernel_rfl) (fun _ _ _ h => h) (Or.inl ⟨by rfl, ?hyb21⟩) (by assumption) ?restb21
      case hyb21 =>
        intro wq hSw
        go_simp
        try with_reducible rfl
      simp only [Act.put, List.getElem_toArray, List.getElem_cons_succ, List.getElem_cons_zero, List.setIfInBounds_toArray, List.set_cons_zero, List.set_cons_succ]
      refine wpAnyH_take (i := 22) (v := ?vvb22) rfl (by kernel_rfl) (by kernel_rfl) (by kernel_rfl) (fun _ _ _ h => h) (Or.inl ⟨by rfl, ?hyb22⟩) (by assumption) ?restb22
      case hyb22 =>
        intro wq hSw
        go_simp
        try with_reducible rfl
      simp only [Act.put, List.getElem_toArray, List.getElem_cons_succ, List.getElem_cons_zero, List.setIfInBounds_toArray, List.set_cons_zero, List.set_cons_succ]
      refine wpAnyH_take (i := 23) (v := ?vvb23) rfl (by kernel_rfl) (by kernel_rfl) (by kernel_rfl) (fun _ _ _ h => h) (Or.inl ⟨by rfl, ?hyb23⟩) (by assumption) ?restb23
      case hyb23 =>
        intro wq hSw
        go_simp
        try with_reducible rfl
      simp only [Act.put, List.getElem_toArray, List.getElem_cons_succ, List.getElem_cons_zero, List.setIfInBounds_toArray, List.set_cons_zero, List.set_cons_succ]
      refine wpAnyH_take (i := 24) (v := ?vvb24) rfl (by kernel_rfl) (by kernel_rfl) (by kernel_rfl) (fun _ _ _ h => h) (Or.inl ⟨by rfl, ?hyb24⟩) (by assumption) ?restb24
      case hyb24 =>
        intro wq hSw
        go_simp
        try with_reducible rfl
      simp only [Act.put, List.getElem_toArray, List.getElem_cons_succ, List.getElem_cons_zero, List.setIfInBounds_toArray, List.set_cons_zero, List.set_cons_succ]
      refine wpAnyH_take (i := 25) (v := ?vvb25) rfl (by kernel_rfl) (by kernel_rfl) (by kernel_rfl) (fun _ _ _ h => h) (Or.inl ⟨by rfl, ?hyb25⟩) (by assumption) ?restb25
      case hyb25 =>
        intro wq hSw
        go_simp
        try with_reducible rfl
      simp only [Act.put, List.getElem_toArray, List.getElem_cons_succ, List.getElem_cons_zero, List.setIfInBounds_toArray, List.set_cons_zero, List.set_cons_succ]
      refine wpAnyH_take (i := 26) (v := ?vvb26) rfl (by kernel_rfl) (by kernel_rfl) (by kernel_rfl) (fun _ _ _ h => h) (Or.inl ⟨by rfl, ?hyb26⟩) (by assumption) ?restb26
      case hyb26 =>
        intro wq hSw
        go_simp
        try with_reducible rfl
      simp only [Act.put, List.getElem_toArray, List.getElem_cons_succ, List.getElem_cons_zero, List.setIfInBounds_toArray, List.set_cons_zero, List.set_cons_succ]
      refine wpAnyH_take (i := 27) (v := ?vvb27) rfl (by kernel_rfl) (by kernel_rfl) (by kernel_rfl) (fun _ _ _ h => h) (Or.inl ⟨by rfl, ?hyb27⟩) (by assumption) ?restb27
      case hyb27 =>
        intro wq hSw
        go_simp
        try with_reducible rfl
      simp only [Act.put, List.getElem_toArray, List.getElem_cons_succ, List.getElem_cons_zero, List.setIfInBounds_toArray, List.set_cons_zero, List.set_cons_succ]
      refine wpAnyH_take (i := 28) (v := ?vvb28) rfl (by kernel_rfl) (by kernel_rfl) (by kernel_rfl) (fun _ _ _ h => h) (Or.inl ⟨by rfl, ?hyb28⟩) (by assumption) ?restb28
      case hyb28 =>
        intro wq hSw
        go_simp
        try with_reducible rfl
      simp only [Act.put, List.getElem_toArray, List.getElem_cons_succ, List.getElem_cons_zero, List.setIfInBounds_toArray, List.set_cons_zero, List.set_cons_succ]
      refine wpAnyH_take (i := 29) (v := ?vvb29) rfl (by kernel_rfl) (by kernel_rfl) (by kernel_rfl) (fun _ _ _ h => h) (Or.inl ⟨by rfl, ?hyb29⟩) (by assumption) ?restb29
      case hyb29 =>
        intro wq hSw
        go_simp
        trace_state
        try with_reducible rfl
      simp only [Act.put, List.getElem_toArray, List.getElem_cons_succ, List.getElem_cons_zero, List.setIfInBounds_toArray, List.set_cons_zero, List.set_cons_succ]
      refine wpAnyH_take (i := 30) (v := ?vvb30) rfl (by kernel_rfl) (by kernel_rfl) (by kernel_rfl) (fun _ _ _ h => h) (Or.inl ⟨by rfl, ?hyb30⟩) (by assumption) ?restb30
      case hyb30 =>
        intro wq hSw
        go_simp
        try with_reducible rfl
      simp only [Act.put, List.getElem_toArray, List.getElem_cons_succ, List.getElem_cons_zero, List.setIfInBounds_toArray, List.set_cons_zero, List.set_cons_succ]
      refine wpAnyH_take (i := 31) (v := ?vvb31) rfl (by kernel_rfl) (by kernel_rfl) (by kernel_rfl) (fun _ _ _ h => h) (Or.inl ⟨by rfl, ?hyb31⟩) (by assumption) ?restb31
      case hyb31 =>
        intro wq hSw
        go_simp
        try with_reducible rfl
      simp only [Act.put, List.getElem_toArray, List.getElem_cons_succ, List.getElem_cons_zero, List.setIfInBounds_toArray, List.set_cons_zero, List.set_cons_succ]
      refine wpAnyH_done (by kernel_rfl) ?_ _
      go_wp2_with fail
      go_ret
      exact ⟨rfl, ⟨⟨1, rfl⟩⟩⟩
end
end Go.Proofs.YtndgfpfcdppfgaaGreatDoor

/- step.Runner's note: the accesses' steps grow. No condition. -/
namespace Go.Proofs.YtndgfpfcdppfgaaGreatDoor
open Go.RowKit Go.Proofs.YtndgfpfcdppfgaaGreatDoorW.PrintWords Go.Proofs.YtndgfpfcdppfgaaGreatDoorW.PrintMore
set_option linter.unusedVariables false
set_option linter.unusedSimpArgs false
/-- All but br and a row of one's own. -/
def NB (br : Nat) (o : Option Nat) (j : Nat) : Prop := ¬ (j = br ∨ o = some j)
theorem own_cells {w : World} {base : Nat} {e : TypeId} {size n : Nat} {v : Value} {xs : List Value} (h : w.ownsRow base e size v n xs) {k : Nat} (hk : v.ownBlock = some k) : ∃ cs, w.heap[k]? = some (.cells cs e (0, 0)) := by
  rcases h.2 with ⟨rfl, _⟩ | ⟨g, cap, cur, rfl, _, hh, _⟩
  · simp [Value.ownBlock] at hk
  · have : g = k := by simpa [Value.ownBlock] using hk
    subst this
    exact ⟨cur, hh⟩
theorem own_own {w : World} {b b' : Nat} {e e' : TypeId} {size size' n n' : Nat} {v v' : Value} {xs xs' : List Value} (h : w.ownsRow b e size v n xs) (h' : w.ownsRow b' e' size' v' n' xs') (hne : e ≠ e') {k : Nat} (hk : v.ownBlock = some k) : v'.ownBlock ≠ some k := by
  intro hk'
  obtain ⟨cs, hc⟩ := own_cells h hk
  obtain ⟨ds, hd⟩ := own_cells h' hk'
  rw [hc] at hd
  injection hd with hd
  injection hd with _ hd _
  exact hne hd
theorem own_slice {w : World} {base : Nat} {e : TypeId} {size n : Nat} {v : Value} {xs : List Value} (h : w.ownsRow base e size v n xs) : ∃ A c, v = .slice A n c := by
  rcases h.2 with ⟨rfl, rfl⟩ | ⟨g, cap, cur, rfl, _⟩
  · exact ⟨none, 0, rfl⟩
  · exact ⟨_, _, rfl⟩
section
variable {w : World} {br bt bm T tcap : Nat} {pr : Nat → Option Addr} {cnt pcap vw : Nat → Nat} {evv atv : Value} {R : RS}
/-- The accesses' steps lie elsewhere now; the runner's field is written. -/
theorem Rn.ats_put (h : Rn w br bt bm T tcap pr cnt pcap vw evv atv R) {W : World} {v1 : Value} {l : List Int} (hg : w.grownBy W atv.ownBlock) (hown : W.ownsRow 0 3 1 v1 l.length (l.map (Value.int .i64))) (hat : v1.ownBlock = atv.ownBlock ∨ ∃ b, v1.ownBlock = some b ∧ w.heap.size ≤ b) :
    Rn (W.setCell ⟨br, 68, none⟩ v1) br bt bm T tcap pr cnt pcap vw evv v1 { R with ats := l } ∧ Kept (NB br atv.ownBlock) w (W.setCell ⟨br, 68, none⟩ v1) := by
  obtain ⟨rc, r0, r1, r2, r3, r4, r5, r6, r7⟩ := h.r
  have nb : atv.ownBlock ≠ some br := fun e => own_ne h.a r0 (by decide) e.symm
  have nv : v1.ownBlock ≠ some br := by
    rcases hat with e | ⟨b, e, hb⟩
    · rw [e]; exact nb
    · rw [e]; intro e2; injection e2 with e2; have := r0.lt; omega
  have r0W : Bk br 100 rc W := (hg.block br r0.lt nb.symm).trans r0
  refine ⟨⟨⟨rc.setIfInBounds 68 v1, r0W.put 68 v1, ?_, ?_, fun t ht => ?_, ?_, ?_, ?_, ?_⟩, fun hT => ?_, ?_, ?_, h.T64, h.tc, h.c, h.ne⟩, ?_⟩
  · rw [Array.getElem?_setIfInBounds_ne (by omega)]; exact r1
  · rw [Array.getElem?_setIfInBounds_ne (by omega)]; exact r2
  · have := h.T64
    rw [Array.getElem?_setIfInBounds_ne (by omega)]; exact r3 t ht
  · rw [Array.getElem?_setIfInBounds_ne (by omega)]; exact r4
  · rw [Array.getElem?_setIfInBounds_ne (by omega)]; exact r5
  · rw [Array.getElem?_setIfInBounds_self_of_lt (by omega)]
  · rw [Array.size_setIfInBounds]; exact r7
  · obtain ⟨tc, t0, t1, t2⟩ := h.t hT
    have nt : atv.ownBlock ≠ some bt := fun e => own_ne h.a t0 (by decide) e.symm
    exact ⟨tc, (Below.heap_setCell _ _ _ _ (Bk.ne t0 r0 (by decide))).trans ((hg.block bt t0.lt nt.symm).trans t0), t1, t2⟩
  · refine own_move h.e fun k hk => (Below.heap_setCell _ _ _ _ ?_).trans (hg.block k (own_lt h.e k hk) ?_)
    · intro e
      exact own_ne h.e r0 (by decide) (by rw [hk, e])
    · intro e
      exact own_own h.e h.a (by decide) hk e.symm
  · refine own_move hown fun k hk => Below.heap_setCell _ _ _ _ ?_
    intro e
    exact nv (by rw [hk, e])
  · refine ((Kept.refl _ w).grown hg (fun k hk hn => hn (.inr hk))).setCell (fun hn => hn (.inl rfl)) v1
def noteA (ats : List Int) (ahead now : Nat) (step : Int) : List Int :=
  (ats ++ List.replicate (ahead - ats.length) (-1)) ++ List.replicate (now - (ats ++ List.replicate (ahead - ats.length) (-1 : Int)).length) step
theorem infoInt : (Tryz.prog.info? 3).map (fun i => (i.zero, i.size, i.bytes)) = some (some (.int .i64 0), 1, 8) := by kernel_rfl
/-- How many steps are noted. -/
def lenAt (br : Nat) (w : World) : Nat := match w.cell? ⟨br, 68, none⟩ with
  | some (.slice _ n _) => n
  | _ => 0
theorem Rn.c68 {A : Option Addr} {n c : Nat} (h : Rn w br bt bm T tcap pr cnt pcap vw evv (.slice A n c) R) : w.cell? ⟨br, 68, none⟩ = some (.slice A R.ats.length c) ∧ w.frozen? ⟨br, 68, none⟩ = false := by
  obtain ⟨rc, r0, r1, r2, r3, r4, r5, r6, r7⟩ := h.r
  have e : n = R.ats.length := by
    obtain ⟨A', c', e⟩ := own_slice h.a
    injection e
  subst e
  exact ⟨r0.cell r6, r0.frozen 68⟩
theorem Rn.c68_grown {A : Option Addr} {n c : Nat} (h : Rn w br bt bm T tcap pr cnt pcap vw evv (.slice A n c) R) {W : World} (hg : w.grownBy W (Value.slice A n c).ownBlock) : W.cell? ⟨br, 68, none⟩ = some (.slice A n c) ∧ W.frozen? ⟨br, 68, none⟩ = false := by
  obtain ⟨rc, r0, r1, r2, r3, r4, r5, r6, r7⟩ := h.r
  have nb : (Value.slice A n c).ownBlock ≠ some br := fun e => own_ne h.a r0 (by decide) e.symm
  have r0W : Bk br 100 rc W := (hg.block br r0.lt nb.symm).trans r0
  exact ⟨r0W.cell r6, r0W.frozen 68⟩
theorem lenAt_is (h : Rn w br bt bm T tcap pr cnt pcap vw evv atv R) : lenAt br w = R.ats.length := by
  obtain ⟨A, c, rfl⟩ := own_slice h.a
  unfold lenAt
  rw [h.c68.1]
theorem Kept.below0 {K : Nat → Prop} {a b : World} (h : Kept K a b) : Below 0 a b := ⟨h.os, h.tape, h.output, h.size, fun j hj => by omega⟩
theorem Kept.next {a b c : World} {br : Nat} {u v : Option Nat} (h : Kept (NB br u) a b) (k : Kept (NB br v) b c) (hv : ∀ j, v = some j → u = some j ∨ a.heap.size ≤ j) : Kept (NB br u) a c := by
  refine ⟨k.os.trans h.os, k.tape.trans h.tape, k.output.trans h.output, Nat.le_trans h.size k.size, fun j hj hl => (k.block j ?_ (Nat.lt_of_lt_of_le hl h.size)).trans (h.block j hj hl)⟩
  rintro (e | e)
  · exact hj (.inl e)
  · rcases hv j e with e2 | e2
    · exact hj (.inr e2)
    · omega
set_option maxHeartbeats 4000000 in
set_option maxRecDepth 100000 in
theorem rnote_calls (h : Rn w br bt bm T tcap pr cnt pcap vw evv atv R) (ahead now : Nat) (step : Int) (ha : ahead ≤ 68719476736) (hn : now ≤ 68719476736) (hl : R.ats.length ≤ 68719476736) :
    Calls Tryz.prog 33 #[.pointer (some ⟨br, 0, none⟩), .int .i64 step, .int .i64 ahead, .int .i64 now] w fun e w' => e = .returned (.tuple #[]) ∧ ∃ atv', Rn w' br bt bm T tcap pr cnt pcap vw evv atv' { R with ats := noteA R.ats ahead now step } ∧ Kept (NB br atv.ownBlock) w w' ∧ (∀ j, atv'.ownBlock = some j → atv.ownBlock = some j ∨ w.heap.size ≤ j) := by
  have H := Aside0.mk h
  clear h
  go_enter Tryz.func33, Tryz.ntmps33
  go_wp2_with fail
  go_loopw [] (fun wr => ∃ (k : Nat) (v : Value), k ≤ ahead - R.ats.length ∧ Aside0 (Rn wr br bt bm T tcap pr cnt pcap vw evv v { R with ats := R.ats ++ List.replicate k (-1) } ∧ Kept (NB br atv.ownBlock) w wr ∧ (∀ j, v.ownBlock = some j → atv.ownBlock = some j ∨ w.heap.size ≤ j))) (fun wr => ahead - lenAt br wr)
  case atStart => exact ⟨0, atv, Nat.zero_le _, by simpa using H.out, Kept.refl _ _, fun j hj => .inl hj⟩
  case round =>
    obtain ⟨k, v, hk, HN⟩ := hrel
    obtain ⟨A0, c0, rfl⟩ := own_slice HN.out.1.a
    have hlen : (R.ats ++ List.replicate k (-1 : Int)).length = R.ats.length + k := by simp
    have hln := lenAt_is HN.out.1
    have HNL := Aside0.mk hln
    rw [show ({ R with ats := R.ats ++ List.replicate k (-1 : Int) } : RS).ats.length = R.ats.length + k from hlen] at HN
    obtain ⟨cr, fr⟩ := HN.out.1.c68
    rw [show ({ R with ats := R.ats ++ List.replicate k (-1 : Int) } : RS).ats.length = R.ats.length + k from hlen] at cr
    clear hln
    by_cases hlt : R.ats.length + k < ahead
    · have hI : ((R.ats.length + k : Nat) : Int) < (ahead : Int) := by omega
      have HA := Aside0.mk HN.out.1.a
      rw [show ({ R with ats := R.ats ++ List.replicate k (-1 : Int) } : RS).ats.length = R.ats.length + k from hlen] at HA
      go_wp2_with (at_builtin; go_loud (refine print_append_cells (w0 := w) 0 rfl (.tmp 19) (.tmp 20) 22 3 (.int .i64 0) 1 8 rfl Tryz.underlying22 infoInt rfl (by decide) (by decide) (.slice A0 (R.ats.length + k) c0) (R.ats.length + k) _ [.int .i64 (-1)] (by rfl) (by rfl) rfl (by simp [Value.oneCell']) HA.out HN.out.2.1.below0 (Nat.zero_le _) (by omega) ?_; intro v1 wc ho hb hg hat; obtain ⟨A1, c1, rfl⟩ := own_slice ho; have HO := Aside0.mk ho; have HG := Aside0.mk hg; have HAT := Aside0.mk hat; obtain ⟨cr1, fr1⟩ := HN.out.1.c68_grown hg; clear ho hb hg hat))
      have hl2 : ((R.ats ++ List.replicate (k + 1) (-1 : Int)).length) = R.ats.length + k + 1 := by simp; omega
      obtain ⟨q1, q2⟩ := HN.out.1.ats_put (l := R.ats ++ List.replicate (k + 1) (-1)) HG.out (by rw [hl2, List.replicate_succ', ← List.append_assoc, List.map_append]; exact HO.out) HAT.out
      have q3 : ∀ j, (Value.slice A1 (R.ats.length + k + 1) c1).ownBlock = some j → atv.ownBlock = some j ∨ w.heap.size ≤ j := fun j hj => by
        rcases HAT.out with e | ⟨b, e, hb⟩
        · exact HN.out.2.2 j (e ▸ hj)
        · rw [e] at hj; injection hj with hj; have := HN.out.2.1.size; exact .inr (by omega)
      exact ⟨⟨k + 1, _, by omega, ⟨q1, HN.out.2.1.next q2 HN.out.2.2, q3⟩⟩, by rw [lenAt_is q1, HNL.out]; simp; omega⟩
    · have hke : k = ahead - R.ats.length := by omega
      subst hke
      have hl1 : (R.ats ++ List.replicate (ahead - R.ats.length) (-1 : Int)).length ≤ 68719476736 := by rw [hlen]; omega
      have hI : ¬ ((R.ats.length + (ahead - R.ats.length) : Nat) : Int) < (ahead : Int) := by omega
      have HN1 := Aside0.mk HN.out
      rw [← hlen] at HN1
      clear HN HNL hlen hlt hk
      go_wp2_with fail
      clear cr fr hI
      generalize hL1 : (R.ats ++ List.replicate (ahead - R.ats.length) (-1 : Int)) = L1 at HN1 hl1
      have HL1 := Aside0.mk (show noteA R.ats ahead now step = L1 ++ List.replicate (now - L1.length) step from by unfold noteA; rw [hL1])
      clear hL1
      go_loopw [] (fun wr => ∃ (k : Nat) (v : Value), k ≤ now - L1.length ∧ Aside0 (Rn wr br bt bm T tcap pr cnt pcap vw evv v { R with ats := L1 ++ List.replicate k step } ∧ Kept (NB br atv.ownBlock) w wr ∧ (∀ j, v.ownBlock = some j → atv.ownBlock = some j ∨ w.heap.size ≤ j))) (fun wr => now - lenAt br wr)
      case atStart => exact ⟨0, _, Nat.zero_le _, by simpa using HN1.out.1, HN1.out.2⟩
      case round =>
        obtain ⟨k, v, hk, HN⟩ := hrel
        obtain ⟨A0, c0, rfl⟩ := own_slice HN.out.1.a
        have hlen : (L1 ++ List.replicate k step).length = L1.length + k := by simp
        have hln := lenAt_is HN.out.1
        have HNL := Aside0.mk hln
        rw [show ({ R with ats := L1 ++ List.replicate k step } : RS).ats.length = L1.length + k from hlen] at HN
        obtain ⟨cr, fr⟩ := HN.out.1.c68
        rw [show ({ R with ats := L1 ++ List.replicate k step } : RS).ats.length = L1.length + k from hlen] at cr
        clear hln HN1
        by_cases hlt : L1.length + k < now
        · have hI : ((L1.length + k : Nat) : Int) < (now : Int) := by omega
          have HA := Aside0.mk HN.out.1.a
          rw [show ({ R with ats := L1 ++ List.replicate k step } : RS).ats.length = L1.length + k from hlen] at HA
          go_wp2_with (at_builtin; go_loud (refine print_append_cells (w0 := w) 0 rfl (.tmp 35) (.tmp 37) 22 3 (.int .i64 0) 1 8 rfl Tryz.underlying22 infoInt rfl (by decide) (by decide) (.slice A0 (L1.length + k) c0) (L1.length + k) _ [.int .i64 (step)] (by rfl) (by rfl) rfl (by simp [Value.oneCell']) HA.out HN.out.2.1.below0 (Nat.zero_le _) (by omega) ?_; intro v1 wc ho hb hg hat; obtain ⟨A1, c1, rfl⟩ := own_slice ho; have HO := Aside0.mk ho; have HG := Aside0.mk hg; have HAT := Aside0.mk hat; obtain ⟨cr1, fr1⟩ := HN.out.1.c68_grown hg; clear ho hb hg hat))
          have hl2 : ((L1 ++ List.replicate (k + 1) step).length) = L1.length + k + 1 := by simp; omega
          obtain ⟨q1, q2⟩ := HN.out.1.ats_put (l := L1 ++ List.replicate (k + 1) (step)) HG.out (by rw [hl2, List.replicate_succ', ← List.append_assoc, List.map_append]; exact HO.out) HAT.out
          have q3 : ∀ j, (Value.slice A1 (L1.length + k + 1) c1).ownBlock = some j → atv.ownBlock = some j ∨ w.heap.size ≤ j := fun j hj => by
            rcases HAT.out with e | ⟨b, e, hb⟩
            · exact HN.out.2.2 j (e ▸ hj)
            · rw [e] at hj; injection hj with hj; have := HN.out.2.1.size; exact .inr (by omega)
          exact ⟨⟨k + 1, _, by omega, ⟨q1, HN.out.2.1.next q2 HN.out.2.2, q3⟩⟩, by rw [lenAt_is q1, HNL.out]; simp; omega⟩
        · have hke : k = now - L1.length := by omega
          subst hke
          have hI : ¬ ((L1.length + (now - L1.length) : Nat) : Int) < (now : Int) := by omega
          have HN2 := Aside0.mk HN.out
          clear HN HNL hlen hlt hk
          go_wp2_with fail
          go_end0
          rw [HL1.out]
          exact ⟨rfl, _, HN2.out⟩
end
end Go.Proofs.YtndgfpfcdppfgaaGreatDoor

/- camera.Take: its steps, and the memory's Made. The last stamp is far. -/
namespace Go.Proofs.YtndgfpfcdppfgaaGreatDoor
open Go.RowKit Go.Proofs.YtndgfpfcdppfgaaGreatDoorW.PrintWords Go.Proofs.YtndgfpfcdppfgaaGreatDoorW.PrintMore
set_option linter.unusedVariables false
set_option linter.unusedSimpArgs false
/-- A Take: how far it is, what it read. -/
structure TkS where
  at_ : Int
  t : Int
  stamp : Int
  moved : Bool
def tkC (cell most : Int) (τ : TkS) : Array Value := #[.int .i64 τ.at_, .int .u64 cell, .int .u64 most, .int .u64 τ.t, .int .u64 τ.stamp, .int .i64 0, .bool τ.moved]
theorem newtake_calls (w : World) (cell most : Int) : Calls Tryz.prog 8 #[.int .u64 cell, .int .u64 most] w fun e w' => e = .returned (.pointer (some ⟨w.heap.size, 0, none⟩)) ∧ w' = w.alloc (.cells (tkC cell most ⟨0, 0, 0, false⟩) 94) := by
  go_enter Tryz.func8, Tryz.ntmps8
  go_wp2
  go_ret
  exact ⟨rfl, rfl⟩
section
variable {w0 w : World} {K : Nat → Prop} {bm bp bc : Nat} {cs : List Int} {fr n : Nat} {xs : List Value} {bv : Nat} {th md : Int} {bs : Nat} {cell most : Int} {τ : TkS}
theorem made_calls (hM : Mem w K bm bp bc cs fr n xs) : Calls Tryz.prog 32 #[.pointer (some ⟨bm, 0, none⟩)] w fun e w' => e = .returned (.int .i64 n) ∧ w' = w := by
  obtain ⟨tv, m1, m2, m3⟩ := hM.m
  obtain ⟨A, c, rfl⟩ := own_slice m2
  have c2 : w.cell? ⟨bm, 2, none⟩ = some (.slice A n c) := (blk_cell m1 2).trans rfl
  clear m1 m2 m3 hM
  go_enter Tryz.func32, Tryz.ntmps32
  go_wp2
  go_ret
  exact ⟨rfl, rfl⟩
theorem errno_calls (h : Bk bs 94 (tkC cell most τ) w) : Calls Tryz.prog 13 #[.pointer (some ⟨bs, 0, none⟩)] w fun e w' => e = .returned (.int .i64 0) ∧ w' = w := by
  have c5 : w.cell? ⟨bs, 5, none⟩ = some (.int .i64 0) := h.cell rfl
  clear h
  go_enter Tryz.func13, Tryz.ntmps13
  go_wp2
  go_ret
  exact ⟨rfl, rfl⟩
theorem stamp_calls (h : Bk bs 94 (tkC cell most τ) w) : Calls Tryz.prog 14 #[.pointer (some ⟨bs, 0, none⟩)] w fun e w' => e = .returned (.int .u64 τ.stamp) ∧ w' = w := by
  have c4 : w.cell? ⟨bs, 4, none⟩ = some (.int .u64 τ.stamp) := h.cell rfl
  clear h
  go_enter Tryz.func14, Tryz.ntmps14
  go_wp2
  go_ret
  exact ⟨rfl, rfl⟩
set_option maxHeartbeats 2000000 in
set_option maxRecDepth 100000 in
theorem take0 (h : Pw w0 w K bm bp bc cs fr n xs bv th md bs (tkC cell most τ) 94) (hd0 : 0 ≤ md) (hd1 : md ≤ 1152921504606846975) (hn : n < 68719476735) (ha : τ.at_ = 0) (hc : 0 ≤ cell) (hm : pk cs cell < most) :
    Calls Tryz.prog 127 #[.pointer (some ⟨bs, 0, none⟩), .pointer (some ⟨bv, 0, none⟩)] w fun e w' => e = .returned (.bool false) ∧
      Pw w0 w' K bm bp bc cs fr (n + 1) (xs ++ acc th 1 cell 0 0 (.slice none 0 0) (pk cs cell) false) bv th (md + 1) bs (tkC cell most { τ with at_ := 1, t := pk cs cell }) 94 := by
  have H1 := Aside0.mk h
  have c0 : w.cell? ⟨bs, 0, none⟩ = some (.int .i64 0) := (h.cell 0).trans (by rw [← ha]; rfl)
  have c1 : w.cell? ⟨bs, 1, none⟩ = some (.int .u64 cell) := (h.cell 1).trans rfl
  have HL := Lib.hid (h.load hd0 (by omega) (by omega) cell hc)
  generalize hx : pk cs cell = x at HL hm ⊢
  generalize acc th 1 cell 0 0 (.slice none 0 0) x false = tr at HL ⊢
  clear h hx ha
  go_enter Tryz.func127, Tryz.ntmps127
  go_upto_region 6 with (go_at_call 128; refine HL.out.mono ?_; rintro e2 w2 ⟨rfl, h2⟩; have H2 := Aside0.mk h2; have c3 : w2.cell? ⟨bs, 3, none⟩ = some (.int .u64 τ.t) := (h2.cell 3).trans rfl; have f3 := h2.frozen 3; clear h2)
  have H3 := Aside0.mk (H2.out.put 3 (.int .u64 x))
  clear c0 c1 c3 f3 H2 HL H1
  generalize w2.setCell ⟨bs, 3, none⟩ (.int .u64 x) = w3 at H3 ⊢
  have c3 : w3.cell? ⟨bs, 3, none⟩ = some (.int .u64 x) := (H3.out.cell 3).trans rfl
  have c2 : w3.cell? ⟨bs, 2, none⟩ = some (.int .u64 most) := (H3.out.cell 2).trans rfl
  have c0 : w3.cell? ⟨bs, 0, none⟩ = some (.int .i64 τ.at_) := (H3.out.cell 0).trans rfl
  have f0 := H3.out.frozen 0
  go_region
  go_wp2
  go_ret
  exact ⟨rfl, (H3.out.drew).put 0 (.int .i64 1)⟩
/-- The cells that the second step reads, whatever the others hold. -/
def STk (bs : Nat) (a b : Value) (w : World) : Prop := ∃ oc, Bk bs 94 oc w ∧ oc[1]? = some a ∧ oc[3]? = some b
theorem STk.put {bs : Nat} {a b : Value} {w : World} (h : STk bs a b w) (v : Value) : STk bs a b (w.setCell ⟨bs, 6, none⟩ v) := by
  obtain ⟨oc, h1, h2, h3⟩ := h
  exact ⟨_, h1.put 6 v, by rw [Array.getElem?_setIfInBounds_ne (by omega)]; exact h2, by rw [Array.getElem?_setIfInBounds_ne (by omega)]; exact h3⟩
set_option maxHeartbeats 2000000 in
set_option maxRecDepth 100000 in
theorem take1 (h : Pw w0 w K bm bp bc cs fr n xs bv th md bs (tkC cell most τ) 94) (hd0 : 0 ≤ md) (hd1 : md ≤ 1152921504606846975) (hn : n < 68719476735) (ha : τ.at_ = 1) (hc : 0 ≤ cell) (h0 : 0 ≤ τ.t) (h1 : τ.t ≤ 1152921504606846976) :
    Calls Tryz.prog 127 #[.pointer (some ⟨bs, 0, none⟩), .pointer (some ⟨bv, 0, none⟩)] w fun e w' => e = .returned (.bool true) ∧
      Pw w0 w' K bm bp bc (casC cs cell τ.t (τ.t + 1)) fr (n + 1) (xs ++ acc th 3 cell τ.t (τ.t + 1) (.slice none 0 0) 0 (casB cs cell τ.t)) bv th (md + 1) bs (tkC cell most { τ with at_ := 2, stamp := τ.t, moved := casB cs cell τ.t }) 94 := by
  have H1 := Aside0.mk h
  have c0 : w.cell? ⟨bs, 0, none⟩ = some (.int .i64 1) := (h.cell 0).trans (by rw [← ha]; rfl)
  have c1 : w.cell? ⟨bs, 1, none⟩ = some (.int .u64 cell) := (h.cell 1).trans rfl
  have c3 : w.cell? ⟨bs, 3, none⟩ = some (.int .u64 τ.t) := (h.cell 3).trans rfl
  have hwr : IntKind.u64.wrap (τ.t + 1) = τ.t + 1 := IntWalk.u64_in _ (by omega)
  have HQ := Lib.hid (fun (wx : World) (hb : Below w.heap.size w wx) => (h.below hb).cas hd0 (by omega) (by omega) cell τ.t (τ.t + 1) hc)
  generalize hx : casB cs cell τ.t = ok at HQ ⊢
  generalize casC cs cell τ.t (τ.t + 1) = cs2 at HQ ⊢
  generalize acc th 3 cell τ.t (τ.t + 1) (.slice none 0 0) 0 ok = tr at HQ ⊢
  have z1 : ∀ wx, STk bs (.int .u64 cell) (.int .u64 τ.t) wx → wx.cell? ⟨bs, 1, none⟩ = some (.int .u64 cell) := fun wx ⟨_, h1, h2, _⟩ => h1.cell h2
  have z3 : ∀ wx, STk bs (.int .u64 cell) (.int .u64 τ.t) wx → wx.cell? ⟨bs, 3, none⟩ = some (.int .u64 τ.t) := fun wx ⟨_, h1, _, h3⟩ => h1.cell h3
  have hs1 : STk bs (.int .u64 cell) (.int .u64 τ.t) w := ⟨_, h.ob, rfl, rfl⟩
  have hs2 : STk bs (.int .u64 cell) (.int .u64 τ.t) w.drew := hs1
  have hr : Below w.heap.size w w := Below.refl _ _
  have hr2 : Below w.heap.size w w.drew := hr.drew
  have hsb : ∀ wx, SB bs (tkC cell most τ) 94 wx → STk bs (.int .u64 cell) (.int .u64 τ.t) wx := fun wx h => ⟨_, h, rfl, rfl⟩
  clear hx ha
  go_enter Tryz.func127, Tryz.ntmps127
  go_upto_region 12 with fail
  clear h c0 c1 c3
  go_region_held3 (fun w' => STk bs (.int .u64 cell) (.int .u64 τ.t) w') (first | assumption | exact STk.put (by assumption) _) (first
    | (go_at_call 129; with_reducible refine (HQ.out _ (by assumption)).mono ?_; rintro e w9 ⟨rfl, h9⟩; have hs3 := hsb _ h9.sb; have H9 := Aside0.mk h9; have c6 : w9.cell? ⟨bs, 6, none⟩ = some (.bool τ.moved) := (h9.cell 6).trans rfl; have f6 := h9.frozen 6; clear h9))
  all_goals (
    have H10 := Aside0.mk (H9.out.put 6 (.bool ok))
    clear H9 c6 f6 hs3
    generalize w9.setCell ⟨bs, 6, none⟩ (.bool ok) = wA at H10 ⊢
    have c3 : wA.cell? ⟨bs, 3, none⟩ = some (.int .u64 τ.t) := (H10.out.cell 3).trans rfl
    have c4 : wA.cell? ⟨bs, 4, none⟩ = some (.int .u64 τ.stamp) := (H10.out.cell 4).trans rfl
    have f4 := H10.out.frozen 4
    have c0 : wA.cell? ⟨bs, 0, none⟩ = some (.int .i64 τ.at_) := (H10.out.cell 0).trans rfl
    have f0 := H10.out.frozen 0
    go_wp2
    go_ret
    exact ⟨rfl, (H10.out.put 4 (.int .u64 τ.t)).put 0 (.int .i64 2)⟩)
end
end Go.Proofs.YtndgfpfcdppfgaaGreatDoor

/- step.Runner beside the things that its procs work on: what a store of its own leaves. No condition. -/
namespace Go.Proofs.YtndgfpfcdppfgaaGreatDoor
open Go.RowKit Go.Proofs.YtndgfpfcdppfgaaGreatDoorW.PrintWords Go.Proofs.YtndgfpfcdppfgaaGreatDoorW.PrintMore
set_option linter.unusedVariables false
set_option linter.unusedSimpArgs false
def RBk (br bt : Nat) (evv atv : Value) (j : Nat) : Prop := j = br ∨ j = bt ∨ evv.ownBlock = some j ∨ atv.ownBlock = some j
def upd {α : Type} (f : Nat → α) (t : Nat) (x : α) : Nat → α := fun i => if i = t then x else f i
theorem upd_same {α : Type} (f : Nat → α) (t : Nat) (x : α) : upd f t x t = x := if_pos rfl
theorem upd_ne {α : Type} (f : Nat → α) {t i : Nat} (x : α) (h : i ≠ t) : upd f t x i = f i := if_neg h
section
variable {w W : World} {br bt bm T tcap : Nat} {pr : Nat → Option Addr} {cnt pcap vw : Nat → Nat} {evv atv : Value} {R : RS}
/-- Nothing of its own has been written. -/
theorem Rn.far (h : Rn w br bt bm T tcap pr cnt pcap vw evv atv R) (hb : ∀ j, j < w.heap.size → RBk br bt evv atv j → W.heap[j]? = w.heap[j]?) : Rn W br bt bm T tcap pr cnt pcap vw evv atv R := by
  obtain ⟨rc, r0, r1⟩ := h.r
  refine ⟨⟨rc, (hb br r0.lt (.inl rfl)).trans r0, r1⟩, fun hT => ?_, own_move h.e fun k hk => hb k (own_lt h.e k hk) (.inr (.inr (.inl hk))), own_move h.a fun k hk => hb k (own_lt h.a k hk) (.inr (.inr (.inr hk))), h.T64, h.tc, h.c, h.ne⟩
  obtain ⟨tc, t0, t1⟩ := h.t hT
  exact ⟨tc, (hb bt t0.lt (.inr (.inl rfl))).trans t0, t1⟩
theorem Rn.below (h : Rn w br bt bm T tcap pr cnt pcap vw evv atv R) (hb : Below w.heap.size w W) : Rn W br bt bm T tcap pr cnt pcap vw evv atv R := h.far fun j hj _ => hb.block j hj
theorem Rn.br_ev (h : Rn w br bt bm T tcap pr cnt pcap vw evv atv R) : evv.ownBlock ≠ some br := by
  obtain ⟨rc, r0, _⟩ := h.r
  exact fun e => own_ne h.e r0 (by decide) e.symm
theorem Rn.br_at (h : Rn w br bt bm T tcap pr cnt pcap vw evv atv R) : atv.ownBlock ≠ some br := by
  obtain ⟨rc, r0, _⟩ := h.r
  exact fun e => own_ne h.a r0 (by decide) e.symm
theorem Rn.bt_ev (h : Rn w br bt bm T tcap pr cnt pcap vw evv atv R) (hT : 0 < T) : evv.ownBlock ≠ some bt := by
  obtain ⟨tc, t0, _⟩ := h.t hT
  exact fun e => own_ne h.e t0 (by decide) e.symm
theorem Rn.bt_at (h : Rn w br bt bm T tcap pr cnt pcap vw evv atv R) (hT : 0 < T) : atv.ownBlock ≠ some bt := by
  obtain ⟨tc, t0, _⟩ := h.t hT
  exact fun e => own_ne h.a t0 (by decide) e.symm
theorem Rn.br_bt (h : Rn w br bt bm T tcap pr cnt pcap vw evv atv R) (hT : 0 < T) : bt ≠ br := by
  obtain ⟨rc, r0, _⟩ := h.r
  obtain ⟨tc, t0, _⟩ := h.t hT
  exact Bk.ne t0 r0 (by decide)
theorem Rn.brlt (h : Rn w br bt bm T tcap pr cnt pcap vw evv atv R) : br < w.heap.size := by
  obtain ⟨rc, r0, _⟩ := h.r
  exact r0.lt
/-- The picks are counted. -/
theorem Rn.st_put (h : Rn w br bt bm T tcap pr cnt pcap vw evv atv R) (k : Nat) : Rn (w.setCell ⟨br, 66, none⟩ (.int .i64 k)) br bt bm T tcap pr cnt pcap vw evv atv { R with st := k } := by
  obtain ⟨rc, r0, r1, r2, r3, r4, r5, r6, r7⟩ := h.r
  refine ⟨⟨_, r0.put 66 (.int .i64 k), ?_, ?_, fun t ht => ?_, ?_, ?_, ?_, ?_⟩, fun hT => ?_, ?_, ?_, h.T64, h.tc, h.c, h.ne⟩
  · rw [Array.getElem?_setIfInBounds_ne (by omega)]; exact r1
  · rw [Array.getElem?_setIfInBounds_ne (by omega)]; exact r2
  · have := h.T64
    rw [Array.getElem?_setIfInBounds_ne (by omega)]; exact r3 t ht
  · rw [Array.getElem?_setIfInBounds_self_of_lt (by omega)]
  · rw [Array.getElem?_setIfInBounds_ne (by omega)]; exact r5
  · rw [Array.getElem?_setIfInBounds_ne (by omega)]; exact r6
  · rw [Array.size_setIfInBounds]; exact r7
  · obtain ⟨tc, t0, t1⟩ := h.t hT
    exact ⟨tc, t0.other (h.br_bt hT) _, t1⟩
  · exact own_move h.e fun k hk => Below.heap_setCell _ _ _ _ fun e => h.br_ev (by rw [hk, e])
  · exact own_move h.a fun k hk => Below.heap_setCell _ _ _ _ fun e => h.br_at (by rw [hk, e])
theorem Rn.c66 (h : Rn w br bt bm T tcap pr cnt pcap vw evv atv R) : w.cell? ⟨br, 66, none⟩ = some (.int .i64 R.st) ∧ w.frozen? ⟨br, 66, none⟩ = false ∧ w.cell? ⟨br, 0, none⟩ = some (.pointer (some ⟨bm, 0, none⟩)) := by
  obtain ⟨rc, r0, r1, r2, r3, r4, r5, r6, r7⟩ := h.r
  exact ⟨r0.cell r4, r0.frozen 66, r0.cell r1⟩
theorem Rn.c67 (h : Rn w br bt bm T tcap pr cnt pcap vw evv atv R) : w.cell? ⟨br, 67, none⟩ = some evv ∧ w.frozen? ⟨br, 67, none⟩ = false := by
  obtain ⟨rc, r0, r1, r2, r3, r4, r5, r6, r7⟩ := h.r
  exact ⟨r0.cell r5, r0.frozen 67⟩
theorem Rn.cvw (h : Rn w br bt bm T tcap pr cnt pcap vw evv atv R) {t : Nat} (ht : t < T) : w.cell? ⟨br, 2 + t, none⟩ = some (.pointer (some ⟨vw t, 0, none⟩)) := by
  obtain ⟨rc, r0, r1, r2, r3, r4, r5, r6, r7⟩ := h.r
  exact r0.cell (r3 t ht)
theorem Rn.tfrozen (h : Rn w br bt bm T tcap pr cnt pcap vw evv atv R) (hT : 0 < T) (i : Nat) : w.frozen? ⟨bt, i, none⟩ = false := by
  obtain ⟨tc, t0, _⟩ := h.t hT
  exact t0.frozen i
/-- A thread has begun its call, or has ended it. -/
theorem Rn.op_put (h : Rn w br bt bm T tcap pr cnt pcap vw evv atv R) {t : Nat} (ht : t < T) (b : Bool) (hb : b = true → R.at_ t < cnt t) : Rn (w.setCell ⟨bt, 3 * t + 2, none⟩ (.bool b)) br bt bm T tcap pr cnt pcap vw evv atv { R with op := upd R.op t b } := by
  have hT : 0 < T := by omega
  obtain ⟨rc, r0, r1⟩ := h.r
  obtain ⟨tc, t0, t1, t2⟩ := h.t hT
  refine ⟨⟨rc, r0.other (fun e => h.br_bt hT e.symm) _, r1⟩, fun _ => ⟨_, t0.put (3 * t + 2) (.bool b), fun i hi => ?_, ?_⟩, ?_, ?_, h.T64, h.tc, h.c, fun i hi hop => ?_⟩
  · obtain ⟨a, b', c⟩ := t1 i hi
    refine ⟨by rw [Array.getElem?_setIfInBounds_ne (by omega)]; exact a, by rw [Array.getElem?_setIfInBounds_ne (by omega)]; exact b', ?_⟩
    by_cases he : i = t
    · subst he
      rw [Array.getElem?_setIfInBounds_self_of_lt (by omega)]
      show _ = some (Value.bool (upd R.op i b i))
      rw [upd_same]
    · rw [Array.getElem?_setIfInBounds_ne (by omega)]
      show _ = some (Value.bool (upd R.op t b i))
      rw [upd_ne _ _ he]
      exact c
  · rw [Array.size_setIfInBounds]; exact t2
  · exact own_move h.e fun k hk => Below.heap_setCell _ _ _ _ fun e => h.bt_ev hT (by rw [hk, e])
  · exact own_move h.a fun k hk => Below.heap_setCell _ _ _ _ fun e => h.bt_at hT (by rw [hk, e])
  · have hop' : upd R.op t b i = true := hop
    by_cases he : i = t
    · subst he
      rw [upd_same] at hop'
      exact hb hop'
    · rw [upd_ne _ _ he] at hop'
      exact h.ne i hi hop'
/-- A thread's next call. -/
theorem Rn.at_put (h : Rn w br bt bm T tcap pr cnt pcap vw evv atv R) {t : Nat} (ht : t < T) (k : Nat) (hk : k ≤ cnt t) (ho : R.op t = false) : Rn (w.setCell ⟨bt, 3 * t + 1, none⟩ (.int .i64 k)) br bt bm T tcap pr cnt pcap vw evv atv { R with at_ := upd R.at_ t k } := by
  have hT : 0 < T := by omega
  obtain ⟨rc, r0, r1⟩ := h.r
  obtain ⟨tc, t0, t1, t2⟩ := h.t hT
  refine ⟨⟨rc, r0.other (fun e => h.br_bt hT e.symm) _, r1⟩, fun _ => ⟨_, t0.put (3 * t + 1) (.int .i64 k), fun i hi => ?_, ?_⟩, ?_, ?_, h.T64, h.tc, fun i hi => ?_, fun i hi hop => ?_⟩
  · obtain ⟨a, b', c⟩ := t1 i hi
    refine ⟨by rw [Array.getElem?_setIfInBounds_ne (by omega)]; exact a, ?_, by rw [Array.getElem?_setIfInBounds_ne (by omega)]; exact c⟩
    by_cases he : i = t
    · subst he
      rw [Array.getElem?_setIfInBounds_self_of_lt (by omega)]
      show _ = some (Value.int .i64 ((upd R.at_ i k i : Nat) : Int))
      rw [upd_same]
    · rw [Array.getElem?_setIfInBounds_ne (by omega)]
      show _ = some (Value.int .i64 ((upd R.at_ t k i : Nat) : Int))
      rw [upd_ne _ _ he]
      exact b'
  · rw [Array.size_setIfInBounds]; exact t2
  · exact own_move h.e fun k hk => Below.heap_setCell _ _ _ _ fun e => h.bt_ev hT (by rw [hk, e])
  · exact own_move h.a fun k hk => Below.heap_setCell _ _ _ _ fun e => h.bt_at hT (by rw [hk, e])
  · show upd R.at_ t k i ≤ cnt i ∧ _
    by_cases he : i = t
    · subst he
      rw [upd_same]
      exact ⟨hk, (h.c i hi).2⟩
    · rw [upd_ne _ _ he]
      exact h.c i hi
  · have hop' : R.op i = true := hop
    by_cases he : i = t
    · subst he
      rw [ho] at hop'
      cases hop'
    · show upd R.at_ t k i < cnt i
      rw [upd_ne _ _ he]
      exact h.ne i hi hop'
/-- The events lie elsewhere now; the runner's field is written. -/
theorem Rn.ev_put (h : Rn w br bt bm T tcap pr cnt pcap vw evv atv R) {v1 : Value} {n : Nat} {l : List Value} (hg : w.grownBy W evv.ownBlock) (hown : W.ownsRow 0 109 4 v1 n l) (hat : v1.ownBlock = evv.ownBlock ∨ ∃ b, v1.ownBlock = some b ∧ w.heap.size ≤ b) :
    Rn (W.setCell ⟨br, 67, none⟩ v1) br bt bm T tcap pr cnt pcap vw v1 atv { R with nev := n, ev := l } ∧ Kept (NB br evv.ownBlock) w (W.setCell ⟨br, 67, none⟩ v1) := by
  obtain ⟨rc, r0, r1, r2, r3, r4, r5, r6, r7⟩ := h.r
  have nb := h.br_ev
  have nv : v1.ownBlock ≠ some br := by
    rcases hat with e | ⟨b, e, hb⟩
    · rw [e]; exact nb
    · rw [e]; intro e2; injection e2 with e2; have := r0.lt; omega
  have r0W : Bk br 100 rc W := (hg.block br r0.lt nb.symm).trans r0
  refine ⟨⟨⟨rc.setIfInBounds 67 v1, r0W.put 67 v1, ?_, ?_, fun t ht => ?_, ?_, ?_, ?_, ?_⟩, fun hT => ?_, ?_, ?_, h.T64, h.tc, h.c, h.ne⟩, ?_⟩
  · rw [Array.getElem?_setIfInBounds_ne (by omega)]; exact r1
  · rw [Array.getElem?_setIfInBounds_ne (by omega)]; exact r2
  · have := h.T64
    rw [Array.getElem?_setIfInBounds_ne (by omega)]; exact r3 t ht
  · rw [Array.getElem?_setIfInBounds_ne (by omega)]; exact r4
  · rw [Array.getElem?_setIfInBounds_self_of_lt (by omega)]
  · rw [Array.getElem?_setIfInBounds_ne (by omega)]; exact r6
  · rw [Array.size_setIfInBounds]; exact r7
  · obtain ⟨tc, t0, t1, t2⟩ := h.t hT
    exact ⟨tc, (Below.heap_setCell _ _ _ _ (h.br_bt hT)).trans ((hg.block bt t0.lt (h.bt_ev hT).symm).trans t0), t1, t2⟩
  · exact own_move hown fun k hk => Below.heap_setCell _ _ _ _ fun e => nv (by rw [hk, e])
  · refine own_move h.a fun k hk => (Below.heap_setCell _ _ _ _ fun e => h.br_at (by rw [hk, e])).trans (hg.block k (own_lt h.a k hk) fun e => own_own h.e h.a (by decide) e.symm hk)
  · exact ((Kept.refl _ w).grown hg (fun k hk hn => hn (.inr hk))).setCell (fun hn => hn (.inl rfl)) v1
end
end Go.Proofs.YtndgfpfcdppfgaaGreatDoor

/- step.Runner's Pick, over procs of one kind and whatever they work on. No condition. -/
namespace Go.Proofs.YtndgfpfcdppfgaaGreatDoor
open Go.RowKit Go.Proofs.YtndgfpfcdppfgaaGreatDoorW.PrintWords Go.Proofs.YtndgfpfcdppfgaaGreatDoorW.PrintMore
set_option linter.unusedVariables false
set_option linter.unusedSimpArgs false
/-- Things that the procs work on. -/
structure PEnv (σ : Type) (bm : Nat) where
  E : σ → (Nat → Prop) → World → Prop
  lt : ∀ {s X w}, E s X w → ∀ j, X j → j < w.heap.size
  far : ∀ {s X w W}, E s X w → w.heap.size ≤ W.heap.size → (∀ j, X j → W.heap[j]? = w.heap[j]?) → E s X W
  made : σ → Nat
  made_calls : ∀ {s X w}, E s X w → Calls Tryz.prog 32 #[.pointer (some ⟨bm, 0, none⟩)] w fun e w' => e = .returned (.int .i64 (made s)) ∧ w' = w
  made_le : ∀ {s X w}, E s X w → made s ≤ 68719476736
/-- A runner beside them. -/
structure RE {σ : Type} {bm : Nat} (V : PEnv σ bm) (w : World) (br bt T tcap : Nat) (pr : Nat → Option Addr) (cnt pcap vw pb : Nat → Nat) (pa : Nat → Nat → Nat) (s : σ) (X : Nat → Prop) (evv atv : Value) (R : RS) : Prop where
  rn : Rn w br bt bm T tcap pr cnt pcap vw evv atv R
  e : V.E s X w
  btl : bt < w.heap.size
  dis : ∀ j, X j → ¬ RBk br bt evv atv j
  pc : ∀ t, t < T → 0 < cnt t → pr t = some ⟨pb t, 0, none⟩ ∧ ¬ X (pb t) ∧ ∃ pcs, Bk (pb t) 103 pcs w ∧ ∀ k, k < cnt t → pcs[k]? = some (.iface 37 (.pointer (some ⟨pa t k, 0, none⟩)))
section
variable {σ : Type} {bm : Nat} {V : PEnv σ bm} {w W : World} {br bt T tcap : Nat} {pr : Nat → Option Addr} {cnt pcap vw pb : Nat → Nat} {pa : Nat → Nat → Nat} {s s' : σ} {X X' : Nat → Prop} {evv atv evv' atv' : Value} {R R' : RS}
theorem RE.pb_ne (h : RE V w br bt T tcap pr cnt pcap vw pb pa s X evv atv R) {t : Nat} (ht : t < T) (hc : 0 < cnt t) : ¬ RBk br bt evv atv (pb t) := by
  obtain ⟨_, _, pcs, hb, _⟩ := h.pc t ht hc
  have hT : 0 < T := by omega
  obtain ⟨rc, r0, _⟩ := h.rn.r
  obtain ⟨tc, t0, _⟩ := h.rn.t hT
  rintro (e | e | e | e)
  · exact Bk.ne hb r0 (by decide) e
  · exact Bk.ne hb t0 (by decide) e
  · exact own_ne h.rn.e hb (by decide) e.symm
  · exact own_ne h.rn.a hb (by decide) e.symm
theorem RE.lt (h : RE V w br bt T tcap pr cnt pcap vw pb pa s X evv atv R) : ∀ j, RBk br bt evv atv j → j < w.heap.size := by
  rintro j (e | e | e | e)
  · rw [e]; exact h.rn.brlt
  · rw [e]; exact h.btl
  · exact own_lt h.rn.e j e
  · exact own_lt h.rn.a j e
theorem RE.below (h : RE V w br bt T tcap pr cnt pcap vw pb pa s X evv atv R) (hb : Below w.heap.size w W) : RE V W br bt T tcap pr cnt pcap vw pb pa s X evv atv R := by
  refine ⟨h.rn.below hb, V.far h.e hb.size fun j hj => hb.block j (V.lt h.e j hj), Nat.lt_of_lt_of_le h.btl hb.size, h.dis, fun t ht hc => ?_⟩
  obtain ⟨p1, p2, pcs, hb2, p3⟩ := h.pc t ht hc
  exact ⟨p1, p2, pcs, hb2.below hb, p3⟩
/-- The runner's own blocks are written. -/
theorem RE.own (h : RE V w br bt T tcap pr cnt pcap vw pb pa s X evv atv R) (hr : Rn W br bt bm T tcap pr cnt pcap vw evv' atv' R') (hk : Kept (fun j => ¬ RBk br bt evv atv j) w W) (he : ∀ j, evv'.ownBlock = some j → RBk br bt evv atv j ∨ w.heap.size ≤ j) (ha : ∀ j, atv'.ownBlock = some j → RBk br bt evv atv j ∨ w.heap.size ≤ j) :
    RE V W br bt T tcap pr cnt pcap vw pb pa s X evv' atv' R' := by
  refine ⟨hr, V.far h.e hk.size fun j hj => hk.block j (h.dis j hj) (V.lt h.e j hj), Nat.lt_of_lt_of_le h.btl hk.size, fun j hj hb => ?_, fun t ht hc => ?_⟩
  · have hlt := V.lt h.e j hj
    have hd := h.dis j hj
    rcases hb with e | e | e | e
    · exact hd (.inl e)
    · exact hd (.inr (.inl e))
    · rcases he j e with e | e
      · exact hd e
      · omega
    · rcases ha j e with e | e
      · exact hd e
      · omega
  · obtain ⟨p1, p2, pcs, hb, p3⟩ := h.pc t ht hc
    exact ⟨p1, p2, pcs, (hk.block _ (h.pb_ne ht hc) hb.lt).trans hb, p3⟩
/-- What the procs work on is written. -/
theorem RE.env (h : RE V w br bt T tcap pr cnt pcap vw pb pa s X evv atv R) (he : V.E s' X' W) (hk : Kept (fun j => ¬ X j) w W) (hx : ∀ j, X' j → X j ∨ w.heap.size ≤ j) :
    RE V W br bt T tcap pr cnt pcap vw pb pa s' X' evv atv R := by
  have hlt := h.lt
  refine ⟨h.rn.far fun j hj hb => hk.block j (fun hx => h.dis j hx hb) hj, he, Nat.lt_of_lt_of_le h.btl hk.size, fun j hj hb => ?_, fun t ht hc => ?_⟩
  · rcases hx j hj with e | e
    · exact h.dis j e hb
    · have := hlt j hb; omega
  · obtain ⟨p1, p2, pcs, hb, p3⟩ := h.pc t ht hc
    exact ⟨p1, fun e => (hx _ e).elim p2 fun e2 => by have := hb.lt; omega, pcs, (hk.block _ p2 hb.lt).trans hb, p3⟩
end
end Go.Proofs.YtndgfpfcdppfgaaGreatDoor
