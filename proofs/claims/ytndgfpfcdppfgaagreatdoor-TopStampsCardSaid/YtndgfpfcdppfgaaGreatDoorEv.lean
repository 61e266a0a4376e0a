/- step.Runner's Events: a copy. No condition. -/
import Derived.Test.YtndgfpfcdppfgaaGreatDoorPickM
import Derived.Test.YtndgfpfcdppfgaaGreatDoorOwnx0
namespace Go.Proofs.YtndgfpfcdppfgaaGreatDoor
open Go.RowKit Go.Proofs.YtndgfpfcdppfgaaGreatDoorW.PrintWords Go.Proofs.YtndgfpfcdppfgaaGreatDoorW.PrintMore
set_option linter.unusedVariables false
set_option linter.unusedSimpArgs false
def encE (x : Own.S109) : List Value := [.int .i64 x.f0, .int .i64 x.f1, .int .i64 x.f2, .bool x.f3]
theorem reps_ev (l : List Own.S109) (w : World) : Reps (Own.k109.K w) 4 l (l.flatMap encE) := by
  have hl : ∀ l : List Own.S109, (l.flatMap encE).length = l.length * 4 := fun l => by
    induction l with
    | nil => rfl
    | cons a l ih => rw [List.flatMap_cons, List.length_append, ih]; simp [encE]; omega
  refine ⟨hl l, fun j p hj => ?_⟩
  have : (((l.flatMap encE).drop (j * 4)).take 4) = encE p := by
    induction l generalizing j with
    | nil => simp at hj
    | cons a l ih =>
      cases j with
      | zero =>
        have : a = p := by simpa using hj
        subst this
        rw [List.flatMap_cons, Nat.zero_mul, List.drop_zero, List.take_append_of_le_length (by simp [encE])]
        rfl
      | succ j =>
        rw [List.flatMap_cons, show (j + 1) * 4 = (encE a).length + j * 4 by simp [encE]; omega, List.drop_append, List.drop_eq_nil_of_le (Nat.le_add_right _ _), List.nil_append, Nat.add_sub_cancel_left]
        exact ih j (by simpa using hj)
  rw [this]
  exact Own.k109_mk w p
section
variable {w : World}
set_option maxHeartbeats 1000000 in
set_option maxRecDepth 100000 in
theorem eclone_calls {v : Value} {n : Nat} {l : List Value} (h : w.ownsRow 0 109 4 v n l) (hn : n ≤ 68719476737) (hone : ∀ u ∈ l, u.oneCell' = true) :
    Calls Tryz.prog 25 #[v] w fun e w' => ∃ v', e = .returned v' ∧ w'.ownsRow w.heap.size 109 4 v' n l ∧ Below w.heap.size w w' := by
  have hnil := fun wx a n c n' c' => Lib.run_eql_slice_nil (P := Tryz.prog) wx 46 109 a n c n' c' Tryz.underlying46
  obtain ⟨hl, h2⟩ := h
  rcases h2 with ⟨rfl, rfl⟩ | ⟨g, cap, cur, rfl, hb, hh, q1, q2, q3, q4⟩
  · have : l = [] := List.eq_nil_of_length_eq_zero (by omega)
    subst this
    go_enter Tryz.func25, Tryz.ntmps25
    go_wp2
    go_ret
    exact ⟨_, rfl, ⟨rfl, .inl ⟨rfl, rfl⟩⟩, Below.refl _ _⟩
  · rcases Nat.eq_zero_or_pos n with h0 | h0
    · subst h0
      have : l = [] := List.eq_nil_of_length_eq_zero (by omega)
      subst this
      have hmade := World.ownsRow_made (base := w.heap.size) (e := 109) (size := 4) w #[] 0 (Nat.le_refl _) (by decide) rfl
      clear hh
      go_enter Tryz.func25, Tryz.ntmps25
      go_wp2
      go_ret
      exact ⟨_, rfl, by simpa using hmade, (Below.refl w.heap.size w).alloc (Nat.le_refl _) _⟩
    · obtain ⟨i0, hi0, hz0, hz1, hz2⟩ := info_parts infoEv
      have hmade := World.ownsRow_made (base := w.heap.size) (e := 109) (size := 4) w #[] 0 (Nat.le_refl _) (by decide) rfl
      have hnews : ∀ j u, l[j]? = some u → (w.alloc (.cells #[] 109)).cell? ((⟨g, 0, none⟩ : Addr).add j) = some u := by
        intro j u hu
        have hj : j < n * 4 := by rw [← hl]; exact (List.getElem?_eq_some_iff.1 hu).1
        have h1 : w.cell? ((⟨g, 0, none⟩ : Addr).add j) = some u := by
          rw [Addr.add_lit, Nat.zero_add]
          refine (blk_cell hh j).trans ?_
          rw [← q4, List.getElem?_take, if_pos hj, Array.getElem?_toList] at hu
          exact hu
        rw [World.cell?_of_block (heap_alloc_old w _ (World.block_lt_of_cell? _ _ h1)), h1]
      have HNW := Aside0.mk hnews
      have HMD := Aside0.mk hmade
      have HON := Aside0.mk hone
      have HL := Aside0.mk hl
      clear hh hnews hmade hone q4 hl
      go_enter Tryz.func25, Tryz.ntmps25
      go_wp2_with (at_builtin; go_loud (refine wpList_append_lies _ rfl (.tmp 5) (.tmp 6) 46 rfl w.heap.size 109 i0 _ 4 32 Tryz.underlying46 hi0 hz0 hz1 hz2 rfl (by omega) (.slice (some ⟨w.heap.size, 0, none⟩) 0 0) 0 [] (by rfl) HMD.out ⟨g, 0, none⟩ n cap l (by rfl) HL.out HNW.out HON.out (by omega) (by unfold maxLen; omega) (by omega) (by simp) (w.heap.size + 1) (by simp) ?_); intro g cap w2 hown hgrow hat hlt; have HO := Aside0.mk hown; have HG := Aside0.mk hgrow; clear hown hgrow hat hlt)
      go_ret
      refine ⟨_, rfl, by simpa using HO.out, ?_⟩
      refine (((Below.refl w.heap.size w).alloc (Nat.le_refl _) _).grown HG.out (by simp) fun k hk => ?_)
      have : w.heap.size = k := by simpa [Value.ownBlock] using hk
      omega
variable {br bt bm T tcap : Nat} {pr : Nat → Option Addr} {cnt pcap vw : Nat → Nat} {evv atv : Value} {R : RS}
theorem events_calls (h : Rn w br bt bm T tcap pr cnt pcap vw evv atv R) (l : List Own.S109) (he : R.ev = l.flatMap encE) (hl : R.nev = l.length) (hn : l.length ≤ 68719476737) :
    Calls Tryz.prog 12 #[.pointer (some ⟨br, 0, none⟩)] w fun e w' => ∃ A c, e = .returned (.slice A l.length c) ∧ l.length ≤ c ∧ Kd.C Own.k109 w' A l.length l ∧ Below w.heap.size w w' := by
  have ho := h.e
  rw [he, hl] at ho
  have hone : ∀ u ∈ l.flatMap encE, u.oneCell' = true := fun u hu => by
    obtain ⟨x, _, hx⟩ := List.mem_flatMap.1 hu
    simp only [encE, List.mem_cons, List.not_mem_nil, or_false] at hx
    rcases hx with rfl | rfl | rfl | rfl <;> rfl
  have HC := Lib.hid (eclone_calls ho hn hone)
  obtain ⟨c1, _⟩ := h.c67
  clear h he hl ho
  go_enter Tryz.func12, Tryz.ntmps12
  go_wp2_with (go_at_call 25; refine HC.out.mono ?_; rintro e1 w1 ⟨v', rfl, ho, hb⟩)
  go_ret
  obtain ⟨A, c, e1, e2⟩ := own_reads_row ho (reps_ev l w1) rfl
  subst e1
  exact ⟨A, c, rfl, own_le ho, e2, hb⟩
end
end Go.Proofs.YtndgfpfcdppfgaaGreatDoor
