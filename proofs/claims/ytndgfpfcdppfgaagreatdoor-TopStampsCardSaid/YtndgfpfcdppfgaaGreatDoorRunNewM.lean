/- step.New: its parts. No condition. -/
import Derived.Test.YtndgfpfcdppfgaaGreatDoorPickM
import Derived.Deep.RegionHeld3
import Derived.Test.YtndgfpfcdppfgaaGreatDoorRunA
/- step.New: its parts. No condition. -/
namespace Go.Proofs.YtndgfpfcdppfgaaGreatDoor
open Go.RowKit Go.Proofs.YtndgfpfcdppfgaaGreatDoorW.PrintWords Go.Proofs.YtndgfpfcdppfgaaGreatDoorW.PrintMore
set_option linter.unusedVariables false
set_option linter.unusedSimpArgs false
theorem vw_lt {w : World} {bv bm : Nat} {th md : Int} (h : Vw w bv bm th md) : bv < w.heap.size := (Array.getElem?_eq_some_iff.1 h).1
theorem new1_calls (w : World) (A : Option Addr) (n cap : Nat) (h : n ≤ 4096) : Calls Tryz.prog 22 #[.slice A n cap] w fun e w' => e = .returned (.bool false) ∧ w' = w := by
  have h' : ¬ (4096 : Int) < (n : Int) := by omega
  go_enter Tryz.func22, Tryz.ntmps22
  go_wp2
  go_ret
  exact ⟨rfl, rfl⟩
section
variable {w : World} {A : Option Addr} {T cap : Nat} {P : Nat → Option Addr} {cnt pc : Nat → Nat}
/-- The threads that are handed in: rows of procs. -/
def ThIn (w : World) (A : Option Addr) (T : Nat) (P : Nat → Option Addr) (cnt pc : Nat → Nat) : Prop := ∀ t, t < T → ∃ a, A = some a ∧ w.cell? (a.add t) = some (.slice (P t) (cnt t) (pc t)) ∧ cnt t ≤ 4096
theorem ThIn.below (h : ThIn w A T P cnt pc) {w' : World} (hb : Below w.heap.size w w') : ThIn w' A T P cnt pc := fun t ht => by
  obtain ⟨a, e, h1, h2⟩ := h t ht
  exact ⟨a, e, (World.cell?_of_block (hb.block _ (World.block_lt_of_cell? _ _ h1))).trans h1, h2⟩
set_option maxHeartbeats 2000000 in
set_option maxRecDepth 100000 in
theorem ix_calls (h : ThIn w A T P cnt pc) (hT : T ≤ 1152921504606846976) : Calls Tryz.prog 30 #[.slice A T cap, .func (.func 22) #[] #[]] w fun e w' => e = .returned (.int .i64 (-1)) ∧ Below w.heap.size w w' := by
  have H := Aside0.mk h
  clear h
  go_enter Tryz.func30, Tryz.ntmps30
  go_wp2
  go_loopw [8] (fun s8 wr => ∃ k : Nat, k ≤ T ∧ s8 = .int .i64 k ∧ Aside0 (Below w.heap.size w wr)) (fun s8 _ => T - (intOf s8).toNat)
  case atStart => exact ⟨0, Nat.zero_le _, rfl, ⟨Below.refl _ _⟩⟩
  case round =>
    obtain ⟨k, hk, rfl, HB⟩ := hrel
    by_cases hlt : k < T
    · have hlt' : (k : Int) < (T : Int) := by omega
      obtain ⟨a, rfl, h1, h2⟩ := (H.out.below HB.out) k hlt
      have hf := new1_calls wr (P k) (cnt k) (pc k) h2
      go_wp2_with (go_at_call 22; refine hf.mono ?_; rintro e1 w1 ⟨rfl, rfl⟩)
      exact ⟨⟨k + 1, hlt, by rfl, HB⟩, by simp [intOf]; omega⟩
    · have hlt' : ¬ (k : Int) < (T : Int) := by omega
      go_wp2
      go_ret
      exact ⟨rfl, HB.out⟩
theorem cf_calls (h : ThIn w A T P cnt pc) (hT : T ≤ 1152921504606846976) : Calls Tryz.prog 21 #[.slice A T cap, .func (.func 22) #[] #[]] w fun e w' => e = .returned (.bool false) ∧ Below w.heap.size w w' := by
  have hi := Lib.hid (ix_calls (cap := cap) h hT)
  clear h
  go_enter Tryz.func21, Tryz.ntmps21
  go_wp2_with (go_at_call 30; refine hi.out.mono ?_; rintro e1 w1 ⟨rfl, hb⟩)
  go_ret
  exact ⟨rfl, hb⟩
end
theorem infoProc : (Tryz.prog.info? 103).map (fun i => (i.zero, i.size, i.bytes)) = some (some .nilIface, 1, 16) := by kernel_rfl
set_option maxHeartbeats 1000000 in
set_option maxRecDepth 100000 in
theorem pclone_calls (w : World) (ad : Addr) (m c : Nat) (vs : List Value) (hl : vs.length = m) (hm : 0 < m) (hmx : m ≤ 4194304) (hone : ∀ u ∈ vs, u.oneCell' = true) (hr : ∀ (j : Nat) (u : Value), vs[j]? = some u → w.cell? (ad.add j) = some u) :
    Calls Tryz.prog 23 #[.slice (some ad) m c] w fun e w' => ∃ g cap, e = .returned (.slice (some ⟨g, 0, none⟩) m cap) ∧ w'.ownsRow w.heap.size 103 1 (.slice (some ⟨g, 0, none⟩) m cap) m vs ∧ Below w.heap.size w w' := by
  have hnil := fun wx a n c n' c' => Lib.run_eql_slice_nil (P := Tryz.prog) wx 34 103 a n c n' c' Tryz.underlying34
  obtain ⟨i0, hi0, hz0, hz1, hz2⟩ := info_parts infoProc
  have hmade := World.ownsRow_made (base := w.heap.size) (e := 103) (size := 1) w #[] 0 (Nat.le_refl _) (by decide) rfl
  have hnews : ∀ j u, vs[j]? = some u → (w.alloc (.cells #[] 103)).cell? (ad.add j) = some u := by
    intro j u hu
    have h1 := hr j u hu
    rw [World.cell?_of_block (heap_alloc_old w _ (World.block_lt_of_cell? _ _ h1)), h1]
  have HNW := Aside0.mk hnews
  have HMD := Aside0.mk hmade
  have HON := Aside0.mk hone
  clear hr hnews hmade hone
  go_enter Tryz.func23, Tryz.ntmps23
  go_wp2_with (at_builtin; go_loud (refine wpList_append_lies _ rfl (.tmp 5) (.tmp 6) 34 rfl w.heap.size 103 i0 .nilIface 1 16 Tryz.underlying34 hi0 hz0 hz1 hz2 rfl (by omega) (.slice (some ⟨w.heap.size, 0, none⟩) 0 0) 0 [] (by rfl) HMD.out ad m c vs (by rfl) (by omega) HNW.out HON.out (by omega) (by unfold maxLen; omega) (by omega) (by simp) (w.heap.size + 1) (by simp) ?_); intro g cap w2 hown hgrow hat hlt; have HO := Aside0.mk hown; have HG := Aside0.mk hgrow; clear hown hgrow hat hlt)
  go_ret
  refine ⟨g, cap, by simp, by simpa using HO.out, ?_⟩
  refine (((Below.refl w.heap.size w).alloc (Nat.le_refl _) _).grown HG.out (by simp) fun k hk => ?_)
  have : w.heap.size = k := by simpa [Value.ownBlock] using hk
  omega
theorem pclone_nil (w : World) : Calls Tryz.prog 23 #[.slice none 0 0] w fun e w' => e = .returned (.slice none 0 0) ∧ w' = w := by
  have hnil := fun wx a n c n' c' => Lib.run_eql_slice_nil (P := Tryz.prog) wx 34 103 a n c n' c' Tryz.underlying34
  go_enter Tryz.func23, Tryz.ntmps23
  go_wp2
  go_ret
  exact ⟨rfl, rfl⟩
end Go.Proofs.YtndgfpfcdppfgaaGreatDoor

/- step.New: the runner that is being made. No condition. -/
namespace Go.Proofs.YtndgfpfcdppfgaaGreatDoor
open Go.RowKit Go.Proofs.YtndgfpfcdppfgaaGreatDoorW.PrintWords Go.Proofs.YtndgfpfcdppfgaaGreatDoorW.PrintMore
set_option linter.unusedVariables false
set_option linter.unusedSimpArgs false
/-- The cells of so many threads. -/
def thC (pr : Nat → Option Addr) (cnt pcap : Nat → Nat) (k : Nat) : List Value := (List.range k).flatMap fun t => [.slice (pr t) (cnt t) (pcap t), .int .i64 0, .bool false]
theorem thC_succ (pr : Nat → Option Addr) (cnt pcap : Nat → Nat) (k : Nat) : thC pr cnt pcap (k + 1) = thC pr cnt pcap k ++ [.slice (pr k) (cnt k) (pcap k), .int .i64 0, .bool false] := by
  unfold thC
  rw [List.range_succ, List.flatMap_append]
  simp
theorem thC_len (pr : Nat → Option Addr) (cnt pcap : Nat → Nat) (k : Nat) : (thC pr cnt pcap k).length = 3 * k := by
  induction k with
  | zero => rfl
  | succ k ih => rw [thC_succ, List.length_append, ih]; simp; omega
theorem thC_congr {pr pr' : Nat → Option Addr} {cnt pcap pcap' : Nat → Nat} {k : Nat} (h : ∀ t, t < k → pr' t = pr t ∧ pcap' t = pcap t) : thC pr' cnt pcap' k = thC pr cnt pcap k := by
  induction k with
  | zero => rfl
  | succ k ih => rw [thC_succ, thC_succ, ih fun t ht => h t (by omega), (h k (by omega)).1, (h k (by omega)).2]
theorem thC_at (pr : Nat → Option Addr) (cnt pcap : Nat → Nat) (k : Nat) {t : Nat} (ht : t < k) : (thC pr cnt pcap k)[3 * t]? = some (.slice (pr t) (cnt t) (pcap t)) ∧ (thC pr cnt pcap k)[3 * t + 1]? = some (.int .i64 0) ∧ (thC pr cnt pcap k)[3 * t + 2]? = some (.bool false) := by
  induction k with
  | zero => omega
  | succ k ih =>
    have hl := thC_len pr cnt pcap k
    rw [thC_succ]
    by_cases he : t = k
    · subst he
      refine ⟨?_, ?_, ?_⟩
      · rw [List.getElem?_append_right (by omega), hl, show 3 * t - 3 * t = 0 by omega]; rfl
      · rw [List.getElem?_append_right (by omega), hl, show 3 * t + 1 - 3 * t = 1 by omega]; rfl
      · rw [List.getElem?_append_right (by omega), hl, show 3 * t + 2 - 3 * t = 2 by omega]; rfl
    · have := ih (by omega)
      rw [List.getElem?_append_left (by omega), List.getElem?_append_left (by omega), List.getElem?_append_left (by omega)]
      exact this
/-- From w on: a runner at br with kt threads and kv views so far. -/
structure NI (w wr : World) (br bm kt kv : Nat) (cnt : Nat → Nat) (pv : Nat → Nat → Value) (tv : Value) (pr : Nat → Option Addr) (pcap vw pb : Nat → Nat) : Prop where
  b : Below w.heap.size w wr
  ge : w.heap.size ≤ br
  r : ∃ rc, Bk br 100 rc wr ∧ rc[0]? = some (.pointer (some ⟨bm, 0, none⟩)) ∧ rc[1]? = some tv ∧ (∀ t, t < kv → rc[2 + t]? = some (.pointer (some ⟨vw t, 0, none⟩))) ∧ rc[66]? = some (.int .i64 0) ∧ rc[67]? = some (.slice none 0 0) ∧ rc[68]? = some (.slice none 0 0) ∧ rc.size = 69
  t : wr.ownsRow w.heap.size 105 3 tv kt (thC pr cnt pcap kt)
  z : kt = 0 → tv = .slice none 0 0
  v : ∀ t, t < kv → Vw wr (vw t) bm t 0 ∧ w.heap.size ≤ vw t
  vi : ∀ t t', t < kv → t' < kv → vw t = vw t' → t = t'
  p : ∀ t, t < kt → cnt t ≤ pcap t ∧ (0 < cnt t → pr t = some ⟨pb t, 0, none⟩ ∧ w.heap.size ≤ pb t ∧ ∃ pcs, Bk (pb t) 103 pcs wr ∧ ∀ j, j < cnt t → pcs[j]? = some (pv t j))
section
variable {w wr W : World} {br bm kt kv : Nat} {cnt : Nat → Nat} {pv : Nat → Nat → Value} {tv : Value} {pr : Nat → Option Addr} {pcap vw pb : Nat → Nat}

theorem NI.below (h : NI w wr br bm kt kv cnt pv tv pr pcap vw pb) (hb : Below wr.heap.size wr W) : NI w W br bm kt kv cnt pv tv pr pcap vw pb := by
  obtain ⟨rc, r0, r1⟩ := h.r
  refine ⟨⟨hb.os.trans h.b.os, hb.tape.trans h.b.tape, hb.output.trans h.b.output, Nat.le_trans h.b.size hb.size, fun j hj => (hb.block j (Nat.lt_of_lt_of_le hj h.b.size)).trans (h.b.block j hj)⟩, h.ge, ⟨rc, r0.below hb, r1⟩, own_move h.t fun k hk => hb.block k (own_lt h.t k hk), h.z, fun t ht => ⟨(hb.block _ (vw_lt (h.v t ht).1)).trans (h.v t ht).1, (h.v t ht).2⟩, h.vi, fun t ht => ⟨(h.p t ht).1, fun hc => ?_⟩⟩
  obtain ⟨p1, p2, pcs, p3, p4⟩ := (h.p t ht).2 hc
  exact ⟨p1, p2, pcs, p3.below hb, p4⟩
theorem NI.brlt (h : NI w wr br bm kt kv cnt pv tv pr pcap vw pb) : br < wr.heap.size := by
  obtain ⟨rc, r0, r1⟩ := h.r
  exact r0.lt
theorem NI.br_tv (h : NI w wr br bm kt kv cnt pv tv pr pcap vw pb) : tv.ownBlock ≠ some br := by
  obtain ⟨rc, r0, _⟩ := h.r
  exact fun e => own_ne h.t r0 (by decide) e.symm
theorem NI.c1 (h : NI w wr br bm kt kv cnt pv tv pr pcap vw pb) : wr.cell? ⟨br, 1, none⟩ = some tv ∧ wr.frozen? ⟨br, 1, none⟩ = false := by
  obtain ⟨rc, r0, _, r1, _⟩ := h.r
  exact ⟨r0.cell r1, r0.frozen 1⟩
/-- One thread more. -/
theorem NI.thr (h : NI w wr br bm kt kv cnt pv tv pr pcap vw pb) {v1 : Value} {a : Option Addr} {c g : Nat} (hc : cnt kt ≤ c) (hcl : 0 < cnt kt → a = some ⟨g, 0, none⟩ ∧ w.heap.size ≤ g ∧ ∃ pcs, Bk g 103 pcs wr ∧ ∀ j, j < cnt kt → pcs[j]? = some (pv kt j))
    (hg : wr.grownBy W tv.ownBlock) (hown : W.ownsRow w.heap.size 105 3 v1 (kt + 1) (thC pr cnt pcap kt ++ [.slice a (cnt kt) c, .int .i64 0, .bool false])) (hat : v1.ownBlock = tv.ownBlock ∨ ∃ b, v1.ownBlock = some b ∧ wr.heap.size ≤ b) :
    NI w (W.setCell ⟨br, 1, none⟩ v1) br bm (kt + 1) kv cnt pv v1 (upd pr kt a) (upd pcap kt c) vw (upd pb kt g) := by
  obtain ⟨rc, r0, r1, r2, r3, r4, r5, r6, r7⟩ := h.r
  have nb := h.br_tv
  have nv : v1.ownBlock ≠ some br := by
    rcases hat with e | ⟨b, e, hb⟩
    · rw [e]; exact nb
    · rw [e]; intro e2; injection e2 with e2; have := r0.lt; omega
  have r0W : Bk br 100 rc W := (hg.block br r0.lt nb.symm).trans r0
  have mv : ∀ {j : Nat} {T : TypeId} {cs : Array Value}, Bk j T cs wr → T ≠ 105 → j ≠ br → Bk j T cs (W.setCell ⟨br, 1, none⟩ v1) := fun {j T cs} hj ht hn =>
    (Below.heap_setCell _ _ _ _ hn).trans ((hg.block j hj.lt fun e => own_ne h.t hj (fun e2 => ht e2.symm) e).trans hj)
  have ro : ∀ t, t < kt → upd pr kt a t = pr t ∧ upd pcap kt c t = pcap t := fun t ht => ⟨upd_ne _ _ (by omega), upd_ne _ _ (by omega)⟩
  refine ⟨?_, h.ge, ⟨rc.setIfInBounds 1 v1, r0W.put 1 v1, ?_, ?_, fun t ht => ?_, ?_, ?_, ?_, ?_⟩, ?_, by omega, fun t ht => ⟨?_, (h.v t ht).2⟩, h.vi, fun t ht => ?_⟩
  · refine Below.setCell (p := ⟨br, 1, none⟩) (h.b.grown hg h.b.size fun k hk => ?_) h.ge _
    rcases h.t.2 with ⟨e, _⟩ | ⟨g', cap, cur, e, hb, _⟩
    · rw [e] at hk; simp [Value.ownBlock] at hk
    · rw [e] at hk
      have : g' = k := by simpa [Value.ownBlock] using hk
      omega
  · rw [Array.getElem?_setIfInBounds_ne (by omega)]; exact r1
  · rw [Array.getElem?_setIfInBounds_self_of_lt (by omega)]
  · rw [Array.getElem?_setIfInBounds_ne (by omega)]; exact r3 t ht
  · rw [Array.getElem?_setIfInBounds_ne (by omega)]; exact r4
  · rw [Array.getElem?_setIfInBounds_ne (by omega)]; exact r5
  · rw [Array.getElem?_setIfInBounds_ne (by omega)]; exact r6
  · rw [Array.size_setIfInBounds]; exact r7
  · rw [thC_succ, thC_congr ro, upd_same, upd_same]
    exact own_move hown fun k hk => Below.heap_setCell _ _ _ _ fun e => nv (by rw [hk, e])
  · exact mv (h.v t ht).1 (by decide) (Bk.ne (h.v t ht).1 r0 (by decide))
  · by_cases he : t = kt
    · subst he
      rw [upd_same, upd_same, upd_same]
      refine ⟨hc, fun hp => ?_⟩
      obtain ⟨e1, e2, pcs, e3, e4⟩ := hcl hp
      exact ⟨e1, e2, pcs, mv e3 (by decide) (Bk.ne e3 r0 (by decide)), e4⟩
    · rw [upd_ne _ _ he, upd_ne _ _ he, upd_ne _ _ he]
      obtain ⟨q1, q2⟩ := h.p t (by omega)
      refine ⟨q1, fun hp => ?_⟩
      obtain ⟨e1, e2, pcs, e3, e4⟩ := q2 hp
      exact ⟨e1, e2, pcs, mv e3 (by decide) (Bk.ne e3 r0 (by decide)), e4⟩
/-- One view more. -/
theorem NI.view (h : NI w wr br bm kt kv cnt pv tv pr pcap vw pb) (hk : kv < 64) :
    NI w ((wr.alloc (.cells #[.pointer (some ⟨bm, 0, none⟩), .int .i64 kv, .int .i64 0] 87)).setCell ⟨br, 2 + kv, none⟩ (.pointer (some ⟨wr.heap.size, 0, none⟩))) br bm kt (kv + 1) cnt pv tv pr pcap (upd vw kv wr.heap.size) pb := by
  have h1 := h.below ((Below.refl wr.heap.size wr).alloc (Nat.le_refl _) (.cells #[.pointer (some ⟨bm, 0, none⟩), .int .i64 kv, .int .i64 0] 87))
  have hn : Vw (wr.alloc (.cells #[.pointer (some ⟨bm, 0, none⟩), .int .i64 kv, .int .i64 0] 87)) wr.heap.size bm kv 0 := heap_alloc_new wr _
  have hlt : ∀ t, t < kv → vw t < wr.heap.size := fun t ht => vw_lt (h.v t ht).1
  have hbs := h.b.size
  have hbl := h.brlt
  clear h
  generalize wr.alloc (.cells #[.pointer (some ⟨bm, 0, none⟩), .int .i64 kv, .int .i64 0] 87) = W at h1 hn ⊢
  obtain ⟨rc, r0, r1, r2, r3, r4, r5, r6, r7⟩ := h1.r
  have mv : ∀ {j : Nat} {T : TypeId} {cs : Array Value}, Bk j T cs W → j ≠ br → Bk j T cs (W.setCell ⟨br, 2 + kv, none⟩ (.pointer (some ⟨wr.heap.size, 0, none⟩))) := fun {j T cs} hj hn => (Below.heap_setCell _ _ _ _ hn).trans hj
  refine ⟨Below.setCell (p := ⟨br, 2 + kv, none⟩) h1.b h1.ge _, h1.ge, ⟨_, r0.put (2 + kv) (.pointer (some ⟨wr.heap.size, 0, none⟩)), ?_, ?_, fun t ht => ?_, ?_, ?_, ?_, ?_⟩, ?_, h1.z, fun t ht => ?_, fun t t' ht ht' he => ?_, fun t ht => ?_⟩
  · rw [Array.getElem?_setIfInBounds_ne (by omega)]; exact r1
  · rw [Array.getElem?_setIfInBounds_ne (by omega)]; exact r2
  · by_cases he : t = kv
    · subst he
      rw [Array.getElem?_setIfInBounds_self_of_lt (by omega), upd_same]
    · rw [Array.getElem?_setIfInBounds_ne (by omega), upd_ne _ _ he]; exact r3 t (by omega)
  · rw [Array.getElem?_setIfInBounds_ne (by omega)]; exact r4
  · rw [Array.getElem?_setIfInBounds_ne (by omega)]; exact r5
  · rw [Array.getElem?_setIfInBounds_ne (by omega)]; exact r6
  · rw [Array.size_setIfInBounds]; exact r7
  · exact own_move h1.t fun k hk => Below.heap_setCell _ _ _ _ fun e => h1.br_tv (by rw [hk, e])
  · by_cases he : t = kv
    · subst he
      rw [upd_same]
      exact ⟨mv hn (by omega), hbs⟩
    · rw [upd_ne _ _ he]
      exact ⟨mv (h1.v t (by omega)).1 (Bk.ne (h1.v t (by omega)).1 r0 (by decide)), (h1.v t (by omega)).2⟩
  · by_cases e1 : t = kv
    · by_cases e2 : t' = kv
      · rw [e1, e2]
      · rw [e1, upd_same, upd_ne _ _ e2] at he
        have := hlt t' (by omega)
        omega
    · by_cases e2 : t' = kv
      · rw [e2, upd_same, upd_ne _ _ e1] at he
        have := hlt t (by omega)
        omega
      · rw [upd_ne _ _ e1, upd_ne _ _ e2] at he
        exact h1.vi t t' (by omega) (by omega) he
  · obtain ⟨q1, q2⟩ := h1.p t ht
    refine ⟨q1, fun hp => ?_⟩
    obtain ⟨e1, e2, pcs, e3, e4⟩ := q2 hp
    exact ⟨e1, e2, pcs, mv e3 (Bk.ne e3 r0 (by decide)), e4⟩
/-- The runner that has been made. -/
theorem NI.rn (h : NI w wr br bm kt kt cnt pv tv pr pcap vw pb) (h64 : kt ≤ 64) (hc : ∀ t, t < kt → cnt t ≤ 4096) : ∃ bt tcap, w.heap.size ≤ bt ∧ (∃ Tb cs, (Tb = 105 ∨ Tb = 100) ∧ Bk bt Tb cs wr) ∧ Rn wr br bt bm kt tcap pr cnt pcap vw (.slice none 0 0) (.slice none 0 0) ⟨fun _ => 0, fun _ => false, 0, 0, [], []⟩ := by
  obtain ⟨rc, r0, r1, r2, r3, r4, r5, r6, r7⟩ := h.r
  have e0 : ∀ (T : TypeId) (z : Nat), wr.ownsRow 0 T z (.slice none 0 0) 0 [] := fun T z => ⟨by simp, .inl ⟨rfl, rfl⟩⟩
  by_cases hk : 0 < kt
  · rcases h.t.2 with ⟨e, e2⟩ | ⟨g, cap, cur, e, hb, hh, q1, q2, q3, q4⟩
    · omega
    · subst e
      refine ⟨g, cap, hb, ⟨_, cur, .inl rfl, hh⟩, ⟨⟨rc, r0, r1, by rw [if_pos hk]; exact r2, r3, r4, r5, r6, r7⟩, fun _ => ⟨cur, hh, fun t ht => ?_, by omega⟩, e0 _ _, e0 _ _, h64, q1, fun t ht => ⟨Nat.zero_le _, hc t ht, (h.p t ht).1⟩, fun t ht e => by cases e⟩⟩
      have hx : ∀ i, i < 3 * kt → cur[i]? = (thC pr cnt pcap kt)[i]? := fun i hi => by
        rw [← q4, List.getElem?_take, if_pos (by omega), Array.getElem?_toList]
      obtain ⟨a1, a2, a3⟩ := thC_at pr cnt pcap kt ht
      rw [hx _ (by omega), hx _ (by omega), hx _ (by omega)]
      exact ⟨a1, a2, a3⟩
  · have hk0 : kt = 0 := by omega
    subst hk0
    have := h.z rfl
    subst this
    exact ⟨br, 0, h.ge, ⟨_, rc, .inr rfl, r0⟩, ⟨⟨rc, r0, r1, by rw [if_neg (by omega)]; exact r2, r3, r4, r5, r6, r7⟩, fun hT => absurd hT (by omega), e0 _ _, e0 _ _, h64, Nat.le_refl _, fun t ht => absurd ht (by omega), fun t ht => absurd ht (by omega)⟩⟩
end
end Go.Proofs.YtndgfpfcdppfgaaGreatDoor

/- step.New, walked. No condition. -/
namespace Go.Proofs.YtndgfpfcdppfgaaGreatDoor
open Go.RowKit Go.Proofs.YtndgfpfcdppfgaaGreatDoorW.PrintWords Go.Proofs.YtndgfpfcdppfgaaGreatDoorW.PrintMore
set_option linter.unusedVariables false
set_option linter.unusedSimpArgs false
theorem infoThr : (Tryz.prog.info? 105).map (fun i => (i.zero, i.size, i.bytes)) = some (some (.agg #[.slice none 0 0, .int .i64 0, .bool false]), 3, 40) := by kernel_rfl
/-- What a clone of a thread's procs comes to. -/
def ClIn (w : World) (T : Nat) (P : Nat → Option Addr) (cnt pc : Nat → Nat) (pv : Nat → Nat → Value) : Prop := ∀ t, t < T → ∀ wx, Below w.heap.size w wx → Calls Tryz.prog 23 #[.slice (P t) (cnt t) (pc t)] wx fun e w' =>
  ∃ a c g, e = .returned (.slice a (cnt t) c) ∧ cnt t ≤ c ∧ Below wx.heap.size wx w' ∧ (0 < cnt t → a = some ⟨g, 0, none⟩ ∧ wx.heap.size ≤ g ∧ ∃ pcs, Bk g 103 pcs w' ∧ ∀ j, j < cnt t → pcs[j]? = some (pv t j))
theorem clIn {w : World} {T : Nat} {P : Nat → Option Addr} {cnt pc : Nat → Nat} {pv : Nat → Nat → Value} (hm : ∀ t, t < T → cnt t ≤ 4096) (h1 : ∀ t j, (pv t j).oneCell' = true) (h : ∀ t, t < T → (cnt t = 0 ∧ P t = none ∧ pc t = 0) ∨ (0 < cnt t ∧ ∃ p, P t = some p ∧ ∀ j, j < cnt t → w.cell? (p.add j) = some (pv t j))) : ClIn w T P cnt pc pv := by
  intro t ht wx hb
  have hm := hm t ht
  rcases h t ht with ⟨e1, e2, e3⟩ | ⟨h0, p, e1, e2⟩
  · rw [e1, e2, e3]
    refine (pclone_nil wx).mono ?_
    rintro e w' ⟨rfl, rfl⟩
    exact ⟨none, 0, 0, rfl, Nat.le_refl _, Below.refl _ _, fun hk => absurd hk (by omega)⟩
  · rw [e1]
    have hv : ∀ (j : Nat) (u : Value), ((List.range (cnt t)).map (pv t))[j]? = some u → j < cnt t ∧ u = pv t j := fun j u hu => by
      have hj : j < cnt t := by
        have := (List.getElem?_eq_some_iff.1 hu).1
        simpa using this
      rw [List.getElem?_map, List.getElem?_range hj] at hu
      injection hu with hu
      exact ⟨hj, hu.symm⟩
    refine (pclone_calls wx p (cnt t) (pc t) ((List.range (cnt t)).map (pv t)) (by simp) h0 (by omega) (fun u hu => ?_) fun j u hu => ?_).mono ?_
    · obtain ⟨j, _, rfl⟩ := List.mem_map.1 hu
      exact h1 t j
    · obtain ⟨hj, rfl⟩ := hv j u hu
      have := e2 j hj
      exact (World.cell?_of_block (hb.block _ (World.block_lt_of_cell? _ _ this))).trans this
    · rintro e w' ⟨g, cap, rfl, ho, hb2⟩
      rcases ho.2 with ⟨e, _⟩ | ⟨g', cap', cur, e, hbs, hh, q1, q2, q3, q4⟩
      · cases e
      · injection e with e e4 e5
        injection e with e
        injection e with e
        subst e
        subst e5
        refine ⟨_, _, g, rfl, q1, hb2, fun _ => ⟨rfl, hbs, cur, hh, fun j hj => ?_⟩⟩
        have hx : ((List.range (cnt t)).map (pv t))[j]? = some (pv t j) := by
          rw [List.getElem?_map, List.getElem?_range hj]; rfl
        rw [← q4, List.getElem?_take, if_pos (by omega), Array.getElem?_toList] at hx
        exact hx
section
variable {w : World} {A : Option Addr} {bm T cap : Nat} {P : Nat → Option Addr} {cnt pc : Nat → Nat} {pv : Nat → Nat → Value}
set_option maxHeartbeats 8000000 in
set_option maxRecDepth 100000 in
theorem snew_calls (hth : ThIn w A T P cnt pc) (hT : T ≤ 64) (hcl : ClIn w T P cnt pc pv) :
    Calls Tryz.prog 9 #[.pointer (some ⟨bm, 0, none⟩), .slice A T cap] w fun e w' => ∃ br tv pr pcap vw pb, e = .returned (.tuple #[.pointer (some ⟨br, 0, none⟩), .int .i64 0]) ∧ NI w w' br bm T T cnt pv tv pr pcap vw pb := by
  have HCF := Lib.hid (cf_calls (cap := cap) hth (by omega))
  have HTH := Aside0.mk hth
  have HCL := Lib.hid hcl
  have hT' : ¬ (64 : Int) < (T : Int) := by omega
  clear hth hcl
  go_enter Tryz.func9, Tryz.ntmps9
  go_wp2_with (go_at_call 21; refine HCF.out.mono ?_; rintro e1 w1 ⟨rfl, hb1⟩)
  have H0 : NI w (w1.alloc (.cells (Tryz.zeroCells100.setIfInBounds 0 (.pointer (some ⟨bm, 0, none⟩))) 100)) w1.heap.size bm 0 0 cnt pv (.slice none 0 0) (fun _ => none) (fun _ => 0) (fun _ => 0) (fun _ => 0) :=
    ⟨hb1.alloc hb1.size _, hb1.size, ⟨_, Bk.new w1 _ _, by kernel_rfl, by kernel_rfl, fun t ht => absurd ht (by omega), by kernel_rfl, by kernel_rfl, by kernel_rfl, by kernel_rfl⟩, ⟨by rfl, .inl ⟨rfl, rfl⟩⟩, fun _ => rfl, fun t ht => absurd ht (by omega), fun t t' ht => absurd ht (by omega), fun t ht => absurd ht (by omega)⟩
  have HA := Aside0.mk H0
  clear H0 hb1 HCF
  generalize w1.alloc (.cells (Tryz.zeroCells100.setIfInBounds 0 (.pointer (some ⟨bm, 0, none⟩))) 100) = w2 at HA ⊢
  generalize w1.heap.size = br at HA ⊢
  go_loopw [23] (fun s23 wr => ∃ (k : Nat) (tv : Value) (pr : Nat → Option Addr) (pcap vw pb : Nat → Nat), k ≤ T ∧ s23 = .int .i64 k ∧ Aside0 (NI w wr br bm k k cnt pv tv pr pcap vw pb)) (fun s23 _ => T - (intOf s23).toNat)
  case atStart => exact ⟨0, _, _, _, _, _, Nat.zero_le _, rfl, HA⟩
  case round =>
    obtain ⟨k, tv, pr, pcap, vw, pb, hk, rfl, HN⟩ := hrel
    clear HA
    by_cases hlt : k < T
    · have hlt' : (k : Int) < (T : Int) := by omega
      obtain ⟨a, rfl, h1, h2⟩ := (HTH.out.below HN.out.b) k hlt
      go_upto_region 9 with fail
      clear h1
      obtain ⟨c1, f1⟩ := HN.out.c1
      obtain ⟨A0, c0, htv⟩ := own_slice HN.out.t
      subst htv
      obtain ⟨i1, hi1, hx0, hx1, hx2⟩ := info_parts infoThr
      have hbr := HN.out.brlt
      have htb := HN.out.br_tv
      have HC := Lib.hid (HCL.out k hlt wr.drew HN.out.b.drew)
      have hT1 := HN.out.t
      have HT1 := Aside0.mk hT1
      clear hT1
      rename_i KK hKK
      apply gather (P := fun F : World → Nat → Nat → Option Addr → Nat → Act => ∀ w3 cl cc gg gcap wq, NI w w3 br bm k k cnt pv (.slice A0 k c0) pr pcap vw pb → cnt k ≤ cc → (0 < cnt k → ∃ g, cl = some ⟨g, 0, none⟩ ∧ w.heap.size ≤ g ∧ ∃ pcs, Bk g 103 pcs w3 ∧ ∀ j, j < cnt k → pcs[j]? = some (pv k j)) → wq.ownsRow w.heap.size 105 3 (.slice (some ⟨gg, 0, none⟩) (k + 1) gcap) (k + 1) (thC pr cnt pcap k ++ [.slice cl (cnt k) cc, .int .i64 0, .bool false]) → w3.grownBy wq (Value.slice A0 k c0).ownBlock → ((Value.slice A0 k c0).ownBlock = some gg ∨ gg = w3.heap.size + 1) → KK (F w3 gg gcap cl cc) (wq.setCell ⟨br, 1, none⟩ (.slice (some ⟨gg, 0, none⟩) (k + 1) gcap)))
      · intro REST
        go_region_law (first
        | (refine step_append_lies _ (by rfl) _ _ _ (by rfl) w.heap.size 105 i1 _ 3 40 Tryz.underlying97 hi1 hx0 hx1 hx2 rfl (by omega) (.slice A0 k c0) k (thC pr cnt pcap k) (by rfl) (HT3.out.alloc _) ⟨w3.heap.size, 0, none⟩ 1 1 [.slice cl (cnt k) cc, .int .i64 0, .bool false] (by rfl) (by rfl) (World.news_of_block (cs := [.slice cl (cnt k) cc, .int .i64 0, .bool false].toArray) (t := 105) (fr := (0, 0)) (heap_alloc_new w3 _)) (by simp [Value.oneCell']) (by omega) (by unfold maxLen; omega) (by omega) (by simp; omega) (w3.heap.size + 1) (by simp) ?_; intro gg gcap wq hown1 hgrow hat hlt2; have fm2 : wq.frozen? ⟨br, 1, none⟩ = false := (hgrow.frozen_far _ (by simp; omega) (Ne.symm htb)).trans ((World.frozen?_alloc_past _ _ _ hbr3).trans hf3); have cm2 := (hgrow.cell_far ⟨br, 1, none⟩ (by simp; omega) (Ne.symm htb)).trans ((World.cell?_alloc_past _ _ _ hbr3).trans hc3))
        | (go_simp; go_at_call 23; refine HC.out.mono ?_; rintro e3 w3 ⟨cl, cc, g, rfl, hcc, hb3, hcp⟩; have H3 := Aside0.mk (HN.out.below (W := w3) ⟨hb3.os, hb3.tape, hb3.output, hb3.size, hb3.block⟩); have HP := Aside0.mk hcp; have hc3 := H3.out.c1.1; have hf3 := H3.out.c1.2; have hbr3 := H3.out.brlt; have HT3 := Aside0.mk H3.out.t; have hs3 := H3.out.b.size; clear hcp))
        all_goals exact REST _ _ _ _ _ _ H3.out hcc (fun hk => ⟨g, (HP.out hk).1, Nat.le_trans HN.out.b.size (HP.out hk).2.1, (HP.out hk).2.2⟩) hown1 ((World.grownBy_alloc w3 _ _).trans hgrow) hat
      intro w3 cl cc gg gcap wq n1 n2 n3 n4 n5 n6
      refine hKK _ _ ?_
      clear hKK KK HC HT1 c1 f1
      obtain ⟨g, hgp⟩ : ∃ g, (0 < cnt k → cl = some ⟨g, 0, none⟩ ∧ w.heap.size ≤ g ∧ ∃ pcs, Bk g 103 pcs w3 ∧ ∀ j, j < cnt k → pcs[j]? = some (pv k j)) := by
        by_cases hk0 : 0 < cnt k
        · obtain ⟨g, hg⟩ := n3 hk0
          exact ⟨g, fun _ => hg⟩
        · exact ⟨0, fun hk => absurd hk hk0⟩
      have H4 := Aside0.mk (n1.thr n2 hgp n5 n4 (n6.imp (fun e => e.symm) fun e => ⟨gg, rfl, by omega⟩))
      clear n1 n2 n3 n4 n5 n6 hgp
      generalize wq.setCell ⟨br, 1, none⟩ (.slice (some ⟨gg, 0, none⟩) (k + 1) gcap) = w4 at H4 ⊢
      go_upto_region 10 with fail
      have hk64 : (k : Int) < 64 := by omega
      have H5 := Aside0.mk (H4.out.below ((Below.refl _ _).drew))
      have hbr5 := H5.out.brlt
      have HV := Lib.hid (view_calls w4.drew bm k)
      obtain ⟨rc, r0, _, _, _, _, _, _, r7⟩ := H5.out.r
      obtain ⟨vo, hvo⟩ : ∃ vo, rc[2 + k]? = some vo := ⟨rc[2 + k]'(by omega), Array.getElem?_eq_getElem _⟩
      have c6 : (w4.alloc (.cells #[.pointer (some ⟨bm, 0, none⟩), .int .i64 k, .int .i64 0] 87)).cell? ⟨br, 2 + k, none⟩ = some vo := (World.cell?_alloc_past _ _ _ hbr5).trans (r0.cell hvo)
      have f5 := r0.frozen (2 + k)
      have f6 : (w4.alloc (.cells #[.pointer (some ⟨bm, 0, none⟩), .int .i64 k, .int .i64 0] 87)).frozen? ⟨br, 2 + k, none⟩ = false := (World.frozen?_alloc_past _ _ _ hbr5).trans f5
      rename_i K2 hK2 _ _ _ _ _ _
      have HK2 := Lib.hid hK2
      clear hK2
      go_region_held3 (fun _ => True) (trivial) (first
        | (go_at_call 5; refine HV.out.mono ?_; rintro e6 w6 ⟨rfl, rfl⟩))
      have H6 := Aside0.mk ((H4.out.view (by omega)).below ((Below.refl _ _).drew))
      clear H4 H5 HV c6 f6 f5 r0 HN
      generalize ((w4.alloc (.cells #[.pointer (some ⟨bm, 0, none⟩), .int .i64 k, .int .i64 0] 87)).setCell ⟨br, 2 + k, none⟩ (.pointer (some ⟨w4.heap.size, 0, none⟩))).drew = w7 at H6 ⊢
      refine HK2.out _ _ ?_
      clear HK2
      go_wp2
      exact ⟨⟨k + 1, _, _, _, _, _, hlt, by rfl, H6⟩, by simp [intOf]; omega⟩
    · have hlt' : ¬ (k : Int) < (T : Int) := by omega
      have he : k = T := by omega
      subst he
      go_wp2
      go_ret2
      exact ⟨br, rfl, tv, pr, pcap, vw, pb, HN.out⟩
end
end Go.Proofs.YtndgfpfcdppfgaaGreatDoor

/- Takes beside a memory and views: what a runner's procs work on. No condition. -/
namespace Go.Proofs.YtndgfpfcdppfgaaGreatDoor
open Go.RowKit Go.Proofs.YtndgfpfcdppfgaaGreatDoorW.PrintWords Go.Proofs.YtndgfpfcdppfgaaGreatDoorW.PrintMore
set_option linter.unusedVariables false
set_option linter.unusedSimpArgs false
/-- A memory whose blocks XM holds. -/
def MX (w : World) (XM : Nat → Prop) (bm bp bc : Nat) (cs : List Int) (fr n : Nat) (xs : List Value) : Prop := Mem w (fun j => j < w.heap.size ∧ ¬ XM j) bm bp bc cs fr n xs ∧ ∀ j, XM j → j < w.heap.size
section
variable {w W : World} {XM : Nat → Prop} {bm bp bc : Nat} {cs : List Int} {fr n : Nat} {xs : List Value}
theorem MX.far (h : MX w XM bm bp bc cs fr n xs) (hs : w.heap.size ≤ W.heap.size) (hb : ∀ j, XM j → W.heap[j]? = w.heap[j]?) : MX W XM bm bp bc cs fr n xs := by
  obtain ⟨hM, hl⟩ := h
  obtain ⟨tv, h1, h2, h3⟩ := hM.m
  have l1 := (Array.getElem?_eq_some_iff.1 h1).1
  have l2 := (Array.getElem?_eq_some_iff.1 hM.p).1
  have l3 := (Array.getElem?_eq_some_iff.1 hM.c).1
  have nx : ∀ j, j < w.heap.size → ¬ (j < w.heap.size ∧ ¬ XM j) → XM j := fun j hj hn => Classical.byContradiction fun hx => hn ⟨hj, hx⟩
  refine ⟨⟨⟨tv, (hb _ (nx _ l1 hM.nk.1)).trans h1, own_move h2 fun k hk => hb k (nx _ (own_lt h2 k hk) (h3 k hk).1), fun j hj => ⟨fun hk => hk.2 (nx _ (own_lt h2 j hj) (h3 j hj).1), (h3 j hj).2⟩⟩, (hb _ (nx _ l2 hM.nk.2.1)).trans hM.p, (hb _ (nx _ l3 hM.nk.2.2)).trans hM.c, hM.ne,
    ⟨fun hk => hk.2 (nx _ l1 hM.nk.1), fun hk => hk.2 (nx _ l2 hM.nk.2.1), fun hk => hk.2 (nx _ l3 hM.nk.2.2)⟩, fun j hj => hj.1, hM.len, hM.nlt⟩, fun j hj => Nat.lt_of_lt_of_le (hl j hj) hs⟩
/-- The memory has done something. -/
theorem MX.next {K : Nat → Prop} (hM : Mem W K bm bp bc cs fr n xs) (hK : ∀ j, K j ↔ j < w.heap.size ∧ ¬ XM j) (hs : w.heap.size ≤ W.heap.size) : MX W (fun j => j < W.heap.size ∧ (XM j ∨ w.heap.size ≤ j)) bm bp bc cs fr n xs := by
  refine ⟨hM.less fun j hj => (hK j).2 ?_, fun j hj => hj.1⟩
  by_cases hx : XM j
  · exact absurd ⟨hj.1, .inl hx⟩ hj.2
  · by_cases hl : w.heap.size ≤ j
    · exact absurd ⟨hj.1, .inr hl⟩ hj.2
    · exact ⟨by omega, hx⟩
end
/-- The state of takes. -/
structure TS where
  cs : List Int
  n : Nat
  xs : List Value
  md : Nat → Int
  tk : Nat → Nat → TkS
def upd2 {α : Type} (f : Nat → Nat → α) (t k : Nat) (x : α) : Nat → Nat → α := upd f t (upd (f t) k x)
theorem upd2_same {α : Type} (f : Nat → Nat → α) (t k : Nat) (x : α) : upd2 f t k x t k = x := by unfold upd2; rw [upd_same, upd_same]
theorem upd2_ne {α : Type} (f : Nat → Nat → α) {t k i j : Nat} (x : α) (h : ¬ (i = t ∧ j = k)) : upd2 f t k x i j = f i j := by
  unfold upd2
  by_cases hi : i = t
  · subst hi
    rw [upd_same, upd_ne _ _ fun e => h ⟨rfl, e⟩]
  · rw [upd_ne _ _ hi]
/-- The views' and the takes' blocks. -/
def TO (T : Nat) (cnt vw : Nat → Nat) (pa : Nat → Nat → Nat) (j : Nat) : Prop := (∃ t, t < T ∧ j = vw t) ∨ ∃ t k, t < T ∧ k < cnt t ∧ j = pa t k
structure TE (T : Nat) (cnt vw : Nat → Nat) (pa : Nat → Nat → Nat) (bm bp bc fr : Nat) (most : Int) (s : TS) (X : Nat → Prop) (w : World) : Prop where
  ex : ∃ XM, (∀ j, X j ↔ XM j ∨ TO T cnt vw pa j) ∧ MX w XM bm bp bc s.cs fr s.n s.xs ∧ (∀ t, t < T → ¬ XM (vw t)) ∧ ∀ t k, t < T → k < cnt t → ¬ XM (pa t k)
  v : ∀ t, t < T → Vw w (vw t) bm t (s.md t)
  p : ∀ t k, t < T → k < cnt t → Bk (pa t k) 94 (tkC 1 most (s.tk t k)) w
section
variable {T : Nat} {cnt vw : Nat → Nat} {pa : Nat → Nat → Nat} {bm bp bc fr : Nat} {most : Int} {s : TS} {X : Nat → Prop} {w W : World}
theorem TE.lt (h : TE T cnt vw pa bm bp bc fr most s X w) : ∀ j, X j → j < w.heap.size := by
  obtain ⟨XM, hx, hm, _⟩ := h.ex
  intro j hj
  rcases (hx j).1 hj with e | ⟨t, ht, rfl⟩ | ⟨t, k, ht, hk, rfl⟩
  · exact hm.2 j e
  · exact vw_lt (h.v t ht)
  · exact (h.p t k ht hk).lt
theorem TE.far (h : TE T cnt vw pa bm bp bc fr most s X w) (hs : w.heap.size ≤ W.heap.size) (hb : ∀ j, X j → W.heap[j]? = w.heap[j]?) : TE T cnt vw pa bm bp bc fr most s X W := by
  obtain ⟨XM, hx, hm, hv, hp⟩ := h.ex
  exact ⟨⟨XM, hx, hm.far hs fun j hj => hb j ((hx j).2 (.inl hj)), hv, hp⟩, fun t ht => (hb _ ((hx _).2 (.inr (.inl ⟨t, ht, rfl⟩)))).trans (h.v t ht), fun t k ht hk => (hb _ ((hx _).2 (.inr (.inr ⟨t, k, ht, hk, rfl⟩)))).trans (h.p t k ht hk)⟩
theorem TE.mem (h : TE T cnt vw pa bm bp bc fr most s X w) : ∃ K, Mem w K bm bp bc s.cs fr s.n s.xs := by
  obtain ⟨XM, hx, hm, _⟩ := h.ex
  exact ⟨_, hm.1⟩
/-- One of them has done something. -/
theorem TE.next (h : TE T cnt vw pa bm bp bc fr most s X w) (hvi : ∀ t t', t < T → t' < T → vw t = vw t' → t = t') (hpi : ∀ t k t' k', t < T → k < cnt t → t' < T → k' < cnt t' → pa t k = pa t' k' → t = t' ∧ k = k')
    {t k : Nat} (ht : t < T) (hk : k < cnt t) {Q : Bool → List Int → Nat → List Value → Int → TkS → Prop}
    (hstep : ∀ K, K (vw t) → Pw w w K bm bp bc s.cs fr s.n s.xs (vw t) t (s.md t) (pa t k) (tkC 1 most (s.tk t k)) 94 → Calls Tryz.prog 127 #[.pointer (some ⟨pa t k, 0, none⟩), .pointer (some ⟨vw t, 0, none⟩)] w fun e w' => ∃ done cs' n' xs' md' τ', Q done cs' n' xs' md' τ' ∧ e = .returned (.bool done) ∧ Pw w w' K bm bp bc cs' fr n' xs' (vw t) t md' (pa t k) (tkC 1 most τ') 94) :
    Calls Tryz.prog 127 #[.pointer (some ⟨pa t k, 0, none⟩), .pointer (some ⟨vw t, 0, none⟩)] w fun e w' => ∃ done cs' n' xs' md' τ' X', Q done cs' n' xs' md' τ' ∧ e = .returned (.bool done) ∧ TE T cnt vw pa bm bp bc fr most ⟨cs', n', xs', upd s.md t md', upd2 s.tk t k τ'⟩ X' w' ∧ Kept (fun j => ¬ X j) w w' ∧ ∀ j, X' j → X j ∨ w.heap.size ≤ j := by
  obtain ⟨XM, hx, hm, hv, hp⟩ := h.ex
  have lv := vw_lt (h.v t ht)
  have lp := (h.p t k ht hk).lt
  refine (hstep _ ⟨lv, hv t ht⟩ ⟨hm.1, h.v t ht, h.p t k ht hk, ⟨lv, hv t ht⟩, ⟨lp, hp t k ht hk⟩, Bk.ne (h.p t k ht hk) (h.v t ht) (by decide), Kept.refl _ _⟩).mono ?_
  rintro e w' ⟨done, cs', n', xs', md', τ', hQ, he, hP⟩
  have hs := hP.fr0.size
  have nt : ∀ {a b : Nat}, a < T → b < T → ∀ {k}, k < cnt b → vw a ≠ pa b k := fun ha hb _ hk e => Bk.ne (h.v _ ha) (h.p _ _ hb hk) (by decide) e
  refine ⟨done, cs', n', xs', md', τ', _, hQ, he, ⟨⟨_, fun j => Iff.rfl, MX.next (w := w) hP.mem (fun j => Iff.rfl) hs, fun t' ht' e => ?_, fun t' k' ht' hk' e => ?_⟩, fun t' ht' => ?_, fun t' k' ht' hk' => ?_⟩, hP.fr0.mono fun j hj hn => ?_, fun j hj => ?_⟩
  · have := vw_lt (h.v t' ht')
    exact e.2.elim (hv t' ht') fun e2 => by omega
  · have := (h.p t' k' ht' hk').lt
    exact e.2.elim (hp t' k' ht' hk') fun e2 => by omega
  · by_cases et : t' = t
    · subst et
      show Vw w' (vw t') bm t' (upd s.md t' md' t')
      rw [upd_same]
      exact hP.vw
    · show Vw w' (vw t') bm t' (upd s.md t md' t')
      rw [upd_ne _ _ et]
      exact (hP.fr0.block _ ⟨⟨vw_lt (h.v t' ht'), hv t' ht'⟩, fun e => et (hvi _ _ ht' ht e), nt ht' ht hk⟩ (vw_lt (h.v t' ht'))).trans (h.v t' ht')
  · by_cases et : t' = t ∧ k' = k
    · obtain ⟨rfl, rfl⟩ := et
      show Bk _ _ (tkC 1 most (upd2 s.tk t' k' τ' t' k')) w'
      rw [upd2_same]
      exact hP.ob
    · show Bk _ _ (tkC 1 most (upd2 s.tk t k τ' t' k')) w'
      rw [upd2_ne _ _ et]
      exact (hP.fr0.block _ ⟨⟨(h.p t' k' ht' hk').lt, hp t' k' ht' hk'⟩, fun e => nt ht ht' hk' e.symm, fun e => et (hpi _ _ _ _ ht' hk' ht hk e)⟩ (h.p t' k' ht' hk').lt).trans (h.p t' k' ht' hk')
  · have h1 : ¬ XM j := fun e => hn ((hx j).2 (.inl e))
    exact ⟨⟨hj, h1⟩, fun e => hn ((hx j).2 (.inr (.inl ⟨t, ht, e⟩))), fun e => hn ((hx j).2 (.inr (.inr ⟨t, k, ht, hk, e⟩)))⟩
  · rcases hj with ⟨_, e | e⟩ | e
    · exact .inl ((hx j).2 (.inl e))
    · exact .inr e
    · exact .inl ((hx j).2 (.inr e))
/-- What they are to a runner. -/
def envT (T : Nat) (cnt vw : Nat → Nat) (pa : Nat → Nat → Nat) (bm bp bc fr : Nat) (most : Int) : PEnv TS bm where
  E := TE T cnt vw pa bm bp bc fr most
  lt := fun h => h.lt
  far := fun h hs hb => h.far hs hb
  made := fun s => s.n
  made_calls := fun h => by
    obtain ⟨K, hM⟩ := h.mem
    exact made_calls hM
  made_le := fun h => by
    obtain ⟨K, hM⟩ := h.mem
    exact hM.nlt
end
end Go.Proofs.YtndgfpfcdppfgaaGreatDoor
