/- hist.First, called with any spans and any marks, tells what 'hist_First.f' says, in new memory. -/
import Derived.Test.YtndgfpfcdppfgaaGreatDoorHistFirstSpec
import Derived.Lib.Hide
import Derived.Outline
import Derived.BigFrameIn
import Derived.BigQuiet
import Derived.OpenShut
namespace Go.Proofs.YtndgfpfcdppfgaaGreatDoor.Own
open Go.RowKit Go.Proofs.YtndgfpfcdppfgaaGreatDoorW.PrintWords Go.Proofs.YtndgfpfcdppfgaaGreatDoorW.PrintLast Go.Proofs.YtndgfpfcdppfgaaGreatDoorW.PrintMore
set_option linter.unusedVariables false
set_option linter.unusedSimpArgs false
namespace HF
theorem blk_at {w w1 : World} {b : Nat} {o : Obj} (h : w.heap[b]? = some o) (hb : Below w.heap.size w w1) : w1.heap[b]? = some o := (hb.block b (Array.getElem?_eq_some_iff.1 h).1).trans h
set_option maxRecDepth 100000 in
theorem ahead (a b : S49) (w : World) : Calls Tryz.prog 16 #[.agg #[.int .i64 a.f0, .int .i64 a.f1, .int .i64 a.f2, .int .i64 a.f3], .agg #[.int .i64 b.f0, .int .i64 b.f1, .int .i64 b.f2, .int .i64 b.f3]] w fun e w' => e = .returned (.bool (aheadB a b)) ∧ Below w.heap.size w w' := by
  have hu36 := Tryz.underlying49
  obtain ⟨a0, a1, a2, a3⟩ := a
  obtain ⟨b0, b1, b2, b3⟩ := b
  have hd : aheadB ⟨a0, a1, a2, a3⟩ ⟨b0, b1, b2, b3⟩ = (decide (0 ≤ a3) && decide (a3 < b2)) := rfl
  by_cases h : 0 ≤ a3
  · have p : decide (0 ≤ a3) = true := decide_eq_true h
    rw [p, Bool.true_and] at hd
    rw [hd]
    clear hd
    go_enter Tryz.func16, Tryz.ntmps16
    go_wp2
    go_ret
    exact ⟨rfl, ((Below.refl _ _).alloc (Nat.le_refl _) _).alloc (by simp) _⟩
  · have p : decide (0 ≤ a3) = false := decide_eq_false h
    rw [p, Bool.false_and] at hd
    rw [hd]
    clear hd
    go_enter Tryz.func16, Tryz.ntmps16
    go_wp2
    go_ret
    exact ⟨rfl, ((Below.refl _ _).alloc (Nat.le_refl _) _).alloc (by simp) _⟩
set_option maxRecDepth 100000 in
theorem inside (i : Nat) (A1 : Option Addr) (c1 : Nat) (l1 : List Bool) (bL : Nat) (w : World) (hb : w.cell? ⟨bL, 0, none⟩ = some (.slice A1 l1.length c1)) (hr1 : Kd.C Kd.bool w A1 l1.length l1) :
    Calls Tryz.prog 59 #[.int .i64 (i : Int), .pointer (some ⟨bL, 0, none⟩)] w fun e w' => e = .returned (.bool (l1.getD i false)) ∧ w = w' := by
  by_cases hi : i < l1.length
  · have h0 : (0 : Int) ≤ (i : Int) := by omega
    have h1 : (i : Int) < (l1.length : Int) := by omega
    obtain ⟨ad, rfl, hc⟩ := Kd.at_bool hr1 (i : Int) h0 h1
    rw [Int.toNat_natCast] at hc
    have e1 : rdOf false l1 (i : Int) = l1.getD i false := rfl
    rw [e1] at hc
    generalize l1.getD i false = b at hc ⊢
    have p : decide (i < l1.length) = true := decide_eq_true hi
    clear hr1
    go_enter Tryz.func59, Tryz.ntmps59
    go_wp2
    go_ret
    exact ⟨rfl, rfl⟩
  · have p : decide (i < l1.length) = false := decide_eq_false hi
    have e1 : l1.getD i false = false := by rw [List.getD_eq_getElem?_getD, List.getElem?_eq_none (by omega)]; rfl
    rw [e1]
    clear hr1 e1
    go_enter Tryz.func59, Tryz.ntmps59
    go_wp2
    go_ret
    exact ⟨rfl, rfl⟩
theorem blk_grown {w w' : World} {row : Option Nat} {x : Nat} {o : Obj} (hg : w.grownBy w' row) (hx : w.heap[x]? = some o) (hne : some x ≠ row) : w'.heap[x]? = some o :=
  (hg.block x (Array.getElem?_eq_some_iff.1 hx).1 hne).trans hx
theorem stops_succ (l : List S49) (left : List Bool) (i n : Nat) : stops l left i (n + 1) = (stops l left i n || (left.getD n false && (n != i && aheadB (rd_T49 l (n : Int)) (rd_T49 l (i : Int))))) := by
  unfold stops
  rw [List.range_succ, List.any_append]
  simp
theorem firsts_succ (l : List S49) (left : List Bool) (n : Nat) : firsts l left (n + 1) = firsts l left n ++ (if left.getD n false && !stops l left n l.length then [Int.ofNat n] else []) := by
  unfold firsts
  rw [List.range_succ, List.filter_append, List.map_append]
  congr 1
  cases h : (left.getD n false && !stops l left n l.length) <;> simp only [List.filter_cons, List.filter_nil, h] <;> rfl
structure Rel (w wr : World) (A1 : Option Addr) (c1 : Nat) (l0 : List S49) (l1 : List Bool) (i : Nat) (v : Value) : Prop where
  out : Kd.R (Kd.int .i64) 3 wr w.heap.size (fun j => j ≠ w.heap.size) v (firsts l0 l1 i)
  box : wr.heap[w.heap.size]? = some (.cells #[.slice A1 l1.length c1] 118 (0, 0))
  below : Below w.heap.size w wr
theorem Rel.move {w wr w1 : World} {A1 : Option Addr} {c1 : Nat} {l0 : List S49} {l1 : List Bool} {i : Nat} {v : Value} (h : Rel w wr A1 c1 l0 l1 i v) (hb : Below wr.heap.size wr w1) : Rel w w1 A1 c1 l0 l1 i v :=
  ⟨Kd.R_below h.out hb, blk_at h.box hb, h.below.trans (hb.mono h.below.size)⟩
theorem len_firsts (l : List S49) (left : List Bool) (n : Nat) : (firsts l left n).length ≤ n := by
  unfold firsts
  rw [List.length_map]
  exact Nat.le_trans (List.length_filter_le _ _) (by simp)
end HF
open HF in
set_option maxHeartbeats 8000000 in
set_option maxRecDepth 100000 in
theorem hist_First.calls (A0 : Option Addr) (c0 : Nat) (l0 : List (S49)) (A1 : Option Addr) (c1 : Nat) (l1 : List Bool) (r : List Int) (w : World) (hr0 : Kd.C k49 w A0 l0.length l0) (hc0 : l0.length ≤ c0) (hr1 : Kd.C Kd.bool w A1 l1.length l1) (hc1 : l1.length ≤ c1) (h : hist_First.f l0 l1 = some r) :
    Calls Tryz.prog 50 #[.slice A0 l0.length c0, .slice A1 l1.length c1] w fun e w' => ∃ v0_ : Value, e = .returned (v0_) ∧ Kd.R (Kd.int .i64) 3 w' w.heap.size (fun _ => True) v0_ r ∧ Below w.heap.size w w' := by
  have hu36 := Tryz.underlying49
  have hlen : l0.length < 4398046511104 ∧ r = firsts l0 l1 l0.length := by
    unfold hist_First.f at h
    by_cases hc : l0.length < 4398046511104
    · rw [if_pos hc] at h; exact ⟨hc, (Option.some.inj h).symm⟩
    · rw [if_neg hc] at h; cases h
  obtain ⟨hlen, rfl⟩ := hlen
  have HR0 := Aside0.mk hr0
  have HR1 := Aside0.mk hr1
  clear hr0 hr1 h hc0 hc1
  go_enter Tryz.func50, Tryz.ntmps50
  go_wp2
  go_loopw [5, 15] (fun v5 v15 wr => ∃ (i : Nat), i ≤ l0.length ∧ v15 = .int .i64 i ∧ Aside0 (HF.Rel w wr A1 c1 l0 l1 i v5)) (fun _ i _ => l0.length - (intOf i).toNat)
  case atStart =>
    exact ⟨0, Nat.zero_le _, rfl, ⟨⟨Kd.R_nil _ _ _ _ _, by simpa using heap_alloc_new w _, (Below.refl _ _).alloc (Nat.le_refl _) _⟩⟩⟩
  case round =>
    obtain ⟨i, hi, rfl, HS⟩ := hrel
    by_cases hlt : i < l0.length
    · have hk0 : (0 : Int) ≤ (i : Int) := by omega
      have hkl : (i : Int) < (l0.length : Int) := by omega
      obtain ⟨ad, rfl, x0, x1, x2, x3⟩ := at_T49 (Kd.C_below HR0.out HS.out.below) (i : Int) hk0 hkl
      rw [Int.toNat_natCast] at x0 x1 x2 x3
      have HST := fun n => stops_succ l0 l1 i n
      have HSU := Aside0.mk HST
      clear HST
      generalize hs : rd_T49 l0 (i : Int) = sp at x0 x1 x2 x3 HSU
      have HSP := Aside0.mk hs
      clear hs
      obtain ⟨s0, s1, s2, s3⟩ := sp
      go_upto_region 6 with (fail)
      have HS1 := Aside0.mk (HS.out.move (w1 := wr.alloc (.cells #[.int .i64 s0, .int .i64 s1, .int .i64 s2, .int .i64 s3] 49)) ((Below.refl _ _).alloc (Nat.le_refl _) _))
      have HB8 := Aside0.mk (show (wr.alloc (.cells #[.int .i64 s0, .int .i64 s1, .int .i64 s2, .int .i64 s3] 49)).heap[wr.heap.size]? = some (.cells #[.int .i64 s0, .int .i64 s1, .int .i64 s2, .int .i64 s3] 49 (0, 0)) from by simpa using heap_alloc_new wr _)
      clear HS x0 x1 x2 x3
      generalize wr.alloc (.cells #[.int .i64 s0, .int .i64 s1, .int .i64 s2, .int .i64 s3] 49) = w1 at HS1 HB8 ⊢
      generalize wr.heap.size = b8 at HB8 ⊢
      go_wp2_with fail
      go_loopw [9, 22] (fun v9 v22 wi => ∃ (k : Nat), k ≤ l0.length ∧ v22 = .int .i64 k ∧ v9 = .bool (stops l0 l1 i k) ∧ Aside0 (Below w1.heap.size w1 wi)) (fun _ i _ => l0.length - (intOf i).toNat)
      case atStart => exact ⟨0, Nat.zero_le _, rfl, rfl, ⟨Below.refl _ _⟩⟩
      case round =>
        obtain ⟨k, hk, rfl, rfl, HW⟩ := hrel
        have HS2 := Aside0.mk (HS1.out.move HW.out)
        have HB82 := Aside0.mk (blk_at HB8.out HW.out)
        by_cases hlt2 : k < l0.length
        · have hk02 : (0 : Int) ≤ (k : Int) := by omega
          have hkl2 : (k : Int) < (l0.length : Int) := by omega
          obtain ⟨ad2, hae, p0, p1, p2, p3⟩ := at_T49 (Kd.C_below HR0.out HS2.out.below) (k : Int) hk02 hkl2
          injection hae with hae
          subst hae
          rw [Int.toNat_natCast] at p0 p1 p2 p3
          have HSK := Aside0.mk (HSU.out k)
          generalize rd_T49 l0 (k : Int) = op at p0 p1 p2 p3 HSK
          obtain ⟨o0, o1, o2, o3⟩ := op
          go_upto_region 10 with (fail)
          have HW3 := Aside0.mk (HW.out.trans ((Below.refl wr.heap.size wr |>.alloc (Nat.le_refl _) (.cells #[.int .i64 o0, .int .i64 o1, .int .i64 o2, .int .i64 o3] 49)).mono HW.out.size))
          have HB11 := Aside0.mk (show (wr.alloc (.cells #[.int .i64 o0, .int .i64 o1, .int .i64 o2, .int .i64 o3] 49)).heap[wr.heap.size]? = some (.cells #[.int .i64 o0, .int .i64 o1, .int .i64 o2, .int .i64 o3] 49 (0, 0)) from by simpa using heap_alloc_new wr _)
          clear p0 p1 p2 p3 HW HS2 HB82
          generalize wr.alloc (.cells #[.int .i64 o0, .int .i64 o1, .int .i64 o2, .int .i64 o3] 49) = w3 at HW3 HB11 ⊢
          generalize wr.heap.size = b11 at HB11 ⊢
          have HS3 := Aside0.mk (HS1.out.move HW3.out)
          have HB83 := Aside0.mk (blk_at HB8.out HW3.out)
          have HC1 := Aside0.mk (Kd.C_below HR1.out HS3.out.below)
          have hbox : w3.cell? ⟨w.heap.size, 0, none⟩ = some (.slice A1 l1.length c1) := (blk_cell HS3.out.box 0).trans rfl
          have y0 : w3.cell? ⟨b8, 0, none⟩ = some (.int .i64 s0) := (blk_cell HB83.out 0).trans rfl
          have y1 : w3.cell? ⟨b8, 1, none⟩ = some (.int .i64 s1) := (blk_cell HB83.out 1).trans rfl
          have y2 : w3.cell? ⟨b8, 2, none⟩ = some (.int .i64 s2) := (blk_cell HB83.out 2).trans rfl
          have y3 : w3.cell? ⟨b8, 3, none⟩ = some (.int .i64 s3) := (blk_cell HB83.out 3).trans rfl
          have z0 : w3.cell? ⟨b11, 0, none⟩ = some (.int .i64 o0) := (blk_cell HB11.out 0).trans rfl
          have z1 : w3.cell? ⟨b11, 1, none⟩ = some (.int .i64 o1) := (blk_cell HB11.out 1).trans rfl
          have z2 : w3.cell? ⟨b11, 2, none⟩ = some (.int .i64 o2) := (blk_cell HB11.out 2).trans rfl
          have z3 : w3.cell? ⟨b11, 3, none⟩ = some (.int .i64 o3) := (blk_cell HB11.out 3).trans rfl
          have hin := HF.inside k A1 c1 l1 w.heap.size w3 hbox HC1.out
          have hah := HF.ahead ⟨o0, o1, o2, o3⟩ ⟨s0, s1, s2, s3⟩ w3
          have HIN := Lib.hid hin
          have HAH := Lib.hid hah
          clear hin hah hbox
          have hsk := HSK.out
          generalize stops l0 l1 i k = sb at hsk ⊢
          generalize l1.getD k false = lb at hsk HIN
          generalize aheadB ⟨o0, o1, o2, o3⟩ ⟨s0, s1, s2, s3⟩ = ab at hsk HAH
          have HK := Aside0.mk hsk
          clear hsk HSK
          cases sb with
          | true =>
            go_wp2
            exact ⟨⟨k + 1, by omega, by rfl, by rw [HK.out]; first | rfl | (simp; done), ⟨HW3.out⟩⟩, by simp [intOf]; omega⟩
          | false =>
            cases lb with
            | false =>
              go_wp2_with (go_at_call 59; refine HIN.out.mono ?_; rintro e w' ⟨rfl, rfl⟩)
              exact ⟨⟨k + 1, by omega, by rfl, by rw [HK.out]; first | rfl | (simp; done), ⟨HW3.out⟩⟩, by simp [intOf]; omega⟩
            | true =>
              by_cases hki : k = i
              · subst hki
                have q1 : ((k : Int) != (k : Int)) = false := by simp
                go_wp2_with (go_at_call 59; refine HIN.out.mono ?_; rintro e w' ⟨rfl, rfl⟩)
                exact ⟨⟨k + 1, by omega, by rfl, by rw [HK.out]; first | rfl | (simp; done), ⟨HW3.out⟩⟩, by simp [intOf]; omega⟩
              · have q1 : ((k : Int) != (i : Int)) = true := by simp; omega
                have q2 : (k != i) = true := by simpa using hki
                rw [q2] at HK
                clear hki q2
                go_wp2_with (first | (go_at_call 59; refine HIN.out.mono ?_; rintro e w' ⟨rfl, rfl⟩) | (go_at_call 16; refine HAH.out.mono ?_; rintro e w' ⟨rfl, hb⟩))
                exact ⟨⟨k + 1, by omega, by rfl, by rw [HK.out]; first | rfl | (simp; done), ⟨HW3.out.trans (hb.mono HW3.out.size)⟩⟩, by simp [intOf]; omega⟩
        · have hkk : k = l0.length := by omega
          subst hkk
          clear HB8
          go_upto_region 12 with (fail)
          have hbox : wr.cell? ⟨w.heap.size, 0, none⟩ = some (.slice A1 l1.length c1) := (blk_cell HS2.out.box 0).trans rfl
          have HC1 := Aside0.mk (Kd.C_below HR1.out HS2.out.below)
          have hin := HF.inside i A1 c1 l1 w.heap.size wr hbox HC1.out
          have HIN := Lib.hid hin
          clear hin hbox
          have HFS := Aside0.mk (firsts_succ l0 l1 i)
          have hll := len_firsts l0 l1 i
          generalize stops l0 l1 i l0.length = sb at HFS ⊢
          generalize l1.getD i false = lb at HIN HFS
          cases lb with
          | false =>
            go_wp2_with (go_at_call 59; refine HIN.out.mono ?_; rintro e w' ⟨rfl, rfl⟩)
            exact ⟨⟨i + 1, by omega, by rfl, ⟨⟨by rw [HFS.out]; simpa using HS2.out.out, HS2.out.box, HS2.out.below⟩⟩⟩, by simp [intOf]; omega⟩
          | true =>
            cases sb with
            | true =>
              go_wp2_with (go_at_call 59; refine HIN.out.mono ?_; rintro e w' ⟨rfl, rfl⟩)
              exact ⟨⟨i + 1, by omega, by rfl, ⟨⟨by rw [HFS.out]; simpa using HS2.out.out, HS2.out.box, HS2.out.below⟩⟩⟩, by simp [intOf]; omega⟩
            | false =>
              have hltw : w.heap.size < wr.heap.size := (Array.getElem?_eq_some_iff.1 HS2.out.box).1
              have HOK := Aside0.mk HS2.out.out.1
              go_wp2_with (first | (go_at_call 59; refine HIN.out.mono ?_; rintro e w' ⟨rfl, rfl⟩) | (at_builtin; refine Kd.R_append (Kd.int .i64) (w0 := w) w.heap.size rfl (.tmp 51) (.tmp 53) 22 3 (.int .i64 0) 8 rfl Tryz.underlying22 info3 rfl (by decide) (by omega) u5 (firsts l0 l1 i) (i : Int) [.int .i64 (i : Int)] (fun j => j ≠ w.heap.size) (fun _ => False) rfl rfl ?aP (fun _ hk => hk.elim) ?aF HS2.out.out HS2.out.below ?aS ?aL ?_; (case aP => exact rfl); (case aF => (have h9 := hltw; exact fun j hj => by omega)); (case aS => exact HS2.out.below.size); (case aL => omega); intro v1 wc ho hb hg hat))
              have hre : HF.Rel w wc A1 c1 l0 l1 (i + 1) v1 := ⟨by rw [HFS.out]; exact ho, blk_grown hg HS2.out.box (fun e => HOK.out _ e.symm rfl), hb⟩
              exact ⟨⟨i + 1, by omega, by rfl, ⟨hre⟩⟩, by simp [intOf]; omega⟩
    · have hkk : i = l0.length := by omega
      subst hkk
      go_wp2
      go_ret
      exact ⟨_, rfl, Kd.R_mono HS.out.out (fun _ _ => trivial), HS.out.below⟩
end Go.Proofs.YtndgfpfcdppfgaaGreatDoor.Own
