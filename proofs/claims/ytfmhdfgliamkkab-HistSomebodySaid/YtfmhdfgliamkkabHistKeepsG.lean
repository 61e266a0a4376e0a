/- hist.Keeps, called with any spans and any order, tells what 'hist_Keeps.f' says. -/
import Derived.Test.YtfmhdfgliamkkabHistKeepsSpec
import Derived.Test.YtfmhdfgliamkkabHistFirstG
import Derived.Lib.Hide
import Derived.Outline
import Derived.BigFrameIn
import Derived.BigQuiet
import Derived.OpenShut
import Derived.Deep.RegionWith
namespace Go.Proofs.Ytfmhdfgliamkkab.Own
open Go.RowKit Go.Proofs.YtfmhdfgliamkkabW.PrintWords Go.Proofs.YtfmhdfgliamkkabW.PrintLast Go.Proofs.YtfmhdfgliamkkabW.PrintMore
set_option linter.unusedVariables false
set_option linter.unusedSimpArgs false
namespace HK
def fill (n i : Nat) : List Bool := List.replicate i true ++ List.replicate (n - i) false
theorem fill_zero (n : Nat) : fill n 0 = List.replicate n false := by simp [fill]
theorem fill_all (n : Nat) : fill n n = List.replicate n true := by simp [fill]
theorem fill_len (n i : Nat) (h : i ≤ n) : (fill n i).length = n := by simp [fill]; omega
theorem fill_set (n i : Nat) (h : i < n) : (fill n i).set i true = fill n (i + 1) := by
  unfold fill
  rw [List.set_append, if_neg (by simp), List.length_replicate, Nat.sub_self]
  obtain ⟨m, hm⟩ : ∃ m, n - i = m + 1 := ⟨n - i - 1, by omega⟩
  have hm2 : n - (i + 1) = m := by omega
  rw [hm, hm2, List.replicate_succ, List.set_cons_zero, List.replicate_succ']
  simp
/-- In the loop over the order. -/
structure Rel (w wr : World) (l : List S57) (order : List Int) (A : Option Addr) (cap j : Nat) (left : List Bool) : Prop where
  run : kpRun l (order.take j) (order.drop j) left = kpRun l [] order (List.replicate l.length true)
  row : Kd.R Kd.bool 4 wr w.heap.size (fun _ => True) (.slice A l.length cap) left
  ins : ∀ m ∈ order.take j, 0 ≤ m ∧ m < (l.length : Int)
  below : Below w.heap.size w wr
theorem take_step {l1 : List Int} {j : Nat} (h : j < l1.length) : l1.take (j + 1) = l1.take j ++ [rd l1 (j : Int)] := by
  rw [List.take_succ_eq_append_getElem h]
  congr 1
  unfold rd
  rw [List.getD_eq_getElem?_getD, Int.toNat_natCast, List.getElem?_eq_getElem h]
  rfl
theorem drop_step {l1 : List Int} {j : Nat} (h : j < l1.length) : l1.drop j = rd l1 (j : Int) :: l1.drop (j + 1) := by
  rw [List.drop_eq_getElem_cons h]
  congr 1
  unfold rd
  rw [List.getD_eq_getElem?_getD, Int.toNat_natCast, List.getElem?_eq_getElem h]
  rfl
theorem rd_take {l1 : List Int} {j q : Nat} (h : q < j) (hj : j ≤ l1.length) : rd (l1.take j) (q : Int) = rd l1 (q : Int) := by
  unfold rd
  rw [List.getD_eq_getElem?_getD, List.getD_eq_getElem?_getD, Int.toNat_natCast, List.getElem?_take_of_lt h]
theorem any_step (p : Int → Bool) {l1 : List Int} {q : Nat} (h : q < l1.length) : (l1.take (q + 1)).any p = ((l1.take q).any p || p (rd l1 (q : Int))) := by
  rw [take_step h, List.any_append]; simp
theorem rd_mem {l1 : List Int} {j q : Nat} (h : q < j) (hj : j ≤ l1.length) : rd l1 (q : Int) ∈ l1.take j := by
  rw [← rd_take h hj]
  have hl : q < (l1.take j).length := by rw [List.length_take]; omega
  unfold rd
  rw [List.getD_eq_getElem?_getD, Int.toNat_natCast, List.getElem?_eq_getElem hl]
  exact List.getElem_mem hl
theorem any_take (p : Int → Bool) {l1 : List Int} {j q : Nat} (h : q < j) (hj : j ≤ l1.length) : p (rd l1 (q : Int)) = true → (l1.take j).any p = true := fun hp => List.any_eq_true.2 ⟨_, rd_mem h hj, hp⟩
theorem late_step (l : List S57) (left : List Bool) (i : Nat) : lateOf l left (i + 1) = (lateOf l left i || (left.getD i false && decide (0 ≤ (rd_T57 l (i : Int)).f3))) := by
  unfold lateOf
  rw [List.range_succ, List.any_append]
  simp
theorem late_mono (l : List S57) (left : List Bool) {i : Nat} (h : lateOf l left i = true) : ∀ d, lateOf l left (i + d) = true
  | 0 => h
  | d + 1 => by
    rw [← Nat.add_assoc, late_step, late_mono l left h d]
    rfl
theorem cut (A : Option Addr) (n c : Nat) (j : Nat) (hm : j ≤ n) (hc : n ≤ c) :
    ∀ W : World, (Instr.slice 27 (.slice A n c) none (some (.int .i64 (j : Int))) none).run Try.prog W = .ok (.slice A j c) W := by
  obtain ⟨i09, hi09, _, hsz9, _⟩ := info_parts info3
  have h := cut_to (P := Try.prog) 27 3 .i64 Try.underlying27 hi09 A n c (j : Int) (by omega) (by omega) hc
  rw [Int.toNat_natCast] at h
  exact h
end HK
open HK in
set_option maxHeartbeats 8000000 in
set_option maxRecDepth 100000 in
theorem hist_Keeps.calls (A0 : Option Addr) (c0 : Nat) (l0 : List (S57)) (A1 : Option Addr) (c1 : Nat) (l1 : List Int) (r : Bool) (w : World) (hr0 : Kd.C k57 w A0 l0.length l0) (hc0 : l0.length ≤ c0) (hr1 : Kd.C (Kd.int .i64) w A1 l1.length l1) (hc1 : l1.length ≤ c1) (h : hist_Keeps.f l0 l1 = some r) :
    Calls Try.prog 9 #[.slice A0 l0.length c0, .slice A1 l1.length c1] w fun e w' => e = .returned (.bool r) ∧ Below w.heap.size w w' := by
  have hu36 := Try.underlying57
  have hh : (l0.length < 4398046511104 ∧ l1.length < 17592186044416) ∧ r = keepsB l0 l1 := by
    unfold hist_Keeps.f at h
    by_cases hc : l0.length < 4398046511104 ∧ l1.length < 17592186044416
    · rw [if_pos hc] at h; exact ⟨hc, (Option.some.inj h).symm⟩
    · rw [if_neg hc] at h; cases h
  obtain ⟨⟨hl0, hl1⟩, rfl⟩ := hh
  have HR0 := Aside0.mk hr0
  have HR1 := Aside0.mk hr1
  clear hr0 hr1 h
  have hn0 : (0 : Int) ≤ (l0.length : Int) := by omega
  go_enter Try.func9, Try.ntmps9
  go_wp2_with ((with_reducible refine gate_dst (N := 15) rfl ?_); refine Kd.R_make Kd.bool (w0 := w) w.heap.size 4 rfl (N := 15) rfl 26 _ _ rfl (l0.length : Int) rfl rfl Try.underlying26 (.bool false) 1 info4 rfl (by decide) (by omega) false (ok := fun _ => True) (okp := fun _ => True) rfl (fun _ hk => hk) trivial hn0 (by omega) (Below.refl _ _) (Nat.le_refl _) ?_; intro v5 w5 ho hb hg_ hnew_; rw [Int.toNat_natCast] at ho; obtain ⟨A5, c5, rfl⟩ := Kd.R_slice ho; rw [List.length_replicate] at ho; have HO := Aside0.mk ho; have HB := Aside0.mk hb; clear ho hb hg_ hnew_; simp only [List.length_replicate])
  go_loopw [18] (fun v18 wr => ∃ (i : Nat), i ≤ l0.length ∧ v18 = .int .i64 i ∧ Aside0 (Kd.R Kd.bool 4 wr w.heap.size (fun _ => True) (.slice A5 l0.length c5) (fill l0.length i)) ∧ Aside0 (Below w.heap.size w wr)) (fun i _ => l0.length - (intOf i).toNat)
  case atStart => exact ⟨0, Nat.zero_le _, rfl, ⟨by rw [fill_zero]; exact HO.out⟩, HB⟩
  case round =>
    clear HO HB
    obtain ⟨i, hi, rfl, HO, HB⟩ := hrel
    by_cases hlt : i < l0.length
    · have hi0 : (0 : Int) ≤ (i : Int) := by omega
      have hi1 : (i : Int) < (l0.length : Int) := by omega
      have hfl := fill_len l0.length i hi
      obtain ⟨go, co, eo, gb, gl, _, _⟩ := Kd.R_form HO.out (by omega)
      injection eo with e1 e2 e3
      subst e1 e3
      clear e2
      obtain ⟨hx, hf⟩ := Kd.R_celln false HO.out (i : Int) hi0 hi1
      have HP := Aside0.mk (Kd.R_putg HO.out (i : Int) true)
      rw [Int.toNat_natCast] at hx hf HP
      have HGB := Aside0.mk gb
      clear gl gb hfl
      go_wp2
      exact ⟨⟨i + 1, by omega, by rfl, ⟨by rw [← fill_set _ _ hlt]; exact HP.out.1⟩, ⟨HB.out.setCell HGB.out _⟩⟩, by simp [intOf]; omega⟩
    · have hii : i = l0.length := by omega
      subst hii
      have HO2 : Aside0 (Kd.R Kd.bool 4 wr w.heap.size (fun _ => True) (.slice A5 l0.length c5) (List.replicate l0.length true)) := ⟨by rw [← fill_all]; exact HO.out⟩
      clear HO
      go_wp2_with fail
      go_loopw [27] (fun v27 wr => ∃ (j : Nat) (left : List Bool), j ≤ l1.length ∧ v27 = .int .i64 j ∧ Aside0 (HK.Rel w wr l0 l1 A5 c5 j left)) (fun i _ => l1.length - (intOf i).toNat)
      case atStart => exact ⟨0, _, Nat.zero_le _, rfl, ⟨⟨rfl, HO2.out, fun m hm => by simp at hm, HB.out⟩⟩⟩
      case round =>
        clear HO2 HB
        obtain ⟨j, left, hj, rfl, HS⟩ := hrel
        have hll : left.length = l0.length := ((Kd.R_reads' HS.out.row).1).symm
        have HLL := Aside0.mk hll
        clear hll
        by_cases hlt2 : j < l1.length
        · have hj0 : (0 : Int) ≤ (j : Int) := by omega
          have hj1 : (j : Int) < (l1.length : Int) := by omega
          obtain ⟨ad, rfl, hc⟩ := Kd.at_int (Kd.C_below HR1.out HS.out.below) (j : Int) hj0 hj1
          rw [Int.toNat_natCast] at hc
          have HRUN : Aside0 (kpRun l0 [] l1 (List.replicate l0.length true) = kpRun l0 (l1.take j) (rd l1 (j : Int) :: l1.drop (j + 1)) left) := ⟨by rw [← HS.out.run, ← drop_step hlt2]⟩
          have HTS := Aside0.mk (take_step hlt2)
          generalize rd l1 (j : Int) = x at hc HRUN HTS
          go_upto_region 10 with (fail)
          clear hc
          have hend : ∀ {p : Prop}, (keepsB l0 l1 = false → p) → (kpRun l0 [] l1 (List.replicate l0.length true) = none → p) := fun f h => f (by unfold keepsB; rw [h])
          have HEND : Aside0 (kpRun l0 [] l1 (List.replicate l0.length true) = none → keepsB l0 l1 = false) := ⟨fun h => by unfold keepsB; rw [h]⟩
          clear hend
          by_cases q1 : x < 0
          · have hno : keepsB l0 l1 = false := HEND.out (by rw [HRUN.out, kpRun, if_pos (Or.inl q1)])
            go_wp2
            go_ret
            exact ⟨by first | rfl | (rw [hno]; rfl), HS.out.below⟩
          · by_cases q2 : (l0.length : Int) ≤ x
            · have hno : keepsB l0 l1 = false := HEND.out (by rw [HRUN.out, kpRun, if_pos (Or.inr (Or.inl q2))])
              go_wp2
              go_ret
              exact ⟨by first | rfl | (rw [hno]; rfl), HS.out.below⟩
            · have hx0 : 0 ≤ x := by omega
              have hx1 : x < (l0.length : Int) := by omega
              have hlp : 0 < left.length := by have := HLL.out; omega
              obtain ⟨go, co, eo, gb, gl, _, _⟩ := Kd.R_form HS.out.row hlp
              injection eo with e1 e2 e3
              subst e1 e3
              clear e2 hlp
              obtain ⟨hx, hf⟩ := Kd.R_celln false HS.out.row x hx0 hx1
              have HP := Aside0.mk (Kd.R_putg HS.out.row x false)
              have HGB := Aside0.mk gb
              have hrd : rdOf false left x = left.getD x.toNat false := rfl
              rw [hrd] at hx
              clear gl gb hrd q1 q2
              cases hlx : left.getD x.toNat false with
              | false =>
                have hno : keepsB l0 l1 = false := HEND.out (by rw [HRUN.out, kpRun, if_pos (Or.inr (Or.inr hlx))])
                rw [hlx] at hx
                have HNO := Aside0.mk hno
                clear hlx hno
                go_wp2
                go_ret
                exact ⟨by first | rfl | (rw [HNO.out]; rfl), HS.out.below⟩
              | true =>
                rw [hlx] at hx
                have HRUN2 : Aside0 (kpRun l0 [] l1 (List.replicate l0.length true) = if ((l1.take j).any fun m => aheadB (rd_T57 l0 x) (rd_T57 l0 m)) = true then none else kpRun l0 (l1.take j ++ [x]) (l1.drop (j + 1)) (left.set x.toNat false)) := ⟨by
                  rw [HRUN.out, kpRun, if_neg]
                  rintro (h | h | h)
                  · omega
                  · omega
                  · rw [hlx] at h; cases h⟩
                clear hlx HRUN
                have hcut := HK.cut (some ad) l1.length c1 j (by omega) hc1
                go_upto_region 14 with (fail)
                have HS2 : Aside0 (Kd.R Kd.bool 4 (wr.setCell { block := go, off := x.toNat } (Value.bool false)) w.heap.size (fun _ => True) (.slice (some { block := go, off := 0 }) l0.length c5) (left.set x.toNat false)) := ⟨HP.out.1⟩
                have HB2 : Aside0 (Below w.heap.size w (wr.setCell { block := go, off := x.toNat } (Value.bool false))) := ⟨HS.out.below.setCell HGB.out _⟩
                have HIN := Aside0.mk HS.out.ins
                clear HS HP HGB hx hf hcut
                generalize wr.setCell { block := go, off := x.toNat } (Value.bool false) = w2 at HS2 HB2 ⊢
                go_loopw [54] (fun v54 wi => ∃ q : Nat, q ≤ j ∧ v54 = .int .i64 q ∧ Aside0 (((l1.take q).any fun m => aheadB (rd_T57 l0 x) (rd_T57 l0 m)) = false ∧ Below w2.heap.size w2 wi)) (fun i _ => j - (intOf i).toNat)
                case atStart => exact ⟨0, Nat.zero_le _, rfl, ⟨⟨rfl, Below.refl _ _⟩⟩⟩
                case round =>
                  obtain ⟨q, hq, rfl, HW⟩ := hrel
                  have HB3 : Aside0 (Below w.heap.size w wr) := ⟨HB2.out.trans (HW.out.2.mono HB2.out.size)⟩
                  by_cases hlt3 : q < j
                  · have hq0 : (0 : Int) ≤ (q : Int) := by omega
                    have hq1 : (q : Int) < (j : Int) := by omega
                    have hq2 : (q : Int) < (l1.length : Int) := by omega
                    obtain ⟨ad2, hae, hc2⟩ := Kd.at_int (Kd.C_below HR1.out HB3.out) (q : Int) hq0 hq2
                    injection hae with hae
                    subst hae
                    rw [Int.toNat_natCast] at hc2
                    have hmm := HIN.out (rd l1 (q : Int)) (HK.rd_mem hlt3 (by omega))
                    have HST := Aside0.mk (HK.any_step (fun m => aheadB (rd_T57 l0 x) (rd_T57 l0 m)) (l1 := l1) (q := q) (by omega))
                    have HSA := Aside0.mk (HK.any_take (fun m => aheadB (rd_T57 l0 x) (rd_T57 l0 m)) (l1 := l1) hlt3 (by omega))
                    generalize rd l1 (q : Int) = m at hc2 hmm HST HSA
                    obtain ⟨hm0, hm1⟩ := hmm
                    obtain ⟨ad0, rfl, x0, x1, x2, x3⟩ := at_T57 (Kd.C_below HR0.out HB3.out) x hx0 hx1
                    obtain ⟨ad3, hae, y0, y1, y2, y3⟩ := at_T57 (Kd.C_below HR0.out HB3.out) m hm0 hm1
                    injection hae with hae
                    subst hae
                    have HRX := Aside0.mk HRUN2.out
                    clear HRUN2 hq2
                    generalize rd_T57 l0 x = sx at x0 x1 x2 x3 HST HSA HRX HW ⊢
                    generalize rd_T57 l0 m = sm at y0 y1 y2 y3 HST HSA
                    obtain ⟨s0, s1, s2, s3⟩ := sx
                    obtain ⟨o0, o1, o2, o3⟩ := sm
                    have hah : ∀ wx : World, Calls Try.prog 18 #[.agg #[.int .i64 s0, .int .i64 s1, .int .i64 s2, .int .i64 s3], .agg #[.int .i64 o0, .int .i64 o1, .int .i64 o2, .int .i64 o3]] wx fun e w' => e = .returned (.bool (aheadB ⟨s0, s1, s2, s3⟩ ⟨o0, o1, o2, o3⟩)) ∧ Below wx.heap.size wx w' := fun wx => HF.ahead ⟨s0, s1, s2, s3⟩ ⟨o0, o1, o2, o3⟩ wx
                    generalize aheadB ⟨s0, s1, s2, s3⟩ ⟨o0, o1, o2, o3⟩ = ab at hah HST HSA
                    have HAH := Lib.hid hah
                    clear hah
                    go_upto_region 16 with (fail)
                    cases ab with
                    | true =>
                      have HNO : Aside0 (keepsB l0 l1 = false) := ⟨HEND.out (by rw [HRX.out, if_pos (HSA.out rfl)])⟩
                      clear HST HSA HRX
                      go_region_with (go_at_call 18; refine (HAH.out _).mono ?_; rintro e w' ⟨rfl, hb⟩)
                      all_goals (
                        have HB4 : Aside0 (Below w.heap.size w w') := ⟨HB3.out.trans ((((Below.refl wr.heap.size wr).drew).trans (show Below wr.heap.size wr.drew w' from hb)).mono HB3.out.size)⟩
                        clear hb x0 x1 x2 x3 y0 y1 y2 y3
                        go_wp2
                        go_ret
                        exact ⟨by first | rfl | (rw [HNO.out]; rfl), HB4.out⟩)
                    | false =>
                      go_region_with (go_at_call 18; refine (HAH.out _).mono ?_; rintro e w' ⟨rfl, hb⟩)
                      all_goals (
                        have HW4 := Aside0.mk (HW.out.2.trans ((((Below.refl wr.heap.size wr).drew).trans (show Below wr.heap.size wr.drew w' from hb)).mono HW.out.2.size))
                        clear hb x0 x1 x2 x3 y0 y1 y2 y3
                        go_wp2
                        exact ⟨⟨q + 1, by omega, by rfl, ⟨⟨by rw [HST.out, HW.out.1]; rfl, HW4.out⟩⟩⟩, by simp [intOf]; omega⟩)
                  · have hqq : q = j := by omega
                    subst hqq
                    have hdone : Aside0 (HK.Rel w wr l0 l1 (some { block := go, off := 0 }) c5 (q + 1) (left.set x.toNat false)) := ⟨by
                      refine ⟨?_, Kd.R_below HS2.out HW.out.2, ?_, HB3.out⟩
                      · rw [HRUN2.out, if_neg (by rw [HW.out.1]; simp), HTS.out]
                      · intro m hm
                        rw [HTS.out] at hm
                        rcases List.mem_append.1 hm with h | h
                        · exact HIN.out m h
                        · rw [List.mem_singleton.1 h]; exact ⟨hx0, hx1⟩⟩
                    clear HRUN2 HS2 HIN HW HB2 HB3
                    go_wp2
                    exact ⟨⟨q + 1, _, by omega, by rfl, hdone⟩, by simp [intOf]; omega⟩
        · have hjj : j = l1.length := by omega
          subst hjj
          have HEND : Aside0 (keepsB l0 l1 = !lateOf l0 left l0.length) := ⟨by
            unfold keepsB
            rw [← HS.out.run, List.drop_eq_nil_of_le (Nat.le_refl _), kpRun]⟩
          have HL := Aside0.mk HS.out.row
          have HB := Aside0.mk HS.out.below
          clear HS HR1
          go_wp2_with fail
          go_loopw [71] (fun v71 wi => ∃ i : Nat, i ≤ l0.length ∧ v71 = .int .i64 i ∧ Aside0 (lateOf l0 left i = false ∧ Below wr.heap.size wr wi)) (fun i _ => l0.length - (intOf i).toNat)
          case atStart => exact ⟨0, Nat.zero_le _, rfl, ⟨⟨rfl, Below.refl _ _⟩⟩⟩
          case round =>
            obtain ⟨i, hi, rfl, HW⟩ := hrel
            by_cases hlt4 : i < l0.length
            · have hi0 : (0 : Int) ≤ (i : Int) := by omega
              have hi1 : (i : Int) < (l0.length : Int) := by omega
              have HL2 := Aside0.mk (Kd.R_below HL.out HW.out.2)
              have HB2 := Aside0.mk (HB.out.trans (HW.out.2.mono HB.out.size))
              obtain ⟨ad0, rfl, x0, x1, x2, x3⟩ := at_T57 (Kd.C_below HR0.out HB2.out) (i : Int) hi0 hi1
              rw [Int.toNat_natCast] at x0 x1 x2 x3
              have hll := HLL.out
              obtain ⟨go, co, eo, gb, gl, _, _⟩ := Kd.R_form HL2.out (by omega)
              injection eo with e1 e2 e3
              subst e1 e3
              clear e2 gb gl
              have HST := Aside0.mk (HK.late_step l0 left i)
              generalize rd_T57 l0 (i : Int) = sp at x0 x1 x2 x3 HST
              obtain ⟨s0, s1, s2, s3⟩ := sp
              go_upto_region 23 with (fail)
              have HW3 := Aside0.mk (HW.out.2.trans ((Below.refl wr.heap.size wr |>.alloc (Nat.le_refl _) (.cells #[.int .i64 s0, .int .i64 s1, .int .i64 s2, .int .i64 s3] 57)).mono HW.out.2.size))
              have HB11 := Aside0.mk (show (wr.alloc (.cells #[.int .i64 s0, .int .i64 s1, .int .i64 s2, .int .i64 s3] 57)).heap[wr.heap.size]? = some (.cells #[.int .i64 s0, .int .i64 s1, .int .i64 s2, .int .i64 s3] 57 (0, 0)) from by simpa using heap_alloc_new wr _)
              clear x0 x1 x2 x3 HL2 HB2
              generalize wr.alloc (.cells #[.int .i64 s0, .int .i64 s1, .int .i64 s2, .int .i64 s3] 57) = w3 at HW3 HB11 ⊢
              generalize wr.heap.size = b11 at HB11 ⊢
              obtain ⟨hx, hf⟩ := Kd.R_celln false (Kd.R_below HL.out HW3.out) (i : Int) hi0 (by omega)
              rw [Int.toNat_natCast] at hx
              have hrd : rdOf false left (i : Int) = left.getD i false := rfl
              rw [hrd] at hx
              clear hrd hf
              have z3 : w3.cell? ⟨b11, 3, none⟩ = some (.int .i64 s3) := (blk_cell HB11.out 3).trans rfl
              generalize left.getD i false = lb at hx HST
              by_cases p : 0 ≤ s3
              · have p1 : decide (0 ≤ s3) = true := decide_eq_true p
                have HP1 := Aside0.mk p1
                cases lb with
                | true =>
                  have HK : keepsB l0 l1 = false := by
                    have h1 : lateOf l0 left (i + 1) = true := by rw [HST.out, p1]; simp
                    have h2 := HK.late_mono l0 left h1 (l0.length - (i + 1))
                    rw [show i + 1 + (l0.length - (i + 1)) = l0.length from by omega] at h2
                    rw [HEND.out, h2]
                    rfl
                  have HK2 := Aside0.mk HK
                  have HB3 := Aside0.mk (HB.out.trans (HW3.out.mono HB.out.size))
                  clear HK HEND
                  go_wp2
                  go_ret
                  exact ⟨by first | rfl | (rw [HK2.out]; rfl), HB3.out⟩
                | false =>
                  go_wp2
                  exact ⟨⟨i + 1, by omega, by rfl, ⟨⟨by rw [HST.out, HW.out.1]; simp [p1], HW3.out⟩⟩⟩, by simp [intOf]; omega⟩
              · have p1 : decide (0 ≤ s3) = false := decide_eq_false p
                cases lb with
                | true =>
                  go_wp2
                  exact ⟨⟨i + 1, by omega, by rfl, ⟨⟨by rw [HST.out, HW.out.1]; simp [p1], HW3.out⟩⟩⟩, by simp [intOf]; omega⟩
                | false =>
                  go_wp2
                  exact ⟨⟨i + 1, by omega, by rfl, ⟨⟨by rw [HST.out, HW.out.1]; simp [p1], HW3.out⟩⟩⟩, by simp [intOf]; omega⟩
            · have hii : i = l0.length := by omega
              subst hii
              have HB2 := Aside0.mk (HB.out.trans (HW.out.2.mono HB.out.size))
              have HK : keepsB l0 l1 = true := by rw [HEND.out, HW.out.1]; rfl
              go_wp2
              go_ret
              exact ⟨by first | rfl | (rw [HK]; rfl), HB2.out⟩
end Go.Proofs.Ytfmhdfgliamkkab.Own
