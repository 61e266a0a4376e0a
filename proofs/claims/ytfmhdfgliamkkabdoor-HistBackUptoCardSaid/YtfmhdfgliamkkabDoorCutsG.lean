/- hist.Cut and the reference's Cut: the history cut at a step, in new memory. -/
import Derived.Test.YtfmhdfgliamkkabDoorHistTextRef
import Derived.Test.YtfmhdfgliamkkabDoorHistRightG
import Derived.Test.YtfmhdfgliamkkabDoorOwnx9
import Derived.Lib.Hide
import Derived.Outline
import Derived.BigFrameIn
import Derived.BigQuiet
import Derived.OpenShut
namespace Go.Proofs.YtfmhdfgliamkkabDoor.Own
open Go.RowKit Go.Proofs.YtfmhdfgliamkkabDoorW.PrintWords Go.Proofs.YtfmhdfgliamkkabDoorW.PrintLast Go.Proofs.YtfmhdfgliamkkabDoorW.PrintMore
set_option linter.unusedVariables false
set_option linter.unusedSimpArgs false
namespace CU
def cmpI (a b : Int) : Int := if a < b then -1 else if a > b then 1 else 0
theorem cmp_is (a b : Int) : cmp_Compare_int.f a b = some (cmpI a b) := by
  unfold cmp_Compare_int.f cmpI cmp_isNaN_int.f
  simp
  split
  · rfl
  · split <;> rfl
theorem clip (A : Option Addr) (n c : Nat) (hn : n ≤ c) (w : World) : Calls Tryd.prog 26 #[.slice A n c] w fun e w' => e = .returned (.slice A n n) ∧ w = w' := by
  go_enter Tryd.func26, Tryd.ntmps26
  go_wp2
  go_ret
  exact ⟨rfl, rfl⟩
end CU
open CU in
set_option maxHeartbeats 8000000 in
set_option maxRecDepth 100000 in
theorem hist_cut_calls (A0 : Option Addr) (c0 : Nat) (l0 : List (S38)) (st : Int) (w : World) (hr0 : Kd.C k38 w A0 l0.length l0) (hlen : l0.length < 4398046511104) :
    Calls Tryd.prog 11 #[.slice A0 l0.length c0, .int .i64 st] w fun e w' => ∃ (A : Option Addr) (c : Nat), e = .returned (.slice A (HT.cutS st l0).length c) ∧ (HT.cutS st l0).length ≤ c ∧ Kd.C k38 w' A (HT.cutS st l0).length (HT.cutS st l0) ∧ Below w.heap.size w w' := by
  have hu36 := Tryd.underlying38
  have HR0 := Aside0.mk hr0
  clear hr0
  go_enter Tryd.func11, Tryd.ntmps11
  go_wp2
  go_loopw [5, 10] (fun v5 v10 wr => ∃ (k : Nat) (out : List S38), k ≤ l0.length ∧ v10 = .int .i64 k ∧ out.length ≤ k ∧ Aside0 (HT.cutS st l0 = out ++ HT.cutS st (l0.drop k)) ∧ Aside0 (Kd.R k38 38 wr w.heap.size (fun _ => True) v5 out ∧ Below w.heap.size w wr)) (fun _ i _ => l0.length - (intOf i).toNat)
  case atStart => exact ⟨0, [], Nat.zero_le _, rfl, Nat.le_refl _, ⟨rfl⟩, ⟨⟨Kd.R_nil _ _ _ _ _, Below.refl _ _⟩⟩⟩
  case round =>
    obtain ⟨k, out, hk, rfl, hol, HQ, HS⟩ := hrel
    by_cases hlt : k < l0.length
    · have hk0 : (0 : Int) ≤ (k : Int) := by omega
      have hkl : (k : Int) < (l0.length : Int) := by omega
      obtain ⟨ad, rfl, x0, x1, x2, x3⟩ := at_T38 (Kd.C_below HR0.out HS.out.2) (k : Int) hk0 hkl
      rw [Int.toNat_natCast] at x0 x1 x2 x3
      have hdk : l0.drop k = rd_T38 l0 (k : Int) :: l0.drop (k + 1) := by
        rw [List.drop_eq_getElem_cons hlt]
        congr 1
        show _ = l0.getD ((k : Int)).toNat z38
        rw [Int.toNat_natCast, List.getD_eq_getElem?_getD, List.getElem?_eq_getElem hlt]
        rfl
      generalize rd_T38 l0 (k : Int) = sp at x0 x1 x2 x3 hdk
      obtain ⟨s0, s1, s2, s3⟩ := sp
      have HD := Aside0.mk hdk
      clear hdk
      go_upto_region 5 with (fail)
      have hb1 : Below wr.heap.size wr (wr.alloc (.cells #[.int .i64 s0, .int .i64 s1, .int .i64 s2, .int .i64 s3] 38)) := (Below.refl _ _).alloc (Nat.le_refl _) _
      have HBA := Aside0.mk hb1
      have HBk := Aside0.mk (show (wr.alloc (.cells #[.int .i64 s0, .int .i64 s1, .int .i64 s2, .int .i64 s3] 38)).heap[wr.heap.size]? = some (.cells #[.int .i64 s0, .int .i64 s1, .int .i64 s2, .int .i64 s3] 38 (0, 0)) from by simpa using heap_alloc_new wr _)
      have HG : Aside0 (wr.heap.size ≤ wr.heap.size) := ⟨Nat.le_refl _⟩
      clear hb1 x0 x1 x2 x3
      generalize wr.alloc (.cells #[.int .i64 s0, .int .i64 s1, .int .i64 s2, .int .i64 s3] 38) = w1 at HBA HBk ⊢
      generalize hg : wr.heap.size = b1 at HBk HG ⊢
      have HGB := Aside0.mk hg
      clear hg
      have y0 : w1.cell? ⟨b1, 0, none⟩ = some (.int .i64 s0) := (blk_cell HBk.out 0).trans rfl
      have y1 : w1.cell? ⟨b1, 1, none⟩ = some (.int .i64 s1) := (blk_cell HBk.out 1).trans rfl
      have y2 : w1.cell? ⟨b1, 2, none⟩ = some (.int .i64 s2) := (blk_cell HBk.out 2).trans rfl
      have y3 : w1.cell? ⟨b1, 3, none⟩ = some (.int .i64 s3) := (blk_cell HBk.out 3).trans rfl
      have f3 : w1.frozen? ⟨b1, 3, none⟩ = false := by unfold World.frozen?; rw [HBk.out]; simp
      by_cases h1 : s2 > st
      · have H1 := Aside0.mk h1
        go_wp2
        exact ⟨⟨k + 1, out, by omega, by rfl, by omega, ⟨by have h0 := HQ.out; rw [HD.out, HT.cutS, if_pos (show s2 > st by have := H1.out; omega)] at h0; exact h0⟩, ⟨⟨Kd.R_below HS.out.1 HBA.out, HS.out.2.trans (HBA.out.mono HS.out.2.size)⟩⟩⟩, by simp [intOf]; omega⟩
      · have H1 := Aside0.mk h1
        by_cases h2 : s3 > st
        · have H2 := Aside0.mk h2
          have hc : cmp_Compare_int.f s3 st = some 1 := by rw [cmp_is]; unfold cmpI; rw [if_neg (by omega), if_pos h2]
          have HC := Lib.hid (cmp_Compare_int.calls s3 st 1 w1 hc)
          clear hc
          go_upto_region 8 with (go_at_call 25; refine HC.out.mono ?_; rintro e w' ⟨rfl, ⟨nd, rfl⟩⟩)
          have HBk2 : Aside0 (((w1.drewN nd).setCell ⟨b1, 3, none⟩ (.int .i64 (-1))).heap[b1]? = some (.cells #[.int .i64 s0, .int .i64 s1, .int .i64 s2, .int .i64 (-1)] 38 (0, 0))) := ⟨blk_put (blk_drewN HBk.out nd) 3 _ rfl⟩
          have HB1 : Aside0 (Below wr.heap.size wr ((w1.drewN nd).setCell ⟨b1, 3, none⟩ (.int .i64 (-1)))) := ⟨(HBA.out.trans ((pw_below_drewN (Below.refl _ _) nd).mono HBA.out.size)).setCell (by rw [HGB.out]; exact Nat.le_refl _) _⟩
          clear y0 y1 y2 y3 f3
          generalize (w1.drewN nd).setCell ⟨b1, 3, none⟩ (.int .i64 (-1)) = w2 at HBk2 HB1 ⊢
          have HO2 := Aside0.mk (Kd.R_below HS.out.1 HB1.out)
          have HB2 := Aside0.mk (HS.out.2.trans (HB1.out.mono HS.out.2.size))
          have y0 : w2.cell? ⟨b1, 0, none⟩ = some (.int .i64 s0) := (blk_cell HBk2.out 0).trans rfl
          have y1 : w2.cell? ⟨b1, 1, none⟩ = some (.int .i64 s1) := (blk_cell HBk2.out 1).trans rfl
          have y2 : w2.cell? ⟨b1, 2, none⟩ = some (.int .i64 s2) := (blk_cell HBk2.out 2).trans rfl
          have y3 : w2.cell? ⟨b1, 3, none⟩ = some (.int .i64 (-1)) := (blk_cell HBk2.out 3).trans rfl
          go_wp2_with (at_builtin; refine Kd.R_append k38 (w0 := w) w.heap.size rfl (.tmp 24) (.tmp 26) 22 38 (.agg #[(.int .i64 0), (.int .i64 0), (.int .i64 0), (.int .i64 0)]) 32 rfl Tryd.underlying22 info38 rfl (by decide) (by omega) u5 out (⟨s0, s1, s2, -1⟩ : S38) [.int .i64 s0, .int .i64 s1, .int .i64 s2, .int .i64 (-1)] (fun _ => True) (fun _ => False) rfl rfl ?aP (fun _ hk => hk.elim) (fun _ _ => trivial) HO2.out HB2.out ?aS ?aL ?_; (case aP => exact k38_mkM _ _ _ (⟨s0, s1, s2, -1⟩ : S38)); (case aS => exact HB2.out.size); (case aL => omega); intro v1 wc ho hb hg hat)
          exact ⟨⟨k + 1, _, by omega, by rfl, by simp; omega, ⟨by have h0 := HQ.out; rw [HD.out, HT.cutS, if_neg (show ¬ s2 > st by have := H1.out; omega), if_pos (show s3 > st by have := H2.out; omega)] at h0; rw [h0, List.append_assoc]; rfl⟩, ⟨⟨ho, hb⟩⟩⟩, by simp [intOf]; omega⟩
        · have H2 := Aside0.mk h2
          have hc : cmp_Compare_int.f s3 st = some (cmpI s3 st) := cmp_is _ _
          have hle : cmpI s3 st ≤ 0 := by unfold cmpI; split <;> (try split) <;> omega
          have HC := Lib.hid (cmp_Compare_int.calls s3 st _ w1 hc)
          generalize cmpI s3 st = cr at HC hle
          clear hc
          go_upto_region 8 with (go_at_call 25; refine HC.out.mono ?_; rintro e w' ⟨rfl, ⟨nd, rfl⟩⟩)
          have HB1 : Aside0 (Below wr.heap.size wr (w1.drewN nd)) := ⟨HBA.out.trans ((pw_below_drewN (Below.refl _ _) nd).mono HBA.out.size)⟩
          have HO2 := Aside0.mk (Kd.R_below HS.out.1 HB1.out)
          have HB2 := Aside0.mk (HS.out.2.trans (HB1.out.mono HS.out.2.size))
          go_wp2_with (at_builtin; refine Kd.R_append k38 (w0 := w) w.heap.size rfl (.tmp 24) (.tmp 26) 22 38 (.agg #[(.int .i64 0), (.int .i64 0), (.int .i64 0), (.int .i64 0)]) 32 rfl Tryd.underlying22 info38 rfl (by decide) (by omega) u5 out (⟨s0, s1, s2, s3⟩ : S38) [.int .i64 s0, .int .i64 s1, .int .i64 s2, .int .i64 s3] (fun _ => True) (fun _ => False) rfl rfl ?aP (fun _ hk => hk.elim) (fun _ _ => trivial) HO2.out HB2.out ?aS ?aL ?_; (case aP => exact k38_mkM _ _ _ (⟨s0, s1, s2, s3⟩ : S38)); (case aS => exact HB2.out.size); (case aL => omega); intro v1 wc ho hb hg hat)
          exact ⟨⟨k + 1, _, by omega, by rfl, by simp; omega, ⟨by have h0 := HQ.out; rw [HD.out, HT.cutS, if_neg (show ¬ s2 > st by have := H1.out; omega), if_neg (show ¬ s3 > st by have := H2.out; omega)] at h0; rw [h0, List.append_assoc]; rfl⟩, ⟨⟨ho, hb⟩⟩⟩, by simp [intOf]; omega⟩
    · have hkk : k = l0.length := by omega
      subst hkk
      obtain ⟨A, c, rfl, hnc, hC⟩ := Kd.R_reads HS.out.1
      have hq : HT.cutS st l0 = out := by have h0 := HQ.out; rw [List.drop_length, HT.cutS, List.append_nil] at h0; exact h0
      have HQ2 := Aside0.mk hq
      have HC2 := Aside0.mk hC
      clear hq hC
      have HCL := Lib.hid (clip A out.length c hnc wr)
      go_wp2_with (go_at_call 26; refine HCL.out.mono ?_; rintro e w' ⟨rfl, rfl⟩)
      go_ret
      rw [HQ2.out]
      exact ⟨A, out.length, rfl, Nat.le_refl _, HC2.out, HS.out.2⟩
open CU in
set_option maxHeartbeats 8000000 in
set_option maxRecDepth 100000 in
theorem ref_cut_calls (A0 : Option Addr) (c0 : Nat) (l0 : List (S38)) (st : Int) (w : World) (hr0 : Kd.C k38 w A0 l0.length l0) (hlen : l0.length < 4398046511104) :
    Calls Tryd.prog 12 #[.slice A0 l0.length c0, .int .i64 st] w fun e w' => ∃ (A : Option Addr) (c : Nat), e = .returned (.slice A (HT.cutS st l0).length c) ∧ (HT.cutS st l0).length ≤ c ∧ Kd.C k38 w' A (HT.cutS st l0).length (HT.cutS st l0) ∧ Below w.heap.size w w' := by
  have hu36 := Tryd.underlying38
  have HR0 := Aside0.mk hr0
  clear hr0
  go_enter Tryd.func12, Tryd.ntmps12
  go_wp2
  go_loopw [5, 6] (fun v5 v10 wr => ∃ (k : Nat) (out : List S38), k ≤ l0.length ∧ v10 = .int .i64 k ∧ out.length ≤ k ∧ Aside0 (HT.cutS st l0 = out ++ HT.cutS st (l0.drop k)) ∧ Aside0 (Kd.R k38 38 wr w.heap.size (fun _ => True) v5 out ∧ Below w.heap.size w wr)) (fun _ i _ => l0.length - (intOf i).toNat)
  case atStart => exact ⟨0, [], Nat.zero_le _, rfl, Nat.le_refl _, ⟨rfl⟩, ⟨⟨Kd.R_nil _ _ _ _ _, Below.refl _ _⟩⟩⟩
  case round =>
    obtain ⟨k, out, hk, rfl, hol, HQ, HS⟩ := hrel
    by_cases hlt : k < l0.length
    · have hk0 : (0 : Int) ≤ (k : Int) := by omega
      have hkl : (k : Int) < (l0.length : Int) := by omega
      obtain ⟨ad, rfl, x0, x1, x2, x3⟩ := at_T38 (Kd.C_below HR0.out HS.out.2) (k : Int) hk0 hkl
      rw [Int.toNat_natCast] at x0 x1 x2 x3
      have hdk : l0.drop k = rd_T38 l0 (k : Int) :: l0.drop (k + 1) := by
        rw [List.drop_eq_getElem_cons hlt]
        congr 1
        show _ = l0.getD ((k : Int)).toNat z38
        rw [Int.toNat_natCast, List.getD_eq_getElem?_getD, List.getElem?_eq_getElem hlt]
        rfl
      generalize rd_T38 l0 (k : Int) = sp at x0 x1 x2 x3 hdk
      obtain ⟨s0, s1, s2, s3⟩ := sp
      have HD := Aside0.mk hdk
      clear hdk
      go_upto_region 6 with (fail)
      have hb1 : Below wr.heap.size wr (wr.alloc (.cells #[.int .i64 s0, .int .i64 s1, .int .i64 s2, .int .i64 s3] 38)) := (Below.refl _ _).alloc (Nat.le_refl _) _
      have HBA := Aside0.mk hb1
      have HBk := Aside0.mk (show (wr.alloc (.cells #[.int .i64 s0, .int .i64 s1, .int .i64 s2, .int .i64 s3] 38)).heap[wr.heap.size]? = some (.cells #[.int .i64 s0, .int .i64 s1, .int .i64 s2, .int .i64 s3] 38 (0, 0)) from by simpa using heap_alloc_new wr _)
      have HG : Aside0 (wr.heap.size ≤ wr.heap.size) := ⟨Nat.le_refl _⟩
      clear hb1 x0 x1 x2 x3
      generalize wr.alloc (.cells #[.int .i64 s0, .int .i64 s1, .int .i64 s2, .int .i64 s3] 38) = w1 at HBA HBk ⊢
      generalize hg : wr.heap.size = b1 at HBk HG ⊢
      have HGB := Aside0.mk hg
      clear hg
      have y0 : w1.cell? ⟨b1, 0, none⟩ = some (.int .i64 s0) := (blk_cell HBk.out 0).trans rfl
      have y1 : w1.cell? ⟨b1, 1, none⟩ = some (.int .i64 s1) := (blk_cell HBk.out 1).trans rfl
      have y2 : w1.cell? ⟨b1, 2, none⟩ = some (.int .i64 s2) := (blk_cell HBk.out 2).trans rfl
      have y3 : w1.cell? ⟨b1, 3, none⟩ = some (.int .i64 s3) := (blk_cell HBk.out 3).trans rfl
      have f3 : w1.frozen? ⟨b1, 3, none⟩ = false := by unfold World.frozen?; rw [HBk.out]; simp
      by_cases h1 : s2 > st
      · have H1 := Aside0.mk h1
        go_wp2
        exact ⟨⟨k + 1, out, by omega, by rfl, by omega, ⟨by have h0 := HQ.out; rw [HD.out, HT.cutS, if_pos (show s2 > st by have := H1.out; omega)] at h0; exact h0⟩, ⟨⟨Kd.R_below HS.out.1 HBA.out, HS.out.2.trans (HBA.out.mono HS.out.2.size)⟩⟩⟩, by simp [intOf]; omega⟩
      · have H1 := Aside0.mk h1
        by_cases h2 : s3 > st
        · have H2 := Aside0.mk h2
          go_upto_region 9 with (fail)
          have HBk2 : Aside0 ((w1.setCell ⟨b1, 3, none⟩ (.int .i64 (-1))).heap[b1]? = some (.cells #[.int .i64 s0, .int .i64 s1, .int .i64 s2, .int .i64 (-1)] 38 (0, 0))) := ⟨blk_put HBk.out 3 _ rfl⟩
          have HB1 : Aside0 (Below wr.heap.size wr (w1.setCell ⟨b1, 3, none⟩ (.int .i64 (-1)))) := ⟨HBA.out.setCell (by rw [HGB.out]; exact Nat.le_refl _) _⟩
          clear y0 y1 y2 y3 f3
          generalize w1.setCell ⟨b1, 3, none⟩ (.int .i64 (-1)) = w2 at HBk2 HB1 ⊢
          have HO2 := Aside0.mk (Kd.R_below HS.out.1 HB1.out)
          have HB2 := Aside0.mk (HS.out.2.trans (HB1.out.mono HS.out.2.size))
          have y0 : w2.cell? ⟨b1, 0, none⟩ = some (.int .i64 s0) := (blk_cell HBk2.out 0).trans rfl
          have y1 : w2.cell? ⟨b1, 1, none⟩ = some (.int .i64 s1) := (blk_cell HBk2.out 1).trans rfl
          have y2 : w2.cell? ⟨b1, 2, none⟩ = some (.int .i64 s2) := (blk_cell HBk2.out 2).trans rfl
          have y3 : w2.cell? ⟨b1, 3, none⟩ = some (.int .i64 (-1)) := (blk_cell HBk2.out 3).trans rfl
          go_wp2_with (at_builtin; refine Kd.R_append k38 (w0 := w) w.heap.size rfl (.tmp 27) (.tmp 29) 22 38 (.agg #[(.int .i64 0), (.int .i64 0), (.int .i64 0), (.int .i64 0)]) 32 rfl Tryd.underlying22 info38 rfl (by decide) (by omega) u5 out (⟨s0, s1, s2, -1⟩ : S38) [.int .i64 s0, .int .i64 s1, .int .i64 s2, .int .i64 (-1)] (fun _ => True) (fun _ => False) rfl rfl ?aP (fun _ hk => hk.elim) (fun _ _ => trivial) HO2.out HB2.out ?aS ?aL ?_; (case aP => exact k38_mkM _ _ _ (⟨s0, s1, s2, -1⟩ : S38)); (case aS => exact HB2.out.size); (case aL => omega); intro v1 wc ho hb hg hat)
          exact ⟨⟨k + 1, _, by omega, by rfl, by simp; omega, ⟨by have h0 := HQ.out; rw [HD.out, HT.cutS, if_neg (show ¬ s2 > st by have := H1.out; omega), if_pos (show s3 > st by have := H2.out; omega)] at h0; rw [h0, List.append_assoc]; rfl⟩, ⟨⟨ho, hb⟩⟩⟩, by simp [intOf]; omega⟩
        · have H2 := Aside0.mk h2
          go_upto_region 9 with (fail)
          have HB1 : Aside0 (Below wr.heap.size wr w1) := HBA
          have HO2 := Aside0.mk (Kd.R_below HS.out.1 HB1.out)
          have HB2 := Aside0.mk (HS.out.2.trans (HB1.out.mono HS.out.2.size))
          go_wp2_with (at_builtin; refine Kd.R_append k38 (w0 := w) w.heap.size rfl (.tmp 27) (.tmp 29) 22 38 (.agg #[(.int .i64 0), (.int .i64 0), (.int .i64 0), (.int .i64 0)]) 32 rfl Tryd.underlying22 info38 rfl (by decide) (by omega) u5 out (⟨s0, s1, s2, s3⟩ : S38) [.int .i64 s0, .int .i64 s1, .int .i64 s2, .int .i64 s3] (fun _ => True) (fun _ => False) rfl rfl ?aP (fun _ hk => hk.elim) (fun _ _ => trivial) HO2.out HB2.out ?aS ?aL ?_; (case aP => exact k38_mkM _ _ _ (⟨s0, s1, s2, s3⟩ : S38)); (case aS => exact HB2.out.size); (case aL => omega); intro v1 wc ho hb hg hat)
          exact ⟨⟨k + 1, _, by omega, by rfl, by simp; omega, ⟨by have h0 := HQ.out; rw [HD.out, HT.cutS, if_neg (show ¬ s2 > st by have := H1.out; omega), if_neg (show ¬ s3 > st by have := H2.out; omega)] at h0; rw [h0, List.append_assoc]; rfl⟩, ⟨⟨ho, hb⟩⟩⟩, by simp [intOf]; omega⟩
    · have hkk : k = l0.length := by omega
      subst hkk
      obtain ⟨A, c, rfl, hnc, hC⟩ := Kd.R_reads HS.out.1
      have hq : HT.cutS st l0 = out := by have h0 := HQ.out; rw [List.drop_length, HT.cutS, List.append_nil] at h0; exact h0
      have HQ2 := Aside0.mk hq
      have HC2 := Aside0.mk hC
      clear hq hC
      have hge : ¬ (l0.length : Int) < (l0.length : Int) := by omega
      go_wp2
      go_ret
      rw [HQ2.out]
      exact ⟨A, c, rfl, hnc, HC2.out, HS.out.2⟩
end Go.Proofs.YtfmhdfgliamkkabDoor.Own
