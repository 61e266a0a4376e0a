/- The laws' HandInts and KeptInts: a copy with nine marked places behind it, and whether it is still so. No condition. -/
import Derived.Test.YtfmhdfgliamkkaaHistLent
import Derived.Test.YtfmhdfgliamkkaaHistFirstMath
import Derived.Test.YtfmhdfgliamkkaaHistKeepsG
import Derived.Lib.Hide
import Derived.Outline
namespace Go.Proofs.Ytfmhdfgliamkkaa.Own
open Go.RowKit Go.Proofs.YtfmhdfgliamkkaaW.PrintWords Go.Proofs.YtfmhdfgliamkkaaW.PrintLast Go.Proofs.YtfmhdfgliamkkaaW.PrintMore
set_option linter.unusedVariables false
set_option linter.unusedSimpArgs false
namespace HI
def marks : List Int := [-700, -701, -702, -703, -704, -705, -706, -707, -708]
def fil (L : List Int) (i : Nat) : List Int := L.take i ++ List.replicate (L.length - i) 0
theorem fil_zero (L : List Int) : fil L 0 = List.replicate L.length 0 := by simp [fil]
theorem fil_all (L : List Int) : fil L L.length = L := by simp [fil]
theorem fil_len (L : List Int) (i : Nat) (h : i ≤ L.length) : (fil L i).length = L.length := by simp [fil]; omega
theorem fil_set (L : List Int) (i : Nat) (h : i < L.length) : (fil L i).set i (rd L (i : Int)) = fil L (i + 1) := by
  unfold fil
  rw [List.set_append, if_neg (by rw [List.length_take]; omega), List.length_take, Nat.min_eq_left (by omega), Nat.sub_self, HK.take_step h]
  obtain ⟨m, hm⟩ : ∃ m, L.length - i = m + 1 := ⟨L.length - i - 1, by omega⟩
  have hm2 : L.length - (i + 1) = m := by omega
  rw [hm, hm2, List.replicate_succ, List.set_cons_zero]
  simp
theorem rd_left (l : List Int) (i : Nat) (h : i < l.length) : rd (l ++ marks) (i : Int) = rd l (i : Int) := by
  unfold rd
  rw [List.getD_eq_getElem?_getD, List.getD_eq_getElem?_getD, Int.toNat_natCast, List.getElem?_append_left h]
theorem rd_right (l : List Int) (i : Nat) (h : l.length ≤ i) (h2 : i < l.length + 9) (hl : l.length < 17592186044416) : rd (l ++ marks) (i : Int) = -700 - (i : Int) + (l.length : Int) := by
  have e : -700 - (i : Int) + (l.length : Int) = -700 - ((i - l.length : Nat) : Int) := by omega
  rw [e]
  unfold rd
  rw [List.getD_eq_getElem?_getD, Int.toNat_natCast, List.getElem?_append_right h]
  obtain ⟨q, hq⟩ : ∃ q, i - l.length = q := ⟨_, rfl⟩
  rw [hq]
  have hq9 : q < 9 := by omega
  match q, hq9 with
  | 0, _ => rfl
  | 1, _ => rfl
  | 2, _ => rfl
  | 3, _ => rfl
  | 4, _ => rfl
  | 5, _ => rfl
  | 6, _ => rfl
  | 7, _ => rfl
  | 8, _ => rfl
theorem len (l : List Int) : (l ++ marks).length = l.length + 9 := by simp [marks]
end HI
open HI in
set_option maxHeartbeats 8000000 in
set_option maxRecDepth 100000 in
theorem hand_calls (A0 : Option Addr) (c0 : Nat) (l0 : List Int) (w : World) (hr0 : Kd.C (Kd.int .i64) w A0 l0.length l0) (hl : l0.length < 17592186044416) :
    Calls Try.prog 23 #[.slice A0 l0.length c0] w fun e w' => ∃ g cap, e = .returned (.slice (some ⟨g, 0, none⟩) l0.length cap) ∧ Kd.R (Kd.int .i64) 3 w' w.heap.size (fun _ => True) (.slice (some ⟨g, 0, none⟩) (l0 ++ marks).length cap) (l0 ++ marks) ∧ Below w.heap.size w w' := by
  have HR0 := Aside0.mk hr0
  clear hr0
  have hLn := HI.len l0
  have HRL := Aside0.mk (HI.rd_left l0)
  have HRR := Aside0.mk (fun i h h2 => HI.rd_right l0 i h h2 hl)
  generalize hL : l0 ++ marks = L at hLn HRL HRR
  have HL := Aside0.mk hL
  clear hL
  have hn0 : (0 : Int) ≤ (l0.length : Int) + 9 := by omega
  have htn : ((l0.length : Int) + 9).toNat = l0.length + 9 := by omega
  have HTN := Aside0.mk htn
  clear htn
  have HLN := Aside0.mk hLn
  clear hLn
  go_enter Try.func23, Try.ntmps23
  go_wp2_with ((with_reducible refine gate_dst (N := 9) rfl ?_); refine Kd.R_make (Kd.int .i64) (w0 := w) w.heap.size 3 rfl (N := 9) rfl 41 _ _ rfl ((l0.length : Int) + 9) rfl rfl Try.underlying41 (.int .i64 0) 8 info3 rfl (by decide) (by omega) 0 (ok := fun _ => True) (okp := fun _ => True) rfl (fun _ hk => hk) trivial hn0 (by omega) (Below.refl _ _) (Nat.le_refl _) ?_; intro v5 w5 ho hb hg_ hnew_; rw [HTN.out] at ho; obtain ⟨A5, c5, rfl⟩ := Kd.R_slice ho; rw [List.length_replicate] at ho; have HO := Aside0.mk ho; have HB := Aside0.mk hb; clear ho hb hg_ hnew_; simp only [List.length_replicate])
  go_loopw [4] (fun v4 wr => ∃ (i : Nat), i ≤ l0.length ∧ v4 = .int .i64 i ∧ Aside0 (Kd.R (Kd.int .i64) 3 wr w.heap.size (fun _ => True) (.slice A5 (l0.length + 9) c5) (fil L i)) ∧ Aside0 (Below w.heap.size w wr)) (fun i _ => l0.length - (intOf i).toNat)
  case atStart => exact ⟨0, Nat.zero_le _, rfl, ⟨by rw [fil_zero, HLN.out]; exact HO.out⟩, HB⟩
  case round =>
    clear HO HB
    obtain ⟨i, hi, rfl, HO, HB⟩ := hrel
    by_cases hlt : i < l0.length
    · have hi0 : (0 : Int) ≤ (i : Int) := by omega
      have hi1 : (i : Int) < (l0.length : Int) := by omega
      have hi2 : (i : Int) < (l0.length : Int) + 9 := by omega
      have hfl := fil_len L i (by have := HLN.out; omega)
      obtain ⟨ad, rfl, hc⟩ := Kd.at_int (Kd.C_below HR0.out HB.out) (i : Int) hi0 hi1
      obtain ⟨go, co, eo, gb, gl, _, _⟩ := Kd.R_form HO.out (by have := HLN.out; omega)
      injection eo with e1 e2 e3
      subst e1 e3
      clear e2
      obtain ⟨hx, hf⟩ := Kd.R_celln 0 HO.out (i : Int) hi0 (by have := HLN.out; omega)
      have HP := Aside0.mk (Kd.R_putg HO.out (i : Int) (rd l0 (i : Int)))
      have HSET : Aside0 ((fil L i).set i (rd l0 (i : Int)) = fil L (i + 1)) := ⟨by rw [← HRL.out i hlt]; exact fil_set L i (by have := HLN.out; omega)⟩
      rw [Int.toNat_natCast] at hx hf HP hc
      have HGB := Aside0.mk gb
      clear gl gb hfl
      go_wp2
      exact ⟨⟨i + 1, by omega, by rfl, ⟨by rw [← HSET.out]; exact HP.out.1⟩, ⟨HB.out.setCell HGB.out _⟩⟩, by simp [intOf]; omega⟩
    · have hii : i = l0.length := by omega
      subst hii
      go_wp2_with fail
      go_loopw [5] (fun v5 wi => ∃ (i : Nat), l0.length ≤ i ∧ i ≤ l0.length + 9 ∧ v5 = .int .i64 i ∧ Aside0 (Kd.R (Kd.int .i64) 3 wi w.heap.size (fun _ => True) (.slice A5 (l0.length + 9) c5) (fil L i)) ∧ Aside0 (Below w.heap.size w wi)) (fun i _ => l0.length + 9 - (intOf i).toNat)
      case atStart => exact ⟨l0.length, Nat.le_refl _, by omega, rfl, HO, HB⟩
      case round =>
        clear HO HB
        obtain ⟨i, hi, hin, rfl, HO, HB⟩ := hrel
        by_cases hlt2 : i < l0.length + 9
        · have hi0 : (0 : Int) ≤ (i : Int) := by omega
          have hi2 : (i : Int) < (l0.length : Int) + 9 := by omega
          have hfl := fil_len L i (by have := HLN.out; omega)
          obtain ⟨go, co, eo, gb, gl, _, _⟩ := Kd.R_form HO.out (by have := HLN.out; omega)
          injection eo with e1 e2 e3
          subst e1 e3
          clear e2
          obtain ⟨hx, hf⟩ := Kd.R_celln 0 HO.out (i : Int) hi0 (by have := HLN.out; omega)
          have HP := Aside0.mk (Kd.R_putg HO.out (i : Int) (-700 - (i : Int) + (l0.length : Int)))
          have HSET : Aside0 ((fil L i).set i (-700 - (i : Int) + (l0.length : Int)) = fil L (i + 1)) := ⟨by rw [← HRR.out i hi (by omega)]; exact fil_set L i (by have := HLN.out; omega)⟩
          rw [Int.toNat_natCast] at hx hf HP
          have HGB := Aside0.mk gb
          clear gl gb hfl
          go_wp2
          exact ⟨⟨i + 1, by omega, by omega, by rfl, ⟨by rw [← HSET.out]; exact HP.out.1⟩, ⟨HB.out.setCell HGB.out _⟩⟩, by simp [intOf]; omega⟩
        · have hii : i = l0.length + 9 := by omega
          subst hii
          have hO : Kd.R (Kd.int .i64) 3 wr w.heap.size (fun _ => True) (.slice A5 (l0.length + 9) c5) L := by
            have h := HO.out
            rw [← HLN.out, fil_all, HLN.out] at h
            exact h
          obtain ⟨go, co, eo, gb, gl, _, _⟩ := Kd.R_form hO (by have := HLN.out; omega)
          injection eo with e1 e2 e3
          subst e1 e3
          clear e2 gb
          have hcc := (Kd.R_reads' hO).2.1
          have hcut := HK.cut (some ⟨go, 0, none⟩) (l0.length + 9) c5 l0.length (by omega) (by have := HLN.out; omega)
          have HO2 := Aside0.mk hO
          clear hO HO hcc gl
          go_wp2
          go_ret
          exact ⟨_, _, rfl, by rw [HLN.out]; exact HO2.out, HB.out⟩
open HI in
set_option maxHeartbeats 8000000 in
set_option maxRecDepth 100000 in
theorem kept_ints (g : Nat) (cap : Nat) (A1 : Option Addr) (c1 : Nat) (l0 : List Int) (w : World) (hr0 : Kd.C (Kd.int .i64) w (some ⟨g, 0, none⟩) (l0 ++ marks).length (l0 ++ marks)) (hcap : l0.length + 9 ≤ cap) (hr1 : Kd.C (Kd.int .i64) w A1 l0.length l0) (hc1 : l0.length ≤ c1) (hl : l0.length < 17592186044416) :
    Calls Try.prog 27 #[.slice (some ⟨g, 0, none⟩) l0.length cap, .slice A1 l0.length c1] w fun e w' => e = .returned (.bool true) ∧ Below w.heap.size w w' := by
  have hr2 : Kd.C (Kd.int .i64) w (some ⟨g, 0, none⟩) l0.length l0 := by
    have h := Kd.C_take (m := l0.length) hr0 (by simp)
    rw [List.take_left] at h
    exact h
  have hs := FM.ints l0 (by omega)
  have hsame := shuttermem_SameInts.calls (l0.length + 1) (some ⟨g, 0, none⟩) cap l0 A1 c1 l0 true w hr2 (by omega) hr1 hc1 hs
  have hln := HI.len l0
  rw [hln] at hr0
  obtain ⟨i09, hi09, _, hsz9, _⟩ := info_parts info3
  have hcut := HL.cut_cap (P := Try.prog) 41 3 .i64 Try.underlying41 hi09 (some ⟨g, 0, none⟩) l0.length cap ((l0.length : Int) + 9) (by omega) (by omega)
  rw [show ((l0.length : Int) + 9).toNat = l0.length + 9 by omega] at hcut
  have HS := Lib.hid hsame
  have HR0 := Aside0.mk hr0
  have HRR := Aside0.mk (fun i h h2 => HI.rd_right l0 i h h2 hl)
  clear hr0 hr1 hr2 hs hsame hi09 hsz9 hln
  go_enter Try.func27, Try.ntmps27
  go_wp2_with (go_at_call 18; refine HS.out.mono ?_; rintro e w' ⟨rfl, ⟨nd, rfl⟩⟩)
  have HB := Aside0.mk (pw_below_drewN (Below.refl w.heap.size w) nd)
  go_loopw [6] (fun v6 wr => ∃ (i : Nat), l0.length ≤ i ∧ i ≤ l0.length + 9 ∧ v6 = .int .i64 i ∧ Aside0 (Below w.heap.size w wr)) (fun i _ => l0.length + 9 - (intOf i).toNat)
  case atStart => exact ⟨l0.length, Nat.le_refl _, by omega, rfl, HB⟩
  case round =>
    clear HB
    obtain ⟨i, hi, hin, rfl, HB⟩ := hrel
    by_cases hlt : i < l0.length + 9
    · have hi0 : (0 : Int) ≤ (i : Int) := by omega
      have hi2 : (i : Int) < (l0.length : Int) + 9 := by omega
      obtain ⟨ad, hae, hc⟩ := Kd.at_int (Kd.C_below HR0.out HB.out) (i : Int) hi0 (by omega)
      injection hae with hae
      subst hae
      rw [HRR.out i hi (by omega), Int.toNat_natCast] at hc
      simp only [add_plain] at hc
      go_wp2
      exact ⟨⟨i + 1, by omega, by omega, by rfl, HB⟩, by simp [intOf]; omega⟩
    · have hii : i = l0.length + 9 := by omega
      subst hii
      go_wp2
      go_ret
      exact ⟨rfl, HB.out⟩
end Go.Proofs.Ytfmhdfgliamkkaa.Own
