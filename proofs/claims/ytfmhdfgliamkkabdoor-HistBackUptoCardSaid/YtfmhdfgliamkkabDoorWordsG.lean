/- The reference's Words: a line cut at its blanks; a new row of texts. No condition but the text's size. -/
import Derived.Test.YtfmhdfgliamkkabDoorHistTextRef
import Derived.Test.YtfmhdfgliamkkabDoorWWords
import Derived.Test.YtfmhdfgliamkkabDoorWMore
import Derived.RegionTactic
import Derived.BigRegion
import Derived.BigQuiet
import Derived.Deep.QuietTactic
import Derived.Deep.RegionHeld3
import Derived.Deep.AppendLies
namespace Go.Proofs.YtfmhdfgliamkkabDoor.HT
open Go.RowKit Go.Lib Go.Proofs.YtfmhdfgliamkkabDoor.Own Go.Proofs.YtfmhdfgliamkkabDoorW.PrintWords Go.Proofs.YtfmhdfgliamkkabDoorW.PrintMore
set_option linter.unusedVariables false
set_option linter.unusedSimpArgs false
theorem infoStr : (Tryd.prog.info? 9).map (fun i => (i.zero, i.size, i.bytes)) = some (some (.string ⟨#[]⟩), 1, 16) := by kernel_rfl
def strV (l : List (List UInt8)) : List Value := l.map fun x => Value.string (toBA x)
theorem row_last {W : World} {base g cap : Nat} {done : List (List UInt8)} {cur : List UInt8} (h : W.ownsRow base 9 1 (.slice (some ⟨g, 0, none⟩) (done.length + 1) cap) (done.length + 1) (strV (done ++ [cur]))) :
    W.cell? ⟨g, done.length, none⟩ = some (.string (toBA cur)) ∧ W.frozen? ⟨g, done.length, none⟩ = false ∧ ∀ y, (W.setCell ⟨g, done.length, none⟩ (.string (toBA y))).ownsRow base 9 1 (.slice (some ⟨g, 0, none⟩) (done.length + 1) cap) (done.length + 1) (strV (done ++ [y])) := by
  have hl : (done ++ [cur]).length = done.length + 1 := by simp
  have hR : (Kd.scalar (fun x : List UInt8 => Value.string (toBA x)) (fun _ => rfl)).R 9 W base (fun _ => True) (.slice (some ⟨g, 0, none⟩) (done.length + 1) cap) (done ++ [cur]) := Kd.R_of_own (by
    have e : encs (fun x : List UInt8 => Value.string (toBA x)) (done ++ [cur]) = strV (done ++ [cur]) := rfl
    rw [hl, e]
    exact h) fun _ _ => trivial
  have hc := Kd.R_celln cur hR (done.length : Int) (by omega) (by omega)
  have e3 : rdOf cur (done ++ [cur]) (done.length : Int) = cur := by
    unfold rdOf
    rw [Int.toNat_natCast, List.getD_eq_getElem?_getD, List.getElem?_append_right (Nat.le_refl _), Nat.sub_self]
    rfl
  rw [e3, Int.toNat_natCast] at hc
  refine ⟨hc.1, hc.2, fun y => ?_⟩
  have hp := Kd.own_of_R (Kd.R_putn hR (done.length : Int) y)
  have e4 : (done ++ [cur]).set ((done.length : Int)).toNat y = done ++ [y] := by
    rw [Int.toNat_natCast, List.set_append_right _ _ (Nat.le_refl _), Nat.sub_self]
    rfl
  rw [e4, Int.toNat_natCast] at hp
  have hl2 : (done ++ [y]).length = done.length + 1 := by simp
  rw [hl2] at hp
  exact hp
/-- Behind p bytes. -/
def WdI (s : ByteArray) (w : World) (p : Nat) (done : List (List UInt8)) (cur : List UInt8) (g cap : Nat) (wr : World) : Prop :=
  wordsL s.data.toList = done ++ ((cutA 32 cur (s.data.toList.drop p)).1 ++ [(cutA 32 cur (s.data.toList.drop p)).2]) ∧ wr.ownsRow w.heap.size 9 1 (.slice (some ⟨g, 0, none⟩) (done.length + 1) cap) (done.length + 1) (strV (done ++ [cur])) ∧ Below w.heap.size w wr
set_option maxHeartbeats 4000000 in
set_option maxRecDepth 100000 in
theorem words_calls (s : ByteArray) (hs : s.size ≤ 1099511627776) (w : World) : Calls Tryd.prog 23 #[.string s] w fun e w' => ∃ g cap, e = .returned (.slice (some ⟨g, 0, none⟩) (wordsL s.data.toList).length cap) ∧
    w'.ownsRow w.heap.size 9 1 (.slice (some ⟨g, 0, none⟩) (wordsL s.data.toList).length cap) (wordsL s.data.toList).length (strV (wordsL s.data.toList)) ∧ Below w.heap.size w w' := by
  have HB0 := Aside0.mk (below_alloc (Below.refl w.heap.size w) (.cells #[.string ⟨#[]⟩] 9))
  have HO0 : Aside0 ((w.alloc (.cells #[.string ⟨#[]⟩] 9)).ownsRow w.heap.size 9 1 (.slice (some ⟨w.heap.size, 0, none⟩) 1 1) 1 [.string ⟨#[]⟩]) :=
    ⟨rfl, .inr ⟨w.heap.size, 1, #[.string ⟨#[]⟩], rfl, Nat.le_refl _, heap_alloc_new w _, by omega, by unfold maxLen; omega, rfl, rfl⟩⟩
  go_enter Tryd.func23, Tryd.ntmps23
  go_wp2_with fail
  go_loopw [3, 4] (fun v3 v4 wr => ∃ (p : Nat) (done : List (List UInt8)) (cur : List UInt8) (g cap : Nat), v3 = .slice (some ⟨g, 0, none⟩) (done.length + 1) cap ∧ v4 = .int .i64 p ∧ p ≤ s.size ∧ done.length ≤ p ∧ cur.length ≤ p ∧ Aside0 (WdI s w p done cur g cap wr)) (fun _ q _ => s.size - (intOf q).toNat)
  case atStart => exact ⟨0, [], [], _, _, rfl, rfl, Nat.zero_le _, Nat.le_refl _, Nat.le_refl _, ⟨rfl, HO0.out, HB0.out⟩⟩
  case round =>
    clear HB0 HO0
    obtain ⟨p, done, cur, g, cap, rfl, rfl, hp, hd, hc, HR⟩ := hrel
    by_cases hlt : p < s.size
    · have hI : (p : Int) < (s.size : Int) := by omega
      have e1 : IntKind.i64.wrap ((p : Int) + 1) = ((p + 1 : Nat) : Int) := IntWalk.i64_in _ (by omega)
      have p4 := eq_true (show (0 : Int) ≤ (p : Int) by omega)
      have q4 := eq_true hI
      have p5 : decide ((0 : Int) ≤ (p : Int)) = true := decide_eq_true (by omega)
      have q5 : decide ((p : Int) < (s.size : Int)) = true := decide_eq_true hI
      have hx4 : ∀ h : p < s.size, ((s[p]'h).toNat : Int) = bt s (p : Int) := fun h => bt_at s (p : Int) h
      have hbt := bt_of s p hlt
      have hdr := drop_at s p hlt
      have hone := ext_one s p hlt
      generalize hx : s.data.toList[p]'(by rw [size_data]; exact hlt) = x at hbt hdr hone
      have HX := Aside0.mk (And.intro hdr hone)
      have hwd : Aside0 (∀ cur' rest, cutA 32 cur' (x :: rest) = if x = 32 then (cur' :: (cutA 32 [] rest).1, (cutA 32 [] rest).2) else cutA 32 (cur' ++ [x]) rest) := ⟨fun _ _ => rfl⟩
      clear hdr hone hx
      by_cases hb : x = 32
      · have hb1 : bt s (p : Int) = 32 := by rw [hbt]; exact (nat_eq x 32 (by omega)).2 hb
        have hb2 : (bt s (p : Int) == 32) = true := by rw [hb1]; rfl
        have HBX := Aside0.mk hb
        clear hb1 hbt hb
        obtain ⟨j0, hi0, hz0, hz1, hz2⟩ := info_parts infoStr
        go_wp2_with (at_builtin; refine wpList_append_lies _ rfl (.tmp 16) (.tmp 17) 45 rfl w.heap.size 9 j0 _ 1 16 Tryd.underlying45 hi0 hz0 hz1 hz2 rfl (by omega) (.slice (some ⟨g, 0, none⟩) (done.length + 1) cap) (done.length + 1) _ (by rfl) (HR.out.2.1.alloc _) ⟨wr.heap.size, 0, none⟩ 1 1 [.string ⟨#[]⟩] (by rfl) (by rfl) (World.news_of_block (cs := #[.string ⟨#[]⟩]) (t := 9) (fr := (0, 0)) (heap_alloc_new wr _)) (by simp [Value.oneCell']) (by omega) (by unfold maxLen; omega) (by omega) (by have := HR.out.2.2.size; simp; omega) (wr.heap.size + 1) (by simp) ?_; intro g1 cp1 w1 hown1 hgrow hat hlt2)
        have hlen : (done ++ [cur]).length = done.length + 1 := by simp
        have hwd2 : WdI s w (p + 1) (done ++ [cur]) [] g1 cp1 w1 := by
          refine ⟨?_, ?_, ?_⟩
          · have h0 := HR.out.1
            rw [HX.out.1, hwd.out, if_pos HBX.out] at h0
            rw [h0]
            simp
          · rw [hlen]
            have : strV (done ++ [cur] ++ [[]]) = strV (done ++ [cur]) ++ [.string ⟨#[]⟩] := by unfold strV; rw [List.map_append]; rfl
            rw [this]
            exact hown1
          · exact (below_alloc HR.out.2.2 _).grown hgrow (by rw [World.size_alloc]; have := HR.out.2.2.size; omega) fun j hj => own_base HR.out.2.1 j hj
        exact ⟨⟨p + 1, done ++ [cur], [], g1, cp1, by rw [hlen], by rfl, by omega, by omega, by simp, ⟨hwd2⟩⟩, by simp [intOf]; omega⟩
      · have hb1 : ¬ bt s (p : Int) = 32 := by rw [hbt]; exact fun e => hb ((nat_eq x 32 (by omega)).1 e)
        have hb2 : (bt s (p : Int) == 32) = false := by simpa using hb1
        have HBX := Aside0.mk hb
        clear hb1 hbt hb
        obtain ⟨cg, fg, hput⟩ := row_last HR.out.2.1
        clear hput
        have HP : Aside0 (WdI s w (p + 1) done (cur ++ [x]) g cap (wr.drew.setCell ⟨g, done.length, none⟩ (.string (toBA cur ++ s.extract p (p + 1))))) := ⟨by
          have hp := (row_last (W := wr.drew) HR.out.2.1).2.2 (cur ++ [x])
          refine ⟨?_, ?_, ?_⟩
          · have h0 := HR.out.1
            rw [HX.out.1, hwd.out, if_neg HBX.out] at h0
            exact h0
          · rw [HX.out.2, toBA_app]
            exact hp
          · exact (below_drew HR.out.2.2).setCell (p := ⟨g, done.length, none⟩) (own_base HR.out.2.1 g rfl) _⟩
        have s4 := eq_false (show ¬ 9223372036854775807 < (toBA cur).size + 1 by rw [toBA_size]; omega)
        have e2 : IntKind.i64.wrap (done.length : Int) = (done.length : Int) := IntWalk.i64_in _ (by omega)
        have d0 := eq_true (show (0 : Int) ≤ (done.length : Int) by omega)
        have d1 := eq_true (show (done.length : Int) < (done.length : Int) + 1 by omega)
        have s0 := eq_true (show (p : Int) ≤ (p : Int) + 1 by omega)
        have s1 := eq_true (show (p : Int) + 1 ≤ (s.size : Int) by omega)
        have s2 := eq_true (show (0 : Int) ≤ (p : Int) + 1 by omega)
        have s3 := eq_true (show p + 1 ≤ s.size by omega)
        go_upto_region 7 with fail
        go_region
        go_wp2_with fail
        exact ⟨⟨p + 1, done, cur ++ [x], g, cap, rfl, by rfl, by omega, by omega, by simp; omega, HP⟩, by simp [intOf]; omega⟩
    · obtain rfl : p = s.size := by omega
      have hge : ¬ (s.size : Int) < (s.size : Int) := by omega
      go_wp2_with fail
      go_ret
      have h0 := HR.out.1
      have e0 : s.data.toList.drop s.size = [] := List.drop_eq_nil_of_le (by rw [size_data]; exact Nat.le_refl _)
      rw [e0] at h0
      have e1 : wordsL s.data.toList = done ++ [cur] := h0
      have e2 : (done ++ [cur]).length = done.length + 1 := by simp
      rw [e1, e2]
      exact ⟨g, cap, rfl, HR.out.2.1, HR.out.2.2⟩
end Go.Proofs.YtfmhdfgliamkkabDoor.HT
