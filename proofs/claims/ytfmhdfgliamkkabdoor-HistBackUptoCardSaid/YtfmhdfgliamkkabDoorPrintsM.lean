/- hist.Print and the reference's Print tell the same: one plain function. The spans are of ints, not too many. -/
import Derived.Test.YtfmhdfgliamkkabDoorHistPrintM
import Derived.Test.YtfmhdfgliamkkabDoorHistRightRef
import Derived.Test.YtfmhdfgliamkkabDoorWordsG
/- hist.Print and the reference's Print tell the same: one plain function. The spans are of ints, not too many. -/
namespace Go.Proofs.YtfmhdfgliamkkabDoor.HT
open Go.RowKit Go.Lib Go.Proofs.YtfmhdfgliamkkabDoor.Own Go.Proofs.YtfmhdfgliamkkabDoorW.PrintWords
set_option linter.unusedVariables false
set_option linter.unusedSimpArgs false
theorem fit_all {l : List S38} (hf : ∀ s ∈ l, fitS s) : l.all fit36 = true := by
  rw [List.all_eq_true]
  intro s hs
  obtain ⟨⟨a0, a1⟩, ⟨b0, b1⟩, ⟨c0, c1⟩, d0, d1⟩ := hf s hs
  unfold fit36 fit
  simp [a0, a1, c0, c1, d0, d1]
theorem right_two {l : List S38} (hl : l.length < 4398046511104) (hf : ∀ s ∈ l, fitS s) : hist_Right.f l = some 0 ∨ hist_Right.f l = some 50 := by
  unfold hist_Right.f
  rw [if_pos ⟨hl, fit_all hf⟩]
  cases riRun l RiSt.start with
  | none => exact .inr rfl
  | some _ => exact .inl rfl
theorem right_zero {l : List S38} (h : hist_Right.f l = some 0) : ∀ s ∈ l, s.f3 = -1 ∨ 0 ≤ s.f3 := by
  unfold hist_Right.f at h
  split at h
  · cases h2 : riRun l RiSt.start with
    | none => rw [h2] at h; simp at h
    | some s2 =>
      have hR := RM.ri_rp h2
      intro s hs
      obtain ⟨i, hi, rfl⟩ := List.getElem_of_mem hs
      obtain ⟨⟨h0, h1⟩, _⟩ := hR i hi
      have e : RM.g l i = l[i] := by rw [RM.g_eq, List.getD_eq_getElem?_getD, List.getElem?_eq_getElem hi]; rfl
      rw [e] at h0 h1
      rcases h1 with h1 | h1
      · exact .inl h1
      · exact .inr (by omega)
  · cases h
/-- What both print. -/
def prS (l : List S38) : ByteArray × Int := if hist_Right.f l = some 0 then (toBA (printL l), 0) else (⟨#[]⟩, 50)
theorem hist_print (A0 : Option Addr) (c0 : Nat) (l0 : List (S38)) (w : World) (hr0 : Kd.C k38 w A0 l0.length l0) (hc0 : l0.length ≤ c0) (hT : HTabs w) (hl : l0.length ≤ 134217728) (hf : ∀ s ∈ l0, fitS s) :
    Calls Tryd.prog 5 #[.slice A0 l0.length c0] w fun e w' => e = .returned (.tuple #[.string (prS l0).1, .int .i64 (prS l0).2]) ∧ Below w.heap.size w w' := by
  unfold prS
  by_cases h0 : hist_Right.f l0 = some 0
  · rw [if_pos h0]
    exact hist_print_yes 0 A0 c0 l0 w hr0 hc0 hT hl hf (right_zero h0) (hist_Right.calls A0 c0 l0 0 w hr0 hc0 h0)
  · rw [if_neg h0]
    have h5 := (right_two (by omega) hf).resolve_left h0
    exact hist_print_no A0 c0 l0 50 w (by decide) (hist_Right.calls A0 c0 l0 50 w hr0 hc0 h5)
theorem ref_print (A0 : Option Addr) (c0 : Nat) (l0 : List (S38)) (w : World) (hr0 : Kd.C k38 w A0 l0.length l0) (hc0 : l0.length ≤ c0) (hT : HTabs w) (hl : l0.length ≤ 134217728) (hf : ∀ s ∈ l0, fitS s) :
    Calls Tryd.prog 6 #[.slice A0 l0.length c0] w fun e w' => e = .returned (.tuple #[.string (prS l0).1, .int .i64 (prS l0).2]) ∧ Below w.heap.size w w' := by
  obtain ⟨K, r, h1, h2⟩ := RM.right_ref l0 (by omega) (fit_all hf)
  unfold prS
  by_cases h0 : hist_Right.f l0 = some 0
  · rw [if_pos h0]
    obtain rfl : r = 0 := Option.some.inj (h1.symm.trans h0)
    exact ref_print_yes K A0 c0 l0 w hr0 hc0 hT hl hf (right_zero h0) h2
  · rw [if_neg h0]
    have h5 := (right_two (by omega) hf).resolve_left h0
    obtain rfl : r = 50 := Option.some.inj (h1.symm.trans h5)
    exact ref_print_no K A0 c0 l0 50 w hr0 hc0 h2 (by decide)
/-- What both read. -/
def parseS (s : List UInt8) : Option (List S38) := match readAll (linesL s) with
  | none => none
  | some l => if hist_Right.f l = some 0 ∧ printL l = s then some l else none
/-- An answer of Parse. -/
def ParseOut (s : List UInt8) (w w' : World) (e : Ending) : Prop := Below w.heap.size w w' ∧ match parseS s with
  | none => e = .returned (.tuple #[.slice none 0 0, .int .i64 52])
  | some l => ∃ (A : Option Addr) (c : Nat), e = .returned (.tuple #[.slice A l.length c, .int .i64 0]) ∧ l.length ≤ c ∧ Kd.C k38 w' A l.length l
theorem parseS_none {s : List UInt8} (h : readAll (linesL s) = none) : parseS s = none := by unfold parseS; rw [h]
theorem parseS_no {s : List UInt8} {l : List S38} (h : readAll (linesL s) = some l) (h2 : ¬ (hist_Right.f l = some 0 ∧ printL l = s)) : parseS s = none := by unfold parseS; rw [h]; exact if_neg h2
theorem parseS_yes {s : List UInt8} {l : List S38} (h : readAll (linesL s) = some l) (h1 : hist_Right.f l = some 0) (h2 : printL l = s) : parseS s = some l := by unfold parseS; rw [h]; exact if_pos ⟨h1, h2⟩
theorem readAll_cut (a : List (List UInt8)) : ∀ (b : List (List UInt8)), readAll (a ++ b) = (readAll a).bind fun x => (readAll b).map fun y => x ++ y := by
  induction a with
  | nil => intro b; simp [readAll]
  | cons x r ih =>
    intro b
    rw [List.cons_append, readAll, readAll, ih]
    cases readL x <;> cases readAll r <;> cases readAll b <;> simp
theorem readAll_bad {a : List (List UInt8)} {k : Nat} (hk : k < a.length) (h : readL a[k] = none) : readAll a = none := by
  have e : a = a.take k ++ a[k] :: a.drop (k + 1) := by rw [← List.drop_eq_getElem_cons hk, List.take_append_drop]
  rw [e, readAll_cut]
  cases readAll (a.take k) with
  | none => rfl
  | some x => simp [readAll, h]
theorem readAll_snoc {a : List (List UInt8)} {l : List S38} {k : Nat} (hk : k < a.length) {s : S38} (h : readL a[k] = some s) (hl : readAll (a.take k) = some l) : readAll (a.take (k + 1)) = some (l ++ [s]) := by
  have e : a.take (k + 1) = a.take k ++ [a[k]] := by rw [List.take_add_one, List.getElem?_eq_getElem hk]; rfl
  rw [e, readAll_cut, hl]
  simp [readAll, h]
/-- Four words in a row, read. -/
theorem row_word {W : World} {base g cap : Nat} {l : List (List UInt8)} (h : W.ownsRow base 9 1 (.slice (some ⟨g, 0, none⟩) l.length cap) l.length (strV l)) : ∀ (i : Nat) (hi : i < l.length), W.cell? ⟨g, i, none⟩ = some (.string (toBA l[i])) := by
  have hR : (Kd.scalar (fun x : List UInt8 => Value.string (toBA x)) (fun _ => rfl)).R 9 W base (fun _ => True) (.slice (some ⟨g, 0, none⟩) l.length cap) l := Kd.R_of_own h fun _ _ => trivial
  intro i hi
  have hc := Kd.R_celln [] hR (i : Int) (by omega) (by omega)
  have e3 : rdOf [] l (i : Int) = l[i] := by
    unfold rdOf
    rw [Int.toNat_natCast, List.getD_eq_getElem?_getD, List.getElem?_eq_getElem hi]
    rfl
  rw [e3, Int.toNat_natCast] at hc
  exact hc.1
theorem wordsL_len : ∀ (n : Nat) (s cur : List UInt8), s.length ≤ n → (∀ x ∈ (cutA 32 cur s).1, x.length ≤ cur.length + s.length) ∧ (cutA 32 cur s).2.length ≤ cur.length + s.length
  | n, [], cur, h => by simp [cutA]
  | 0, c :: r, cur, h => by simp at h
  | n + 1, c :: r, cur, h => by
    rw [List.length_cons] at h
    unfold cutA
    split
    · obtain ⟨h1, h2⟩ := wordsL_len n r [] (by omega)
      rw [List.length_nil] at h1 h2
      refine ⟨fun x hx => ?_, by rw [List.length_cons]; show (cutA 32 [] r).2.length ≤ _; omega⟩
      rcases List.mem_cons.1 hx with rfl | hx
      · omega
      · have := h1 x hx
        rw [List.length_cons]
        omega
    · obtain ⟨h1, h2⟩ := wordsL_len n r (cur ++ [c]) (by omega)
      rw [List.length_append, List.length_singleton] at h1 h2
      refine ⟨fun x hx => ?_, by rw [List.length_cons]; omega⟩
      have := h1 x hx
      rw [List.length_cons]
      omega
theorem word_le {s : List UInt8} {x : List UInt8} (h : x ∈ wordsL s) : x.length ≤ s.length := by
  obtain ⟨h1, h2⟩ := wordsL_len s.length s [] (Nat.le_refl _)
  rw [List.length_nil, Nat.zero_add] at h1 h2
  unfold wordsL at h
  rcases List.mem_append.1 h with h | h
  · exact h1 x h
  · rw [List.mem_singleton.1 h]; exact h2
theorem line_le : ∀ (s cur : List UInt8), (∀ x ∈ (cutA 10 cur s).1, x.length ≤ cur.length + s.length) ∧ (cutA 10 cur s).1.length ≤ s.length
  | [], cur => by simp [cutA]
  | c :: r, cur => by
    unfold cutA
    split
    · obtain ⟨h1, h2⟩ := line_le r []
      rw [List.length_nil] at h1
      refine ⟨fun x hx => ?_, by show (cur :: (cutA 10 [] r).1).length ≤ _; rw [List.length_cons, List.length_cons]; omega⟩
      rcases List.mem_cons.1 hx with rfl | hx
      · rw [List.length_cons]; omega
      · have := h1 x hx
        rw [List.length_cons]
        omega
    · obtain ⟨h1, h2⟩ := line_le r (cur ++ [c])
      rw [List.length_append, List.length_singleton] at h1
      refine ⟨fun x hx => ?_, by rw [List.length_cons]; omega⟩
      have := h1 x hx
      rw [List.length_cons]
      omega
theorem lines_le (s : List UInt8) : (∀ x ∈ linesL s, x.length ≤ s.length) ∧ (linesL s).length ≤ s.length := by
  have h := line_le s []
  rw [List.length_nil] at h
  exact ⟨fun x hx => by have := h.1 x hx; omega, h.2⟩
end Go.Proofs.YtfmhdfgliamkkabDoor.HT

/- A right history, cut at a step, is right. The spans are of ints, not too many. -/
namespace Go.Proofs.YtfmhdfgliamkkabDoor.HT
open Go.RowKit Go.Lib Go.Proofs.YtfmhdfgliamkkabDoor.Own Go.Proofs.YtfmhdfgliamkkabDoorW.PrintWords
set_option linter.unusedVariables false
set_option linter.unusedSimpArgs false
/-- The same said of a list cut in two. -/
def RPs (l : List S38) : Prop := ∀ l1 s l2, l = l1 ++ s :: l2 → RM.one s ∧ s.f1 = ((l1.countP fun a => a.f0 == s.f0 : Nat) : Int) ∧ ∀ a ∈ l1, RM.two a s
theorem g_at {l : List S38} {i : Nat} (h : i < l.length) : RM.g l i = l[i] := by
  rw [RM.g_eq, List.getD_eq_getElem?_getD, List.getElem?_eq_getElem h]
  rfl
theorem cnt_take (l : List S38) (t : Int) : ∀ i, i ≤ l.length → RM.cnt l i t = (l.take i).countP fun a => a.f0 == t
  | 0, _ => by simp [RM.cnt]
  | i + 1, h => by
    rw [RM.cnt_succ, cnt_take l t i (by omega), List.take_add_one, List.getElem?_eq_getElem (by omega), g_at (by omega)]
    simp only [Option.toList_some, List.countP_append, List.countP_singleton]
    by_cases he : l[i].f0 = t <;> simp [he]
theorem rps_of {l : List S38} (h : RM.RP l) : RPs l := by
  rintro l1 s l2 rfl
  have hi : l1.length < (l1 ++ s :: l2).length := by simp
  obtain ⟨h1, h2, h3⟩ := h l1.length hi
  have e : RM.g (l1 ++ s :: l2) l1.length = s := by rw [g_at hi]; simp
  rw [e] at h1 h2 h3
  rw [cnt_take _ _ _ (by simp)] at h2
  rw [List.take_left] at h2
  refine ⟨h1, h2, fun a ha => ?_⟩
  obtain ⟨j, hj, rfl⟩ := List.getElem_of_mem ha
  have h4 := h3 j hj
  rw [g_at (by simp; omega), List.getElem_append_left hj] at h4
  exact h4
theorem of_rps {l : List S38} (h : RPs l) : RM.RP l := by
  intro i hi
  have e : l = l.take i ++ l[i] :: l.drop (i + 1) := by rw [← List.drop_eq_getElem_cons hi, List.take_append_drop]
  obtain ⟨h1, h2, h3⟩ := h _ _ _ e
  unfold RM.clause
  rw [g_at hi, cnt_take _ _ _ (by omega)]
  refine ⟨h1, h2, fun j hj => ?_⟩
  rw [g_at (by omega)]
  refine h3 _ ?_
  rw [List.mem_take_iff_getElem]
  exact ⟨j, by omega, rfl⟩
def cut1 (st : Int) (s : S38) : S38 := if s.f3 > st then ⟨s.f0, s.f1, s.f2, -1⟩ else s
theorem cut1_f0 (st : Int) (s : S38) : (cut1 st s).f0 = s.f0 := by unfold cut1; split <;> rfl
theorem cut1_f1 (st : Int) (s : S38) : (cut1 st s).f1 = s.f1 := by unfold cut1; split <;> rfl
theorem cut1_f2 (st : Int) (s : S38) : (cut1 st s).f2 = s.f2 := by unfold cut1; split <;> rfl
theorem cut1_f3 (st : Int) (s : S38) : (cut1 st s).f3 = -1 ∧ s.f3 > st ∨ (cut1 st s).f3 = s.f3 ∧ s.f3 ≤ st := by
  unfold cut1
  split
  · exact .inl ⟨rfl, by omega⟩
  · exact .inr ⟨rfl, by omega⟩
theorem cutS_yes {st : Int} {s : S38} {l : List S38} (h : s.f2 ≤ st) : cutS st (s :: l) = cut1 st s :: cutS st l := by
  rw [cutS, if_neg (by omega)]
  rfl
theorem cutS_no {st : Int} {s : S38} {l : List S38} (h : ¬ s.f2 ≤ st) : cutS st (s :: l) = cutS st l := by rw [cutS, if_pos (by omega)]
theorem cut_split (st : Int) : ∀ (l l1' : List S38) (s' : S38) (l2' : List S38), cutS st l = l1' ++ s' :: l2' → ∃ l1 s l2, l = l1 ++ s :: l2 ∧ cutS st l1 = l1' ∧ s.f2 ≤ st ∧ s' = cut1 st s
  | [], l1', s', l2', h => by simp [cutS] at h
  | x :: l, l1', s', l2', h => by
    by_cases hx : x.f2 ≤ st
    · rw [cutS_yes hx] at h
      cases l1' with
      | nil =>
        simp only [List.nil_append, List.cons.injEq] at h
        exact ⟨[], x, l, rfl, rfl, hx, h.1.symm⟩
      | cons y l1' =>
        simp only [List.cons_append, List.cons.injEq] at h
        obtain ⟨l1, s, l2, e1, e2, e3, e4⟩ := cut_split st l l1' s' l2' h.2
        exact ⟨x :: l1, s, l2, by rw [e1]; rfl, by rw [cutS_yes hx, e2, h.1], e3, e4⟩
    · rw [cutS_no hx] at h
      obtain ⟨l1, s, l2, e1, e2, e3, e4⟩ := cut_split st l l1' s' l2' h
      exact ⟨x :: l1, s, l2, by rw [e1]; rfl, by rw [cutS_no hx, e2], e3, e4⟩
theorem cut_mem (st : Int) : ∀ (l : List S38) (b : S38), b ∈ cutS st l → ∃ a ∈ l, a.f2 ≤ st ∧ b = cut1 st a
  | [], b, h => by simp [cutS] at h
  | x :: l, b, h => by
    by_cases hx : x.f2 ≤ st
    · rw [cutS_yes hx] at h
      rcases List.mem_cons.1 h with h | h
      · exact ⟨x, List.mem_cons_self .., hx, h⟩
      · obtain ⟨a, h1, h2⟩ := cut_mem st l b h
        exact ⟨a, List.mem_cons_of_mem _ h1, h2⟩
    · rw [cutS_no hx] at h
      obtain ⟨a, h1, h2⟩ := cut_mem st l b h
      exact ⟨a, List.mem_cons_of_mem _ h1, h2⟩
theorem cut_count (st t : Int) : ∀ (l : List S38), (∀ a ∈ l, a.f0 = t → a.f2 ≤ st) → ((cutS st l).countP fun a => a.f0 == t) = l.countP fun a => a.f0 == t
  | [], _ => rfl
  | x :: l, h => by
    have ih := cut_count st t l fun a ha => h a (List.mem_cons_of_mem _ ha)
    by_cases hx : x.f2 ≤ st
    · rw [cutS_yes hx, List.countP_cons, List.countP_cons, ih, cut1_f0]
    · rw [cutS_no hx, List.countP_cons, ih]
      have h0 : ¬ x.f0 = t := fun e => hx (h x (List.mem_cons_self ..) e)
      simp [h0]
theorem cut_rps {l : List S38} (h : RPs l) (st : Int) : RPs (cutS st l) := by
  intro l1' s' l2' he
  obtain ⟨l1, s, l2, e1, rfl, e3, rfl⟩ := cut_split st l l1' s' l2' he
  obtain ⟨⟨h0, h1⟩, h2, h3⟩ := h l1 s l2 e1
  have hsm : ∀ a ∈ l1, RM.one a := fun a ha => by
    obtain ⟨u, v, rfl⟩ := List.append_of_mem ha
    exact (h u a (v ++ s :: l2) (by rw [e1]; simp)).1
  refine ⟨⟨by rw [cut1_f2]; exact h0, ?_⟩, ?_, fun b hb => ?_⟩
  · rw [cut1_f2]
    rcases cut1_f3 st s with ⟨q, _⟩ | ⟨q, _⟩
    · exact .inl q
    · rw [q]; exact h1
  · rw [cut1_f1, cut1_f0, cut_count st s.f0 l1, h2]
    intro a ha hf
    obtain ⟨t1, t2⟩ := (h3 a ha).1 hf
    obtain ⟨o1, o2⟩ := hsm a ha
    rcases o2 with o2 | o2
    · exact absurd o2 t1
    · omega
  · obtain ⟨a, ha, ha2, rfl⟩ := cut_mem st l1 b hb
    obtain ⟨t1, t2⟩ := h3 a ha
    refine ⟨fun hf => ?_, fun hf x hx hn => ?_⟩
    · rw [cut1_f0, cut1_f0] at hf
      obtain ⟨u1, u2⟩ := t1 hf
      rw [cut1_f2]
      rcases cut1_f3 st a with ⟨q, q2⟩ | ⟨q, q2⟩
      · omega
      · rw [q]; exact ⟨u1, u2⟩
    · rw [cut1_f0, cut1_f0] at hf
      rw [cut1_f2] at hx ⊢
      have hx' : x = a.f2 ∨ x = a.f3 := by
        rcases hx with hx | hx
        · exact .inl hx
        · rcases cut1_f3 st a with ⟨q, q2⟩ | ⟨q, q2⟩
          · rw [q] at hx; exact absurd hx hn
          · rw [q] at hx; exact .inr hx
      obtain ⟨u1, u2⟩ := t2 hf x hx' hn
      refine ⟨u1, ?_⟩
      rcases cut1_f3 st s with ⟨q, q2⟩ | ⟨q, q2⟩
      · rw [q]; exact hn
      · rw [q]; exact u2
theorem cut_len (st : Int) : ∀ (l : List S38), (cutS st l).length ≤ l.length
  | [] => Nat.le_refl _
  | x :: l => by
    have ih := cut_len st l
    by_cases hx : x.f2 ≤ st
    · rw [cutS_yes hx, List.length_cons, List.length_cons]; omega
    · rw [cutS_no hx, List.length_cons]; omega
theorem cut_fit {l : List S38} (h : ∀ s ∈ l, fitS s) (st : Int) : ∀ s ∈ cutS st l, fitS s := by
  intro b hb
  obtain ⟨a, ha, _, rfl⟩ := cut_mem st l b hb
  obtain ⟨u0, u1, u2, u3⟩ := h a ha
  refine ⟨by rw [cut1_f0]; exact u0, by rw [cut1_f1]; exact u1, by rw [cut1_f2]; exact u2, ?_⟩
  rcases cut1_f3 st a with ⟨q, _⟩ | ⟨q, _⟩
  · rw [q]; omega
  · rw [q]; exact u3
theorem right_cut {l : List S38} (hl : l.length < 4398046511104) (hf : ∀ s ∈ l, fitS s) (h : hist_Right.f l = some 0) (st : Int) : hist_Right.f (cutS st l) = some 0 := by
  have hR : RM.RP l := by
    unfold hist_Right.f at h
    split at h
    · cases h2 : riRun l RiSt.start with
      | none => rw [h2] at h; simp at h
      | some s2 => exact RM.ri_rp h2
    · cases h
  obtain ⟨s2, h2⟩ := RM.ri_right (of_rps (cut_rps (rps_of hR) st))
  unfold hist_Right.f
  rw [if_pos ⟨Nat.lt_of_le_of_lt (cut_len st l) hl, fit_all (cut_fit hf st)⟩, h2]
/-- What is printed is read again. -/
theorem parse_print {l : List S38} (hf : ∀ s ∈ l, fitS s) (h : hist_Right.f l = some 0) : parseS (printL l) = some l :=
  parseS_yes (by rw [lines_print]; exact read_print l hf) h rfl
theorem parse_back {s : List UInt8} {l : List S38} (h : parseS s = some l) : hist_Right.f l = some 0 ∧ printL l = s ∧ ∀ x ∈ l, fitS x := by
  unfold parseS at h
  cases hr : readAll (linesL s) with
  | none => rw [hr] at h; cases h
  | some l2 =>
    rw [hr] at h
    simp only at h
    split at h
    · rename_i hc
      injection h with h
      subst h
      exact ⟨hc.1, hc.2, readAll_fit hr⟩
    · cases h
end Go.Proofs.YtfmhdfgliamkkabDoor.HT
