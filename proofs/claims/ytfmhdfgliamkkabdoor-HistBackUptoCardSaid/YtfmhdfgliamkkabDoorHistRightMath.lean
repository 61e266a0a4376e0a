/- Spans that stand pairwise as they must are right; what Spans tells stands so. No condition. -/
import Derived.Test.YtfmhdfgliamkkabDoorHistSpec
set_option linter.unusedVariables false
namespace Go.Proofs.YtfmhdfgliamkkabDoor.Own
namespace RM
def g (l : List S38) (j : Nat) : S38 := rd_T38 l (j : Int)
theorem g_eq (l : List S38) (j : Nat) : g l j = l.getD j z38 := rfl
def cnt (l : List S38) (i : Nat) (t : Int) : Nat := (List.range i).countP fun j => (g l j).f0 == t
theorem cnt_succ (l : List S38) (i : Nat) (t : Int) : cnt l (i + 1) t = cnt l i t + (if (g l i).f0 = t then 1 else 0) := by
  unfold cnt
  rw [List.range_succ, List.countP_append]
  congr 1
  by_cases h : (g l i).f0 = t
  · rw [if_pos h]; simp [h]
  · rw [if_neg h]; simp [h]
theorem cnt_congr {l l2 : List S38} (t : Int) : ∀ (i : Nat), (∀ j, j < i → (g l j).f0 = (g l2 j).f0) → cnt l i t = cnt l2 i t
  | 0, _ => rfl
  | i + 1, h => by
    rw [cnt_succ, cnt_succ, cnt_congr t i (fun j hj => h j (by omega)), h i (by omega)]
def one (a : S38) : Prop := 0 ≤ a.f2 ∧ (a.f3 = -1 ∨ a.f2 ≤ a.f3)
def two (a b : S38) : Prop := (a.f0 = b.f0 → a.f3 ≠ -1 ∧ a.f3 < b.f2) ∧ (a.f0 ≠ b.f0 → ∀ x, x = a.f2 ∨ x = a.f3 → x ≠ -1 → x ≠ b.f2 ∧ x ≠ b.f3)
/-- What is asked of a span and of those ahead of it. -/
def clause (l : List S38) (i : Nat) : Prop := one (g l i) ∧ (g l i).f1 = (cnt l i (g l i).f0 : Int) ∧ ∀ j, j < i → two (g l j) (g l i)
/-- The spans stand as they must. -/
def RP (l : List S38) : Prop := ∀ i, i < l.length → clause l i
structure RI (l : List S38) (i : Nat) (s : RiSt) : Prop where
  last : ∀ t a, s.last t = some a → ∃ j, j < i ∧ a = g l j ∧ a.f0 = t
  begun : ∀ t, s.begun t = (cnt l i t : Int)
  used : ∀ x t, s.used x = some t → x = -1 ∨ ∃ j, j < i ∧ (g l j).f0 = t ∧ (x = (g l j).f2 ∨ x = (g l j).f3)
theorem use_no {l : List S38} {i : Nat} {s : RiSt} (hR : clause l i) (hI : RI l i s) (x : Int) (hx : x = (g l i).f2 ∨ x = (g l i).f3) (t : Int) (hu : s.used x = some t) (hn : x ≠ -1) : t = (g l i).f0 := by
  rcases hI.used x t hu with h | ⟨j, h1, h2, h3⟩
  · exact absurd h hn
  · by_cases ht : t = (g l i).f0
    · exact ht
    · have h4 := (hR.2.2 j h1).2 (by rw [h2]; exact ht) x h3 hn
      rcases hx with h5 | h5
      · exact absurd h5 h4.1
      · exact absurd h5 h4.2
theorem ri_step {l : List S38} {i : Nat} {s : RiSt} (hR : clause l i) (hI : RI l i s) : ∃ s2, s.next (g l i) = some s2 ∧ RI l (i + 1) s2 := by
  have hR' := hR
  obtain ⟨⟨h1, h2⟩, h3, h4⟩ := hR'
  have hb : s.bad (g l i) = false := by
    unfold RiSt.bad
    rw [hI.begun, h3, decide_eq_false (show ¬ (g l i).f2 < 0 by omega)]
    have e2 : (((g l i).f3 != -1) && decide ((g l i).f3 < (g l i).f2)) = false := by
      rcases h2 with h | h
      · rw [h]; rfl
      · rw [decide_eq_false (by omega), Bool.and_false]
    have e3 : ((s.last (g l i).f0).isSome && ((((s.last (g l i).f0).getD z38).f3 == -1) || decide ((g l i).f2 ≤ ((s.last (g l i).f0).getD z38).f3))) = false := by
      cases hl : s.last (g l i).f0 with
      | none => rfl
      | some a =>
        obtain ⟨j, hj, ha, ht⟩ := hI.last _ _ hl
        have h5 := (h4 j hj).1 (by rw [← ha]; exact ht)
        rw [← ha] at h5
        simp only [Option.isSome_some, Option.getD_some, Bool.true_and]
        rw [decide_eq_false (by omega), Bool.or_false]
        simpa using h5.1
    rw [e2, e3]
    simp
  have hu1 : useBad s.used (g l i).f0 (g l i).f2 = false := by
    unfold useBad
    cases hu : s.used (g l i).f2 with
    | none => rfl
    | some t =>
      by_cases hn : (g l i).f2 = -1
      · rw [hn]; simp
      · have := use_no hR hI _ (Or.inl rfl) t hu hn
        rw [this]
        simp
  have hu2 : useBad (useUp s.used (g l i).f0 (g l i).f2) (g l i).f0 (g l i).f3 = false := by
    unfold useBad useUp
    by_cases he : (g l i).f3 = (g l i).f2
    · rw [if_pos he]; simp
    · rw [if_neg he]
      cases hu : s.used (g l i).f3 with
      | none => rfl
      | some t =>
        by_cases hn : (g l i).f3 = -1
        · rw [hn]; simp
        · have := use_no hR hI _ (Or.inr rfl) t hu hn
          rw [this]
          simp
  refine ⟨_, by unfold RiSt.next; rw [if_neg (by rw [hb]; simp), if_neg (by rw [hu1]; simp), if_neg (by rw [hu2]; simp)], ?_⟩
  refine ⟨?_, ?_, ?_⟩
  · intro t a h
    simp only [RiSt.up] at h
    by_cases ht : t = (g l i).f0
    · rw [if_pos ht] at h
      injection h with h
      exact ⟨i, by omega, h.symm, by rw [← h, ht]⟩
    · rw [if_neg ht] at h
      obtain ⟨j, hj, ha, hb2⟩ := hI.last t a h
      exact ⟨j, by omega, ha, hb2⟩
  · intro t
    simp only [RiSt.up]
    rw [cnt_succ]
    by_cases ht : t = (g l i).f0
    · rw [if_pos ht, if_pos ht.symm, hI.begun, ht]; omega
    · rw [if_neg ht, if_neg (fun h => ht h.symm), hI.begun]; omega
  · intro x t h
    simp only [RiSt.up, useUp] at h
    by_cases hx : x = (g l i).f3
    · rw [if_pos hx] at h
      injection h with h
      exact Or.inr ⟨i, by omega, h, Or.inr hx⟩
    · rw [if_neg hx] at h
      by_cases hx2 : x = (g l i).f2
      · rw [if_pos hx2] at h
        injection h with h
        exact Or.inr ⟨i, by omega, h, Or.inl hx2⟩
      · rw [if_neg hx2] at h
        rcases hI.used x t h with h5 | ⟨j, hj, h6⟩
        · exact Or.inl h5
        · exact Or.inr ⟨j, by omega, h6⟩
theorem drop_g {l : List S38} {i : Nat} (h : i < l.length) : l.drop i = g l i :: l.drop (i + 1) := by
  rw [List.drop_eq_getElem_cons h]
  congr 1
  rw [g_eq, List.getD_eq_getElem?_getD, List.getElem?_eq_getElem h]
  rfl
theorem ri_run {l : List S38} (hR : RP l) : ∀ (d i : Nat) (s : RiSt), i + d = l.length → RI l i s → ∃ s2, riRun (l.drop i) s = some s2
  | 0, i, s, h, hI => by
    rw [List.drop_eq_nil_of_le (by omega)]
    exact ⟨s, rfl⟩
  | d + 1, i, s, h, hI => by
    obtain ⟨s2, h1, h2⟩ := ri_step (hR i (by omega)) hI
    rw [drop_g (by omega), riRun, h1]
    exact ri_run hR d (i + 1) s2 (by omega) h2
theorem ri_right {l : List S38} (hR : RP l) : ∃ s2, riRun l RiSt.start = some s2 := by
  have h := ri_run hR l.length 0 RiSt.start (by omega) ⟨fun t a h => (nomatch h), fun t => rfl, fun x t h => (nomatch h)⟩
  rw [List.drop_zero] at h
  exact h
theorem g_snoc_old {l : List S38} {x : S38} {j : Nat} (h : j < l.length) : g (l ++ [x]) j = g l j := by
  rw [g_eq, g_eq, List.getD_eq_getElem?_getD, List.getD_eq_getElem?_getD, List.getElem?_append_left h]
theorem g_snoc_new (l : List S38) (x : S38) : g (l ++ [x]) l.length = x := by
  rw [g_eq, List.getD_eq_getElem?_getD, List.getElem?_append_right (Nat.le_refl _), Nat.sub_self]
  rfl
theorem g_set_old {l : List S38} {x : S38} {n j : Nat} (h : j ≠ n) : g (l.set n x) j = g l j := by
  rw [g_eq, g_eq, List.getD_eq_getElem?_getD, List.getD_eq_getElem?_getD, List.getElem?_set_ne (fun e => h e.symm)]
theorem g_set_new {l : List S38} {n : Nat} (x : S38) (h : n < l.length) : g (l.set n x) n = x := by
  rw [g_eq, List.getD_eq_getElem?_getD, List.getElem?_set_self h]
  rfl
/-- Behind some events, the last of them p. -/
structure SI (p : S55) (s : SpSt) : Prop where
  rp : RP s.out
  begun : ∀ t, s.begun t = (cnt s.out s.out.length t : Int)
  none_ : ∀ t, s.last t = none → ∀ j, j < s.out.length → (g s.out j).f0 ≠ t
  some_ : ∀ t n, s.last t = some n → n < s.out.length ∧ (g s.out n).f0 = t ∧ ∀ j, n < j → j < s.out.length → (g s.out j).f0 ≠ t
  top : ∀ j, j < s.out.length → (g s.out j).f2 ≤ s.step ∧ (g s.out j).f3 ≤ s.step
  mine : ∀ j, j < s.out.length → (s.step = (g s.out j).f2 ∨ s.step = (g s.out j).f3) → (g s.out j).f0 = p.f1
  fits : ∀ j, j < s.out.length → fit36 (g s.out j) = true
  low : -1 ≤ s.step
theorem si_start (p : S55) : SI p SpSt.start := by
  refine ⟨fun i h => absurd h (Nat.not_lt_zero _), fun t => rfl, fun t _ j h => absurd h (Nat.not_lt_zero _), fun t n h => (nomatch h), fun j h => absurd h (Nat.not_lt_zero _), fun j h => absurd h (Nat.not_lt_zero _), fun j h => absurd h (Nat.not_lt_zero _), Int.le_refl _⟩
/-- A call begins. -/
theorem si_begin {p e : S55} {s : SpSt} (hI : SI p s) (h0 : 0 ≤ e.f0) (h1 : s.step < e.f0) (hop : s.open_ e.f1 = false) (hix : e.f2 = s.begun e.f1) (hr : e.f3 = false) (hf : fit e.f0 = true ∧ fit e.f1 = true) (c : Int) :
    SI e ({ s with step := e.f0, cnt := c }.go e) ∧ ({ s with step := e.f0, cnt := c }.go e).out.length = s.out.length + 1 := by
  unfold SpSt.go
  rw [if_neg (by rw [hr]; simp)]
  have hlen : (s.out ++ [(⟨e.f1, e.f2, e.f0, -1⟩ : S38)]).length = s.out.length + 1 := by simp
  have hcnt : ∀ t, cnt (s.out ++ [(⟨e.f1, e.f2, e.f0, -1⟩ : S38)]) s.out.length t = cnt s.out s.out.length t := fun t => cnt_congr t _ (fun j hj => by rw [g_snoc_old hj])
  refine ⟨⟨?_, ?_, ?_, ?_, ?_, ?_, ?_, ?_⟩, hlen⟩
  · intro i hi
    unfold clause
    rw [hlen] at hi
    rcases Nat.lt_or_ge i s.out.length with h | h
    · obtain ⟨r1, r2, r3⟩ := hI.rp i h
      rw [g_snoc_old h]
      refine ⟨r1, ?_, fun j hj => ?_⟩
      · rw [r2]
        congr 1
        exact cnt_congr _ _ (fun j hj => by rw [g_snoc_old (show j < s.out.length by omega)])
      · rw [g_snoc_old (show j < s.out.length by omega)]
        exact r3 j hj
    · obtain rfl : i = s.out.length := by omega
      rw [g_snoc_new]
      refine ⟨⟨h0, Or.inl rfl⟩, ?_, fun j hj => ?_⟩
      · show e.f2 = _
        rw [hcnt, hix, hI.begun]
      · rw [g_snoc_old hj]
        have ht := hI.top j hj
        refine ⟨fun hs => ?_, fun hs x hx hn => ?_⟩
        · refine ⟨?_, show _ < e.f0 by omega⟩
          have hs2 : (g s.out j).f0 = e.f1 := hs
          cases hl : s.last e.f1 with
          | none => exact absurd hs2 (hI.none_ _ hl j hj)
          | some n =>
            obtain ⟨n1, n2, n3⟩ := hI.some_ _ _ hl
            have hn : (g s.out n).f3 ≠ -1 := by
              unfold SpSt.open_ at hop
              rw [hl] at hop
              simpa [g] using hop
            rcases Nat.lt_trichotomy j n with h5 | h5 | h5
            · exact (((hI.rp n n1).2.2 j h5).1 (by rw [hs2, n2])).1
            · rw [h5]; exact hn
            · exact absurd hs2 (n3 j h5 hj)
        · refine ⟨?_, hn⟩
          show x ≠ e.f0
          rcases hx with h6 | h6 <;> omega
  · intro t
    show (if t = e.f1 then s.begun e.f1 + 1 else s.begun t) = _
    rw [hlen, cnt_succ, g_snoc_new, hcnt]
    by_cases ht : t = e.f1
    · rw [if_pos ht, if_pos (show e.f1 = t from ht.symm), hI.begun, ht]; omega
    · rw [if_neg ht, if_neg (show ¬ e.f1 = t from fun h => ht h.symm), hI.begun]; omega
  · intro t h j hj
    rw [hlen] at hj
    have h2 : (if t = e.f1 then some s.out.length else s.last t) = none := h
    by_cases ht : t = e.f1
    · rw [if_pos ht] at h2; cases h2
    · rw [if_neg ht] at h2
      rcases Nat.lt_or_ge j s.out.length with h3 | h3
      · show (g (s.out ++ _) j).f0 ≠ t
        rw [g_snoc_old h3]; exact hI.none_ t h2 j h3
      · obtain rfl : j = s.out.length := by omega
        show (g (s.out ++ _) s.out.length).f0 ≠ t
        rw [g_snoc_new]
        exact fun h => ht h.symm
  · intro t n h
    have h2 : (if t = e.f1 then some s.out.length else s.last t) = some n := h
    show n < (s.out ++ _).length ∧ (g (s.out ++ _) n).f0 = t ∧ ∀ j, n < j → j < (s.out ++ _).length → (g (s.out ++ _) j).f0 ≠ t
    rw [hlen]
    by_cases ht : t = e.f1
    · rw [if_pos ht] at h2
      injection h2 with h2
      subst h2
      rw [g_snoc_new]
      exact ⟨by omega, ht.symm, fun j h5 h6 => by omega⟩
    · rw [if_neg ht] at h2
      obtain ⟨n1, n2, n3⟩ := hI.some_ t n h2
      refine ⟨by omega, by rw [g_snoc_old n1]; exact n2, fun j h5 h6 => ?_⟩
      rcases Nat.lt_or_ge j s.out.length with h3 | h3
      · rw [g_snoc_old h3]; exact n3 j h5 h3
      · obtain rfl : j = s.out.length := by omega
        rw [g_snoc_new]
        exact fun h => ht h.symm
  · intro j hj
    rw [hlen] at hj
    show (g (s.out ++ _) j).f2 ≤ e.f0 ∧ (g (s.out ++ _) j).f3 ≤ e.f0
    rcases Nat.lt_or_ge j s.out.length with h3 | h3
    · rw [g_snoc_old h3]
      have := hI.top j h3
      omega
    · obtain rfl : j = s.out.length := by omega
      rw [g_snoc_new]
      exact ⟨Int.le_refl _, by show (-1 : Int) ≤ e.f0; omega⟩
  · intro j hj h
    rw [hlen] at hj
    have h' : e.f0 = (g (s.out ++ [(⟨e.f1, e.f2, e.f0, -1⟩ : S38)]) j).f2 ∨ e.f0 = (g (s.out ++ [(⟨e.f1, e.f2, e.f0, -1⟩ : S38)]) j).f3 := h
    show (g (s.out ++ _) j).f0 = e.f1
    rcases Nat.lt_or_ge j s.out.length with h3 | h3
    · rw [g_snoc_old h3] at h'
      have := hI.top j h3
      omega
    · obtain rfl : j = s.out.length := by omega
      rw [g_snoc_new]
  · intro j hj
    rw [hlen] at hj
    show fit36 (g (s.out ++ _) j) = true
    rcases Nat.lt_or_ge j s.out.length with h3 | h3
    · rw [g_snoc_old h3]; exact hI.fits j h3
    · obtain rfl : j = s.out.length := by omega
      rw [g_snoc_new]
      unfold fit36
      rw [hf.1, hf.2]
      rfl
  · show -1 ≤ e.f0
    omega
/-- A call returns. -/
theorem si_return {p e : S55} {s : SpSt} (hI : SI p s) (h0 : 0 ≤ e.f0) (h1 : s.step ≤ e.f0) (h2 : e.f0 = s.step → p.f1 = e.f1) (hop : s.open_ e.f1 = true) (hr : e.f3 = true) (hf : fit e.f0 = true ∧ fit e.f1 = true) (c : Int) :
    SI e ({ s with step := e.f0, cnt := c }.go e) ∧ ({ s with step := e.f0, cnt := c }.go e).out.length = s.out.length := by
  unfold SpSt.go
  rw [if_pos hr]
  obtain ⟨n, hl⟩ : ∃ n, s.last e.f1 = some n := by
    cases hl : s.last e.f1 with
    | none => unfold SpSt.open_ at hop; rw [hl] at hop; simp at hop
    | some n => exact ⟨n, rfl⟩
  obtain ⟨n1, n2, n3⟩ := hI.some_ _ _ hl
  have hn : (g s.out n).f3 = -1 := by
    unfold SpSt.open_ at hop
    rw [hl] at hop
    simpa [g] using hop
  obtain ⟨r1, r2, r3⟩ := hI.rp n n1
  have ht := hI.top n n1
  have hx : ({ s with step := e.f0, cnt := c } : SpSt).last e.f1 = some n := hl
  have he : (s.out.set n (⟨(g s.out n).f0, (g s.out n).f1, (g s.out n).f2, e.f0⟩ : S38)) = ({ s with step := e.f0, cnt := c } : SpSt).out.set ((({ s with step := e.f0, cnt := c } : SpSt).last e.f1).getD 0) ⟨(rd_T38 s.out ((s.last e.f1).getD 0 : Nat)).f0, (rd_T38 s.out ((s.last e.f1).getD 0 : Nat)).f1, (rd_T38 s.out ((s.last e.f1).getD 0 : Nat)).f2, e.f0⟩ := by
    rw [hx]
    rfl
  show SI e ⟨({ s with step := e.f0, cnt := c } : SpSt).out.set ((({ s with step := e.f0, cnt := c } : SpSt).last e.f1).getD 0) ⟨(rd_T38 s.out ((s.last e.f1).getD 0 : Nat)).f0, (rd_T38 s.out ((s.last e.f1).getD 0 : Nat)).f1, (rd_T38 s.out ((s.last e.f1).getD 0 : Nat)).f2, e.f0⟩, s.last, s.begun, e.f0, c⟩ ∧ (({ s with step := e.f0, cnt := c } : SpSt).out.set ((({ s with step := e.f0, cnt := c } : SpSt).last e.f1).getD 0) (⟨(rd_T38 s.out ((s.last e.f1).getD 0 : Nat)).f0, (rd_T38 s.out ((s.last e.f1).getD 0 : Nat)).f1, (rd_T38 s.out ((s.last e.f1).getD 0 : Nat)).f2, e.f0⟩ : S38)).length = s.out.length
  rw [← he]
  have hth : ∀ j, (g (s.out.set n (⟨(g s.out n).f0, (g s.out n).f1, (g s.out n).f2, e.f0⟩ : S38)) j).f0 = (g s.out j).f0 := fun j => by
    by_cases hj : j = n
    · subst hj; rw [g_set_new _ n1]
    · rw [g_set_old hj]
  have hcnt : ∀ i t, cnt (s.out.set n (⟨(g s.out n).f0, (g s.out n).f1, (g s.out n).f2, e.f0⟩ : S38)) i t = cnt s.out i t := fun i t => cnt_congr t _ (fun j hj => hth j)
  have hlen : (s.out.set n (⟨(g s.out n).f0, (g s.out n).f1, (g s.out n).f2, e.f0⟩ : S38)).length = s.out.length := List.length_set
  -- a step of another thread's is not the new one
  have hap : ∀ j, j < s.out.length → (g s.out j).f0 ≠ e.f1 → (g s.out j).f2 ≠ e.f0 ∧ (g s.out j).f3 ≠ e.f0 := fun j hj hne => by
    have h4 := hI.top j hj
    by_cases h5 : e.f0 = s.step
    · have h6 := h2 h5
      refine ⟨fun h7 => hne ?_, fun h7 => hne ?_⟩
      · rw [← h6]; exact hI.mine j hj (Or.inl (by omega))
      · rw [← h6]; exact hI.mine j hj (Or.inr (by omega))
    · exact ⟨by omega, by omega⟩
  refine ⟨⟨?_, ?_, ?_, ?_, ?_, ?_, ?_, ?_⟩, hlen⟩
  · intro i hi
    have hi2 : i < s.out.length := by rw [← hlen]; exact hi
    obtain ⟨q1, q2, q3⟩ := hI.rp i hi2
    show one (g (s.out.set n _) i) ∧ (g (s.out.set n _) i).f1 = (cnt (s.out.set n _) i (g (s.out.set n _) i).f0 : Int) ∧ ∀ j, j < i → two (g (s.out.set n _) j) (g (s.out.set n _) i)
    rw [hcnt, hth]
    by_cases hin : i = n
    · subst hin
      rw [g_set_new _ n1]
      refine ⟨⟨r1.1, Or.inr (by show (g s.out i).f2 ≤ e.f0; omega)⟩, r2, fun j hj => ?_⟩
      rw [g_set_old (by omega)]
      obtain ⟨t1, t2⟩ := r3 j hj
      refine ⟨fun hs => t1 hs, fun hs x hx hne => ?_⟩
      obtain ⟨u1, u2⟩ := t2 hs x hx hne
      have h8 := hap j (by omega) (by rw [← n2]; exact hs)
      refine ⟨u1, ?_⟩
      show x ≠ e.f0
      rcases hx with h9 | h9
      · rw [h9]; exact h8.1
      · rw [h9]; exact h8.2
    · rw [g_set_old hin]
      refine ⟨q1, q2, fun j hj => ?_⟩
      by_cases hjn : j = n
      · subst hjn
        rw [g_set_new _ n1]
        have hne := n3 i hj hi2
        obtain ⟨t1, t2⟩ := q3 j hj
        refine ⟨fun hs => absurd (show (g s.out i).f0 = e.f1 by rw [← n2]; exact hs.symm) hne, fun hs x hx hx1 => ?_⟩
        rcases hx with h9 | h9
        · exact t2 hs x (Or.inl h9) hx1
        · have h8 := hap i hi2 hne
          have h10 : x = e.f0 := h9
          rw [h10]
          exact ⟨fun h => h8.1 h.symm, fun h => h8.2 h.symm⟩
      · rw [g_set_old hjn]
        exact q3 j hj
  · intro t
    show s.begun t = (cnt (s.out.set n _) (s.out.set n _).length t : Int)
    rw [hcnt, hlen, hI.begun]
  · intro t h j hj
    show (g (s.out.set n _) j).f0 ≠ t
    rw [hth]
    exact hI.none_ t h j (by rw [← hlen]; exact hj)
  · intro t m h
    show m < (s.out.set n _).length ∧ (g (s.out.set n _) m).f0 = t ∧ ∀ j, m < j → j < (s.out.set n _).length → (g (s.out.set n _) j).f0 ≠ t
    rw [hlen, hth]
    obtain ⟨m1, m2, m3⟩ := hI.some_ t m h
    exact ⟨m1, m2, fun j h5 h6 => by rw [hth]; exact m3 j h5 h6⟩
  · intro j hj
    have hj2 : j < s.out.length := by rw [← hlen]; exact hj
    have := hI.top j hj2
    show (g (s.out.set n _) j).f2 ≤ e.f0 ∧ (g (s.out.set n _) j).f3 ≤ e.f0
    by_cases hjn : j = n
    · subst hjn
      rw [g_set_new _ n1]
      exact ⟨by show (g s.out j).f2 ≤ e.f0; omega, Int.le_refl _⟩
    · rw [g_set_old hjn]; omega
  · intro j hj h
    have hj2 : j < s.out.length := by rw [← hlen]; exact hj
    show (g (s.out.set n _) j).f0 = e.f1
    have h' : e.f0 = (g (s.out.set n (⟨(g s.out n).f0, (g s.out n).f1, (g s.out n).f2, e.f0⟩ : S38)) j).f2 ∨ e.f0 = (g (s.out.set n (⟨(g s.out n).f0, (g s.out n).f1, (g s.out n).f2, e.f0⟩ : S38)) j).f3 := h
    rw [hth]
    by_cases hjn : j = n
    · subst hjn; exact n2
    · rw [g_set_old hjn] at h'
      by_cases hne : (g s.out j).f0 = e.f1
      · exact hne
      · have h8 := hap j hj2 hne
        rcases h' with h9 | h9
        · exact absurd h9.symm h8.1
        · exact absurd h9.symm h8.2
  · intro j hj
    have hj2 : j < s.out.length := by rw [← hlen]; exact hj
    show fit36 (g (s.out.set n _) j) = true
    have h4 := hI.fits j hj2
    by_cases hjn : j = n
    · subst hjn
      rw [g_set_new _ n1]
      unfold fit36 at h4 ⊢
      rw [Bool.and_eq_true, Bool.and_eq_true] at h4
      rw [h4.1.1, h4.1.2, hf.1]
      rfl
    · rw [g_set_old hjn]; exact h4
  · show -1 ≤ e.f0
    omega
theorem si_next {p e : S55} {s s2 : SpSt} (hI : SI p s) (hf : fit e.f0 = true ∧ fit e.f1 = true) (h : s.next p e = some s2) : SI e s2 ∧ s2.out.length = s.out.length + (if e.f3 = true then 0 else 1) := by
  unfold SpSt.next at h
  by_cases hb : s.bad1 e = true
  · rw [if_pos hb] at h; cases h
  · rw [if_neg hb] at h
    unfold SpSt.bad1 at hb
    simp only [Bool.or_eq_true, not_or, decide_eq_true_eq, Bool.not_eq_true] at hb
    obtain ⟨⟨⟨⟨b1, b2⟩, b3⟩, b4⟩, b5⟩ := hb
    have hop : s.open_ e.f1 = e.f3 := by
      cases h1 : e.f3 <;> cases h2 : s.open_ e.f1 <;> rw [h1, h2] at b3 <;> first | rfl | cases b3
    by_cases hs : e.f0 = s.step
    · rw [if_pos hs] at h
      by_cases hb2 : s.bad2 p e = true
      · rw [if_pos hb2] at h; cases h
      · rw [if_neg hb2] at h
        injection h with h
        unfold SpSt.bad2 at hb2
        simp only [Bool.or_eq_true, not_or, decide_eq_true_eq, Bool.not_eq_true] at hb2
        obtain ⟨⟨⟨c1, c2⟩, c3⟩, c4⟩ := hb2
        have hr : e.f3 = true := by simpa using c2
        have hp : p.f1 = e.f1 := by simpa using c4
        have h9 := si_return hI (by omega) (by omega) (fun _ => hp) (by rw [hop]; exact hr) hr hf (s.cnt + 1)
        rw [hs] at h9
        rw [if_pos hr, ← h]
        exact h9
    · rw [if_neg hs] at h
      injection h with h
      cases hr : e.f3 with
      | true =>
        have h9 := si_return hI (by omega) (by omega) (fun h => absurd h hs) (by rw [hop]; exact hr) hr hf 1
        rw [if_pos rfl, ← h]
        exact h9
      | false =>
        have h9 := si_begin hI (by omega) (by omega) (by rw [hop]; exact hr) (by rw [hop, hr] at b5; simpa using b5) hr hf 1
        rw [if_neg (by simp), ← h]
        exact h9
theorem si_run : ∀ (l : List S55) (p : S55) (s s2 : SpSt), SI p s → (∀ e ∈ l, fit e.f0 = true ∧ fit e.f1 = true) → spRun p l s = some s2 → ∃ p2, SI p2 s2 ∧ s2.out.length = s.out.length + l.countP (fun e => !e.f3)
  | [], p, s, s2, hI, _, h => by
    injection h with h
    subst h
    exact ⟨p, hI, by simp⟩
  | e :: r, p, s, s2, hI, hf, h => by
    rw [spRun] at h
    cases hn : s.next p e with
    | none => rw [hn] at h; cases h
    | some s1 =>
      rw [hn] at h
      obtain ⟨h1, h2⟩ := si_next hI (hf e (by simp)) hn
      obtain ⟨p2, h3, h4⟩ := si_run r e s1 s2 h1 (fun x hx => hf x (by simp [hx])) h
      refine ⟨p2, h3, ?_⟩
      rw [h4, h2, List.countP_cons]
      cases e.f3 <;> simp <;> omega
/-- What Spans tells is right, and has a span for each call that begins. -/
theorem spans_right (l : List S55) (hf : ∀ e ∈ l, fit e.f0 = true ∧ fit e.f1 = true) (hl : l.length < 4398046511104) (s : SpSt) (h : spRun z55 l SpSt.start = some s) : hist_Right.f s.out = some 0 ∧ s.out.length = l.countP fun e => !e.f3 := by
  obtain ⟨p, hI, hc⟩ := si_run l z55 SpSt.start s (si_start z55) hf h
  have hc2 : s.out.length = l.countP fun e => !e.f3 := by rw [hc]; simp [SpSt.start]
  refine ⟨?_, hc2⟩
  obtain ⟨s2, h2⟩ := ri_right hI.rp
  unfold hist_Right.f
  rw [if_pos, h2]
  refine ⟨?_, ?_⟩
  · have := List.countP_le_length (p := fun e : S55 => !e.f3) (l := l)
    omega
  · rw [List.all_eq_true]
    intro x hx
    obtain ⟨j, hj, rfl⟩ := List.mem_iff_getElem.1 hx
    have h3 := hI.fits j hj
    rw [g_eq, List.getD_eq_getElem?_getD, List.getElem?_eq_getElem hj] at h3
    exact h3
end RM
end Go.Proofs.YtfmhdfgliamkkabDoor.Own
