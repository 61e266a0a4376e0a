/- The program's Spans and the reference's tell the same of any events. No condition. -/
import Derived.Test.YtfmhdfgliamkkaaHistSpansRef
import Derived.Test.YtfmhdfgliamkkaaOwnx5
set_option linter.unusedVariables false
set_option linter.unusedSimpArgs false
namespace Go.Proofs.Ytfmhdfgliamkkaa.Own
open Go.RowKit Go.Proofs.YtfmhdfgliamkkaaW.PrintWords Go.Proofs.YtfmhdfgliamkkaaW.PrintLast Go.Proofs.YtfmhdfgliamkkaaW.PrintMore
namespace RS
open RM
theorem l1_one (l : List S33) (i : Nat) (hi : i < l.length) (hl : l.length < 4398046511104) (K n : Nat) : ∀ (d q : Nat) (x : List S36), q + d = x.length → x.length < 4398046511104 → q ≤ n → n < x.length →
    ((g x n).f0 = (ev l i).f1 ∧ (g x n).f1 = (ev l i).f2) → (∀ j, j ≠ n → j < x.length → ¬ ((g x j).f0 = (ev l i).f1 ∧ (g x j).f1 = (ev l i).f2)) →
    shutterref05_Spans.l1 (K + d + 1) l x (i : Int) (q : Int) = shutterref05_Spans.l0 K l (x.set n ⟨(g x n).f0, (g x n).f1, (g x n).f2, (ev l i).f0⟩) ((i + 1 : Nat) : Int)
  | 0, q, x, h, hx, hqn, hn, hm, hno => absurd (Nat.lt_of_lt_of_le hn (Nat.le_of_eq h.symm)) (Nat.not_lt.2 hqn)
  | d + 1, q, x, h, hx, hqn, hn, hm, hno => by
    have HM := Aside0.mk hm
    have HN := Aside0.mk hno
    clear hm hno
    have hw : wrap64 ((q : Int) + 1) = ((q + 1 : Nat) : Int) := by unfold wrap64; omega
    have e1 : K + (d + 1) + 1 = (K + d + 1) + 1 := by omega
    have hg : rd_T36 x (q : Int) = g x q := rfl
    have hg2 : rd_T33 l (i : Int) = ev l i := rfl
    by_cases hq : q = n
    · subst hq
      have hlen : (x.set q (⟨(g x q).f0, (g x q).f1, (g x q).f2, (ev l i).f0⟩ : S36)).length = x.length := List.length_set
      have ih := l1_none l i hi hl K d (q + 1) (x.set q ⟨(g x q).f0, (g x q).f1, (g x q).f2, (ev l i).f0⟩) (by rw [hlen]; omega) (by rw [hlen]; exact hx) (fun j h1 h2 => by
        rw [g_set_old (by omega)]
        exact HN.out j (by omega) (by rw [← hlen]; exact h2))
      rw [e1]
      generalize K + d + 1 = K2 at ih ⊢
      simp only [shutterref05_Spans.l1]
      rw [if_pos (by omega), if_pos (by omega), if_pos (by omega), if_pos (by omega), hw, hg, hg2, if_pos HM.out.1, if_pos HM.out.2, Int.toNat_natCast]
      exact ih
    · have ih := l1_one l i hi hl K n d (q + 1) x (by omega) hx (by omega) hn HM.out HN.out
      rw [e1]
      generalize K + d + 1 = K2 at ih ⊢
      simp only [shutterref05_Spans.l1]
      rw [if_pos (by omega), if_pos (by omega), if_pos (by omega), if_pos (by omega), hw, hg, hg2]
      have h1 := HN.out q hq (by omega)
      by_cases h2 : (g x q).f0 = (ev l i).f1
      · rw [if_pos h2, if_neg (fun h3 => h1 ⟨h2, h3⟩)]
        exact ih
      · rw [if_neg h2]
        exact ih
theorem cnt_mono (x : List S36) (t : Int) (j : Nat) : ∀ d, RM.cnt x j t ≤ RM.cnt x (j + d) t
  | 0 => Nat.le_refl _
  | d + 1 => by
    rw [← Nat.add_assoc, cnt_succ]
    exact Nat.le_trans (cnt_mono x t j d) (Nat.le_add_right _ _)
theorem rp_lt {x : List S36} (hR : RP x) {j n : Nat} (hj : j < n) (hn : n < x.length) (h0 : (g x j).f0 = (g x n).f0) : (g x j).f1 < (g x n).f1 := by
  have e1 := (hR j (by omega)).2.1
  have e2 := (hR n hn).2.1
  rw [e1, e2, h0]
  have h1 := cnt_mono x (g x n).f0 (j + 1) (n - (j + 1))
  rw [show j + 1 + (n - (j + 1)) = n by omega, cnt_succ, if_pos h0] at h1
  omega
/-- No other span is the one that is meant. -/
theorem rp_unique {x : List S36} (hR : RP x) {n : Nat} (hn : n < x.length) : ∀ j, j ≠ n → j < x.length → ¬ ((g x j).f0 = (g x n).f0 ∧ (g x j).f1 = (g x n).f1) := by
  intro j hjn hj h
  rcases Nat.lt_or_gt_of_ne hjn with h1 | h1
  · have := rp_lt hR h1 hn h.1
    omega
  · have := rp_lt hR h1 hj h.1.symm
    omega
/-- What an event leaves of the rest: a call begins. -/
theorem ei_begin {l : List S33} {i : Nat} {s : SpSt} (hI : EI l i s) (c : Int) (hr : (ev l i).f3 = false)
    (hix : (ev l i).f2 = s.begun (ev l i).f1) :
    (∀ t, ({ s with step := (ev l i).f0, cnt := c }.go (ev l i)).last t = none → ∀ j, j < i + 1 → (ev l j).f1 ≠ t) ∧
    (∀ t n, ({ s with step := (ev l i).f0, cnt := c }.go (ev l i)).last t = some n → ∃ j, j < i + 1 ∧ (ev l j).f1 = t ∧ (∀ k, j < k → k < i + 1 → (ev l k).f1 ≠ t) ∧ (ev l j).f3 = (!({ s with step := (ev l i).f0, cnt := c }.go (ev l i)).open_ t) ∧ (ev l j).f2 = (g ({ s with step := (ev l i).f0, cnt := c }.go (ev l i)).out n).f1) := by
  have hgo : ({ s with step := (ev l i).f0, cnt := c }.go (ev l i)) = ⟨s.out ++ [⟨(ev l i).f1, (ev l i).f2, (ev l i).f0, -1⟩], fun t => if t = (ev l i).f1 then some s.out.length else s.last t, fun t => if t = (ev l i).f1 then s.begun (ev l i).f1 + 1 else s.begun t, (ev l i).f0, c⟩ := by
    unfold SpSt.go
    rw [if_neg (by rw [hr]; simp)]
  rw [hgo]
  refine ⟨fun t h j hj => ?_, fun t n h => ?_⟩
  · have h2 : (if t = (ev l i).f1 then some s.out.length else s.last t) = none := h
    by_cases ht : t = (ev l i).f1
    · rw [if_pos ht] at h2; cases h2
    · rw [if_neg ht] at h2
      rcases Nat.lt_or_ge j i with h3 | h3
      · exact hI.non t h2 j h3
      · obtain rfl : j = i := by omega
        exact fun h => ht h.symm
  · have h2 : (if t = (ev l i).f1 then some s.out.length else s.last t) = some n := h
    by_cases ht : t = (ev l i).f1
    · rw [if_pos ht] at h2
      injection h2 with h2
      subst h2
      refine ⟨i, by omega, ht.symm, fun k h3 h4 => by omega, ?_, ?_⟩
      · rw [hr]
        show false = !((if t = (ev l i).f1 then some s.out.length else s.last t).isSome && (rd_T36 (s.out ++ _) (((if t = (ev l i).f1 then some s.out.length else s.last t).getD 0 : Nat) : Int)).f3 == -1)
        rw [if_pos ht]
        show false = !(true && (g (s.out ++ _) s.out.length).f3 == -1)
        rw [g_snoc_new]
        rfl
      · show _ = (g (s.out ++ _) s.out.length).f1
        rw [g_snoc_new]
    · rw [if_neg ht] at h2
      obtain ⟨j, q1, q2, q3, q4, q5⟩ := hI.som t n h2
      obtain ⟨n1, _, _⟩ := hI.si.some_ t n h2
      refine ⟨j, by omega, q2, fun k h3 h4 => ?_, ?_, ?_⟩
      · rcases Nat.lt_or_ge k i with h5 | h5
        · exact q3 k h3 h5
        · obtain rfl : k = i := by omega
          exact fun h => ht h.symm
      · rw [q4]
        unfold SpSt.open_
        show (!((s.last t).isSome && (rd_T36 s.out (((s.last t).getD 0 : Nat) : Int)).f3 == -1)) = !((if t = (ev l i).f1 then some s.out.length else s.last t).isSome && (rd_T36 (s.out ++ _) (((if t = (ev l i).f1 then some s.out.length else s.last t).getD 0 : Nat) : Int)).f3 == -1)
        rw [if_neg ht, h2]
        show (!(true && (g s.out n).f3 == -1)) = !(true && (g (s.out ++ _) n).f3 == -1)
        rw [g_snoc_old n1]
      · show _ = (g (s.out ++ _) n).f1
        rw [g_snoc_old n1]
        exact q5
/-- And: a call returns. -/
theorem ei_return {l : List S33} {i : Nat} {s : SpSt} (hI : EI l i s) (c : Int) (hr : (ev l i).f3 = true) {n0 : Nat} (hla : s.last (ev l i).f1 = some n0)
    (h0 : 0 ≤ (ev l i).f0) (hix : (ev l i).f2 = (g s.out n0).f1) :
    (∀ t, ({ s with step := (ev l i).f0, cnt := c }.go (ev l i)).last t = none → ∀ j, j < i + 1 → (ev l j).f1 ≠ t) ∧
    (∀ t n, ({ s with step := (ev l i).f0, cnt := c }.go (ev l i)).last t = some n → ∃ j, j < i + 1 ∧ (ev l j).f1 = t ∧ (∀ k, j < k → k < i + 1 → (ev l k).f1 ≠ t) ∧ (ev l j).f3 = (!({ s with step := (ev l i).f0, cnt := c }.go (ev l i)).open_ t) ∧ (ev l j).f2 = (g ({ s with step := (ev l i).f0, cnt := c }.go (ev l i)).out n).f1) := by
  obtain ⟨n1, n2, n3⟩ := hI.si.some_ _ n0 hla
  have hgo : ({ s with step := (ev l i).f0, cnt := c }.go (ev l i)) = ⟨s.out.set n0 ⟨(g s.out n0).f0, (g s.out n0).f1, (g s.out n0).f2, (ev l i).f0⟩, s.last, s.begun, (ev l i).f0, c⟩ := by
    unfold SpSt.go
    rw [if_pos hr]
    show (⟨s.out.set ((s.last (ev l i).f1).getD 0) _, _, _, _, _⟩ : SpSt) = _
    rw [hla]
    rfl
  rw [hgo]
  refine ⟨fun t h j hj => ?_, fun t n h => ?_⟩
  · have h2 : s.last t = none := h
    rcases Nat.lt_or_ge j i with h3 | h3
    · exact hI.non t h2 j h3
    · obtain rfl : j = i := by omega
      intro ht
      rw [ht, h2] at hla
      cases hla
  · have h2 : s.last t = some n := h
    by_cases ht : t = (ev l i).f1
    · have hn : n0 = n := by rw [ht, hla] at h2; injection h2
      subst hn
      refine ⟨i, by omega, ht.symm, fun k h3 h4 => by omega, ?_, ?_⟩
      · rw [hr]
        unfold SpSt.open_
        show true = !((s.last t).isSome && (rd_T36 (s.out.set n0 _) (((s.last t).getD 0 : Nat) : Int)).f3 == -1)
        rw [h2]
        show true = !(true && (g (s.out.set n0 _) n0).f3 == -1)
        rw [g_set_new _ n1]
        have h5 : ((ev l i).f0 == -1) = false := by
          have : (ev l i).f0 ≠ -1 := by omega
          simpa using this
        show true = !(true && (ev l i).f0 == -1)
        rw [h5]
        rfl
      · show _ = (g (s.out.set n0 _) n0).f1
        rw [g_set_new _ n1]
        exact hix
    · obtain ⟨j, q1, q2, q3, q4, q5⟩ := hI.som t n h2
      obtain ⟨m1, m2, _⟩ := hI.si.some_ t n h2
      have hnn : n ≠ n0 := fun h => ht (by rw [← m2, h, n2])
      refine ⟨j, by omega, q2, fun k h3 h4 => ?_, ?_, ?_⟩
      · rcases Nat.lt_or_ge k i with h5 | h5
        · exact q3 k h3 h5
        · obtain rfl : k = i := by omega
          exact fun h => ht h.symm
      · rw [q4]
        unfold SpSt.open_
        show (!((s.last t).isSome && (rd_T36 s.out (((s.last t).getD 0 : Nat) : Int)).f3 == -1)) = !((s.last t).isSome && (rd_T36 (s.out.set n0 _) (((s.last t).getD 0 : Nat) : Int)).f3 == -1)
        rw [h2]
        show (!(true && (g s.out n).f3 == -1)) = !(true && (g (s.out.set n0 _) n).f3 == -1)
        rw [g_set_old hnn]
      · show _ = (g (s.out.set n0 _) n).f1
        rw [g_set_old hnn]
        exact q5
theorem go_step (s : SpSt) (e : S33) (a c : Int) : ({ s with step := a, cnt := c }.go e).step = a ∧ ({ s with step := a, cnt := c }.go e).cnt = c := by
  unfold SpSt.go
  cases e.f3 <;> exact ⟨rfl, rfl⟩
/-- What next does, and what it asks. -/
theorem next_some {p e : S33} {s s2 : SpSt} (h : s.next p e = some s2) :
    0 ≤ e.f0 ∧ s.step ≤ e.f0 ∧ s.open_ e.f1 = e.f3 ∧ (e.f3 = true → e.f2 = (g s.out ((s.last e.f1).getD 0)).f1) ∧ (e.f3 = false → e.f2 = s.begun e.f1) ∧
    s2 = ({ s with step := e.f0, cnt := if e.f0 = s.step then s.cnt + 1 else 1 }.go e) := by
  unfold SpSt.next at h
  by_cases hb : s.bad1 e = true
  · rw [if_pos hb] at h; cases h
  · rw [if_neg hb] at h
    unfold SpSt.bad1 at hb
    simp only [Bool.or_eq_true, not_or, decide_eq_true_eq, Bool.not_eq_true] at hb
    obtain ⟨⟨⟨⟨b1, b2⟩, b3⟩, b4⟩, b5⟩ := hb
    have hop : s.open_ e.f1 = e.f3 := by
      cases h1 : e.f3 <;> cases h2 : s.open_ e.f1 <;> rw [h1, h2] at b3 <;> first | rfl | cases b3
    rw [hop] at b4 b5
    refine ⟨by omega, by omega, hop, fun hr => ?_, fun hr => ?_, ?_⟩
    · rw [hr] at b4
      simpa [g] using b4
    · rw [hr] at b5
      simpa using b5
    · by_cases hs : e.f0 = s.step
      · rw [if_pos hs] at h
        by_cases hb2 : s.bad2 p e = true
        · rw [if_pos hb2] at h; cases h
        · rw [if_neg hb2] at h
          injection h with h
          rw [if_pos hs, ← h, hs]
      · rw [if_neg hs] at h
        injection h with h
        rw [if_neg hs, ← h]
theorem ei_next {l : List S33} {i : Nat} {s s2 : SpSt} (hI : EI l i s) (hf : fit (ev l i).f0 = true ∧ fit (ev l i).f1 = true) (h : s.next (ev l (i - 1)) (ev l i) = some s2) : EI l (i + 1) s2 := by
  obtain ⟨hS, _⟩ := si_next hI.si hf h
  obtain ⟨h0, h1, hop, hix1, hix2, rfl⟩ := next_some h
  obtain ⟨e1, e2⟩ := go_step s (ev l i) (ev l i).f0 (if (ev l i).f0 = s.step then s.cnt + 1 else 1)
  have e3 : i + 1 - 1 = i := by omega
  have e4 : i + 1 - 2 = i - 1 := by omega
  have hrest : (∀ t, ({ s with step := (ev l i).f0, cnt := if (ev l i).f0 = s.step then s.cnt + 1 else 1 }.go (ev l i)).last t = none → ∀ j, j < i + 1 → (ev l j).f1 ≠ t) ∧
    (∀ t n, ({ s with step := (ev l i).f0, cnt := if (ev l i).f0 = s.step then s.cnt + 1 else 1 }.go (ev l i)).last t = some n → ∃ j, j < i + 1 ∧ (ev l j).f1 = t ∧ (∀ k, j < k → k < i + 1 → (ev l k).f1 ≠ t) ∧ (ev l j).f3 = (!({ s with step := (ev l i).f0, cnt := if (ev l i).f0 = s.step then s.cnt + 1 else 1 }.go (ev l i)).open_ t) ∧ (ev l j).f2 = (g ({ s with step := (ev l i).f0, cnt := if (ev l i).f0 = s.step then s.cnt + 1 else 1 }.go (ev l i)).out n).f1) := by
    cases hr : (ev l i).f3 with
    | false => exact ei_begin hI _ hr (hix2 hr)
    | true =>
      rw [hr] at hop
      cases hla : s.last (ev l i).f1 with
      | none => unfold SpSt.open_ at hop; rw [hla] at hop; cases hop
      | some n0 =>
        refine ei_return hI _ hr hla h0 ?_
        have := hix1 hr
        rw [hla] at this
        exact this
  refine ⟨?_, fun h => by omega, fun _ => ?_, ?_, hrest.1, hrest.2⟩
  · rw [e3]; exact hS
  · rw [e1, e2, e3]
    refine ⟨rfl, h0, ?_⟩
    by_cases hs : (ev l i).f0 = s.step
    · rw [if_pos hs]
      by_cases hi0 : i = 0
      · have := (hI.step0 hi0).2; omega
      · have := (hI.step1 (by omega)).2.2; omega
    · rw [if_neg hs]; exact Int.le_refl _
  · rw [e2, e3, e4]
    by_cases hi0 : i = 0
    · have h5 := hI.step0 hi0
      rw [if_neg (show ¬ (ev l i).f0 = s.step by omega)]
      exact ⟨fun h => absurd h (by decide), fun h => absurd h.1 (by omega)⟩
    · have h5 := hI.step1 (by omega)
      rw [← h5.1]
      by_cases hs : (ev l i).f0 = s.step
      · rw [if_pos hs]
        exact ⟨fun _ => ⟨by omega, hs⟩, fun _ => by have := h5.2.2; omega⟩
      · rw [if_neg hs]
        exact ⟨fun h => absurd h (by decide), fun h => absurd h.2 hs⟩
theorem next_start {s : SpSt} (h : s.step = -1) (p p2 e : S33) : s.next p e = s.next p2 e := by
  unfold SpSt.next
  by_cases hs : e.f0 = s.step
  · have hb : s.bad1 e = true := by
      unfold SpSt.bad1
      rw [decide_eq_true (show e.f0 < 0 by omega)]
      rfl
    rw [if_pos hb, if_pos hb]
  · rw [if_neg hs, if_neg hs]
def res : Option SpSt → List S36 × Int
  | none => ([], 50)
  | some s => (s.out, 0)
theorem drop_ev {l : List S33} {i : Nat} (h : i < l.length) : l.drop i = ev l i :: l.drop (i + 1) := by
  rw [List.drop_eq_getElem_cons h]
  congr 1
  unfold ev rd_T33
  rw [Int.toNat_natCast, List.getD_eq_getElem?_getD, List.getElem?_eq_getElem h]
  rfl
theorem l0_run (l : List S33) (hl : l.length < 4398046511104) (hf : ∀ j, j < l.length → fit (ev l j).f0 = true ∧ fit (ev l j).f1 = true) :
    ∀ (d i : Nat) (s : SpSt), i + d = l.length → EI l i s → s.out.length ≤ i → ∃ K0, ∀ K, K0 ≤ K → shutterref05_Spans.l0 K l s.out (i : Int) = some (res (spRun (ev l (i - 1)) (l.drop i) s))
  | 0, i, s, h, hI, hlen => by
    refine ⟨1, fun K hK => ?_⟩
    obtain ⟨K, rfl⟩ : ∃ m, K = m + 1 := ⟨K - 1, by omega⟩
    rw [List.drop_eq_nil_of_le (by omega)]
    simp only [shutterref05_Spans.l0]
    rw [if_neg (by omega)]
    rfl
  | d + 1, i, s, h, hI, hlen => by
    have hw : wrap64 ((i : Int) + 1) = ((i + 1 : Nat) : Int) := by unfold wrap64; omega
    rw [drop_ev (show i < l.length by omega), spRun]
    have hfo := fun K hK => follows_next hI (show i < l.length by omega) hl hlen K hK
    have hg2 : rd_T33 l (i : Int) = ev l i := rfl
    cases hn : s.next (ev l (i - 1)) (ev l i) with
    | none =>
      refine ⟨i + 10, fun K hK => ?_⟩
      obtain ⟨K, rfl⟩ : ∃ m, K = m + 2 + 1 := ⟨K - 3, by omega⟩
      have h1 := hfo K (by omega)
      rw [hn] at h1
      generalize K + 2 = K2 at h1 ⊢
      simp only [shutterref05_Spans.l0]
      rw [if_pos (by omega), if_pos (by omega), if_pos (by omega), Int.toNat_natCast, hg2, h1]
      rfl
    | some s2 =>
      have hf1 := hf i (by omega)
      have hI2 := ei_next hI hf1 hn
      have hle : s2.out.length ≤ i + 1 := by
        have h2 := (si_next hI.si hf1 hn).2
        by_cases h3 : (ev l i).f3 = true
        · rw [if_pos h3] at h2; omega
        · rw [if_neg h3] at h2; omega
      obtain ⟨K1, ih⟩ := l0_run l hl hf d (i + 1) s2 (by omega) hI2 hle
      rw [show i + 1 - 1 = i by omega] at ih
      obtain ⟨h0, h1, hop, hix1, hix2, hs2⟩ := next_some hn
      refine ⟨K1 + s.out.length + i + 10, fun K hK => ?_⟩
      obtain ⟨K, rfl⟩ : ∃ m, K = m + s.out.length + 1 + 1 := ⟨K - s.out.length - 2, by omega⟩
      have h9 := hfo (K + s.out.length + 1 - 2) (by omega)
      rw [hn, show K + s.out.length + 1 - 2 + 2 = K + s.out.length + 1 by omega] at h9
      have ih1 := ih K (by omega)
      have ih2 := ih (K + s.out.length + 1) (by omega)
      have hi : i < l.length := by omega
      have hx : s.out.length < 4398046511104 := by omega
      have b1 : (i : Int) < (l.length : Int) := by omega
      have b2 : (0 : Int) ≤ (i : Int) := by omega
      have b3 : (i : Int) ≤ (l.length : Int) := by omega
      show _ = some (res (spRun (ev l i) (l.drop (i + 1)) s2))
      cases hr : (ev l i).f3 with
      | false =>
        have ho : s2.out = s.out ++ [⟨(ev l i).f1, (ev l i).f2, (ev l i).f0, -1⟩] := by
          rw [hs2]
          unfold SpSt.go
          rw [if_neg (by rw [hr]; simp)]
        rw [ho] at ih2
        generalize K + s.out.length + 1 = K2 at h9 ih2 ⊢
        simp only [shutterref05_Spans.l0]
        rw [if_pos b1, if_pos b2, if_pos b3, Int.toNat_natCast, hg2, h9, hr]
        simp only [Option.isSome_some, Option.bind_some]
        rw [if_pos trivial, if_neg (by simp), if_pos hx, hw]
        exact ih2
      | true =>
        rw [hr] at hop
        obtain ⟨n0, hla⟩ : ∃ n, s.last (ev l i).f1 = some n := by
          cases hla : s.last (ev l i).f1 with
          | none => unfold SpSt.open_ at hop; rw [hla] at hop; cases hop
          | some n => exact ⟨n, rfl⟩
        have ho : s2.out = s.out.set n0 ⟨(g s.out n0).f0, (g s.out n0).f1, (g s.out n0).f2, (ev l i).f0⟩ := by
          rw [hs2]
          unfold SpSt.go
          rw [if_pos hr]
          show s.out.set ((s.last (ev l i).f1).getD 0) _ = _
          rw [hla]
          rfl
        obtain ⟨n1, n2, _⟩ := hI.si.some_ _ _ hla
        have hx1 := hix1 hr
        rw [hla] at hx1
        have hx2 : (g s.out n0).f1 = (ev l i).f2 := hx1.symm
        have hone := l1_one l i hi hl K n0 s.out.length 0 s.out (by omega) hx (by omega) n1 ⟨n2, hx2⟩ (fun j h1 h2 h3 => rp_unique hI.si.rp n1 j h1 h2 ⟨by rw [h3.1, n2], by rw [h3.2, hx2]⟩)
        rw [ho] at ih1
        rw [ih1] at hone
        generalize K + s.out.length + 1 = K2 at h9 hone ⊢
        simp only [shutterref05_Spans.l0]
        rw [if_pos b1, if_pos b2, if_pos b3, Int.toNat_natCast, hg2, h9, hr]
        simp only [Option.isSome_some, Option.bind_some]
        rw [if_pos trivial, if_pos trivial]
        exact hone
/-- The reference tells what the program tells. -/
theorem spans_ref (l : List S33) (hl : l.length < 4398046511104) (hf : ∀ e ∈ l, fit e.f0 = true ∧ fit e.f1 = true) :
    ∃ K r, hist_Spans.f l = some r ∧ shutterref05_Spans.f K l = some r := by
  have hf2 : ∀ j, j < l.length → fit (ev l j).f0 = true ∧ fit (ev l j).f1 = true := fun j hj => by
    unfold ev rd_T33
    rw [Int.toNat_natCast, List.getD_eq_getElem?_getD, List.getElem?_eq_getElem hj]
    exact hf _ (List.getElem_mem hj)
  obtain ⟨K, hK⟩ := l0_run l hl hf2 l.length 0 SpSt.start (by omega) (ei_start l) (Nat.le_refl _)
  have h1 := hK K (Nat.le_refl _)
  rw [List.drop_zero] at h1
  have h2 : spRun (ev l (0 - 1)) l SpSt.start = spRun z33 l SpSt.start := by
    cases l with
    | nil => rfl
    | cons e r => rw [spRun, spRun, next_start rfl]
  rw [h2] at h1
  refine ⟨K, res (spRun z33 l SpSt.start), ?_, h1⟩
  unfold hist_Spans.f
  rw [if_pos ⟨hl, by rw [List.all_eq_true]; exact fun e he => (hf e he).2⟩]
  cases spRun z33 l SpSt.start <;> rfl
end RS
end Go.Proofs.Ytfmhdfgliamkkaa.Own
