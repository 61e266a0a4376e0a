/- The program's Right and the reference's tell the same of any spans. No condition. -/
import Derived.Test.YtfmhdfgliamkkabDoorHistRightMath
import Derived.Test.YtfmhdfgliamkkabDoorOwnx5
import Derived.Test.YtfmhdfgliamkkabDoorOwnx6
set_option linter.unusedVariables false
set_option linter.unusedSimpArgs false
namespace Go.Proofs.YtfmhdfgliamkkabDoor.Own
open Go.RowKit Go.Proofs.YtfmhdfgliamkkabDoorW.PrintWords Go.Proofs.YtfmhdfgliamkkabDoorW.PrintLast Go.Proofs.YtfmhdfgliamkkabDoorW.PrintMore
namespace RM
structure RC (l : List S38) (i : Nat) (s : RiSt) : Prop where
  last : ∀ j, j < i → ∃ k, j ≤ k ∧ k < i ∧ (g l k).f0 = (g l j).f0 ∧ s.last (g l j).f0 = some (g l k)
  used : ∀ j, j < i → ∀ x, x = (g l j).f2 ∨ x = (g l j).f3 → x ≠ -1 → s.used x = some (g l j).f0
theorem rc_clause {l : List S38} {i : Nat} {s s2 : RiSt} (hU : ∀ k, k < i → clause l k) (hI : RI l i s) (hC : RC l i s) (h : s.next (g l i) = some s2) : clause l i := by
  unfold RiSt.next at h
  by_cases hb : s.bad (g l i) = true
  · rw [if_pos hb] at h; cases h
  rw [if_neg hb] at h
  by_cases hu1 : useBad s.used (g l i).f0 (g l i).f2 = true
  · rw [if_pos hu1] at h; cases h
  rw [if_neg hu1] at h
  by_cases hu2 : useBad (useUp s.used (g l i).f0 (g l i).f2) (g l i).f0 (g l i).f3 = true
  · rw [if_pos hu2] at h; cases h
  clear h
  unfold RiSt.bad at hb
  simp only [Bool.or_eq_true, not_or, decide_eq_true_eq, Bool.not_eq_true] at hb
  obtain ⟨⟨⟨b1, b2⟩, b3⟩, b4⟩ := hb
  refine ⟨⟨by omega, ?_⟩, ?_, fun j hj => ⟨fun hs => ?_, fun hs x hx hn => ?_⟩⟩
  · by_cases h3 : (g l i).f3 = -1
    · exact Or.inl h3
    · right
      have h4 : ((g l i).f3 != -1) = true := by simpa using h3
      rw [h4, Bool.true_and] at b2
      have := of_decide_eq_false b2
      omega
  · rw [← hI.begun]
    simpa using b3
  · obtain ⟨k, k1, k2, k3, k4⟩ := hC.last j hj
    rw [hs] at k4
    rw [k4] at b4
    simp only [Option.isSome_some, Option.getD_some, Bool.true_and, Bool.or_eq_false_iff] at b4
    have c1 : (g l k).f3 ≠ -1 := by simpa using b4.1
    have c2 := of_decide_eq_false b4.2
    rcases Nat.eq_or_lt_of_le k1 with e | e
    · subst e
      exact ⟨c1, by omega⟩
    · obtain ⟨o1, _, o3⟩ := hU k k2
      obtain ⟨t1, t2⟩ := (o3 j e).1 k3.symm
      obtain ⟨_, o4⟩ := o1
      exact ⟨t1, by rcases o4 with o5 | o5 <;> omega⟩
  · have hu := hC.used j hj x hx hn
    have h2 : x ≠ (g l i).f2 := fun he => by
      refine hu1 ?_
      unfold useBad
      rw [← he, hu]
      simp [hs, hn]
    refine ⟨h2, fun he => hu2 ?_⟩
    unfold useBad useUp
    rw [← he, if_neg h2, hu]
    simp [hs, hn]
theorem rc_step {l : List S38} {i : Nat} {s s2 : RiSt} (hcl : clause l i) (hC : RC l i s) (h : s.next (g l i) = some s2) : RC l (i + 1) s2 := by
  unfold RiSt.next at h
  by_cases hb : s.bad (g l i) = true
  · rw [if_pos hb] at h; cases h
  rw [if_neg hb] at h
  by_cases hu1 : useBad s.used (g l i).f0 (g l i).f2 = true
  · rw [if_pos hu1] at h; cases h
  rw [if_neg hu1] at h
  by_cases hu2 : useBad (useUp s.used (g l i).f0 (g l i).f2) (g l i).f0 (g l i).f3 = true
  · rw [if_pos hu2] at h; cases h
  rw [if_neg hu2] at h
  injection h with h
  subst h
  refine ⟨fun j hj => ?_, fun j hj x hx hn => ?_⟩
  · simp only [RiSt.up]
    by_cases ht : (g l j).f0 = (g l i).f0
    · rw [if_pos ht]
      exact ⟨i, by omega, by omega, ht.symm, rfl⟩
    · rw [if_neg ht]
      have hji : j < i := by
        rcases Nat.lt_or_ge j i with h1 | h1
        · exact h1
        · obtain rfl : j = i := by omega
          exact absurd rfl ht
      obtain ⟨k, k1, k2, k3, k4⟩ := hC.last j hji
      exact ⟨k, k1, by omega, k3, k4⟩
  · simp only [RiSt.up, useUp]
    by_cases ht : (g l j).f0 = (g l i).f0
    · by_cases hx3 : x = (g l i).f3
      · rw [if_pos hx3, ht]
      · rw [if_neg hx3]
        by_cases hx2 : x = (g l i).f2
        · rw [if_pos hx2, ht]
        · rw [if_neg hx2]
          rcases Nat.lt_or_ge j i with h1 | h1
          · exact hC.used j h1 x hx hn
          · obtain rfl : j = i := by omega
            rcases hx with h2 | h2
            · exact absurd h2 hx2
            · exact absurd h2 hx3
    · have hji : j < i := by
        rcases Nat.lt_or_ge j i with h1 | h1
        · exact h1
        · obtain rfl : j = i := by omega
          exact absurd rfl ht
      obtain ⟨t1, t2⟩ := (hcl.2.2 j hji).2 ht x hx hn
      rw [if_neg t2, if_neg t1]
      exact hC.used j hji x hx hn
theorem rc_run {l : List S38} : ∀ (d i : Nat) (s s2 : RiSt), i + d = l.length → (∀ k, k < i → clause l k) → RI l i s → RC l i s → riRun (l.drop i) s = some s2 → RP l
  | 0, i, s, s2, h, hU, hI, hC, hr => fun k hk => hU k (by omega)
  | d + 1, i, s, s2, h, hU, hI, hC, hr => by
    rw [drop_g (by omega), riRun] at hr
    cases hn : s.next (g l i) with
    | none => rw [hn] at hr; cases hr
    | some s1 =>
      rw [hn] at hr
      have hc := rc_clause hU hI hC hn
      obtain ⟨s3, h3, h4⟩ := ri_step hc hI
      rw [hn] at h3
      injection h3 with h3
      subst h3
      refine rc_run d (i + 1) s1 s2 (by omega) (fun k hk => ?_) h4 (rc_step hc hC hn) hr
      rcases Nat.lt_or_ge k i with h5 | h5
      · exact hU k h5
      · obtain rfl : k = i := by omega
        exact hc
theorem ri_rp {l : List S38} {s2 : RiSt} (h : riRun l RiSt.start = some s2) : RP l :=
  rc_run l.length 0 RiSt.start s2 (by omega) (fun k hk => absurd hk (Nat.not_lt_zero _)) ⟨fun t a h => (nomatch h), fun t => rfl, fun x t h => (nomatch h)⟩ ⟨fun j hj => absurd hj (Nat.not_lt_zero _), fun j hj => absurd hj (Nat.not_lt_zero _)⟩ (by rw [List.drop_zero]; exact h)
theorem apart_is {a b : S38} (ha : one a) (hb : one b) (hne : a.f0 ≠ b.f0) : (shutterref05_apart.f a.f0 a.f1 a.f2 a.f3 b.f0 b.f1 b.f2 b.f3 = some true ∧ two a b) ∨ (shutterref05_apart.f a.f0 a.f1 a.f2 a.f3 b.f0 b.f1 b.f2 b.f3 = some false ∧ ¬ two a b) := by
  obtain ⟨a1, a2⟩ := ha
  obtain ⟨b1, b2⟩ := hb
  have hex : ∀ x, x = a.f2 ∨ x = a.f3 → x ≠ -1 → (x = b.f2 ∨ x = b.f3) → ¬ two a b := fun x hx hn he ht => by
    obtain ⟨t1, t2⟩ := ht.2 hne x hx hn
    rcases he with h | h
    · exact t1 h
    · exact t2 h
  unfold shutterref05_apart.f
  by_cases h1 : a.f2 = b.f2
  · rw [if_pos h1]
    exact Or.inr ⟨rfl, hex a.f2 (Or.inl rfl) (by omega) (Or.inl h1)⟩
  rw [if_neg h1]
  by_cases h2 : a.f2 = b.f3
  · rw [if_pos h2]
    exact Or.inr ⟨rfl, hex a.f2 (Or.inl rfl) (by omega) (Or.inr h2)⟩
  rw [if_neg h2]
  by_cases h3 : b.f2 = a.f3
  · rw [if_pos h3]
    exact Or.inr ⟨rfl, hex a.f3 (Or.inr rfl) (by omega) (Or.inl h3.symm)⟩
  rw [if_neg h3]
  by_cases h4 : a.f3 = b.f3
  · rw [if_pos h4]
    by_cases h5 : a.f3 = -1
    · left
      refine ⟨by rw [h5]; rfl, fun h => absurd h hne, fun _ x hx hn => ?_⟩
      rcases hx with h6 | h6
      · exact ⟨by omega, by omega⟩
      · exact absurd (h6.trans h5) hn
    · right
      refine ⟨?_, hex a.f3 (Or.inr rfl) h5 (Or.inr h4)⟩
      have : (a.f3 == -1) = false := by simpa using h5
      rw [this]
  · rw [if_neg h4]
    left
    refine ⟨rfl, fun h => absurd h hne, fun _ x hx hn => ?_⟩
    rcases hx with h6 | h6 <;> exact ⟨by omega, by omega⟩
theorem ref_l1r (l : List S38) (hl : l.length < 4398046511104) (i : Nat) (hi : i < l.length) (h1 : one (g l i)) (hU : ∀ k, k < i → one (g l k)) (K : Nat) : ∀ (d q : Nat), q + d = i →
    (shutterref05_Right.l1 (K + d + 1) l (i : Int) (cnt l q (g l i).f0 : Int) (q : Int) (g l i).f0 (g l i).f1 (g l i).f2 (g l i).f3 = shutterref05_Right.l0 K l ((i + 1 : Nat) : Int) ∧ ((∀ j, q ≤ j → j < i → two (g l j) (g l i)) ∧ (g l i).f1 = (cnt l i (g l i).f0 : Int))) ∨
    (shutterref05_Right.l1 (K + d + 1) l (i : Int) (cnt l q (g l i).f0 : Int) (q : Int) (g l i).f0 (g l i).f1 (g l i).f2 (g l i).f3 = some 50 ∧ ¬ ((∀ j, q ≤ j → j < i → two (g l j) (g l i)) ∧ (g l i).f1 = (cnt l i (g l i).f0 : Int)))
  | 0, q, h => by
    obtain rfl : q = i := by omega
    have hw : wrap64 ((q : Int) + 1) = ((q + 1 : Nat) : Int) := by unfold wrap64; omega
    simp only [shutterref05_Right.l1]
    rw [if_neg (by omega), hw]
    by_cases hc : (g l q).f1 = (cnt l q (g l q).f0 : Int)
    · rw [if_pos hc]
      exact Or.inl ⟨rfl, fun j h2 h3 => by omega, hc⟩
    · rw [if_neg hc]
      exact Or.inr ⟨rfl, fun h => hc h.2⟩
  | d + 1, q, h => by
    have hw : wrap64 ((q : Int) + 1) = ((q + 1 : Nat) : Int) := by unfold wrap64; omega
    have hcl : cnt l q (g l i).f0 ≤ q := by
      unfold cnt
      have := List.countP_le_length (p := fun j => (g l j).f0 == (g l i).f0) (l := List.range q)
      rwa [List.length_range] at this
    have hwc : wrap64 ((cnt l q (g l i).f0 : Int) + 1) = ((cnt l q (g l i).f0 + 1 : Nat) : Int) := by unfold wrap64; omega
    have hcs := cnt_succ l q (g l i).f0
    have ih := ref_l1r l hl i hi h1 hU K d (q + 1) (by omega)
    have hall : two (g l q) (g l i) → ((∀ j, q + 1 ≤ j → j < i → two (g l j) (g l i)) ∧ (g l i).f1 = (cnt l i (g l i).f0 : Int) ↔ (∀ j, q ≤ j → j < i → two (g l j) (g l i)) ∧ (g l i).f1 = (cnt l i (g l i).f0 : Int)) := fun ht => by
      refine and_congr ⟨fun hh j h2 h3 => ?_, fun hh j h2 h3 => hh j (by omega) h3⟩ Iff.rfl
      rcases Nat.eq_or_lt_of_le h2 with e | e
      · subst e; exact ht
      · exact hh j e h3
    have e1 : K + (d + 1) + 1 = (K + d + 1) + 1 := by omega
    rw [e1]
    generalize K + d + 1 = K2 at ih ⊢
    simp only [shutterref05_Right.l1]
    rw [if_pos (by omega), if_pos (by omega), if_pos (by omega), hw, hwc]
    have hg : rd_T38 l (q : Int) = g l q := rfl
    rw [hg]
    by_cases hs : (g l q).f0 = (g l i).f0
    · rw [if_pos hs]
      rw [if_pos hs] at hcs
      rw [hcs] at ih
      by_cases p1 : (g l q).f3 < 0
      · rw [if_pos p1]
        refine Or.inr ⟨rfl, fun hh => ?_⟩
        have h2 := (hh.1 q (Nat.le_refl _) (by omega)).1 hs
        obtain ⟨o1, o2⟩ := hU q (by omega)
        omega
      · rw [if_neg p1]
        by_cases p2 : (g l q).f3 ≥ (g l i).f2
        · rw [if_pos p2]
          refine Or.inr ⟨rfl, fun hh => ?_⟩
          have h2 := (hh.1 q (Nat.le_refl _) (by omega)).1 hs
          omega
        · rw [if_neg p2]
          rw [← hall ⟨fun _ => ⟨by omega, by omega⟩, fun hne => absurd hs hne⟩]
          exact ih
    · rw [if_neg hs]
      rw [if_neg hs, Nat.add_zero] at hcs
      rw [hcs] at ih
      rcases apart_is (hU q (by omega)) h1 hs with ⟨e, ht⟩ | ⟨e, ht⟩
      · rw [e]
        simp only [Option.bind_some]
        rw [if_pos trivial, ← hall ht]
        exact ih
      · rw [e]
        simp only [Option.bind_some]
        rw [if_neg (by decide)]
        exact Or.inr ⟨rfl, fun hh => ht (hh.1 q (Nat.le_refl _) (by omega))⟩
theorem ref_l0r (l : List S38) (hl : l.length < 4398046511104) : ∀ (d K i : Nat), i + d = l.length → (∀ k, k < i → clause l k) → d * (l.length + 3) + 1 ≤ K →
    (shutterref05_Right.l0 K l (i : Int) = some 0 ∧ RP l) ∨ (shutterref05_Right.l0 K l (i : Int) = some 50 ∧ ¬ RP l)
  | 0, K, i, h, hU, hK => by
    obtain ⟨K, rfl⟩ : ∃ m, K = m + 1 := ⟨K - 1, by omega⟩
    simp only [shutterref05_Right.l0]
    rw [if_neg (by omega)]
    exact Or.inl ⟨rfl, fun k hk => hU k (by omega)⟩
  | d + 1, K, i, h, hU, hK => by
    rw [Nat.succ_mul] at hK
    obtain ⟨K, rfl⟩ : ∃ m, K = m + i + 1 + 1 + 1 := ⟨K - i - 1 - 1 - 1, by omega⟩
    have hj : ∀ b : Bool, shutterref05_Right.j1 (K + i + 1 + 1) l (i : Int) b (g l i).f0 (g l i).f1 (g l i).f2 (g l i).f3 = if b = true then some 50 else shutterref05_Right.l1 (K + i + 1) l (i : Int) 0 0 (g l i).f0 (g l i).f1 (g l i).f2 (g l i).f3 := fun b => by
      generalize K + i + 1 = K2
      simp only [shutterref05_Right.j1]
    have hno : ¬ one (g l i) → ¬ RP l := fun hn hR => hn (hR i (by omega)).1
    have hyes : one (g l i) → (shutterref05_Right.l1 (K + i + 1) l (i : Int) 0 0 (g l i).f0 (g l i).f1 (g l i).f2 (g l i).f3 = some 0 ∧ RP l) ∨ (shutterref05_Right.l1 (K + i + 1) l (i : Int) 0 0 (g l i).f0 (g l i).f1 (g l i).f2 (g l i).f3 = some 50 ∧ ¬ RP l) := fun h1 => by
      rcases ref_l1r l hl i (by omega) h1 (fun k hk => (hU k hk).1) K i 0 (by omega) with ⟨e, h2, h3⟩ | ⟨e, h2⟩
      · have e' : shutterref05_Right.l1 (K + i + 1) l (i : Int) 0 0 (g l i).f0 (g l i).f1 (g l i).f2 (g l i).f3 = shutterref05_Right.l0 K l ((i + 1 : Nat) : Int) := e
        rw [e']
        refine ref_l0r l hl d K (i + 1) (by omega) (fun k hk => ?_) (by omega)
        rcases Nat.lt_or_ge k i with h5 | h5
        · exact hU k h5
        · obtain rfl : k = i := by omega
          exact ⟨h1, h3, fun j hj => h2 j (Nat.zero_le _) hj⟩
      · exact Or.inr ⟨e, fun hR => h2 ⟨fun j _ hj => (hR i (by omega)).2.2 j hj, (hR i (by omega)).2.1⟩⟩
    generalize K + i + 1 + 1 = K3 at hj ⊢
    simp only [shutterref05_Right.l0]
    have hg : rd_T38 l (i : Int) = g l i := rfl
    rw [if_pos (by omega), if_pos (by omega), hg]
    by_cases p1 : (g l i).f2 < 0
    · rw [if_pos p1, hj, if_pos rfl]
      exact Or.inr ⟨rfl, hno fun h => by have := h.1; omega⟩
    rw [if_neg p1]
    by_cases p2 : (g l i).f3 < -1
    · rw [if_pos p2, hj, if_pos rfl]
      exact Or.inr ⟨rfl, hno fun h => by have := h.2; omega⟩
    rw [if_neg p2]
    by_cases p3 : (g l i).f3 ≥ 0
    · rw [if_pos p3, hj]
      by_cases p4 : (g l i).f3 < (g l i).f2
      · rw [decide_eq_true p4, if_pos rfl]
        exact Or.inr ⟨rfl, hno fun h => by have := h.2; omega⟩
      · rw [decide_eq_false p4, if_neg (by decide)]
        exact hyes ⟨by omega, by omega⟩
    · rw [if_neg p3, hj, if_neg (by decide)]
      exact hyes ⟨by omega, by omega⟩
/-- Right and the reference's. -/
theorem right_ref (l : List S38) (hl : l.length < 4398046511104) (hf : l.all fit36 = true) : ∃ (K : Nat) (r : Int), hist_Right.f l = some r ∧ shutterref05_Right.f K l = some r := by
  refine ⟨l.length * (l.length + 3) + 1, ?_⟩
  unfold hist_Right.f shutterref05_Right.f
  rw [if_pos ⟨hl, hf⟩]
  have h := ref_l0r l hl l.length (l.length * (l.length + 3) + 1) 0 (by omega) (fun k hk => absurd hk (Nat.not_lt_zero _)) (Nat.le_refl _)
  rcases h with ⟨e, hR⟩ | ⟨e, hR⟩
  · obtain ⟨s2, h2⟩ := ri_right hR
    rw [h2]
    exact ⟨0, rfl, e⟩
  · cases h2 : riRun l RiSt.start with
    | none => exact ⟨50, rfl, e⟩
    | some s2 => exact absurd (ri_rp h2) hR
end RM
end Go.Proofs.YtfmhdfgliamkkabDoor.Own
