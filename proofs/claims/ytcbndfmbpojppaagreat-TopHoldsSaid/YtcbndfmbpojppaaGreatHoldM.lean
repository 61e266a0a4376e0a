/- TopHolds in plain Lean: slots, handles, what the cells tell of them. No condition. -/
import Derived.Test.YtcbndfmbpojppaaGreatLiveM
import Derived.Test.YtcbndfmbpojppaaGreatScanM
import Derived.Test.YtcbndfmbpojppaaGreatOwnx1
import Derived.Test.YtcbndfmbpojppaaGreatOwnx2
import Derived.Test.YtcbndfmbpojppaaGreatAlone
import Derived.Test.YtcbndfmbpojppaaGreatAskM
import Derived.Test.YtcbndfmbpojppaaGreatArenaM
/- TopHolds in plain Lean: slots, handles, what the cells tell of them. No condition. -/
namespace Go.Proofs.YtcbndfmbpojppaaGreat
open Go.RowKit Go.Proofs.YtcbndfmbpojppaaGreatW.PrintWords Go.Proofs.YtcbndfmbpojppaaGreatW.PrintMore Go.Proofs.YtcbndfmbpojppaaGreat.Math
set_option linter.unusedVariables false
set_option linter.unusedSimpArgs false

/-- A slot: its generation, and which handle holds it. -/
structure Sl where
  g : Nat
  who : Option Nat
/-- A handle: its slot and generation, and does it hold? -/
structure Hd where
  i : Nat
  g : Nat
  on : Bool
def wordOf (s : Sl) : Int := match s.who with | none => wd 0 s.g 0 | some j => wd 3 s.g (j + 1)
def onS (S : List Sl) : Nat := S.countP (·.who.isSome)
def onH (H : List Hd) : Nat := H.countP (·.on)
theorem countP_set' {α : Type} (p : α → Bool) : ∀ (l : List α) (i : Nat) (x y : α), l[i]? = some x → (l.set i y).countP p + (if p x = true then 1 else 0) = l.countP p + (if p y = true then 1 else 0)
  | [], i, x, y, h => by simp at h
  | a :: l, 0, x, y, h => by
    obtain rfl : a = x := by simpa using h
    simp only [List.set_cons_zero, List.countP_cons]
    omega
  | a :: l, i + 1, x, y, h => by
    have := countP_set' p l i x y (by simpa using h)
    simp only [List.set_cons_succ, List.countP_cons]
    omega
/-- The first that none holds, if there is one. -/
theorem first_free : ∀ S : List Sl, (∃ (i : Nat) (s : Sl), S[i]? = some s ∧ s.who = none ∧ ∀ (k : Nat) (t : Sl), k < i → S[k]? = some t → t.who.isSome = true) ∨ (∀ (k : Nat) (t : Sl), S[k]? = some t → t.who.isSome = true)
  | [] => .inr fun k t h => by simp at h
  | s :: S => by
    cases hw : s.who with
    | none => exact .inl ⟨0, s, rfl, hw, fun k t hk => by omega⟩
    | some j =>
      rcases first_free S with ⟨i, u, hi, hu, hk⟩ | h
      · refine .inl ⟨i + 1, u, by simpa using hi, hu, fun k t hl ht => ?_⟩
        cases k with
        | zero =>
          obtain rfl : s = t := by simpa using ht
          rw [hw]; rfl
        | succ k => exact hk k t (by omega) (by simpa using ht)
      · refine .inr fun k t ht => ?_
        cases k with
        | zero =>
          obtain rfl : s = t := by simpa using ht
          rw [hw]; rfl
        | succ k => exact h k t (by simpa using ht)
theorem onS_le (S : List Sl) : onS S ≤ S.length := List.countP_le_length
theorem onS_lt {S : List Sl} {i : Nat} {s : Sl} (hi : S[i]? = some s) (hs : s.who = none) : onS S < S.length := by
  have h := countP_set' (·.who.isSome) S i s ⟨0, some 0⟩ hi
  have h2 : (S.set i ⟨0, some 0⟩).countP (·.who.isSome) ≤ (S.set i ⟨0, some 0⟩).length := List.countP_le_length
  rw [List.length_set] at h2
  simp only [hs, Option.isSome_none, Option.isSome_some, Bool.false_eq_true, if_false, if_true] at h
  unfold onS
  omega
theorem onS_full {S : List Sl} (h : ∀ (k : Nat) (t : Sl), S[k]? = some t → t.who.isSome = true) : onS S = S.length := by
  unfold onS
  rw [List.countP_eq_length]
  intro s hs
  obtain ⟨k, hk, e⟩ := List.mem_iff_getElem.1 hs
  exact h k s (by rw [List.getElem?_eq_getElem hk, e])

/-- The slots and the handles fit; r: how many rounds there have been. -/
structure HInv (n r : Nat) (S : List Sl) (H : List Hd) : Prop where
  len : S.length = n
  gen : ∀ (i : Nat) (s : Sl), S[i]? = some s → s.g ≤ r
  ats : ∀ (j : Nat) (h : Hd), H[j]? = some h → ∃ s, S[h.i]? = some s ∧ (h.on = true → s.g = h.g ∧ s.who = some j) ∧ (h.on = false → h.g < s.g)
  ofs : ∀ (i : Nat) (s : Sl) (j : Nat), S[i]? = some s → s.who = some j → ∃ h, H[j]? = some h ∧ h.i = i ∧ h.g = s.g ∧ h.on = true
  cnt : onS S = onH H
  few : H.length ≤ r
theorem HInv.next {n r : Nat} {S : List Sl} {H : List Hd} (h : HInv n r S H) : HInv n (r + 1) S H :=
  ⟨h.len, fun i s hi => Nat.le_succ_of_le (h.gen i s hi), h.ats, h.ofs, h.cnt, Nat.le_succ_of_le h.few⟩
theorem HInv.snap {n r : Nat} {S : List Sl} {H : List Hd} (h : HInv n r S H) {i : Nat} {s : Sl} (hi : S[i]? = some s) (hs : s.who = none) : HInv n (r + 1) (S.set i ⟨s.g, some H.length⟩) (H ++ [⟨i, s.g, true⟩]) := by
  have li : i < S.length := (List.getElem?_eq_some_iff.1 hi).1
  refine ⟨by rw [List.length_set]; exact h.len, fun k t hk => ?_, fun j u hj => ?_, fun k t j hk ht => ?_, ?_, ?_⟩
  · rw [List.getElem?_set] at hk
    split at hk
    · have := h.gen i s hi
      simp only [li, if_true, Option.some.injEq] at hk
      subst hk
      show s.g ≤ r + 1
      omega
    · exact Nat.le_succ_of_le (h.gen k t hk)
  · by_cases hl : j < H.length
    · rw [List.getElem?_append_left hl] at hj
      obtain ⟨t, t1, t2, t3⟩ := h.ats j u hj
      by_cases e : i = u.i
      · rw [← e, hi] at t1
        obtain rfl : s = t := by simpa using t1
        refine ⟨⟨s.g, some H.length⟩, by rw [e, List.getElem?_set_self (e ▸ li)], fun ho => ?_, fun ho => t3 ho⟩
        have := (t2 ho).2
        rw [hs] at this
        exact absurd this (by simp)
      · exact ⟨t, by rw [List.getElem?_set_ne e]; exact t1, t2, t3⟩
    · have e : j = H.length := by
        have := (List.getElem?_eq_some_iff.1 hj).1
        rw [List.length_append, List.length_singleton] at this
        omega
      subst e
      rw [List.getElem?_append_right (Nat.le_refl _), Nat.sub_self] at hj
      obtain rfl : (⟨i, s.g, true⟩ : Hd) = u := by simpa using hj
      exact ⟨⟨s.g, some H.length⟩, List.getElem?_set_self li, fun _ => ⟨rfl, rfl⟩, fun e => by simp at e⟩
  · rw [List.getElem?_set] at hk
    split at hk
    · rename_i e
      simp only [li, if_true, Option.some.injEq] at hk
      subst hk
      obtain rfl : H.length = j := by simpa using ht
      exact ⟨⟨i, s.g, true⟩, by rw [List.getElem?_append_right (Nat.le_refl _), Nat.sub_self]; rfl, e, rfl, rfl⟩
    · obtain ⟨u, u1, u2⟩ := h.ofs k t j hk ht
      exact ⟨u, by rw [List.getElem?_append_left (List.getElem?_eq_some_iff.1 u1).1]; exact u1, u2⟩
  · have e := countP_set' (·.who.isSome) S i s ⟨s.g, some H.length⟩ hi
    simp only [hs, Option.isSome_none, Option.isSome_some, Bool.false_eq_true, if_false, if_true] at e
    have e2 := h.cnt
    unfold onS onH at *
    rw [List.countP_append, List.countP_singleton]
    simp only [if_true]
    omega
  · rw [List.length_append, List.length_singleton]
    have := h.few
    omega
theorem HInv.rel {n r : Nat} {S : List Sl} {H : List Hd} (h : HInv n r S H) {k : Nat} {u : Hd} (hk : H[k]? = some u) (hu : u.on = true) : HInv n (r + 1) (S.set u.i ⟨u.g + 1, none⟩) (H.set k { u with on := false }) := by
  obtain ⟨s, s1, s2, -⟩ := h.ats k u hk
  obtain ⟨s3, s4⟩ := s2 hu
  have li : u.i < S.length := (List.getElem?_eq_some_iff.1 s1).1
  have lk : k < H.length := (List.getElem?_eq_some_iff.1 hk).1
  refine ⟨by rw [List.length_set]; exact h.len, fun i t ht => ?_, fun j v hj => ?_, fun i t j ht hw => ?_, ?_, ?_⟩
  · rw [List.getElem?_set] at ht
    split at ht
    · have := h.gen u.i s s1
      simp only [li, if_true, Option.some.injEq] at ht
      subst ht
      show u.g + 1 ≤ r + 1
      omega
    · exact Nat.le_succ_of_le (h.gen i t ht)
  · rw [List.getElem?_set] at hj
    split at hj
    · simp only [lk, if_true, Option.some.injEq] at hj
      subst hj
      exact ⟨⟨u.g + 1, none⟩, List.getElem?_set_self li, fun e => by simp at e, fun _ => Nat.lt_succ_self _⟩
    · rename_i hne
      obtain ⟨t, t1, t2, t3⟩ := h.ats j v hj
      by_cases e : u.i = v.i
      · rw [← e, s1] at t1
        obtain rfl : s = t := by simpa using t1
        refine ⟨⟨u.g + 1, none⟩, by rw [← e]; exact List.getElem?_set_self li, fun ho => ?_, fun ho => ?_⟩
        · have := (t2 ho).2
          rw [s4] at this
          exact absurd (by simpa using this) hne
        · have := t3 ho
          show v.g < u.g + 1
          omega
      · exact ⟨t, by rw [List.getElem?_set_ne e]; exact t1, t2, t3⟩
  · rw [List.getElem?_set] at ht
    split at ht
    · simp only [li, if_true, Option.some.injEq] at ht
      subst ht
      simp at hw
    · rename_i hne
      obtain ⟨v, v1, v2, v3, v4⟩ := h.ofs i t j ht hw
      refine ⟨v, ?_, v2, v3, v4⟩
      rw [List.getElem?_set_ne]
      · exact v1
      · rintro rfl
        rw [hk] at v1
        obtain rfl : u = v := by simpa using v1
        exact hne v2
  · have e := countP_set' (·.who.isSome) S u.i s ⟨u.g + 1, none⟩ s1
    have e1 := countP_set' (·.on) H k u { u with on := false } hk
    simp only [s4, hu, Option.isSome_none, Option.isSome_some, Bool.false_eq_true, if_false, if_true] at e e1
    have e2 := h.cnt
    unfold onS onH at *
    omega
  · rw [List.length_set]
    have := h.few
    omega

/-- What the memory's cells tell: the camera stands at c, the slots at 2 and on. -/
structure Cells (c : Int) (S : List Sl) (cs : List Int) : Prop where
  len : cs.length = 1024
  cam : pk cs 1 = c
  ats : ∀ (i : Nat) (s : Sl), S[i]? = some s → pk cs (2 + i) = wordOf s
  ok : ∀ v, v ∈ cs → 0 ≤ v ∧ v < 18446744073709551616
  few : S.length ≤ 8
theorem csOk_of {cs : List Int} (h : ∀ v, v ∈ cs → 0 ≤ v ∧ v < 18446744073709551616) : CsOk cs := by
  intro ad
  unfold pk
  split
  · unfold rd
    rw [List.getD_eq_getElem?_getD]
    cases hx : cs[ad.toNat]? with
    | none => simp
    | some x => exact h x (List.mem_of_getElem? hx)
  · omega
theorem pk_set (cs : List Int) (a b v : Int) (ha : 0 ≤ a) (hl : a < (cs.length : Int)) (hb : 0 ≤ b) : pk (cs.set a.toNat v) b = if b = a then v else pk cs b := by
  unfold pk rd
  rw [List.length_set, List.getD_eq_getElem?_getD, List.getD_eq_getElem?_getD, List.getElem?_set]
  by_cases e : b = a
  · subst e
    rw [if_pos rfl, if_pos hl, if_pos rfl, if_pos (by omega)]
    rfl
  · rw [if_neg e, if_neg (by omega : ¬ a.toNat = b.toNat)]
theorem ok_set {cs : List Int} (h : ∀ v, v ∈ cs → 0 ≤ v ∧ v < 18446744073709551616) (a : Nat) (x : Int) (h0 : 0 ≤ x) (h1 : x < 18446744073709551616) : ∀ v, v ∈ cs.set a x → 0 ≤ v ∧ v < 18446744073709551616 := by
  intro v hv
  rcases List.mem_or_eq_of_mem_set hv with e | e
  · exact h v e
  · subst e; exact ⟨h0, h1⟩
theorem casB_yes {cs : List Int} {a old : Int} (hl : a < (cs.length : Int)) (h : pk cs a = old) : casB cs a old = true := by
  unfold casB
  unfold pk at h
  rw [if_pos hl] at h
  rw [decide_eq_true hl, h]
  simp
theorem casC_yes {cs : List Int} {a old : Int} (hl : a < (cs.length : Int)) (h : pk cs a = old) (now : Int) : casC cs a old now = cs.set a.toNat now := by
  unfold casC
  rw [if_pos (casB_yes hl h)]
theorem stC_yes {cs : List Int} {a : Int} (hl : a < (cs.length : Int)) (v : Int) : stC cs a v = cs.set a.toNat v := by
  unfold stC
  rw [if_pos hl]
theorem wd_ok (k g s : Int) (k0 : 0 ≤ k) (k1 : k ≤ 3) (g0 : 0 ≤ g) (g1 : g < 1048576) (s0 : 0 ≤ s) (s1 : s ≤ 1099511627776) : 0 ≤ wd k g s ∧ wd k g s < 18446744073709551616 := by
  unfold wd
  omega
/-- The cells behind a Snapshot at slot i. -/
def snapC (cs : List Int) (i g : Nat) (c : Int) : List Int := (((cs.set (2 + i) (wd 1 g 0)).set (2 + i) (wd 2 g c)).set 1 (c + 1)).set (2 + i) (wd 3 g c)
theorem Cells.snap {c : Int} {S : List Sl} {cs : List Int} (h : Cells c S cs) {i : Nat} {s : Sl} (hi : S[i]? = some s) (hg : s.g < 1048576) (j : Nat) (hc : c = j + 1) (hc2 : c ≤ 1073741824) : Cells (c + 1) (S.set i ⟨s.g, some j⟩) (snapC cs i s.g c) := by
  have li : i < S.length := (List.getElem?_eq_some_iff.1 hi).1
  have l8 := h.few
  have hl := h.len
  have e0 : ((2 : Int) + (i : Int)).toNat = 2 + i := by omega
  have P1 : ∀ b : Int, 0 ≤ b → pk (snapC cs i s.g c) b = if b = 2 + i then wd 3 s.g c else if b = 1 then c + 1 else pk cs b := by
    intro b hb
    unfold snapC
    have x1 := fun (l : List Int) (hl : l.length = 1024) (v : Int) => pk_set l (2 + (i : Int)) b v (by omega) (by omega) hb
    have x2 := fun (l : List Int) (hl : l.length = 1024) (v : Int) => pk_set l 1 b v (by omega) (by omega) hb
    rw [e0] at x1
    rw [x1 _ (by simp only [List.length_set]; exact hl)]
    split
    · rfl
    · rename_i hne
      rw [show (1 : Nat) = (1 : Int).toNat from rfl, x2 _ (by simp only [List.length_set]; exact hl)]
      split
      · rfl
      · rw [x1 _ (by simp only [List.length_set]; exact hl), if_neg hne, x1 _ hl, if_neg hne]
  refine ⟨by unfold snapC; simp only [List.length_set]; exact hl, ?_, fun k t hk => ?_, ?_, by rw [List.length_set]; exact l8⟩
  · rw [P1 1 (by omega), if_neg (by omega), if_pos rfl]
  · rw [List.getElem?_set] at hk
    rw [P1 _ (by omega)]
    split at hk
    · rename_i e
      simp only [li, if_true, Option.some.injEq] at hk
      subst hk
      rw [if_pos (by omega)]
      unfold wordOf
      simp only
      rw [hc]
    · rw [if_neg (by omega), if_neg (by omega)]
      exact h.ats k t hk
  · unfold snapC
    have a1 := wd_ok 1 s.g 0 (by omega) (by omega) (by omega) (by omega) (by omega) (by omega)
    have a2 := wd_ok 2 s.g c (by omega) (by omega) (by omega) (by omega) (by omega) (by omega)
    have a3 := wd_ok 3 s.g c (by omega) (by omega) (by omega) (by omega) (by omega) (by omega)
    exact ok_set (ok_set (ok_set (ok_set h.ok _ _ a1.1 a1.2) _ _ a2.1 a2.2) _ _ (by omega) (by omega)) _ _ a3.1 a3.2
theorem Cells.rel {c : Int} {S : List Sl} {cs : List Int} (h : Cells c S cs) {i : Nat} {s : Sl} (hi : S[i]? = some s) (g : Nat) (hg : g + 1 < 1048576) : Cells c (S.set i ⟨g + 1, none⟩) (cs.set (2 + i) (wd 0 ((g : Int) + 1) 0)) := by
  have li : i < S.length := (List.getElem?_eq_some_iff.1 hi).1
  have l8 := h.few
  have hl := h.len
  have e0 : ((2 : Int) + (i : Int)).toNat = 2 + i := by omega
  have P1 : ∀ b : Int, 0 ≤ b → pk (cs.set (2 + i) (wd 0 ((g : Int) + 1) 0)) b = if b = 2 + i then wd 0 ((g : Int) + 1) 0 else pk cs b := by
    intro b hb
    have := pk_set cs (2 + (i : Int)) b (wd 0 ((g : Int) + 1) 0) (by omega) (by omega) hb
    rw [e0] at this
    exact this
  refine ⟨by simp only [List.length_set]; exact hl, ?_, fun k t hk => ?_, ?_, by rw [List.length_set]; exact l8⟩
  · rw [P1 1 (by omega), if_neg (by omega)]
    exact h.cam
  · rw [List.getElem?_set] at hk
    rw [P1 _ (by omega)]
    split at hk
    · simp only [li, if_true, Option.some.injEq] at hk
      subst hk
      rw [if_pos (by omega)]
      rfl
    · rw [if_neg (by omega)]
      exact h.ats k t hk
  · have a1 := wd_ok 0 ((g : Int) + 1) 0 (by omega) (by omega) (by omega) (by omega) (by omega) (by omega)
    exact ok_set h.ok _ _ a1.1 a1.2
theorem wordOf_none {s : Sl} (h : s.who = none) (hg : s.g < 1048576) : wordOf s % 4 = 0 ∧ wordOf s / 4 % 1048576 = s.g ∧ wordOf s = wd 0 s.g 0 := by
  unfold wordOf
  rw [h]
  simp only
  have := unpack_wd 0 s.g 0 (by omega) (by omega) (by omega) (by omega)
  exact ⟨this.1, this.2.1, by first | rfl | trivial⟩
theorem wordOf_some {s : Sl} {j : Nat} (h : s.who = some j) (hg : s.g < 1048576) : wordOf s % 4 = 3 ∧ wordOf s / 4 % 1048576 = s.g ∧ wordOf s / 4194304 = (j : Int) + 1 ∧ wordOf s = wd 3 s.g (j + 1) := by
  unfold wordOf
  rw [h]
  simp only
  have := unpack_wd 3 s.g (j + 1) (by omega) (by omega) (by omega) (by omega)
  exact ⟨this.1, this.2.1, this.2.2, by first | rfl | trivial⟩

/-- The stamps that a Scan has seen when it has gone by k slots. -/
def evK (cs : List Int) : Nat → List Int
  | 0 => []
  | k + 1 => scV (evK cs k) (pk cs (2 + k))
theorem evK_len {c : Int} {S : List Sl} {cs : List Int} (h : Cells c S cs) (hg : ∀ (i : Nat) (s : Sl), S[i]? = some s → s.g < 1048576) : ∀ k, k ≤ S.length → (evK cs k).length = (S.take k).countP (·.who.isSome) ∧ (lvL cs 2 k).length = (S.take k).countP (·.who.isSome)
  | 0, _ => ⟨rfl, rfl⟩
  | k + 1, hk => by
    obtain ⟨e1, e2⟩ := evK_len h hg k (by omega)
    have hs : S[k]? = some S[k] := List.getElem?_eq_getElem (by omega)
    have hw := h.ats k _ hs
    have hgk := hg k _ hs
    rw [List.take_add_one, hs, List.countP_append]
    unfold evK lvL scV
    rw [hw]
    cases hwho : (S[k]).who with
    | none =>
      have := (wordOf_none hwho hgk).1
      rw [if_neg (by omega), if_neg (by omega), e1, e2]
      simp [hwho]
    | some j =>
      have := (wordOf_some hwho hgk).1
      rw [if_pos this, if_pos this, List.length_append, List.length_append, e1, e2]
      simp [hwho]
theorem evK_mem {c : Int} {S : List Sl} {cs : List Int} (h : Cells c S cs) (hg : ∀ (i : Nat) (s : Sl), S[i]? = some s → s.g < 1048576) : ∀ k, k ≤ S.length → ∀ x, x ∈ evK cs k → ∃ (i : Nat) (s : Sl) (j : Nat), i < k ∧ S[i]? = some s ∧ s.who = some j ∧ x = (j : Int) + 1
  | 0, _, x, hx => by simp [evK] at hx
  | k + 1, hk, x, hx => by
    have hs : S[k]? = some S[k] := List.getElem?_eq_getElem (by omega)
    have hw := h.ats k _ hs
    have hgk := hg k _ hs
    unfold evK scV at hx
    rw [hw] at hx
    split at hx
    · rename_i h3
      rcases List.mem_append.1 hx with hx | hx
      · obtain ⟨i, s, j, a, b⟩ := evK_mem h hg k (by omega) x hx
        exact ⟨i, s, j, by omega, b⟩
      · cases hwho : (S[k]).who with
        | none =>
          have := (wordOf_none hwho hgk).1
          omega
        | some j =>
          have e := (wordOf_some hwho hgk).2.2.1
          refine ⟨k, _, j, by omega, hs, hwho, ?_⟩
          rw [e] at hx
          simpa using hx
    · obtain ⟨i, s, j, a, b⟩ := evK_mem h hg k (by omega) x hx
      exact ⟨i, s, j, by omega, b⟩
theorem g_mem {l : List Int} {a : Nat} (h : a < l.length) : SortM.g l a ∈ l := by
  unfold SortM.g
  rw [List.getD_eq_getElem?_getD, List.getElem?_eq_getElem h]
  exact List.getElem_mem h
theorem evK_apart {n r : Nat} {S : List Sl} {H : List Hd} {cs : List Int} (h : Cells ((H.length : Int) + 1) S cs) (hI : HInv n r S H) (hr : r < 1048576) : ∀ k, k ≤ S.length → Apart ((H.length : Int) + 1) (evK cs k)
  | 0, _ => ⟨fun a b _ hb => by simp [evK] at hb, fun a ha => by simp [evK] at ha⟩
  | k + 1, hk => by
    have hg : ∀ (i : Nat) (s : Sl), S[i]? = some s → s.g < 1048576 := fun i s hs => by have := hI.gen i s hs; omega
    obtain ⟨A1, A2⟩ := evK_apart h hI hr k (by omega)
    have hs : S[k]? = some S[k] := List.getElem?_eq_getElem (by omega)
    have hw := h.ats k _ hs
    have hgk := hg k _ hs
    cases hwho : (S[k]).who with
    | none =>
      have e : evK cs (k + 1) = evK cs k := by
        have := (wordOf_none hwho hgk).1
        show scV _ _ = _
        unfold scV
        rw [hw, if_neg (by omega)]
      rw [e]
      exact ⟨A1, A2⟩
    | some j =>
      have e : evK cs (k + 1) = evK cs k ++ [(j : Int) + 1] := by
        have := wordOf_some hwho hgk
        show scV _ _ = _
        unfold scV
        rw [hw, if_pos this.1, this.2.2.1]
      obtain ⟨u, u1, u2, u3, u4⟩ := hI.ofs k _ j hs hwho
      have hj : j < H.length := (List.getElem?_eq_some_iff.1 u1).1
      have gl : ∀ a, a < (evK cs k).length → SortM.g (evK cs (k + 1)) a = SortM.g (evK cs k) a := fun a ha => by
        rw [e]; unfold SortM.g
        rw [List.getD_eq_getElem?_getD, List.getD_eq_getElem?_getD, List.getElem?_append_left ha]
      have gr : SortM.g (evK cs (k + 1)) (evK cs k).length = (j : Int) + 1 := by
        rw [e]; unfold SortM.g
        rw [List.getD_eq_getElem?_getD, List.getElem?_append_right (Nat.le_refl _), Nat.sub_self]
        rfl
      have hlen : (evK cs (k + 1)).length = (evK cs k).length + 1 := by rw [e]; simp
      refine ⟨fun a b hab hb => ?_, fun a ha => ?_⟩
      · by_cases hb2 : b < (evK cs k).length
        · rw [gl a (by omega), gl b hb2]
          exact A1 a b hab hb2
        · have eb : b = (evK cs k).length := by omega
          subst eb
          rw [gl a hab, gr]
          intro hx
          obtain ⟨i, s, j', a1, a2, a3, a4⟩ := evK_mem h hg k (by omega) _ (g_mem hab)
          obtain ⟨v, v1, v2, -⟩ := hI.ofs i s j' a2 a3
          have : j' = j := by omega
          subst this
          rw [u1] at v1
          obtain rfl : u = v := by simpa using v1
          omega
      · by_cases ha2 : a < (evK cs k).length
        · rw [gl a ha2]; exact A2 a ha2
        · have ea : a = (evK cs k).length := by omega
          subst ea
          rw [gr]
          omega

theorem which_in (a : Int) (m : Int) (h0 : 0 < m) (h1 : m < 9223372036854775808) : ∃ r, Own.shuttertop_which.f a m = some r ∧ 0 ≤ r ∧ r < m := by
  unfold Own.shuttertop_which.f
  rw [if_neg (by omega)]
  have e1 := Int.tmod_lt_of_pos a h0
  have e2 : -m < Int.tmod a m := by
    have := Int.lt_tmod_of_pos a h0
    omega
  by_cases hn : Int.tmod a m < 0
  · rw [if_pos hn]
    refine ⟨_, rfl, ?_⟩
    have : wrap64 (Int.tmod a m + m) = Int.tmod a m + m := by unfold wrap64; omega
    rw [this]
    omega
  · rw [if_neg hn]
    exact ⟨_, rfl, by omega, e1⟩
theorem count_l0 (l : List Bool) (hl : l.length ≤ 4611686018427387904) : ∀ (d : Nat) (x : Nat), d ≤ l.length → x + d ≤ l.length → Own.shuttertop_count.l0 (d + 1) l x ((l.length : Int) - d) = some ((x : Int) + ((l.drop (l.length - d)).countP id : Nat))
  | 0, x, _, _ => by
    unfold Own.shuttertop_count.l0
    rw [if_neg (by omega)]
    simp
  | d + 1, x, hd, hx => by
    have ih := count_l0 l hl d
    unfold Own.shuttertop_count.l0
    have hlt : l.length - (d + 1) < l.length := by omega
    rw [if_pos (by omega), if_pos (by omega)]
    have e1 : rdOf false l ((l.length : Int) - ((d + 1 : Nat) : Int)) = l[l.length - (d + 1)] := by
      unfold rdOf
      have : ((l.length : Int) - ((d + 1 : Nat) : Int)).toNat = l.length - (d + 1) := by omega
      rw [this, List.getD_eq_getElem?_getD, List.getElem?_eq_getElem hlt]
      rfl
    have e2 : wrap64 ((l.length : Int) - ((d + 1 : Nat) : Int) + 1) = (l.length : Int) - (d : Nat) := by unfold wrap64; omega
    have e3 : wrap64 ((x : Int) + 1) = ((x + 1 : Nat) : Int) := by unfold wrap64; omega
    have e4 : l.drop (l.length - (d + 1)) = l[l.length - (d + 1)] :: l.drop (l.length - d) := by
      rw [List.drop_eq_getElem_cons hlt]
      congr 2
      omega
    rw [e1, e2, e3, e4, List.countP_cons]
    by_cases hb : l[l.length - (d + 1)] = true
    · rw [if_pos hb, ih (x + 1) (by omega) (by omega), hb]
      simp
      omega
    · rw [if_neg hb, ih x (by omega) (by omega)]
      have hb2 : l[l.length - (d + 1)] = false := by simpa using hb
      rw [hb2]
      simp
theorem count_in (H : List Hd) (hl : H.length ≤ 4611686018427387904) : Own.shuttertop_count.f (H.length + 1) (H.map (·.on)) = some ((onH H : Nat) : Int) := by
  have := count_l0 (H.map (·.on)) (by simpa using hl) H.length 0 (by simp) (by simp)
  unfold Own.shuttertop_count.f
  simp only [List.length_map] at this
  rw [show ((H.length : Int) - (H.length : Nat)) = 0 by omega] at this
  rw [show ((0 : Nat) : Int) = 0 from rfl] at this
  rw [this]
  unfold onH
  simp [List.countP_map]
end Go.Proofs.YtcbndfmbpojppaaGreat

/- TopHolds: a Snapshot that is taken alone, on a plain memory. No condition. -/
namespace Go.Proofs.YtcbndfmbpojppaaGreat
open Go.RowKit Go.Proofs.YtcbndfmbpojppaaGreatW.PrintWords Go.Proofs.YtcbndfmbpojppaaGreatW.PrintMore Go.Proofs.YtcbndfmbpojppaaGreat.Math
set_option linter.unusedVariables false
set_option linter.unusedSimpArgs false

def PH (n : Nat) : SlP := ⟨1, 2, n, 1073741824⟩
theorem PH_ok {n : Nat} (h1 : 1 ≤ n) (h2 : n ≤ 8) : (PH n).Ok :=
  ⟨by show (0 : Int) ≤ 1; omega, by show (1 : Int) < 4611686018427387904; omega, by show (0 : Int) ≤ 2; omega, by show (2 : Int) < 4611686018427387904; omega, by show (1 : Int) ≤ (n : Int); omega, by show (n : Int) ≤ 256; omega, by show (1 : Int) ≤ 1073741824; omega, by show (1073741824 : Int) ≤ 1099511627776; omega⟩
theorem skR_free {n i : Nat} {s : Sl} {cs : List Int} (pw : Int) (h : pk cs (2 + i) = wordOf s) (hs : s.who = none) (hg : s.g < 1048575) : skR (PH n) ⟨0, i, pw, 0, 0, 0, 0, 0, 0⟩ cs = (1, ⟨0, i, wd 0 s.g 0, s.g, 0, 0, 0, 0, 0⟩) := by
  obtain ⟨a, b, c⟩ := wordOf_none hs (by omega)
  have hx : pk cs ((PH n).first + (i : Int)) = wordOf s := h
  have q : pk cs ((PH n).first + (i : Int)) % 4 = 0 ∧ pk cs ((PH n).first + (i : Int)) / 4 % 1048576 < 1048575 := by
    rw [hx, a, b]
    exact ⟨rfl, by omega⟩
  refine (if_pos q).trans ?_
  show ((1 : Int), (⟨0, i, pk cs (2 + (i : Int)), pk cs (2 + (i : Int)) / 4 % 1048576, 0, 0, 0, 0, 0⟩ : SnS)) = _
  rw [h, b, c]
theorem skR_on {n i : Nat} {s : Sl} {cs : List Int} (pw : Int) (h : pk cs (2 + i) = wordOf s) (hs : s.who.isSome = true) (hg : s.g < 1048575) (hn : i + 1 < n) : skR (PH n) ⟨0, i, pw, 0, 0, 0, 0, 0, 0⟩ cs = (0, ⟨0, ((i + 1 : Nat) : Int), wordOf s, 0, 0, 0, 0, 0, 0⟩) := by
  obtain ⟨j, hj⟩ := Option.isSome_iff_exists.1 hs
  obtain ⟨a, b, c, d⟩ := wordOf_some hj (by omega)
  have hx : pk cs ((PH n).first + (i : Int)) = wordOf s := h
  have q : ¬ (pk cs ((PH n).first + (i : Int)) % 4 = 0 ∧ pk cs ((PH n).first + (i : Int)) / 4 % 1048576 < 1048575) := by
    rw [hx, a]
    omega
  refine (if_neg q).trans ?_
  refine (if_pos (show (i : Int) + 1 < (n : Int) by omega)).trans ?_
  show ((0 : Int), (⟨0, (i : Int) + 1, pk cs (2 + (i : Int)), 0, 0, 0, 0, 0, 0⟩ : SnS)) = _
  rw [h]
  rfl
theorem skR_end {n i : Nat} {s : Sl} {cs : List Int} (pw : Int) (h : pk cs (2 + i) = wordOf s) (hs : s.who.isSome = true) (hg : s.g < 1048575) (hn : i + 1 = n) : skR (PH n) ⟨0, i, pw, 0, 0, 0, 0, 0, 0⟩ cs = (8, ⟨0, ((i + 1 : Nat) : Int), wordOf s, 0, 0, 0, 0, 0, 32⟩) := by
  obtain ⟨j, hj⟩ := Option.isSome_iff_exists.1 hs
  obtain ⟨a, b, c, d⟩ := wordOf_some hj (by omega)
  have hx : pk cs ((PH n).first + (i : Int)) = wordOf s := h
  have q : ¬ (pk cs ((PH n).first + (i : Int)) % 4 = 0 ∧ pk cs ((PH n).first + (i : Int)) / 4 % 1048576 < 1048575) := by
    rw [hx, a]
    omega
  refine (if_neg q).trans ?_
  refine (if_neg (show ¬ (i : Int) + 1 < (n : Int) by omega)).trans ?_
  show ((8 : Int), (⟨0, (i : Int) + 1, pk cs (2 + (i : Int)), 0, 0, 0, 0, 0, 32⟩ : SnS)) = _
  rw [h]
  rfl

/-- A Snapshot behind k of its steps. -/
def Sq (w0 : World) (K : Nat → Prop) (bm bp bc fr n0 bv : Nat) (md : Int) (bs n k : Nat) (cs : List Int) (σ : SnS) (w : World) : Prop := ∃ xs, Pw w0 w K bm bp bc cs fr (n0 + k) xs bv 0 (md + k) bs (snC (PH n) σ) 88
theorem Sq.next {w0 : World} {K : Nat → Prop} {bm bp bc fr n0 bv : Nat} {md : Int} {bs n k : Nat} {cs : List Int} {σ : SnS} {w : World} {xs : List Value} (h : Pw w0 w K bm bp bc cs fr (n0 + k + 1) xs bv 0 (md + k + 1) bs (snC (PH n) σ) 88) : Sq w0 K bm bp bc fr n0 bv md bs n (k + 1) cs σ w :=
  ⟨xs, by rw [show md + ((k + 1 : Nat) : Int) = md + k + 1 by omega]; exact h⟩
def snR (w0 : World) (K : Nat → Prop) (bm bp bc fr n0 bv : Nat) (md : Int) (bs n : Nat) (cs : List Int) (i g : Nat) (c : Int) (k : Nat) (w : World) : Prop :=
  (k ≤ i ∧ ∃ pw, Sq w0 K bm bp bc fr n0 bv md bs n k cs ⟨0, k, pw, 0, 0, 0, 0, 0, 0⟩ w)
  ∨ (k = i + 1 ∧ Sq w0 K bm bp bc fr n0 bv md bs n k cs ⟨1, i, wd 0 g 0, g, 0, 0, 0, 0, 0⟩ w)
  ∨ (k = i + 2 ∧ Sq w0 K bm bp bc fr n0 bv md bs n k (cs.set (2 + i) (wd 1 g 0)) ⟨2, i, wd 0 g 0, g, 0, 0, 0, 0, 0⟩ w)
  ∨ (k = i + 3 ∧ Sq w0 K bm bp bc fr n0 bv md bs n k (cs.set (2 + i) (wd 1 g 0)) ⟨3, i, wd 0 g 0, g, c, 0, 0, 0, 0⟩ w)
  ∨ (k = i + 4 ∧ Sq w0 K bm bp bc fr n0 bv md bs n k ((cs.set (2 + i) (wd 1 g 0)).set (2 + i) (wd 2 g c)) ⟨4, i, wd 0 g 0, g, c, 0, 0, 0, 0⟩ w)
  ∨ (k = i + 5 ∧ Sq w0 K bm bp bc fr n0 bv md bs n k ((cs.set (2 + i) (wd 1 g 0)).set (2 + i) (wd 2 g c)) ⟨5, i, wd 0 g 0, g, c, 0, 0, 0, 0⟩ w)
  ∨ (k = i + 6 ∧ Sq w0 K bm bp bc fr n0 bv md bs n k (((cs.set (2 + i) (wd 1 g 0)).set (2 + i) (wd 2 g c)).set 1 (c + 1)) ⟨6, i, wd 0 g 0, g, c, 0, 0, 0, 0⟩ w)
  ∨ (k = i + 7 ∧ Sq w0 K bm bp bc fr n0 bv md bs n k (snapC cs i g c) ⟨8, i, wd 0 g 0, g, c, 3, g, c, 0⟩ w)

set_option maxHeartbeats 2000000 in
theorem snap_free {w0 w : World} {K : Nat → Prop} {bm bp bc : Nat} {cs : List Int} {fr n0 : Nat} {xs : List Value} {bv : Nat} {md : Int} {bs n i : Nat} {S : List Sl} {c : Int} {s : Sl} (h1 : 1 ≤ n) (h8 : n ≤ 8) (hl : S.length = n) (hC : Cells c S cs) (hG : ∀ (i : Nat) (s : Sl), S[i]? = some s → s.g ≤ 1000)
    (hc0 : 1 ≤ c) (hc1 : c ≤ 1000) (hi : S[i]? = some s) (hs : s.who = none) (hf : ∀ (k : Nat) (t : Sl), k < i → S[k]? = some t → t.who.isSome = true) (hn : n0 ≤ 1000000000) (hd0 : 0 ≤ md) (hd1 : md ≤ 1000000000)
    (h : Pw w0 w K bm bp bc cs fr n0 xs bv 0 md bs (snC (PH n) ⟨0, 0, 0, 0, 0, 0, 0, 0, 0⟩) 88) :
    Calls Tryz.prog 10 #[.pointer (some ⟨bv, 0, none⟩), .iface 38 (.pointer (some ⟨bs, 0, none⟩)), .int .i64 ((2 * n + 5 : Nat) : Int)] w fun e w' => e = .returned (.bool true) ∧
      Sq w0 K bm bp bc fr n0 bv md bs n (i + 7) (snapC cs i s.g c) ⟨8, i, wd 0 s.g 0, s.g, c, 3, s.g, c, 0⟩ w' := by
  have li : i < n := hl ▸ (List.getElem?_eq_some_iff.1 hi).1
  have hP := PH_ok h1 h8
  have hOk := csOk_of hC.ok
  have hgi := hG i s hi
  have e0 : ((2 : Int) + (i : Int)).toNat = 2 + i := by omega
  have L0 := hC.len
  have l1 : (2 : Int) + (i : Int) < (cs.length : Int) := by omega
  have pki := hC.ats i s hi
  have pks := (wordOf_none hs (by omega)).2.2
  refine (alone_snap bs bv (snR w0 K bm bp bc fr n0 bv md bs n cs i s.g c) (i + 7) (2 * n + 5) (by omega) (by omega) (by omega) ?_ w (.inl ⟨Nat.zero_le _, 0, xs, by simpa using h⟩)).mono ?_
  · intro k wk hk hR
    rcases hR with ⟨hki, pw, ys, hp⟩ | ⟨rfl, ys, hp⟩ | ⟨rfl, ys, hp⟩ | ⟨rfl, ys, hp⟩ | ⟨rfl, ys, hp⟩ | ⟨rfl, ys, hp⟩ | ⟨rfl, ys, hp⟩ | ⟨rfl, _⟩
    · by_cases he : k = i
      · subst he
        have E := skR_free (n := n) pw pki hs (by omega)
        refine (step_seek hP hp (by omega) (by omega) (by omega) hOk (by show (0 : Int) ≤ (k : Int); omega) (by show (k : Int) < (n : Int); omega) rfl).mono ?_
        rintro e w' ⟨rfl, hq⟩
        rw [E] at hq ⊢
        refine ⟨?_, .inr (.inl ⟨rfl, Sq.next hq⟩)⟩
        rw [decide_eq_false (by omega : ¬ k + 1 = k + 7)]
        rfl
      · have hkS : S[k]? = some S[k] := List.getElem?_eq_getElem (by omega)
        have E := skR_on (n := n) pw (hC.ats k _ hkS) (hf k _ (by omega) hkS) (by have := hG k _ hkS; omega) (by omega)
        refine (step_seek hP hp (by omega) (by omega) (by omega) hOk (by show (0 : Int) ≤ (k : Int); omega) (by show (k : Int) < (n : Int); omega) rfl).mono ?_
        rintro e w' ⟨rfl, hq⟩
        rw [E] at hq ⊢
        refine ⟨?_, .inl ⟨by omega, _, Sq.next hq⟩⟩
        rw [decide_eq_false (by omega : ¬ k + 1 = i + 7)]
        rfl
    · refine (step_claim hP hp (by omega) (by omega) (by omega) (by show (0 : Int) ≤ (i : Int); omega) (by show (i : Int) < (n : Int); omega) (by show (0 : Int) ≤ (s.g : Int); omega) (by show (s.g : Int) < 1048576; omega) rfl).mono ?_
      have E1 : casB cs ((PH n).first + (i : Int)) (wd 0 s.g 0) = true := casB_yes l1 (pki.trans pks)
      have E2 : casC cs ((PH n).first + (i : Int)) (wd 0 s.g 0) (wd 1 s.g 0) = cs.set (2 + i) (wd 1 s.g 0) := by
        rw [← e0]
        exact casC_yes l1 (pki.trans pks) _
      have E3 : clR (PH n) ⟨1, i, wd 0 s.g 0, s.g, 0, 0, 0, 0, 0⟩ cs = (2, ⟨1, i, wd 0 s.g 0, s.g, 0, 0, 0, 0, 0⟩) := by
        unfold clR
        exact if_pos E1
      rintro e w' ⟨rfl, hq⟩
      rw [E3] at hq ⊢
      simp only [E1, E2] at hq
      refine ⟨?_, .inr (.inr (.inl ⟨rfl, Sq.next hq⟩))⟩
      rw [decide_eq_false (by omega : ¬ i + 1 + 1 = i + 7)]
      rfl
    · refine (step_look hP hp (by omega) (by omega) (by omega) rfl).mono ?_
      have E1 : pk (cs.set (2 + i) (wd 1 s.g 0)) (PH n).cam = c := by
        have := pk_set cs (2 + (i : Int)) 1 (wd 1 s.g 0) (by omega) l1 (by omega)
        rw [e0, if_neg (by omega)] at this
        exact this.trans hC.cam
      rintro e w' ⟨rfl, hq⟩
      simp only [E1] at hq
      refine ⟨?_, .inr (.inr (.inr (.inl ⟨rfl, Sq.next hq⟩)))⟩
      rw [decide_eq_false (by omega : ¬ i + 2 + 1 = i + 7)]
      rfl
    · refine (step_tell hP hp (by omega) (by omega) (by omega) (by show (0 : Int) ≤ (i : Int); omega) (by show (i : Int) < (n : Int); omega) (by show (0 : Int) ≤ (s.g : Int); omega) (by show (s.g : Int) < 1048576; omega) (by show (0 : Int) ≤ c; omega) (by show c ≤ 1099511627776; omega) rfl).mono ?_
      have E2 : stC (cs.set (2 + i) (wd 1 s.g 0)) ((PH n).first + (i : Int)) (wd 2 s.g c) = (cs.set (2 + i) (wd 1 s.g 0)).set (2 + i) (wd 2 s.g c) := by
        have := stC_yes (cs := cs.set (2 + i) (wd 1 s.g 0)) (a := 2 + (i : Int)) (by rw [List.length_set]; exact l1) (wd 2 s.g c)
        rw [e0] at this
        exact this
      rintro e w' ⟨rfl, hq⟩
      simp only [E2] at hq
      refine ⟨?_, .inr (.inr (.inr (.inr (.inl ⟨rfl, Sq.next hq⟩))))⟩
      rw [decide_eq_false (by omega : ¬ i + 3 + 1 = i + 7)]
      rfl
    · refine (step_clock hP hp (by omega) (by omega) (by omega) rfl).mono ?_
      have E1 : pk ((cs.set (2 + i) (wd 1 s.g 0)).set (2 + i) (wd 2 s.g c)) (PH n).cam = c := by
        have := pk_set (cs.set (2 + i) (wd 1 s.g 0)) (2 + (i : Int)) 1 (wd 2 s.g c) (by omega) (by rw [List.length_set]; exact l1) (by omega)
        rw [e0, if_neg (by omega)] at this
        have h2 := pk_set cs (2 + (i : Int)) 1 (wd 1 s.g 0) (by omega) l1 (by omega)
        rw [e0, if_neg (by omega)] at h2
        exact this.trans (h2.trans hC.cam)
      have E2 : ckR (PH n) ((cs.set (2 + i) (wd 1 s.g 0)).set (2 + i) (wd 2 s.g c)) = 5 := by
        unfold ckR
        rw [E1]
        exact if_pos (by show c < 1073741824; omega)
      rintro e w' ⟨rfl, hq⟩
      rw [E2] at hq ⊢
      simp only [E1] at hq
      refine ⟨?_, .inr (.inr (.inr (.inr (.inr (.inl ⟨rfl, Sq.next hq⟩)))))⟩
      rw [decide_eq_false (by omega : ¬ i + 4 + 1 = i + 7)]
      rfl
    · refine (step_turn hP hp (by omega) (by omega) (by omega) (by show (0 : Int) ≤ c; omega) (by show c ≤ 1099511627776; omega) rfl).mono ?_
      have E1 : pk ((cs.set (2 + i) (wd 1 s.g 0)).set (2 + i) (wd 2 s.g c)) (PH n).cam = c := by
        have := pk_set (cs.set (2 + i) (wd 1 s.g 0)) (2 + (i : Int)) 1 (wd 2 s.g c) (by omega) (by rw [List.length_set]; exact l1) (by omega)
        rw [e0, if_neg (by omega)] at this
        have h2 := pk_set cs (2 + (i : Int)) 1 (wd 1 s.g 0) (by omega) l1 (by omega)
        rw [e0, if_neg (by omega)] at h2
        exact this.trans (h2.trans hC.cam)
      have E2 := casC_yes (by show (1 : Int) < _; rw [List.length_set, List.length_set]; omega) E1 (c + 1)
      rintro e w' ⟨rfl, hq⟩
      have E3 : ((PH n).cam).toNat = 1 := rfl
      rw [E3] at E2
      simp only [E2] at hq
      refine ⟨?_, .inr (.inr (.inr (.inr (.inr (.inr (.inl ⟨rfl, Sq.next hq⟩))))))⟩
      rw [decide_eq_false (by omega : ¬ i + 5 + 1 = i + 7)]
      rfl
    · refine (step_hold hP hp (by omega) (by omega) (by omega) (by show (0 : Int) ≤ (i : Int); omega) (by show (i : Int) < (n : Int); omega) (by show (0 : Int) ≤ (s.g : Int); omega) (by show (s.g : Int) < 1048576; omega) (by show (0 : Int) ≤ c; omega) (by show c ≤ 1099511627776; omega) rfl).mono ?_
      have E2 := stC_yes (cs := ((cs.set (2 + i) (wd 1 s.g 0)).set (2 + i) (wd 2 s.g c)).set 1 (c + 1)) (a := 2 + (i : Int)) (by rw [List.length_set, List.length_set, List.length_set]; exact l1) (wd 3 s.g c)
      rw [e0] at E2
      have E3 : stC (((cs.set (2 + i) (wd 1 s.g 0)).set (2 + i) (wd 2 s.g c)).set 1 (c + 1)) ((PH n).first + (i : Int)) (wd 3 s.g c) = snapC cs i s.g c := E2
      rintro e w' ⟨rfl, hq⟩
      simp only [E3] at hq
      refine ⟨?_, .inr (.inr (.inr (.inr (.inr (.inr (.inr ⟨rfl, Sq.next hq⟩))))))⟩
      rw [decide_eq_true (by omega : i + 6 + 1 = i + 7)]
      rfl
    · omega
  · rintro e w' ⟨rfl, hR⟩
    refine ⟨rfl, ?_⟩
    rcases hR with ⟨hki, _⟩ | ⟨e, _⟩ | ⟨e, _⟩ | ⟨e, _⟩ | ⟨e, _⟩ | ⟨e, _⟩ | ⟨e, _⟩ | ⟨_, hq⟩
    · omega
    · omega
    · omega
    · omega
    · omega
    · omega
    · omega
    · exact hq

/-- All slots are held: it ends at the last one. -/
def snF (w0 : World) (K : Nat → Prop) (bm bp bc fr n0 bv : Nat) (md : Int) (bs n : Nat) (cs : List Int) (k : Nat) (w : World) : Prop :=
  (k < n ∧ ∃ pw, Sq w0 K bm bp bc fr n0 bv md bs n k cs ⟨0, k, pw, 0, 0, 0, 0, 0, 0⟩ w) ∨ (k = n ∧ ∃ pw, Sq w0 K bm bp bc fr n0 bv md bs n k cs ⟨8, n, pw, 0, 0, 0, 0, 0, 32⟩ w)
theorem snap_full {w0 w : World} {K : Nat → Prop} {bm bp bc : Nat} {cs : List Int} {fr n0 : Nat} {xs : List Value} {bv : Nat} {md : Int} {bs n : Nat} {S : List Sl} {c : Int} (h1 : 1 ≤ n) (h8 : n ≤ 8) (hl : S.length = n) (hC : Cells c S cs) (hG : ∀ (i : Nat) (s : Sl), S[i]? = some s → s.g ≤ 1000)
    (hf : ∀ (k : Nat) (t : Sl), S[k]? = some t → t.who.isSome = true) (hn : n0 ≤ 1000000000) (hd0 : 0 ≤ md) (hd1 : md ≤ 1000000000)
    (h : Pw w0 w K bm bp bc cs fr n0 xs bv 0 md bs (snC (PH n) ⟨0, 0, 0, 0, 0, 0, 0, 0, 0⟩) 88) :
    Calls Tryz.prog 10 #[.pointer (some ⟨bv, 0, none⟩), .iface 38 (.pointer (some ⟨bs, 0, none⟩)), .int .i64 ((2 * n + 5 : Nat) : Int)] w fun e w' => e = .returned (.bool true) ∧
      ∃ pw, Sq w0 K bm bp bc fr n0 bv md bs n n cs ⟨8, n, pw, 0, 0, 0, 0, 0, 32⟩ w' := by
  have hP := PH_ok h1 h8
  have hOk := csOk_of hC.ok
  refine (alone_snap bs bv (snF w0 K bm bp bc fr n0 bv md bs n cs) n (2 * n + 5) (by omega) (by omega) (by omega) ?_ w (.inl ⟨by omega, 0, xs, by simpa using h⟩)).mono ?_
  · intro k wk hk hR
    rcases hR with ⟨hki, pw, ys, hp⟩ | ⟨e, _⟩
    · have hkS : S[k]? = some S[k] := List.getElem?_eq_getElem (by omega)
      have hgk := hG k _ hkS
      refine (step_seek hP hp (by omega) (by omega) (by omega) hOk (by show (0 : Int) ≤ (k : Int); omega) (by show (k : Int) < (n : Int); omega) rfl).mono ?_
      by_cases he : k + 1 = n
      · have E := skR_end (n := n) pw (hC.ats k _ hkS) (hf k _ hkS) (by omega) he
        rintro e w' ⟨rfl, hq⟩
        rw [E] at hq ⊢
        refine ⟨?_, .inr ⟨he, wordOf S[k], Sq.next (by rw [he] at hq; exact hq)⟩⟩
        rw [decide_eq_true he]
        rfl
      · have E := skR_on (n := n) pw (hC.ats k _ hkS) (hf k _ hkS) (by omega) (by omega)
        rintro e w' ⟨rfl, hq⟩
        rw [E] at hq ⊢
        refine ⟨?_, .inl ⟨by omega, _, Sq.next hq⟩⟩
        rw [decide_eq_false he]
        rfl
    · omega
  · rintro e w' ⟨rfl, hR⟩
    refine ⟨rfl, ?_⟩
    rcases hR with ⟨hki, _⟩ | ⟨_, hq⟩
    · omega
    · exact hq
end Go.Proofs.YtcbndfmbpojppaaGreat

/- TopHolds: Release, Open, Close and Scan, each taken alone, on a plain memory. No condition. -/
namespace Go.Proofs.YtcbndfmbpojppaaGreat
open Go.RowKit Go.Proofs.YtcbndfmbpojppaaGreatW.PrintWords Go.Proofs.YtcbndfmbpojppaaGreatW.PrintMore Go.Proofs.YtcbndfmbpojppaaGreat.Math
set_option linter.unusedVariables false
set_option linter.unusedSimpArgs false

/-- A proc behind k of its steps. -/
def Aq (w0 : World) (K : Nat → Prop) (bm bp bc fr n0 bv : Nat) (md : Int) (bs k : Nat) (cs : List Int) (oc : Array Value) (T : TypeId) (w : World) : Prop := ∃ xs, Pw w0 w K bm bp bc cs fr (n0 + k) xs bv 0 (md + k) bs oc T
theorem Aq.next {w0 : World} {K : Nat → Prop} {bm bp bc fr n0 bv : Nat} {md : Int} {bs k : Nat} {cs : List Int} {oc : Array Value} {T : TypeId} {w : World} {xs : List Value} (h : Pw w0 w K bm bp bc cs fr (n0 + k + 1) xs bv 0 (md + k + 1) bs oc T) : Aq w0 K bm bp bc fr n0 bv md bs (k + 1) cs oc T w :=
  ⟨xs, by rw [show md + ((k + 1 : Nat) : Int) = md + k + 1 by omega]; exact h⟩

def rlQ (w0 : World) (K : Nat → Prop) (bm bp bc fr n0 bv : Nat) (md : Int) (bs n : Nat) (cs : List Int) (h : Int) (i g : Nat) (wo : Int) (k : Nat) (w : World) : Prop :=
  (k = 0 ∧ Aq w0 K bm bp bc fr n0 bv md bs k cs (relC (PH n) ⟨h, 0, 0, 0, false, false, 0⟩) 95 w)
  ∨ (k = 1 ∧ Aq w0 K bm bp bc fr n0 bv md bs k cs (relC (PH n) ⟨h, 2 + i, wo, g, true, false, 0⟩) 95 w)
  ∨ (k = 2 ∧ Aq w0 K bm bp bc fr n0 bv md bs k (cs.set (2 + i) (wd 0 ((g : Int) + 1) 0)) (relC (PH n) ⟨h, 2 + i, wo, g, true, true, 0⟩) 95 w)
theorem rel_on {w0 w : World} {K : Nat → Prop} {bm bp bc : Nat} {cs : List Int} {fr n0 : Nat} {xs : List Value} {bv : Nat} {md : Int} {bs n i j : Nat} {S : List Sl} {c : Int} {s : Sl} (h1 : 1 ≤ n) (h8 : n ≤ 8) (hl : S.length = n) (hC : Cells c S cs)
    (hi : S[i]? = some s) (hg : s.g ≤ 1000) (hs : s.who = some j) (hn : n0 ≤ 1000000000) (hd0 : 0 ≤ md) (hd1 : md ≤ 1000000000)
    (h : Pw w0 w K bm bp bc cs fr n0 xs bv 0 md bs (relC (PH n) ⟨i + 1 + 65536 * s.g, 0, 0, 0, false, false, 0⟩) 95) :
    Calls Tryz.prog 10 #[.pointer (some ⟨bv, 0, none⟩), .iface 44 (.pointer (some ⟨bs, 0, none⟩)), .int .i64 2] w fun e w' => e = .returned (.bool true) ∧
      ∃ ρ : RlS, ρ.er = 0 ∧ Aq w0 K bm bp bc fr n0 bv md bs 2 (cs.set (2 + i) (wd 0 ((s.g : Int) + 1) 0)) (relC (PH n) ρ) 95 w' := by
  have li : i < n := hl ▸ (List.getElem?_eq_some_iff.1 hi).1
  have hP := PH_ok h1 h8
  have hOk := csOk_of hC.ok
  have e0 : ((2 : Int) + (i : Int)).toNat = 2 + i := by omega
  have L0 := hC.len
  have l1 : (2 : Int) + (i : Int) < (cs.length : Int) := by omega
  have pki := hC.ats i s hi
  obtain ⟨a, b, -, -⟩ := wordOf_some hs (by omega)
  refine (alone_rel bs bv (rlQ w0 K bm bp bc fr n0 bv md bs n cs (i + 1 + 65536 * s.g) i s.g (wordOf s)) 2 2 (by omega) (by omega) (by omega) ?_ w (.inl ⟨rfl, xs, by simpa using h⟩)).mono ?_
  · intro k wk hk hR
    rcases hR with ⟨rfl, ys, hp⟩ | ⟨rfl, ys, hp⟩ | ⟨rfl, _⟩
    · have E : rlR (PH n) ⟨i + 1 + 65536 * s.g, 0, 0, 0, false, false, 0⟩ i s.g cs = (false, ⟨i + 1 + 65536 * s.g, 2 + i, wordOf s, s.g, true, false, 0⟩) := by
        have hx : pk cs ((PH n).first + (i : Int)) = wordOf s := pki
        refine (if_pos (show pk cs ((PH n).first + (i : Int)) % 4 = 3 ∧ pk cs ((PH n).first + (i : Int)) / 4 % 1048576 = (s.g : Int) by rw [hx]; exact ⟨a, b⟩)).trans ?_
        show (false, (⟨i + 1 + 65536 * s.g, 2 + i, pk cs (2 + (i : Int)), s.g, true, false, 0⟩ : RlS)) = _
        rw [pki]
      refine (rel_first hP hp (by omega) (by omega) (by omega) hOk rfl rfl i s.g rfl (by omega) (by show (i : Int) < (n : Int); omega) (by omega) (by omega)).mono ?_
      rintro e w' ⟨rfl, hq⟩
      rw [E] at hq ⊢
      exact ⟨rfl, .inr (.inl ⟨rfl, Aq.next hq⟩)⟩
    · refine (rel_second hp (by omega) (by omega) (by omega) rfl rfl (by show (0 : Int) ≤ 2 + (i : Int); omega) (by show (0 : Int) ≤ (s.g : Int); omega) (by show (s.g : Int) + 1 < 1048576; omega)).mono ?_
      have E1 : casB cs (2 + (i : Int)) (wordOf s) = true := casB_yes l1 pki
      have E2 : casC cs (2 + (i : Int)) (wordOf s) (wd 0 ((s.g : Int) + 1) 0) = cs.set (2 + i) (wd 0 ((s.g : Int) + 1) 0) := by
        rw [← e0]
        exact casC_yes l1 pki _
      rintro e w' ⟨rfl, hq⟩
      simp only [E1, E2, if_true] at hq
      exact ⟨rfl, .inr (.inr ⟨rfl, Aq.next hq⟩)⟩
    · omega
  · rintro e w' ⟨rfl, hR⟩
    refine ⟨rfl, ?_⟩
    rcases hR with ⟨e, _⟩ | ⟨e, _⟩ | ⟨_, hq⟩
    · omega
    · omega
    · exact ⟨_, rfl, hq⟩
def rlF (w0 : World) (K : Nat → Prop) (bm bp bc fr n0 bv : Nat) (md : Int) (bs n : Nat) (cs : List Int) (h : Int) (k : Nat) (w : World) : Prop :=
  (k = 0 ∧ Aq w0 K bm bp bc fr n0 bv md bs k cs (relC (PH n) ⟨h, 0, 0, 0, false, false, 0⟩) 95 w)
  ∨ (k = 1 ∧ ∃ ρ : RlS, ρ.er = 33 ∧ Aq w0 K bm bp bc fr n0 bv md bs k cs (relC (PH n) ρ) 95 w)
theorem rel_off {w0 w : World} {K : Nat → Prop} {bm bp bc : Nat} {cs : List Int} {fr n0 : Nat} {xs : List Value} {bv : Nat} {md : Int} {bs n i g : Nat} {S : List Sl} {c : Int} {s : Sl} (h1 : 1 ≤ n) (h8 : n ≤ 8) (hl : S.length = n) (hC : Cells c S cs)
    (hi : S[i]? = some s) (hg : s.g ≤ 1000) (hs : g < s.g) (hn : n0 ≤ 1000000000) (hd0 : 0 ≤ md) (hd1 : md ≤ 1000000000)
    (h : Pw w0 w K bm bp bc cs fr n0 xs bv 0 md bs (relC (PH n) ⟨i + 1 + 65536 * g, 0, 0, 0, false, false, 0⟩) 95) :
    Calls Tryz.prog 10 #[.pointer (some ⟨bv, 0, none⟩), .iface 44 (.pointer (some ⟨bs, 0, none⟩)), .int .i64 2] w fun e w' => e = .returned (.bool true) ∧
      ∃ ρ : RlS, ρ.er = 33 ∧ Aq w0 K bm bp bc fr n0 bv md bs 1 cs (relC (PH n) ρ) 95 w' := by
  have li : i < n := hl ▸ (List.getElem?_eq_some_iff.1 hi).1
  have hP := PH_ok h1 h8
  have hOk := csOk_of hC.ok
  have pki := hC.ats i s hi
  have b : wordOf s / 4 % 1048576 = s.g := by
    cases hw : s.who with
    | none => exact (wordOf_none hw (by omega)).2.1
    | some j => exact (wordOf_some hw (by omega)).2.1
  refine (alone_rel bs bv (rlF w0 K bm bp bc fr n0 bv md bs n cs (i + 1 + 65536 * g)) 1 2 (by omega) (by omega) (by omega) ?_ w (.inl ⟨rfl, xs, by simpa using h⟩)).mono ?_
  · intro k wk hk hR
    rcases hR with ⟨rfl, ys, hp⟩ | ⟨rfl, _⟩
    · have E : rlR (PH n) ⟨i + 1 + 65536 * g, 0, 0, 0, false, false, 0⟩ i g cs = (true, ⟨i + 1 + 65536 * g, 2 + i, wordOf s, g, true, true, 33⟩) := by
        have hx : pk cs ((PH n).first + (i : Int)) = wordOf s := pki
        refine (if_neg (show ¬ (pk cs ((PH n).first + (i : Int)) % 4 = 3 ∧ pk cs ((PH n).first + (i : Int)) / 4 % 1048576 = (g : Int)) by rw [hx]; omega)).trans ?_
        show (true, (⟨i + 1 + 65536 * g, 2 + i, pk cs (2 + (i : Int)), g, true, true, 33⟩ : RlS)) = _
        rw [pki]
      refine (rel_first hP hp (by omega) (by omega) (by omega) hOk rfl rfl i g rfl (by omega) (by show (i : Int) < (n : Int); omega) (by omega) (by omega)).mono ?_
      rintro e w' ⟨rfl, hq⟩
      rw [E] at hq ⊢
      exact ⟨rfl, .inr ⟨rfl, _, rfl, Aq.next hq⟩⟩
    · omega
  · rintro e w' ⟨rfl, hR⟩
    refine ⟨rfl, ?_⟩
    rcases hR with ⟨e, _⟩ | ⟨_, hq⟩
    · omega
    · exact hq

theorem akR_on {n i j : Nat} {s : Sl} {cs : List Int} {h : Int} (pki : pk cs (2 + i) = wordOf s) (hs : s.who = some j) (hg : s.g ≤ 1000) : akR (PH n) ⟨h, false, 0, 0, 0, false⟩ i s.g cs = ⟨h, true, 3, s.g, (j : Int) + 1, true⟩ := by
  obtain ⟨a, b, d, -⟩ := wordOf_some hs (by omega)
  unfold akR
  show (⟨h, true, pk cs (2 + (i : Int)) % 4, pk cs (2 + (i : Int)) / 4 % 1048576, pk cs (2 + (i : Int)) / 4194304, decide (pk cs (2 + (i : Int)) % 4 = 3 ∧ pk cs (2 + (i : Int)) / 4 % 1048576 = (s.g : Int))⟩ : AkS) = _
  rw [pki, a, b, d]
  simp
theorem akR_off {n i g : Nat} {s : Sl} {cs : List Int} {h : Int} (pki : pk cs (2 + i) = wordOf s) (hs : g < s.g) (hg : s.g ≤ 1000) : ∃ k' g' s', akR (PH n) ⟨h, false, 0, 0, 0, false⟩ i g cs = ⟨h, true, k', g', s', false⟩ := by
  have b : wordOf s / 4 % 1048576 = s.g := by
    cases hw : s.who with
    | none => exact (wordOf_none hw (by omega)).2.1
    | some j => exact (wordOf_some hw (by omega)).2.1
  refine ⟨pk cs (2 + (i : Int)) % 4, pk cs (2 + (i : Int)) / 4 % 1048576, pk cs (2 + (i : Int)) / 4194304, ?_⟩
  have e : decide (pk cs (2 + (i : Int)) % 4 = 3 ∧ pk cs (2 + (i : Int)) / 4 % 1048576 = (g : Int)) = false := decide_eq_false (by rw [pki]; omega)
  exact congrArg (AkS.mk h true (pk cs (2 + (i : Int)) % 4) (pk cs (2 + (i : Int)) / 4 % 1048576) (pk cs (2 + (i : Int)) / 4194304)) e

def akQ (oc : AkS → Array Value) (T : TypeId) (w0 : World) (K : Nat → Prop) (bm bp bc fr n0 bv : Nat) (md : Int) (bs n : Nat) (cs : List Int) (a0 a1 : AkS) (k : Nat) (w : World) : Prop :=
  (k = 0 ∧ Aq w0 K bm bp bc fr n0 bv md bs k cs (oc a0) T w) ∨ (k = 1 ∧ Aq w0 K bm bp bc fr n0 bv md bs k cs (oc a1) T w)
theorem open_alone {w0 w : World} {K : Nat → Prop} {bm bp bc : Nat} {cs : List Int} {fr n0 : Nat} {xs : List Value} {bv : Nat} {md : Int} {bs n i g : Nat} {S : List Sl} {c : Int} (h1 : 1 ≤ n) (h8 : n ≤ 8) (hC : Cells c S cs)
    (hi : i < n) (hg : g ≤ 1000) (hn : n0 ≤ 1000000000) (hd0 : 0 ≤ md) (hd1 : md ≤ 1000000000)
    (h : Pw w0 w K bm bp bc cs fr n0 xs bv 0 md bs (opC (PH n) ⟨i + 1 + 65536 * g, false, 0, 0, 0, false⟩) 99) :
    Calls Tryz.prog 10 #[.pointer (some ⟨bv, 0, none⟩), .iface 46 (.pointer (some ⟨bs, 0, none⟩)), .int .i64 1] w fun e w' => e = .returned (.bool true) ∧
      Aq w0 K bm bp bc fr n0 bv md bs 1 cs (opC (PH n) (akR (PH n) ⟨i + 1 + 65536 * g, false, 0, 0, 0, false⟩ i g cs)) 99 w' := by
  have hP := PH_ok h1 h8
  have hOk := csOk_of hC.ok
  refine (alone_open bs bv (akQ (opC (PH n)) 99 w0 K bm bp bc fr n0 bv md bs n cs ⟨i + 1 + 65536 * g, false, 0, 0, 0, false⟩ (akR (PH n) ⟨i + 1 + 65536 * g, false, 0, 0, 0, false⟩ i g cs)) 1 1 (by omega) (by omega) (by omega) ?_ w (.inl ⟨rfl, xs, by simpa using h⟩)).mono ?_
  · intro k wk hk hR
    rcases hR with ⟨rfl, ys, hp⟩ | ⟨rfl, _⟩
    · refine (op_step hP hp (by omega) (by omega) (by omega) hOk rfl i g rfl (by omega) (by show (i : Int) < (n : Int); omega) (by omega) (by omega)).mono ?_
      rintro e w' ⟨rfl, hq⟩
      exact ⟨rfl, .inr ⟨rfl, Aq.next hq⟩⟩
    · omega
  · rintro e w' ⟨rfl, hR⟩
    refine ⟨rfl, ?_⟩
    rcases hR with ⟨e, _⟩ | ⟨_, hq⟩
    · omega
    · exact hq
theorem close_alone {w0 w : World} {K : Nat → Prop} {bm bp bc : Nat} {cs : List Int} {fr n0 : Nat} {xs : List Value} {bv : Nat} {md st : Int} {bs n i g : Nat} {S : List Sl} {c : Int} (h1 : 1 ≤ n) (h8 : n ≤ 8) (hC : Cells c S cs)
    (hi : i < n) (hg : g ≤ 1000) (hn : n0 ≤ 1000000000) (hd0 : 0 ≤ md) (hd1 : md ≤ 1000000000)
    (h : Pw w0 w K bm bp bc cs fr n0 xs bv 0 md bs (clC st (PH n) ⟨i + 1 + 65536 * g, false, 0, 0, 0, false⟩) 101) :
    Calls Tryz.prog 10 #[.pointer (some ⟨bv, 0, none⟩), .iface 48 (.pointer (some ⟨bs, 0, none⟩)), .int .i64 1] w fun e w' => e = .returned (.bool true) ∧
      Aq w0 K bm bp bc fr n0 bv md bs 1 cs (clC st (PH n) (akR (PH n) ⟨i + 1 + 65536 * g, false, 0, 0, 0, false⟩ i g cs)) 101 w' := by
  have hP := PH_ok h1 h8
  have hOk := csOk_of hC.ok
  refine (alone_close bs bv (akQ (clC st (PH n)) 101 w0 K bm bp bc fr n0 bv md bs n cs ⟨i + 1 + 65536 * g, false, 0, 0, 0, false⟩ (akR (PH n) ⟨i + 1 + 65536 * g, false, 0, 0, 0, false⟩ i g cs)) 1 1 (by omega) (by omega) (by omega) ?_ w (.inl ⟨rfl, xs, by simpa using h⟩)).mono ?_
  · intro k wk hk hR
    rcases hR with ⟨rfl, ys, hp⟩ | ⟨rfl, _⟩
    · refine (cl_step hP hp (by omega) (by omega) (by omega) hOk rfl i g rfl (by omega) (by show (i : Int) < (n : Int); omega) (by omega) (by omega)).mono ?_
      rintro e w' ⟨rfl, hq⟩
      exact ⟨rfl, .inr ⟨rfl, Aq.next hq⟩⟩
    · omega
  · rintro e w' ⟨rfl, hR⟩
    refine ⟨rfl, ?_⟩
    rcases hR with ⟨e, _⟩ | ⟨_, hq⟩
    · omega
    · exact hq

theorem ScAt.weak {w0 w : World} {K K3 : Nat → Prop} {bm bp bc : Nat} {cs : List Int} {fr n : Nat} {xs : List Value} {bv : Nat} {th md : Int} {bs : Nat} {P : SlP} {i fl : Int} {ev : List Int} (a1 : ∀ j, K j → K3 j) (a2 : ∀ j, K3 j → K j ∨ w0.heap.size ≤ j) (h : ScAt w0 w K3 bm bp bc cs fr n xs bv th md bs P i fl ev) : ScAt w0 w K bm bp bc cs fr n xs bv th md bs P i fl ev := by
  obtain ⟨K4, ex, b1, b2, r⟩ := h
  exact ⟨K4, ex, fun j hj => b1 j (a1 j hj), fun j hj => (b2 j hj).elim (a2 j) .inr, r⟩
theorem ScEnd.weak {w0 w : World} {K K3 : Nat → Prop} {bm bp bc : Nat} {cs : List Int} {fr n : Nat} {xs : List Value} {bv : Nat} {th md : Int} {bs : Nat} {P : SlP} {i fl : Int} {ev : List Int} (a1 : ∀ j, K j → K3 j) (a2 : ∀ j, K3 j → K j ∨ w0.heap.size ≤ j) (h : ScEnd w0 w K3 bm bp bc cs fr n xs bv th md bs P i fl ev) : ScEnd w0 w K bm bp bc cs fr n xs bv th md bs P i fl ev := by
  obtain ⟨K4, need, ex, r, b1, b2, q⟩ := h
  exact ⟨K4, need, ex, r, fun j hj => b1 j (a1 j hj), fun j hj => (b2 j hj).elim (a2 j) .inr, q⟩
def scQ (w0 : World) (K : Nat → Prop) (bm bp bc fr n0 bv : Nat) (md : Int) (bs n : Nat) (cs : List Int) (fl : Int) (k : Nat) (w : World) : Prop :=
  (k = 0 ∧ Aq w0 K bm bp bc fr n0 bv md bs k cs (scC (PH n) false 0 0 (.slice none 0 0) (.slice none 0 0) false) 103 w)
  ∨ (∃ i : Nat, k = i + 1 ∧ i < n ∧ ∃ xs, ScAt w0 w K bm bp bc cs fr (n0 + k) xs bv 0 (md + k) bs (PH n) i fl (evK cs i))
  ∨ (k = n + 1 ∧ ∃ xs, ScEnd w0 w K bm bp bc cs fr (n0 + k) xs bv 0 (md + k) bs (PH n) n fl (evK cs n))
theorem scan_alone {w0 w : World} {K : Nat → Prop} {bm bp bc : Nat} {cs : List Int} {fr n0 : Nat} {xs : List Value} {bv : Nat} {md : Int} {bs n r : Nat} {S : List Sl} {H : List Hd} (h1 : 1 ≤ n) (h8 : n ≤ 8) (hI : HInv n r S H) (hr : r ≤ 1000) (hC : Cells ((H.length : Int) + 1) S cs)
    (hn : n0 ≤ 1000000000) (hd0 : 0 ≤ md) (hd1 : md ≤ 1000000000)
    (h : Pw w0 w K bm bp bc cs fr n0 xs bv 0 md bs (scC (PH n) false 0 0 (.slice none 0 0) (.slice none 0 0) false) 103) :
    Calls Tryz.prog 10 #[.pointer (some ⟨bv, 0, none⟩), .iface 50 (.pointer (some ⟨bs, 0, none⟩)), .int .i64 ((n + 1 : Nat) : Int)] w fun e w' => e = .returned (.bool true) ∧
      ∃ xs, ScEnd w0 w' K bm bp bc cs fr (n0 + (n + 1)) xs bv 0 (md + ((n + 1 : Nat) : Int)) bs (PH n) n ((H.length : Int) + 1) (evK cs n) := by
  have hP := PH_ok h1 h8
  have hOk := csOk_of hC.ok
  have hl := hI.len
  have hG : ∀ (i : Nat) (s : Sl), S[i]? = some s → s.g < 1048576 := fun i s hs => by have := hI.gen i s hs; omega
  refine (alone_scan bs bv (scQ w0 K bm bp bc fr n0 bv md bs n cs ((H.length : Int) + 1)) (n + 1) (n + 1) (by omega) (by omega) (by omega) ?_ w (.inl ⟨rfl, xs, by simpa using h⟩)).mono ?_
  · intro k wk hk hR
    rcases hR with ⟨rfl, ys, hp⟩ | ⟨i, rfl, hin, ys, K3, ex, a1, a2, hp, hRU⟩ | ⟨rfl, _⟩
    · refine (scan_begin hP hp (by omega) (by omega) (by omega)).mono ?_
      have E : pk cs (PH n).cam = (H.length : Int) + 1 := hC.cam
      rintro e w' ⟨rfl, hq⟩
      rw [E] at hq
      refine ⟨by rw [decide_eq_false (by omega : ¬ 0 + 1 = n + 1)], .inr (.inl ⟨0, rfl, by omega, ?_⟩)⟩
      rw [show md + ((0 + 1 : Nat) : Int) = md + ((0 : Nat) : Int) + 1 by omega]
      exact ⟨_, K, .slice none 0 0, fun _ h => h, fun _ h => .inl h, hq, Kd.R_nil _ _ _ _ _⟩
    · have hiS : S[i]? = some S[i] := List.getElem?_eq_getElem (by omega)
      have pki := hC.ats i _ hiS
      have hgi := hG i _ hiS
      have hkk : pk cs ((PH n).first + (i : Int)) % 4 = 0 ∨ pk cs ((PH n).first + (i : Int)) % 4 = 3 := by
        show pk cs (2 + (i : Int)) % 4 = 0 ∨ pk cs (2 + (i : Int)) % 4 = 3
        rw [pki]
        cases hw : (S[i]).who with
        | none => exact .inl (wordOf_none hw hgi).1
        | some j => exact .inr (wordOf_some hw hgi).1
      have hev := (evK_len hC hG i (by omega)).1
      have hcl : (S.take i).countP (·.who.isSome) ≤ (S.take i).length := List.countP_le_length
      rw [List.length_take] at hcl
      refine (scan_step (i := (i : Int)) hP hp (by omega) (by omega) (by omega) hOk (by omega) (by show (i : Int) < (n : Int); omega) hkk hRU (by omega) (evK_apart hC hI (by omega) (i + 1) (by omega))).mono ?_
      rintro e w' ⟨rfl, hq1, hq2⟩
      by_cases he : i + 1 = n
      · have hq := hq2 (by show (i : Int) + 1 = (n : Int); omega)
        refine ⟨?_, .inr (.inr ⟨by omega, ?_⟩)⟩
        · show Ending.returned (.bool (decide ((i : Int) + 1 = (n : Int)))) = _
          rw [decide_eq_true (by omega : (i : Int) + 1 = (n : Int)), decide_eq_true (by omega : i + 1 + 1 = n + 1)]
        · rw [show md + ((i + 1 + 1 : Nat) : Int) = md + ((i + 1 : Nat) : Int) + 1 by omega, show (n : Int) = (i : Int) + 1 by omega, ← he]
          have e2 : PH (i + 1) = PH n := by rw [he]
          rw [e2]
          exact ⟨_, ScEnd.weak a1 a2 hq⟩
      · have hq := hq1 (by show (i : Int) + 1 < (n : Int); omega)
        refine ⟨?_, .inr (.inl ⟨i + 1, rfl, by omega, ?_⟩)⟩
        · show Ending.returned (.bool (decide ((i : Int) + 1 = (n : Int)))) = _
          rw [decide_eq_false (by omega : ¬ (i : Int) + 1 = (n : Int)), decide_eq_false (by omega : ¬ i + 1 + 1 = n + 1)]
        · rw [show md + ((i + 1 + 1 : Nat) : Int) = md + ((i + 1 : Nat) : Int) + 1 by omega]
          exact ⟨_, ScAt.weak a1 a2 hq⟩
    · omega
  · rintro e w' ⟨rfl, hR⟩
    refine ⟨rfl, ?_⟩
    rcases hR with ⟨e, _⟩ | ⟨i, e, hin, _⟩ | ⟨_, hq⟩
    · omega
    · omega
    · exact hq
end Go.Proofs.YtcbndfmbpojppaaGreat

/- TopHolds: the state of the law between two calls, and what each call makes of it. No condition. -/
namespace Go.Proofs.YtcbndfmbpojppaaGreat
open Go.RowKit Go.Proofs.YtcbndfmbpojppaaGreatW.PrintWords Go.Proofs.YtcbndfmbpojppaaGreatW.PrintMore Go.Proofs.YtcbndfmbpojppaaGreat.Math
set_option linter.unusedVariables false
set_option linter.unusedSimpArgs false

/-- A handle's word. -/
def hdl (h : Hd) : Int := (h.i : Int) + 1 + 65536 * (h.g : Int)
/-- What stays while the law runs. -/
structure HCt where (B bm bp bc bv b10 fr n : Nat) (w0 : World)
/-- The three rows: handles, stamps, held. -/
structure HVs where (a b c : Value)
def hdV (H : List Hd) : List Value := H.map fun h => Value.int .u64 (hdl h)
def stV (m : Nat) : List Value := (List.range m).map fun (j : Nat) => Value.int .u64 ((j : Int) + 1)
def onV (H : List Hd) : List Value := H.map fun h => Value.bool h.on
def slO (n : Nat) : Obj := .cells #[.int .u64 1, .int .u64 2, .int .i64 n, .int .u64 1073741824] 34 (0, 0)
/-- What the rows hold. -/
structure Xs where
  ma : Nat
  xa : List Value
  mb : Nat
  xb : List Value
  mc : Nat
  xc : List Value
def XsH (H : List Hd) : Xs := ⟨H.length, hdV H, H.length, stV H.length, H.length, onV H⟩
structure Rws (Z : HCt) (K : Nat → Prop) (X : Xs) (V : HVs) (w : World) : Prop where
  ra : w.ownsRow Z.B 29 1 V.a X.ma X.xa
  rb : w.ownsRow Z.B 29 1 V.b X.mb X.xb
  rc : w.ownsRow Z.B 4 1 V.c X.mc X.xc
  box : w.heap[Z.b10]? = some (slO Z.n)
  k10 : K Z.b10 ∧ Z.b10 ≠ Z.bv ∧ Z.B ≤ Z.b10
  ka : ∀ j, V.a.ownBlock = some j → K j ∧ j ≠ Z.bv ∧ j ≠ Z.b10 ∧ V.b.ownBlock ≠ some j ∧ V.c.ownBlock ≠ some j
  kb : ∀ j, V.b.ownBlock = some j → K j ∧ j ≠ Z.bv ∧ j ≠ Z.b10 ∧ V.a.ownBlock ≠ some j ∧ V.c.ownBlock ≠ some j
  kc : ∀ j, V.c.ownBlock = some j → K j ∧ j ≠ Z.bv ∧ j ≠ Z.b10 ∧ V.a.ownBlock ≠ some j ∧ V.b.ownBlock ≠ some j
/-- The blocks that the rows and the box take. -/
def HVs.at_ (V : HVs) (Z : HCt) (j : Nat) : Prop := j = Z.b10 ∨ V.a.ownBlock = some j ∨ V.b.ownBlock = some j ∨ V.c.ownBlock = some j
theorem Rws.in_ {Z : HCt} {K : Nat → Prop} {X : Xs} {V : HVs} {w : World} (h : Rws Z K X V w) {j : Nat} (hj : V.at_ Z j) : K j ∧ j ≠ Z.bv := by
  rcases hj with rfl | e | e | e
  · exact ⟨h.k10.1, h.k10.2.1⟩
  · exact ⟨(h.ka j e).1, (h.ka j e).2.1⟩
  · exact ⟨(h.kb j e).1, (h.kb j e).2.1⟩
  · exact ⟨(h.kc j e).1, (h.kc j e).2.1⟩
theorem Rws.move {Z : HCt} {K : Nat → Prop} {X : Xs} {V : HVs} {w w' : World} (h : Rws Z K X V w) (hm : ∀ j, V.at_ Z j → w'.heap[j]? = w.heap[j]?) : Rws Z K X V w' :=
  ⟨own_move h.ra fun j hj => hm j (.inr (.inl hj)), own_move h.rb fun j hj => hm j (.inr (.inr (.inl hj))), own_move h.rc fun j hj => hm j (.inr (.inr (.inr hj))), (hm _ (.inl rfl)).trans h.box, h.k10, h.ka, h.kb, h.kc⟩
theorem Rws.mono {Z : HCt} {K L : Nat → Prop} {X : Xs} {V : HVs} {w : World} (h : Rws Z K X V w) (hl : ∀ j, K j → L j) : Rws Z L X V w :=
  ⟨h.ra, h.rb, h.rc, h.box, ⟨hl _ h.k10.1, h.k10.2⟩, fun j hj => ⟨hl _ (h.ka j hj).1, (h.ka j hj).2⟩, fun j hj => ⟨hl _ (h.kb j hj).1, (h.kb j hj).2⟩, fun j hj => ⟨hl _ (h.kc j hj).1, (h.kc j hj).2⟩⟩
theorem Rws.lt {Z : HCt} {K : Nat → Prop} {X : Xs} {V : HVs} {w : World} (h : Rws Z K X V w) {j : Nat} (hj : V.at_ Z j) : j < w.heap.size ∧ Z.B ≤ j := by
  rcases hj with rfl | e | e | e
  · exact ⟨(Array.getElem?_eq_some_iff.1 h.box).1, h.k10.2.2⟩
  · exact ⟨own_lt h.ra j e, own_base h.ra j e⟩
  · exact ⟨own_lt h.rb j e, own_base h.rb j e⟩
  · exact ⟨own_lt h.rc j e, own_base h.rc j e⟩

/-- The law's state: the memory, the view, the rows, and what was there before. -/
structure Env (Z : HCt) (K : Nat → Prop) (k : Nat) (c : Int) (S : List Sl) (X : Xs) (V : HVs) (w : World) : Prop where
  mem : ∃ cs n0 xs md, Mem w K Z.bm Z.bp Z.bc cs Z.fr n0 xs ∧ Vw w Z.bv Z.bm 0 md ∧ n0 ≤ k ∧ 0 ≤ md ∧ md ≤ (k : Int) ∧ Cells c S cs
  kv : K Z.bv
  bvB : Z.B ≤ Z.bv
  rows : Rws Z K X V w
  low : Below Z.B Z.w0 w
  lowK : ∀ j, j < Z.B → K j
section
variable {Z : HCt} {K : Nat → Prop} {k : Nat} {c : Int} {S : List Sl} {X : Xs} {V : HVs} {w w' : World}
theorem Env.kl (h : Env Z K k c S X V w) : ∀ j, K j → j < w.heap.size := by
  obtain ⟨cs, n0, xs, md, m, _⟩ := h.mem
  exact m.kl
theorem Env.leB (h : Env Z K k c S X V w) : Z.B ≤ w.heap.size := Nat.le_of_lt (Nat.lt_of_le_of_lt h.bvB (h.kl _ h.kv))
theorem Env.below (h : Env Z K k c S X V w) (hb : Below w.heap.size w w') : Env Z K k c S X V w' := by
  obtain ⟨cs, n0, xs, md, m, v, r⟩ := h.mem
  exact ⟨⟨cs, n0, xs, md, m.of_below hb, (hb.block _ (m.kl _ h.kv)).trans v, r⟩, h.kv, h.bvB, h.rows.move fun j hj => hb.block j (h.rows.lt hj).1, h.low.trans (hb.mono h.leB), h.lowK⟩
theorem Env.later {k' : Nat} (h : Env Z K k c S X V w) (hk : k ≤ k') : Env Z K k' c S X V w := by
  obtain ⟨cs, n0, xs, md, m, v, a, b, d, e⟩ := h.mem
  exact ⟨⟨cs, n0, xs, md, m, v, by omega, b, by omega, e⟩, h.kv, h.bvB, h.rows, h.low, h.lowK⟩
end
/-- A proc that lies beside all that. -/
structure Prc (Z : HCt) (K : Nat → Prop) (V : HVs) (bs : Nat) (oc : Array Value) (T : TypeId) (w : World) : Prop where
  ob : SB bs oc T w
  ks : K bs
  nv : bs ≠ Z.bv
  nr : ¬ V.at_ Z bs
  Bs : Z.B ≤ bs
section
variable {Z : HCt} {K : Nat → Prop} {k : Nat} {c : Int} {S : List Sl} {X : Xs} {V : HVs} {w w' : World} {bs : Nat} {oc oc' : Array Value} {T : TypeId}
theorem Prc.below (h : Prc Z K V bs oc T w) (hb : Below w.heap.size w w') : Prc Z K V bs oc T w' := ⟨h.ob.below hb, h.ks, h.nv, h.nr, h.Bs⟩
theorem Prc.kept {bo : Nat} (h : Prc Z K V bs oc T w) (hk : Kept (fun j => K j ∧ j ≠ Z.bv ∧ j ≠ bo) w w') (hn : bs ≠ bo) : Prc Z K V bs oc T w' :=
  ⟨(hk.block bs ⟨h.ks, h.nv, hn⟩ (Array.getElem?_eq_some_iff.1 h.ob).1).trans h.ob, h.ks, h.nv, h.nr, h.Bs⟩
theorem Prc.mono {L : Nat → Prop} (h : Prc Z K V bs oc T w) (hl : ∀ j, K j → L j) : Prc Z L V bs oc T w := ⟨h.ob, hl _ h.ks, h.nv, h.nr, h.Bs⟩
theorem laid_below (w : World) (P : SlP) (oc : Array Value) (T : TypeId) : Below w.heap.size w (laidProc w P oc T) := below_alloc (below_alloc (Below.refl _ _) _) _
/-- A new proc. -/
theorem Env.newp (h : Env Z K k c S X V w) (P : SlP) (oc : Array Value) (T : TypeId) : Env Z (fun j => K j ∨ j = w.heap.size + 1) k c S X V (laidProc w P oc T) ∧ Prc Z (fun j => K j ∨ j = w.heap.size + 1) V (w.heap.size + 1) oc T (laidProc w P oc T) := by
  obtain ⟨cs, n0, xs, md, m, v, r⟩ := h.mem
  have hb := laid_below w P oc T
  have h1 := h.below hb
  have hv := h.kl _ h.kv
  have m2 : Mem (laidProc w P oc T) (fun j => K j ∨ j = w.heap.size + 1) Z.bm Z.bp Z.bc cs Z.fr n0 xs := by
    refine ((m.alloc _).alloc _).less fun j hj => ?_
    rcases hj with hj | hj
    · exact .inl (.inl hj)
    · exact .inr (by rw [World.size_alloc]; exact hj)
  refine ⟨⟨⟨cs, n0, xs, md, m2, (hb.block _ hv).trans v, r⟩, .inl h.kv, h.bvB, h1.rows.mono fun j hj => .inl hj, h1.low, fun j hj => .inl (h.lowK j hj)⟩, laid_at w P oc T, .inr rfl, by omega, fun hj => ?_, by have := h.leB; omega⟩
  have := (h.rows.lt hj).1
  omega
theorem Env.pw (h : Env Z K k c S X V w) (hp : Prc Z K V bs oc T w) : ∃ cs n0 xs md, n0 ≤ k ∧ 0 ≤ md ∧ md ≤ (k : Int) ∧ Cells c S cs ∧ Pw w w K Z.bm Z.bp Z.bc cs Z.fr n0 xs Z.bv 0 md bs oc T := by
  obtain ⟨cs, n0, xs, md, m, v, a, b, d, e⟩ := h.mem
  exact ⟨cs, n0, xs, md, a, b, d, e, m, v, hp.ob, h.kv, hp.ks, hp.nv, Kept.refl _ _⟩
theorem Env.of_pw {K3 : Nat → Prop} {k' n1 : Nat} {c' md1 : Int} {S' : List Sl} {cs' : List Int} {xs' : List Value} (h : Env Z K k c S X V w) (hp : Prc Z K V bs oc T w) (q : Pw w w' K3 Z.bm Z.bp Z.bc cs' Z.fr n1 xs' Z.bv 0 md1 bs oc' T) (hK : ∀ j, K j → K3 j)
    (hc : Cells c' S' cs') (h1 : n1 ≤ k') (h2 : 0 ≤ md1) (h3 : md1 ≤ (k' : Int)) : Env Z K3 k' c' S' X V w' ∧ Prc Z K3 V bs oc' T w' ∧ Kept (fun j => K j ∧ j ≠ Z.bv ∧ j ≠ bs) w w' := by
  have hk : Kept (fun j => K j ∧ j ≠ Z.bv ∧ j ≠ bs) w w' := q.fr0.mono fun j _ hj => ⟨hK j hj.1, hj.2⟩
  refine ⟨⟨⟨cs', n1, xs', md1, q.mem, q.vw, h1, h2, h3, hc⟩, hK _ h.kv, h.bvB, (h.rows.move fun j hj => ?_).mono hK, h.low.trans (hk.below h.leB fun j hj => ?_), fun j hj => hK j (h.lowK j hj)⟩, ⟨q.ob, q.ks, hp.nv, hp.nr, hp.Bs⟩, hk⟩
  · have hi := h.rows.in_ hj
    exact hk.block j ⟨hi.1, hi.2, fun e => hp.nr (e ▸ hj)⟩ (h.rows.lt hj).1
  · have := h.bvB
    have := hp.Bs
    exact ⟨h.lowK j hj, by omega, by omega⟩
end

section
variable {Z : HCt} {K : Nat → Prop} {k r : Nat} {S : List Sl} {H : List Hd} {V : HVs} {w : World} {bs : Nat}
/-- Snapshot, where a slot is free. -/
theorem E_snap {i : Nat} {s : Sl} (h : Env Z K k ((H.length : Int) + 1) S (XsH H) V w) (hp : Prc Z K V bs (snC (PH Z.n) ⟨0, 0, 0, 0, 0, 0, 0, 0, 0⟩) 88 w) (hI : HInv Z.n r S H) (hr : r ≤ 600) (hk : k ≤ 900000000) (h1 : 1 ≤ Z.n) (h8 : Z.n ≤ 8)
    (hi : S[i]? = some s) (hs : s.who = none) (hf : ∀ (k : Nat) (t : Sl), k < i → S[k]? = some t → t.who.isSome = true) :
    Calls Tryz.prog 10 #[.pointer (some ⟨Z.bv, 0, none⟩), .iface 38 (.pointer (some ⟨bs, 0, none⟩)), .int .i64 ((2 * Z.n + 5 : Nat) : Int)] w fun e w' => e = .returned (.bool true) ∧
      Env Z K (k + 15) ((H.length : Int) + 1 + 1) (S.set i ⟨s.g, some H.length⟩) (XsH H) V w' ∧ Prc Z K V bs (snC (PH Z.n) ⟨8, i, wd 0 s.g 0, s.g, (H.length : Int) + 1, 3, s.g, (H.length : Int) + 1, 0⟩) 88 w' := by
  obtain ⟨cs, n0, xs, md, a, b, d, hC, q⟩ := h.pw hp
  have hfew := hI.few
  have li : i < Z.n := hI.len ▸ (List.getElem?_eq_some_iff.1 hi).1
  have hg := hI.gen i s hi
  refine (snap_free h1 h8 hI.len hC (fun i s hs => by have := hI.gen i s hs; omega) (by omega) (by omega) hi hs hf (by omega) b (by omega) q).mono ?_
  rintro e w' ⟨rfl, ys, hq⟩
  obtain ⟨e1, e2, _⟩ := h.of_pw hp hq (fun _ h => h) (hC.snap hi (by omega) H.length rfl (by omega)) (k' := k + 15) (by omega) (by omega) (by omega)
  exact ⟨rfl, e1, e2⟩
/-- Snapshot, where none is free. -/
theorem E_full (h : Env Z K k ((H.length : Int) + 1) S (XsH H) V w) (hp : Prc Z K V bs (snC (PH Z.n) ⟨0, 0, 0, 0, 0, 0, 0, 0, 0⟩) 88 w) (hI : HInv Z.n r S H) (hr : r ≤ 600) (hk : k ≤ 900000000) (h1 : 1 ≤ Z.n) (h8 : Z.n ≤ 8)
    (hf : ∀ (k : Nat) (t : Sl), S[k]? = some t → t.who.isSome = true) :
    Calls Tryz.prog 10 #[.pointer (some ⟨Z.bv, 0, none⟩), .iface 38 (.pointer (some ⟨bs, 0, none⟩)), .int .i64 ((2 * Z.n + 5 : Nat) : Int)] w fun e w' => e = .returned (.bool true) ∧
      Env Z K (k + 15) ((H.length : Int) + 1) S (XsH H) V w' ∧ ∃ pw, Prc Z K V bs (snC (PH Z.n) ⟨8, Z.n, pw, 0, 0, 0, 0, 0, 32⟩) 88 w' := by
  obtain ⟨cs, n0, xs, md, a, b, d, hC, q⟩ := h.pw hp
  refine (snap_full h1 h8 hI.len hC (fun i s hs => by have := hI.gen i s hs; omega) hf (by omega) b (by omega) q).mono ?_
  rintro e w' ⟨rfl, pw, ys, hq⟩
  obtain ⟨e1, e2, _⟩ := h.of_pw hp hq (fun _ h => h) hC (k' := k + 15) (by omega) (by omega) (by omega)
  exact ⟨rfl, e1, pw, e2⟩
/-- Release of a handle that holds. -/
theorem E_rel {j : Nat} {u : Hd} (h : Env Z K k ((H.length : Int) + 1) S (XsH H) V w) (hp : Prc Z K V bs (relC (PH Z.n) ⟨hdl u, 0, 0, 0, false, false, 0⟩) 95 w) (hI : HInv Z.n r S H) (hr : r ≤ 600) (hk : k ≤ 900000000) (h1 : 1 ≤ Z.n) (h8 : Z.n ≤ 8)
    (hu : H[j]? = some u) (ho : u.on = true) :
    Calls Tryz.prog 10 #[.pointer (some ⟨Z.bv, 0, none⟩), .iface 44 (.pointer (some ⟨bs, 0, none⟩)), .int .i64 2] w fun e w' => e = .returned (.bool true) ∧
      Env Z K (k + 15) ((H.length : Int) + 1) (S.set u.i ⟨u.g + 1, none⟩) (XsH H) V w' ∧ ∃ ρ : RlS, ρ.er = 0 ∧ Prc Z K V bs (relC (PH Z.n) ρ) 95 w' := by
  obtain ⟨cs, n0, xs, md, a, b, d, hC, q⟩ := h.pw hp
  obtain ⟨s, s1, s2, -⟩ := hI.ats j u hu
  obtain ⟨s3, s4⟩ := s2 ho
  have hg := hI.gen _ _ s1
  have e0 : hdl u = (u.i : Int) + 1 + 65536 * (s.g : Int) := by unfold hdl; rw [s3]
  rw [e0] at q
  refine (rel_on h1 h8 hI.len hC s1 (by omega) s4 (by omega) b (by omega) q).mono ?_
  rintro e w' ⟨rfl, ρ, hρ, ys, hq⟩
  have hC2 := hC.rel s1 s.g (by omega)
  rw [s3] at hC2 hq
  obtain ⟨e1, e2, _⟩ := h.of_pw hp hq (fun _ h => h) hC2 (k' := k + 15) (by omega) (by omega) (by omega)
  exact ⟨rfl, e1, ρ, hρ, e2⟩
theorem E_relNo {j : Nat} {u : Hd} (h : Env Z K k ((H.length : Int) + 1) S (XsH H) V w) (hp : Prc Z K V bs (relC (PH Z.n) ⟨hdl u, 0, 0, 0, false, false, 0⟩) 95 w) (hI : HInv Z.n r S H) (hr : r ≤ 600) (hk : k ≤ 900000000) (h1 : 1 ≤ Z.n) (h8 : Z.n ≤ 8)
    (hu : H[j]? = some u) (ho : u.on = false) :
    Calls Tryz.prog 10 #[.pointer (some ⟨Z.bv, 0, none⟩), .iface 44 (.pointer (some ⟨bs, 0, none⟩)), .int .i64 2] w fun e w' => e = .returned (.bool true) ∧
      Env Z K (k + 15) ((H.length : Int) + 1) S (XsH H) V w' ∧ ∃ ρ : RlS, ρ.er = 33 ∧ Prc Z K V bs (relC (PH Z.n) ρ) 95 w' := by
  obtain ⟨cs, n0, xs, md, a, b, d, hC, q⟩ := h.pw hp
  obtain ⟨s, s1, -, s2⟩ := hI.ats j u hu
  have hg := hI.gen _ _ s1
  refine (rel_off h1 h8 hI.len hC s1 (by omega) (s2 ho) (by omega) b (by omega) q).mono ?_
  rintro e w' ⟨rfl, ρ, hρ, ys, hq⟩
  obtain ⟨e1, e2, _⟩ := h.of_pw hp hq (fun _ h => h) hC (k' := k + 15) (by omega) (by omega) (by omega)
  exact ⟨rfl, e1, ρ, hρ, e2⟩
/-- What a handle's own look tells. -/
theorem ak_of {cs : List Int} {j : Nat} {u : Hd} (hC : Cells ((H.length : Int) + 1) S cs) (hI : HInv Z.n r S H) (hr : r ≤ 600) (hu : H[j]? = some u) :
    ∃ k' g' s', akR (PH Z.n) ⟨(u.i : Int) + 1 + 65536 * (u.g : Int), false, 0, 0, 0, false⟩ u.i u.g cs = ⟨hdl u, true, k', g', s', u.on⟩ ∧ (u.on = true → s' = (j : Int) + 1) := by
  obtain ⟨s, s1, s2, s3⟩ := hI.ats j u hu
  have hg := hI.gen _ _ s1
  have pki := hC.ats _ _ s1
  cases ho : u.on with
  | true =>
    obtain ⟨s4, s5⟩ := s2 ho
    refine ⟨3, s.g, (j : Int) + 1, ?_, fun _ => rfl⟩
    rw [← s4]
    refine (akR_on pki s5 (by omega)).trans ?_
    unfold hdl
    rw [s4]
  | false =>
    obtain ⟨k', g', s', e⟩ := akR_off (n := Z.n) (h := (u.i : Int) + 1 + 65536 * (u.g : Int)) pki (s3 ho) (by omega)
    exact ⟨k', g', s', e, fun e => by simp at e⟩
theorem E_open {j : Nat} {u : Hd} (h : Env Z K k ((H.length : Int) + 1) S (XsH H) V w) (hp : Prc Z K V bs (opC (PH Z.n) ⟨hdl u, false, 0, 0, 0, false⟩) 99 w) (hI : HInv Z.n r S H) (hr : r ≤ 600) (hk : k ≤ 900000000) (h1 : 1 ≤ Z.n) (h8 : Z.n ≤ 8) (hu : H[j]? = some u) :
    Calls Tryz.prog 10 #[.pointer (some ⟨Z.bv, 0, none⟩), .iface 46 (.pointer (some ⟨bs, 0, none⟩)), .int .i64 1] w fun e w' => e = .returned (.bool true) ∧
      Env Z K (k + 1) ((H.length : Int) + 1) S (XsH H) V w' ∧ Kept (fun j => K j ∧ j ≠ Z.bv ∧ j ≠ bs) w w' ∧ ∃ k' g' s', Prc Z K V bs (opC (PH Z.n) ⟨hdl u, true, k', g', s', u.on⟩) 99 w' ∧ (u.on = true → s' = (j : Int) + 1) := by
  obtain ⟨cs, n0, xs, md, a, b, d, hC, q⟩ := h.pw hp
  obtain ⟨s, s1, s2, s3⟩ := hI.ats j u hu
  have hg := hI.gen _ _ s1
  have li : u.i < Z.n := hI.len ▸ (List.getElem?_eq_some_iff.1 s1).1
  have hug : u.g ≤ 1000 := by
    cases ho : u.on with
    | true => have := (s2 ho).1; omega
    | false => have := s3 ho; omega
  obtain ⟨k', g', s', e1, e2⟩ := ak_of hC hI hr hu
  refine (open_alone h1 h8 hC li hug (by omega) b (by omega) q).mono ?_
  rintro e w' ⟨rfl, ys, hq⟩
  rw [e1] at hq
  obtain ⟨x1, x2, x3⟩ := h.of_pw hp hq (fun _ h => h) hC (k' := k + 1) (by omega) (by omega) (by omega)
  exact ⟨rfl, x1, x3, k', g', s', x2, e2⟩
theorem E_close {j : Nat} {u : Hd} {st : Int} (h : Env Z K k ((H.length : Int) + 1) S (XsH H) V w) (hp : Prc Z K V bs (clC st (PH Z.n) ⟨hdl u, false, 0, 0, 0, false⟩) 101 w) (hI : HInv Z.n r S H) (hr : r ≤ 600) (hk : k ≤ 900000000) (h1 : 1 ≤ Z.n) (h8 : Z.n ≤ 8) (hu : H[j]? = some u) :
    Calls Tryz.prog 10 #[.pointer (some ⟨Z.bv, 0, none⟩), .iface 48 (.pointer (some ⟨bs, 0, none⟩)), .int .i64 1] w fun e w' => e = .returned (.bool true) ∧
      Env Z K (k + 1) ((H.length : Int) + 1) S (XsH H) V w' ∧ Kept (fun j => K j ∧ j ≠ Z.bv ∧ j ≠ bs) w w' ∧ ∃ k' g' s', Prc Z K V bs (clC st (PH Z.n) ⟨hdl u, true, k', g', s', u.on⟩) 101 w' ∧ (u.on = true → s' = (j : Int) + 1) := by
  obtain ⟨cs, n0, xs, md, a, b, d, hC, q⟩ := h.pw hp
  obtain ⟨s, s1, s2, s3⟩ := hI.ats j u hu
  have hg := hI.gen _ _ s1
  have li : u.i < Z.n := hI.len ▸ (List.getElem?_eq_some_iff.1 s1).1
  have hug : u.g ≤ 1000 := by
    cases ho : u.on with
    | true => have := (s2 ho).1; omega
    | false => have := s3 ho; omega
  obtain ⟨k', g', s', e1, e2⟩ := ak_of hC hI hr hu
  refine (close_alone h1 h8 hC li hug (by omega) b (by omega) q).mono ?_
  rintro e w' ⟨rfl, ys, hq⟩
  rw [e1] at hq
  obtain ⟨x1, x2, x3⟩ := h.of_pw hp hq (fun _ h => h) hC (k' := k + 1) (by omega) (by omega) (by omega)
  exact ⟨rfl, x1, x3, k', g', s', x2, e2⟩
/-- The Scan at the end. -/
theorem E_scan (h : Env Z K k ((H.length : Int) + 1) S (XsH H) V w) (hp : Prc Z K V bs (scC (PH Z.n) false 0 0 (.slice none 0 0) (.slice none 0 0) false) 103 w) (hI : HInv Z.n r S H) (hr : r ≤ 600) (hk : k ≤ 900000000) (h1 : 1 ≤ Z.n) (h8 : Z.n ≤ 8) :
    Calls Tryz.prog 10 #[.pointer (some ⟨Z.bv, 0, none⟩), .iface 50 (.pointer (some ⟨bs, 0, none⟩)), .int .i64 ((Z.n + 1 : Nat) : Int)] w fun e w' => e = .returned (.bool true) ∧
      ∃ (K3 : Nat → Prop) (need ex : Value) (l : List Int), Env Z K3 (k + 15) ((H.length : Int) + 1) S (XsH H) V w' ∧ SB bs (scC (PH Z.n) true Z.n ((H.length : Int) + 1) need ex true) 103 w' ∧ RU w' w.heap.size (okS K3 Z.bv bs) need l ∧ l.length = onH H := by
  obtain ⟨cs, n0, xs, md, a, b, d, hC, q⟩ := h.pw hp
  refine (scan_alone h1 h8 hI (by omega) hC (by omega) b (by omega) q).mono ?_
  rintro e w' ⟨rfl, ys, K3, need, ex, l, k1, k2, hq, hr3, hl⟩
  obtain ⟨x1, x2, x3⟩ := h.of_pw hp hq k1 hC (k' := k + 15) (by omega) (by omega) (by omega)
  refine ⟨rfl, K3, need, ex, l, x1, x2.ob, hr3, hl.trans ?_⟩
  have e1 := (evK_len hC (fun i s hs => by have := hI.gen i s hs; omega) Z.n (by rw [hI.len]; exact Nat.le_refl _)).1
  rw [e1, ← hI.cnt]
  unfold onS
  rw [← hI.len, List.take_length]
theorem E_peek (h : Env Z K k ((H.length : Int) + 1) S (XsH H) V w) : Calls Tryz.prog 24 #[.pointer (some ⟨Z.bm, 0, none⟩), .int .u64 1] w fun e w' => e = .returned (.int .u64 ((H.length : Int) + 1)) ∧ w = w' := by
  obtain ⟨cs, n0, xs, md, m, v, a, b, d, hC⟩ := h.mem
  have := peek_calls m 1 (by omega)
  rw [hC.cam] at this
  exact this
theorem E_live (h : Env Z K k ((H.length : Int) + 1) S (XsH H) V w) (hI : HInv Z.n r S H) (hr : r ≤ 600) (h1 : 1 ≤ Z.n) (h8 : Z.n ≤ 8) : Calls Tryz.prog 25 #[.pointer (some ⟨Z.bm, 0, none⟩), .agg #[.int .u64 1, .int .u64 2, .int .i64 Z.n, .int .u64 1073741824]] w fun e w' => (∃ A c, e = .returned (.slice A (onH H) c)) ∧ Below w.heap.size w w' := by
  obtain ⟨cs, n0, xs, md, m, v, a, b, d, hC⟩ := h.mem
  have hP := PH_ok h1 h8
  have e1 := (evK_len hC (fun i s hs => by have := hI.gen i s hs; omega) Z.n (by rw [hI.len]; exact Nat.le_refl _)).2
  have e2 : (lvL cs (PH Z.n).first (PH Z.n).cnt.toNat).length = onH H := by
    rw [← hI.cnt]
    unfold onS
    refine e1.trans ?_
    rw [← hI.len, List.take_length]
  have := live_calls hP m (csOk_of hC.ok) (by show (Z.n : Int) ≤ 12; omega)
  rw [e2] at this
  exact this
/-- One more at the end of a row. -/
theorem Env.grown {X : Xs} {c : Int} {wa w' : World} {row : Option Nat} {g : Nat} (h : Env Z K k c S X V wa) (hg : wa.grownBy w' row) (hrow : ∀ j, row = some j → K j ∧ j ≠ Z.bv ∧ Z.B ≤ j) (hlt : g < w'.heap.size) :
    (∃ cs n0 xs md, Mem w' (fun j => K j ∨ (j = g ∧ wa.heap.size ≤ g)) Z.bm Z.bp Z.bc cs Z.fr n0 xs ∧ Vw w' Z.bv Z.bm 0 md ∧ n0 ≤ k ∧ 0 ≤ md ∧ md ≤ (k : Int) ∧ Cells c S cs) ∧ Below Z.B Z.w0 w' := by
  obtain ⟨cs, n0, xs, md, m, v0, r⟩ := h.mem
  have kl := h.kl
  refine ⟨⟨cs, n0, xs, md, m.grew hg.size (fun j hj hk => hg.block j hj fun e => hk (hrow j e.symm).1) _ fun j hj => ⟨by omega, by omega⟩, (hg.block _ (kl _ h.kv) fun e => (hrow _ e.symm).2.1 rfl).trans v0, r⟩, h.low.trans ⟨hg.os, hg.tape, hg.output, hg.size, fun j hj => hg.block j ?_ fun e => ?_⟩⟩
  · have := h.leB; omega
  · have := (hrow j e.symm).2.2; omega
theorem Env.app_a {X : Xs} {c : Int} {wa w' : World} {v : Value} {g cap : Nat} (h : Env Z K k c S X V wa) (ho : w'.ownsRow Z.B 29 1 (.slice (some ⟨g, 0, none⟩) (X.ma + 1) cap) (X.ma + 1) (X.xa ++ [v])) (hg : wa.grownBy w' V.a.ownBlock) (hat : V.a.ownBlock = some g ∨ g = wa.heap.size) (hlt : g < w'.heap.size) :
    ∃ K3 : Nat → Prop, (∀ j, K j → K3 j) ∧ Env Z K3 k c S { X with ma := X.ma + 1, xa := X.xa ++ [v] } { V with a := (.slice (some ⟨g, 0, none⟩) (X.ma + 1) cap) } w' ∧ (∀ (bs : Nat) (oc : Array Value) (T : TypeId), Prc Z K V bs oc T wa → Prc Z K3 { V with a := (.slice (some ⟨g, 0, none⟩) (X.ma + 1) cap) } bs oc T w') := by
  have kl := h.kl
  have hrow : ∀ j, V.a.ownBlock = some j → K j ∧ j ≠ Z.bv ∧ Z.B ≤ j := fun j e => ⟨(h.rows.ka j e).1, (h.rows.ka j e).2.1, own_base h.rows.ra j e⟩
  obtain ⟨hm, hl⟩ := h.grown hg hrow hlt
  have far : ∀ j, K j → V.a.ownBlock ≠ some j → j ≠ g := fun j hj hn e => by
    subst e
    rcases hat with e | e
    · exact hn e
    · have := kl j hj; omega
  have hgk : K g ∨ (g = g ∧ wa.heap.size ≤ g) := hat.elim (fun e => .inl (hrow g e).1) fun e => .inr ⟨rfl, by omega⟩
  have gbv : g ≠ Z.bv := fun e => far Z.bv h.kv (fun e2 => (hrow _ e2).2.1 rfl) e.symm
  have g10 : g ≠ Z.b10 := fun e => far Z.b10 h.rows.k10.1 (fun e2 => (h.rows.ka _ e2).2.2.1 rfl) e.symm
  have go1 : V.b.ownBlock ≠ some g := fun e => far g (h.rows.kb _ e).1 (h.rows.kb _ e).2.2.2.1 rfl
  have go2 : V.c.ownBlock ≠ some g := fun e => far g (h.rows.kc _ e).1 (h.rows.kc _ e).2.2.2.1 rfl
  have mv : ∀ j, V.at_ Z j → V.a.ownBlock ≠ some j → w'.heap[j]? = wa.heap[j]? := fun j hj hn => hg.block j (h.rows.lt hj).1 fun e => hn e.symm
  have mv1 : w'.ownsRow Z.B 29 1 V.b X.mb X.xb := own_move h.rows.rb fun j e => mv j (.inr (.inr (.inl e))) (h.rows.kb j e).2.2.2.1
  have mv2 : w'.ownsRow Z.B 4 1 V.c X.mc X.xc := own_move h.rows.rc fun j e => mv j (.inr (.inr (.inr e))) (h.rows.kc j e).2.2.2.1
  have bx : w'.heap[Z.b10]? = some (slO Z.n) := (mv _ (.inl rfl) fun e => (h.rows.ka _ e).2.2.1 rfl).trans h.rows.box
  have kx : ∀ j, Value.ownBlock (.slice (some ⟨g, 0, none⟩) (X.ma + 1) cap) = some j → (K j ∨ (j = g ∧ wa.heap.size ≤ g)) ∧ j ≠ Z.bv ∧ j ≠ Z.b10 ∧ V.b.ownBlock ≠ some j ∧ V.c.ownBlock ≠ some j := fun j e => by
    obtain rfl : g = j := by simpa [Value.ownBlock] using e
    exact ⟨hgk, gbv, g10, go1, go2⟩
  have ky1 : ∀ j, V.b.ownBlock = some j → Value.ownBlock (.slice (some ⟨g, 0, none⟩) (X.ma + 1) cap) ≠ some j := fun j e e2 => by
    obtain rfl : g = j := by simpa [Value.ownBlock] using e2
    exact go1 e
  have ky2 : ∀ j, V.c.ownBlock = some j → Value.ownBlock (.slice (some ⟨g, 0, none⟩) (X.ma + 1) cap) ≠ some j := fun j e e2 => by
    obtain rfl : g = j := by simpa [Value.ownBlock] using e2
    exact go2 e
  refine ⟨fun j => K j ∨ (j = g ∧ wa.heap.size ≤ g), fun j hj => .inl hj, ⟨hm, .inl h.kv, h.bvB, ⟨ho, mv1, mv2, bx, ⟨.inl h.rows.k10.1, h.rows.k10.2⟩, kx, fun j e => ⟨.inl (h.rows.kb j e).1, (h.rows.kb j e).2.1, (h.rows.kb j e).2.2.1, ky1 j e, (h.rows.kb j e).2.2.2.2⟩, fun j e => ⟨.inl (h.rows.kc j e).1, (h.rows.kc j e).2.1, (h.rows.kc j e).2.2.1, ky2 j e, (h.rows.kc j e).2.2.2.2⟩⟩, hl, fun j hj => .inl (h.lowK j hj)⟩, fun bs oc T hp => ?_⟩
  have nb : ∀ j, V.at_ Z j → j ≠ bs := fun j hj e => hp.nr (e ▸ hj)
  have nx : V.a.ownBlock ≠ some bs := fun e => nb bs (.inr (.inl e)) rfl
  refine ⟨(hg.block bs (kl bs hp.ks) fun e => nx e.symm).trans hp.ob, .inl hp.ks, hp.nv, fun hj => ?_, hp.Bs⟩
  rcases hj with e | e | e | e
  · exact nb _ (.inl rfl) e.symm
  · have e2 : g = bs := by simpa [Value.ownBlock] using e
    exact far bs hp.ks nx e2.symm
  · exact nb _ (.inr (.inr (.inl e))) rfl
  · exact nb _ (.inr (.inr (.inr e))) rfl
theorem Env.app_b {X : Xs} {c : Int} {wa w' : World} {v : Value} {g cap : Nat} (h : Env Z K k c S X V wa) (ho : w'.ownsRow Z.B 29 1 (.slice (some ⟨g, 0, none⟩) (X.mb + 1) cap) (X.mb + 1) (X.xb ++ [v])) (hg : wa.grownBy w' V.b.ownBlock) (hat : V.b.ownBlock = some g ∨ g = wa.heap.size) (hlt : g < w'.heap.size) :
    ∃ K3 : Nat → Prop, (∀ j, K j → K3 j) ∧ Env Z K3 k c S { X with mb := X.mb + 1, xb := X.xb ++ [v] } { V with b := (.slice (some ⟨g, 0, none⟩) (X.mb + 1) cap) } w' ∧ (∀ (bs : Nat) (oc : Array Value) (T : TypeId), Prc Z K V bs oc T wa → Prc Z K3 { V with b := (.slice (some ⟨g, 0, none⟩) (X.mb + 1) cap) } bs oc T w') := by
  have kl := h.kl
  have hrow : ∀ j, V.b.ownBlock = some j → K j ∧ j ≠ Z.bv ∧ Z.B ≤ j := fun j e => ⟨(h.rows.kb j e).1, (h.rows.kb j e).2.1, own_base h.rows.rb j e⟩
  obtain ⟨hm, hl⟩ := h.grown hg hrow hlt
  have far : ∀ j, K j → V.b.ownBlock ≠ some j → j ≠ g := fun j hj hn e => by
    subst e
    rcases hat with e | e
    · exact hn e
    · have := kl j hj; omega
  have hgk : K g ∨ (g = g ∧ wa.heap.size ≤ g) := hat.elim (fun e => .inl (hrow g e).1) fun e => .inr ⟨rfl, by omega⟩
  have gbv : g ≠ Z.bv := fun e => far Z.bv h.kv (fun e2 => (hrow _ e2).2.1 rfl) e.symm
  have g10 : g ≠ Z.b10 := fun e => far Z.b10 h.rows.k10.1 (fun e2 => (h.rows.kb _ e2).2.2.1 rfl) e.symm
  have go1 : V.a.ownBlock ≠ some g := fun e => far g (h.rows.ka _ e).1 (h.rows.ka _ e).2.2.2.1 rfl
  have go2 : V.c.ownBlock ≠ some g := fun e => far g (h.rows.kc _ e).1 (h.rows.kc _ e).2.2.2.2 rfl
  have mv : ∀ j, V.at_ Z j → V.b.ownBlock ≠ some j → w'.heap[j]? = wa.heap[j]? := fun j hj hn => hg.block j (h.rows.lt hj).1 fun e => hn e.symm
  have mv1 : w'.ownsRow Z.B 29 1 V.a X.ma X.xa := own_move h.rows.ra fun j e => mv j (.inr (.inl e)) (h.rows.ka j e).2.2.2.1
  have mv2 : w'.ownsRow Z.B 4 1 V.c X.mc X.xc := own_move h.rows.rc fun j e => mv j (.inr (.inr (.inr e))) (h.rows.kc j e).2.2.2.2
  have bx : w'.heap[Z.b10]? = some (slO Z.n) := (mv _ (.inl rfl) fun e => (h.rows.kb _ e).2.2.1 rfl).trans h.rows.box
  have kx : ∀ j, Value.ownBlock (.slice (some ⟨g, 0, none⟩) (X.mb + 1) cap) = some j → (K j ∨ (j = g ∧ wa.heap.size ≤ g)) ∧ j ≠ Z.bv ∧ j ≠ Z.b10 ∧ V.a.ownBlock ≠ some j ∧ V.c.ownBlock ≠ some j := fun j e => by
    obtain rfl : g = j := by simpa [Value.ownBlock] using e
    exact ⟨hgk, gbv, g10, go1, go2⟩
  have ky1 : ∀ j, V.a.ownBlock = some j → Value.ownBlock (.slice (some ⟨g, 0, none⟩) (X.mb + 1) cap) ≠ some j := fun j e e2 => by
    obtain rfl : g = j := by simpa [Value.ownBlock] using e2
    exact go1 e
  have ky2 : ∀ j, V.c.ownBlock = some j → Value.ownBlock (.slice (some ⟨g, 0, none⟩) (X.mb + 1) cap) ≠ some j := fun j e e2 => by
    obtain rfl : g = j := by simpa [Value.ownBlock] using e2
    exact go2 e
  refine ⟨fun j => K j ∨ (j = g ∧ wa.heap.size ≤ g), fun j hj => .inl hj, ⟨hm, .inl h.kv, h.bvB, ⟨mv1, ho, mv2, bx, ⟨.inl h.rows.k10.1, h.rows.k10.2⟩, fun j e => ⟨.inl (h.rows.ka j e).1, (h.rows.ka j e).2.1, (h.rows.ka j e).2.2.1, ky1 j e, (h.rows.ka j e).2.2.2.2⟩, kx, fun j e => ⟨.inl (h.rows.kc j e).1, (h.rows.kc j e).2.1, (h.rows.kc j e).2.2.1, (h.rows.kc j e).2.2.2.1, ky2 j e⟩⟩, hl, fun j hj => .inl (h.lowK j hj)⟩, fun bs oc T hp => ?_⟩
  have nb : ∀ j, V.at_ Z j → j ≠ bs := fun j hj e => hp.nr (e ▸ hj)
  have nx : V.b.ownBlock ≠ some bs := fun e => nb bs (.inr (.inr (.inl e))) rfl
  refine ⟨(hg.block bs (kl bs hp.ks) fun e => nx e.symm).trans hp.ob, .inl hp.ks, hp.nv, fun hj => ?_, hp.Bs⟩
  rcases hj with e | e | e | e
  · exact nb _ (.inl rfl) e.symm
  · exact nb _ (.inr (.inl e)) rfl
  · have e2 : g = bs := by simpa [Value.ownBlock] using e
    exact far bs hp.ks nx e2.symm
  · exact nb _ (.inr (.inr (.inr e))) rfl
theorem Env.app_c {X : Xs} {c : Int} {wa w' : World} {v : Value} {g cap : Nat} (h : Env Z K k c S X V wa) (ho : w'.ownsRow Z.B 4 1 (.slice (some ⟨g, 0, none⟩) (X.mc + 1) cap) (X.mc + 1) (X.xc ++ [v])) (hg : wa.grownBy w' V.c.ownBlock) (hat : V.c.ownBlock = some g ∨ g = wa.heap.size) (hlt : g < w'.heap.size) :
    ∃ K3 : Nat → Prop, (∀ j, K j → K3 j) ∧ Env Z K3 k c S { X with mc := X.mc + 1, xc := X.xc ++ [v] } { V with c := (.slice (some ⟨g, 0, none⟩) (X.mc + 1) cap) } w' ∧ (∀ (bs : Nat) (oc : Array Value) (T : TypeId), Prc Z K V bs oc T wa → Prc Z K3 { V with c := (.slice (some ⟨g, 0, none⟩) (X.mc + 1) cap) } bs oc T w') := by
  have kl := h.kl
  have hrow : ∀ j, V.c.ownBlock = some j → K j ∧ j ≠ Z.bv ∧ Z.B ≤ j := fun j e => ⟨(h.rows.kc j e).1, (h.rows.kc j e).2.1, own_base h.rows.rc j e⟩
  obtain ⟨hm, hl⟩ := h.grown hg hrow hlt
  have far : ∀ j, K j → V.c.ownBlock ≠ some j → j ≠ g := fun j hj hn e => by
    subst e
    rcases hat with e | e
    · exact hn e
    · have := kl j hj; omega
  have hgk : K g ∨ (g = g ∧ wa.heap.size ≤ g) := hat.elim (fun e => .inl (hrow g e).1) fun e => .inr ⟨rfl, by omega⟩
  have gbv : g ≠ Z.bv := fun e => far Z.bv h.kv (fun e2 => (hrow _ e2).2.1 rfl) e.symm
  have g10 : g ≠ Z.b10 := fun e => far Z.b10 h.rows.k10.1 (fun e2 => (h.rows.kc _ e2).2.2.1 rfl) e.symm
  have go1 : V.a.ownBlock ≠ some g := fun e => far g (h.rows.ka _ e).1 (h.rows.ka _ e).2.2.2.2 rfl
  have go2 : V.b.ownBlock ≠ some g := fun e => far g (h.rows.kb _ e).1 (h.rows.kb _ e).2.2.2.2 rfl
  have mv : ∀ j, V.at_ Z j → V.c.ownBlock ≠ some j → w'.heap[j]? = wa.heap[j]? := fun j hj hn => hg.block j (h.rows.lt hj).1 fun e => hn e.symm
  have mv1 : w'.ownsRow Z.B 29 1 V.a X.ma X.xa := own_move h.rows.ra fun j e => mv j (.inr (.inl e)) (h.rows.ka j e).2.2.2.2
  have mv2 : w'.ownsRow Z.B 29 1 V.b X.mb X.xb := own_move h.rows.rb fun j e => mv j (.inr (.inr (.inl e))) (h.rows.kb j e).2.2.2.2
  have bx : w'.heap[Z.b10]? = some (slO Z.n) := (mv _ (.inl rfl) fun e => (h.rows.kc _ e).2.2.1 rfl).trans h.rows.box
  have kx : ∀ j, Value.ownBlock (.slice (some ⟨g, 0, none⟩) (X.mc + 1) cap) = some j → (K j ∨ (j = g ∧ wa.heap.size ≤ g)) ∧ j ≠ Z.bv ∧ j ≠ Z.b10 ∧ V.a.ownBlock ≠ some j ∧ V.b.ownBlock ≠ some j := fun j e => by
    obtain rfl : g = j := by simpa [Value.ownBlock] using e
    exact ⟨hgk, gbv, g10, go1, go2⟩
  have ky1 : ∀ j, V.a.ownBlock = some j → Value.ownBlock (.slice (some ⟨g, 0, none⟩) (X.mc + 1) cap) ≠ some j := fun j e e2 => by
    obtain rfl : g = j := by simpa [Value.ownBlock] using e2
    exact go1 e
  have ky2 : ∀ j, V.b.ownBlock = some j → Value.ownBlock (.slice (some ⟨g, 0, none⟩) (X.mc + 1) cap) ≠ some j := fun j e e2 => by
    obtain rfl : g = j := by simpa [Value.ownBlock] using e2
    exact go2 e
  refine ⟨fun j => K j ∨ (j = g ∧ wa.heap.size ≤ g), fun j hj => .inl hj, ⟨hm, .inl h.kv, h.bvB, ⟨mv1, mv2, ho, bx, ⟨.inl h.rows.k10.1, h.rows.k10.2⟩, fun j e => ⟨.inl (h.rows.ka j e).1, (h.rows.ka j e).2.1, (h.rows.ka j e).2.2.1, (h.rows.ka j e).2.2.2.1, ky1 j e⟩, fun j e => ⟨.inl (h.rows.kb j e).1, (h.rows.kb j e).2.1, (h.rows.kb j e).2.2.1, (h.rows.kb j e).2.2.2.1, ky2 j e⟩, kx⟩, hl, fun j hj => .inl (h.lowK j hj)⟩, fun bs oc T hp => ?_⟩
  have nb : ∀ j, V.at_ Z j → j ≠ bs := fun j hj e => hp.nr (e ▸ hj)
  have nx : V.c.ownBlock ≠ some bs := fun e => nb bs (.inr (.inr (.inr e))) rfl
  refine ⟨(hg.block bs (kl bs hp.ks) fun e => nx e.symm).trans hp.ob, .inl hp.ks, hp.nv, fun hj => ?_, hp.Bs⟩
  rcases hj with e | e | e | e
  · exact nb _ (.inl rfl) e.symm
  · exact nb _ (.inr (.inl e)) rfl
  · exact nb _ (.inr (.inr (.inl e))) rfl
  · have e2 : g = bs := by simpa [Value.ownBlock] using e
    exact far bs hp.ks nx e2.symm
/-- How many are held. -/
theorem E_count {A : Option Addr} {cc : Nat} {c : Int} (h : Env Z K k c S (XsH H) V w) (hV : V.c = .slice A H.length cc) (hl : H.length ≤ 600) : Calls Tryz.prog 12 #[.slice A H.length cc] w fun e w' => e = .returned (.int .i64 ((onH H : Nat) : Int)) ∧ Below w.heap.size w w' := by
  have h0 := h.rows.rc
  have hR : Kd.R Kd.bool 4 w Z.B (fun _ => True) V.c (H.map (·.on)) := Kd.R_of_own (by
    have e : encs Value.bool (H.map (·.on)) = onV H := by simp [encs, onV, Function.comp_def]
    rw [List.length_map, e]
    exact h0) fun _ _ => trivial
  obtain ⟨A', c', e1, e2, e3⟩ := Kd.R_reads hR
  rw [List.length_map] at e1 e2 e3
  rw [hV] at e1
  injection e1 with e4 _ e5
  subst e4
  subst e5
  have := Own.shuttertop_count.calls (H.length + 1) A cc (H.map (·.on)) _ w (by rw [List.length_map]; exact e3) (by rw [List.length_map]; exact e2) (count_in H (by omega))
  rw [List.length_map] at this
  exact this.mono fun _ _ h => ⟨h.1, h.2.below⟩
end
end Go.Proofs.YtcbndfmbpojppaaGreat

/- TopHolds: how the law's state begins, new procs, what the rows tell, a handle that holds no more. No condition. -/
namespace Go.Proofs.YtcbndfmbpojppaaGreat
open Go.RowKit Go.Proofs.YtcbndfmbpojppaaGreatW.PrintWords Go.Proofs.YtcbndfmbpojppaaGreatW.PrintMore Go.Proofs.YtcbndfmbpojppaaGreat.Math
set_option linter.unusedVariables false
set_option linter.unusedSimpArgs false

/-- Before the slots' box: memory and view. -/
def Bgn (w : World) (bm bp bc bv fr : Nat) (cs : List Int) (k : Nat) (w' : World) : Prop :=
  ∃ (K : Nat → Prop) (n0 : Nat) (xs : List Value) (md : Int), Mem w' K bm bp bc cs fr n0 xs ∧ Vw w' bv bm 0 md ∧ n0 ≤ k ∧ 0 ≤ md ∧ md ≤ (k : Int) ∧ K bv ∧ w.heap.size ≤ bv ∧ Below w.heap.size w w' ∧ ∀ j, j < w.heap.size → K j
def Bgn0 (w : World) (bm bp bc : Nat) (w' : World) : Prop := Mem w' (fun j => j < w.heap.size) bm bp bc (List.replicate 1024 0) 1 0 [] ∧ Below w.heap.size w w'
theorem Bgn.below {w w1 w2 : World} {bm bp bc bv fr : Nat} {cs : List Int} {k : Nat} (h : Bgn w bm bp bc bv fr cs k w1) (hb2 : Below w1.heap.size w1 w2) : Bgn w bm bp bc bv fr cs k w2 := by
  obtain ⟨K, n0, xs, md, m, v, a, b, c, kv, hv, hb, hl⟩ := h
  exact ⟨K, n0, xs, md, m.of_below hb2, (hb2.block _ (m.kl _ kv)).trans v, a, b, c, kv, hv, hb.trans (hb2.mono hb.size), hl⟩
theorem N_new (w : World) : Calls Tryz.prog 4 #[.int .i64 1024, .bool false] w fun e w' => ∃ bm bp bc, e = .returned (.tuple #[.pointer (some ⟨bm, 0, none⟩), .int .i64 0]) ∧ Bgn0 w bm bp bc w' :=
  (new_calls w 1024 (by omega) (by omega)).mono fun _ _ ⟨a, b, c, _⟩ => ⟨_, _, _, a, b, c⟩
theorem N_view {w w1 : World} {bm bp bc : Nat} (h : Bgn0 w bm bp bc w1) : Calls Tryz.prog 5 #[.pointer (some ⟨bm, 0, none⟩), .int .i64 0] w1 fun e w' => ∃ bv, e = .returned (.pointer (some ⟨bv, 0, none⟩)) ∧ Bgn w bm bp bc bv 1 (List.replicate 1024 0) 0 w' := by
  refine (view_calls w1 bm 0).mono ?_
  rintro e w' ⟨rfl, rfl⟩
  have hs := h.2.size
  exact ⟨_, rfl, _, 0, [], 0, h.1.alloc _, heap_alloc_new w1 _, Nat.le_refl _, by omega, by omega, .inr rfl, hs, h.2.alloc hs _, fun j hj => .inl hj⟩
theorem N_alloc {w w1 : World} {bm bp bc bv : Nat} (h : Bgn w bm bp bc bv 1 (List.replicate 1024 0) 0 w1) :
    Calls Tryz.prog 6 #[.pointer (some ⟨bv, 0, none⟩), .slice (some ⟨w1.heap.size, 0, none⟩) 1 1] (w1.alloc (.cells #[.int .u64 1] 29)) fun e w' => e = .returned (.int .u64 1) ∧ Bgn w bm bp bc bv 2 (alC (List.replicate 1024 0) 1 [1]) 1 w' := by
  obtain ⟨K, n0, xs, md, m, v, a, b, c, kv, hv, hb, hl⟩ := h
  have m2 := m.alloc (.cells #[.int .u64 1] 29)
  have v2 : Vw (w1.alloc (.cells #[.int .u64 1] 29)) bv bm 0 md := (heap_alloc_old w1 _ (m.kl _ kv)).trans v
  refine (alloc_calls m2 (by rw [List.length_replicate]; omega) (.inl kv) v2 b (by omega) (by omega) ⟨w1.heap.size, 0, none⟩ (fun j => by rw [add_plain]) (.inr rfl) 1 1 [1] rfl (by omega) (by omega) (fun j hj => ?_) (by rw [List.length_replicate]; omega)).mono ?_
  · obtain rfl : j = 0 := by omega
    exact (blk_cell (heap_alloc_new w1 (.cells #[.int .u64 1] 29)) 0).trans rfl
  · rintro e w' ⟨rfl, g, cap, m3, v3, hk⟩
    have hs := hb.size
    refine ⟨rfl, _, _, _, _, m3, v3, by omega, by omega, by omega, .inl kv, hv, (hb.alloc hs _).trans (hk.below (by rw [World.size_alloc]; omega) fun j hj => ⟨.inl (hl j hj), by omega⟩), fun j hj => .inl (hl j hj)⟩
theorem alC_len (cs vs : List Int) (fr : Nat) (h : fr + vs.length ≤ cs.length) : (alC cs fr vs).length = cs.length := by
  unfold alC
  rw [List.length_append, List.length_append, List.length_take, List.length_drop]
  omega
theorem alC1 : (alC (List.replicate 1024 0) 1 [1]).length = 1024 := (alC_len _ _ _ (by rw [List.length_replicate]; show 1 + 1 ≤ 1024; omega)).trans List.length_replicate
theorem N_make {w w1 : World} {bm bp bc bv n : Nat} (h : Bgn w bm bp bc bv 2 (alC (List.replicate 1024 0) 1 [1]) 1 w1) (h1 : 1 ≤ n) (h8 : n ≤ 8) :
    Calls Tryz.prog 8 #[.pointer (some ⟨bv, 0, none⟩), .int .u64 1, .int .i64 n, .int .u64 1073741824] w1 fun e w' => e = .returned (.tuple #[.agg #[.int .u64 1, .int .u64 2, .int .i64 n, .int .u64 1073741824], .int .i64 0]) ∧ Bgn w bm bp bc bv (2 + n) (alC (alC (List.replicate 1024 0) 1 [1]) 2 (List.replicate n 0)) 2 w' := by
  obtain ⟨K, n0, xs, md, m, v, a, b, c, kv, hv, hb, hl⟩ := h
  have hln := alC1
  refine (make_calls m (by omega) kv v b (by omega) (by omega) 1 1073741824 n h1 (by omega) (by omega) (by omega) (by rw [hln]; omega)).mono ?_
  rintro e w' ⟨rfl, ys, m3, v3, hk⟩
  have hs := hb.size
  exact ⟨rfl, _, _, _, _, m3, v3, by omega, by omega, by omega, kv, hv, hb.trans (hk.below hs fun j hj => ⟨hl j hj, by omega⟩), hl⟩
theorem alC_get (cs vs : List Int) (fr i : Nat) (h : fr + vs.length ≤ cs.length) : (alC cs fr vs)[i]? = if i < fr then cs[i]? else if i < fr + vs.length then vs[i - fr]? else cs[i]? := by
  unfold alC
  have hl : (cs.take fr).length = fr := by rw [List.length_take]; omega
  by_cases h1 : i < fr
  · rw [if_pos h1, List.getElem?_append_left (by omega), List.getElem?_take]
    simp [h1]
  · rw [if_neg h1, List.getElem?_append_right (by omega), hl]
    by_cases h2 : i < fr + vs.length
    · rw [if_pos h2, List.getElem?_append_left (by omega)]
    · rw [if_neg h2, List.getElem?_append_right (by omega), List.getElem?_drop]
      congr 1
      omega
/-- All slots are free, at first. -/
theorem cells_bgn (n : Nat) (h8 : n ≤ 8) : Cells 1 (List.replicate n ⟨0, none⟩) (alC (alC (List.replicate 1024 0) 1 [1]) 2 (List.replicate n 0)) := by
  have l1 := alC1
  have l2 : (alC (alC (List.replicate 1024 0) 1 [1]) 2 (List.replicate n 0)).length = 1024 := by
    rw [alC_len _ _ _ (by rw [l1, List.length_replicate]; omega), l1]
  have g1 : ∀ i, (alC (List.replicate 1024 0) 1 [1])[i]? = if i < 1 then (List.replicate 1024 (0 : Int))[i]? else if i < 2 then [(1 : Int)][i - 1]? else (List.replicate 1024 (0 : Int))[i]? := fun i => alC_get _ _ _ _ (by rw [List.length_replicate]; show 1 + 1 ≤ 1024; omega)
  have g2 := fun i => alC_get (alC (List.replicate 1024 0) 1 [1]) (List.replicate n 0) 2 i (by rw [l1, List.length_replicate]; omega)
  have pkx : ∀ ad : Int, 0 ≤ ad → ad < 1024 → pk (alC (alC (List.replicate 1024 0) 1 [1]) 2 (List.replicate n 0)) ad = ((alC (alC (List.replicate 1024 0) 1 [1]) 2 (List.replicate n 0))[ad.toNat]?).getD 0 := fun ad h0 h1 => by
    unfold pk rd
    rw [if_pos (by omega), List.getD_eq_getElem?_getD]
  refine ⟨l2, ?_, fun i s hi => ?_, fun v hv => ?_, by rw [List.length_replicate]; exact h8⟩
  · rw [pkx 1 (by omega) (by omega), show (1 : Int).toNat = 1 from rfl, g2 1, if_pos (by omega), g1 1]
    rfl
  · have hin : i < n := by have := (List.getElem?_eq_some_iff.1 hi).1; rwa [List.length_replicate] at this
    obtain rfl : s = ⟨0, none⟩ := by
      rw [List.getElem?_replicate, if_pos hin] at hi
      exact (Option.some.inj hi).symm
    rw [pkx _ (by omega) (by omega), show ((2 : Int) + (i : Int)).toNat = 2 + i by omega, g2 (2 + i), List.length_replicate, if_neg (by omega), if_pos (by omega), show 2 + i - 2 = i by omega, List.getElem?_replicate, if_pos hin]
    rfl
  · obtain ⟨i, hi, e⟩ := List.mem_iff_getElem.1 hv
    have hx := List.getElem?_eq_getElem hi
    rw [e, g2 i] at hx
    have zero : ∀ m i, (List.replicate m (0 : Int))[i]? = some v → v = 0 := fun m i h => by
      rw [List.getElem?_replicate] at h
      split at h
      · exact (Option.some.inj h).symm
      · simp at h
    have one : (alC (List.replicate 1024 0) 1 [1])[i]? = some v → v = 0 ∨ v = 1 := fun h => by
      rw [g1] at h
      split at h
      · exact .inl (zero _ _ h)
      · split at h
        · have : i - 1 = 0 := by omega
          rw [this] at h
          exact .inr (Option.some.inj h).symm
        · exact .inl (zero _ _ h)
    have hv2 : v = 0 ∨ v = 1 := by
      split at hx
      · exact one hx
      · split at hx
        · exact .inl (zero _ _ hx)
        · exact one hx
    omega
theorem hinv_bgn (n : Nat) : HInv n 0 (List.replicate n ⟨0, none⟩) [] := by
  have hs : ∀ (i : Nat) (s : Sl), (List.replicate n (⟨0, none⟩ : Sl))[i]? = some s → s = ⟨0, none⟩ := fun i s hi => by
    rw [List.getElem?_replicate] at hi
    split at hi
    · exact (Option.some.inj hi).symm
    · simp at hi
  refine ⟨List.length_replicate, fun i s hi => ?_, fun j h hj => by simp at hj, fun i s j hi hj => ?_, ?_, Nat.le_refl _⟩
  · rw [hs i s hi]; exact Nat.le_refl _
  · rw [hs i s hi] at hj
    simp at hj
  · unfold onS onH
    rw [List.countP_replicate]
    rfl
theorem env_bgn {w w1 : World} {bm bp bc bv n : Nat} (h : Bgn w bm bp bc bv (2 + n) (alC (alC (List.replicate 1024 0) 1 [1]) 2 (List.replicate n 0)) 2 w1) (h8 : n ≤ 8) :
    ∃ K, Env ⟨w.heap.size, bm, bp, bc, bv, w1.heap.size, 2 + n, n, w⟩ K 2 1 (List.replicate n ⟨0, none⟩) (XsH []) ⟨.slice none 0 0, .slice none 0 0, .slice none 0 0⟩ (w1.alloc (slO n)) := by
  obtain ⟨K, n0, xs, md, m, v, a, b, c, kv, hv, hb, hl⟩ := h
  have hs := hb.size
  have hbv := m.kl _ kv
  have none_ : ∀ j, (Value.slice none 0 0).ownBlock ≠ some j := fun j e => by simp [Value.ownBlock] at e
  refine ⟨fun j => K j ∨ j = w1.heap.size, ⟨_, n0, xs, md, m.alloc _, (heap_alloc_old w1 _ hbv).trans v, a, b, c, cells_bgn n h8⟩, .inl kv, hv, ?_, hb.alloc hs _, fun j hj => .inl (hl j hj)⟩
  exact ⟨World.ownsRow_nil _ _ _ _, World.ownsRow_nil _ _ _ _, World.ownsRow_nil _ _ _ _, heap_alloc_new w1 _, ⟨.inr rfl, fun e => by simp only at e; omega, hs⟩, fun j e => absurd e (none_ j), fun j e => absurd e (none_ j), fun j e => absurd e (none_ j)⟩

/-- An element of a row of ints that came in. -/
theorem int_at {w : World} {A : Option Addr} {l : List Int} (h : Kd.C (Kd.int .i64) w A l.length l) (k : Nat) (hk : k < l.length) : ∃ (B O : Nat), A = some ⟨B, O, none⟩ ∧ w.cell? ⟨B, O + k, none⟩ = some (.int .i64 (l.getD k 0)) := by
  obtain ⟨ad, c, e, hln, hK, hc0⟩ := Kd.C_get h 0 (k : Int) (by omega) (by omega)
  rw [Int.toNat_natCast] at hK hc0
  have hc : c = [.int .i64 (l.getD k 0)] := hK
  have h0 : w.cell? (ad.add (k * 1 + 0)) = some (.int .i64 (l.getD k 0)) := hc0 0 _ (by rw [hc]; rfl)
  rw [Nat.add_zero, Nat.mul_one] at h0
  obtain ⟨ad2, c2, e2, hln2, hK2, hc2⟩ := Kd.C_get h 0 0 (by omega) (by omega)
  rw [e] at e2
  obtain rfl : ad = ad2 := by simpa using e2
  have hcc : c2 = [.int .i64 (l.getD 0 0)] := hK2
  have h00 : w.cell? ad = some (.int .i64 (l.getD 0 0)) := by
    have := hc2 0 (.int .i64 (l.getD 0 0)) (by rw [hcc]; rfl)
    simpa [Addr.add] using this
  have hsp : ad.spot = none := World.cell?_spot h00
  obtain ⟨b, o, s⟩ := ad
  simp only at hsp
  subst hsp
  rw [Addr.add_mid] at h0
  exact ⟨b, o, e, h0⟩
section
variable {Z : HCt} {K : Nat → Prop} {k : Nat} {c : Int} {S : List Sl} {X : Xs} {V : HVs} {w : World}
theorem E_newsnap (h : Env Z K k c S X V w) : Calls Tryz.prog 9 #[.agg #[.int .u64 1, .int .u64 2, .int .i64 Z.n, .int .u64 1073741824]] w fun e w' => ∃ bs K', e = .returned (.pointer (some ⟨bs, 0, none⟩)) ∧ Env Z K' k c S X V w' ∧ Prc Z K' V bs (snC (PH Z.n) ⟨0, 0, 0, 0, 0, 0, 0, 0, 0⟩) 88 w' := by
  refine (newsnap_calls w (PH Z.n)).mono ?_
  rintro e w' ⟨rfl, rfl⟩
  exact ⟨_, _, rfl, h.newp _ _ _⟩
theorem E_newrel (h : Env Z K k c S X V w) (x : Int) : Calls Tryz.prog 15 #[.agg #[.int .u64 1, .int .u64 2, .int .i64 Z.n, .int .u64 1073741824], .int .u64 x] w fun e w' => ∃ bs K', e = .returned (.pointer (some ⟨bs, 0, none⟩)) ∧ Env Z K' k c S X V w' ∧ Prc Z K' V bs (relC (PH Z.n) ⟨x, 0, 0, 0, false, false, 0⟩) 95 w' := by
  refine (newrel_calls w (PH Z.n) x).mono ?_
  rintro e w' ⟨rfl, rfl⟩
  exact ⟨_, _, rfl, h.newp _ _ _⟩
theorem E_newopen (h : Env Z K k c S X V w) (x : Int) : Calls Tryz.prog 17 #[.agg #[.int .u64 1, .int .u64 2, .int .i64 Z.n, .int .u64 1073741824], .int .u64 x] w fun e w' => ∃ bs K', e = .returned (.pointer (some ⟨bs, 0, none⟩)) ∧ Env Z K' k c S X V w' ∧ Prc Z K' V bs (opC (PH Z.n) ⟨x, false, 0, 0, 0, false⟩) 99 w' := by
  refine (newopen_calls w (PH Z.n) x).mono ?_
  rintro e w' ⟨rfl, rfl⟩
  exact ⟨_, _, rfl, h.newp _ _ _⟩
theorem E_newclose {bo : Nat} {oc : Array Value} {T : TypeId} (h : Env Z K k c S X V w) (hp : Prc Z K V bo oc T w) (x y : Int) : Calls Tryz.prog 18 #[.agg #[.int .u64 1, .int .u64 2, .int .i64 Z.n, .int .u64 1073741824], .int .u64 x, .int .u64 y] w fun e w' => ∃ bs K', e = .returned (.pointer (some ⟨bs, 0, none⟩)) ∧ Env Z K' k c S X V w' ∧ Prc Z K' V bs (clC y (PH Z.n) ⟨x, false, 0, 0, 0, false⟩) 101 w' ∧ Prc Z K' V bo oc T w' ∧ bo ≠ bs := by
  refine (newclose_calls w (PH Z.n) x y).mono ?_
  rintro e w' ⟨rfl, rfl⟩
  obtain ⟨a, b⟩ := h.newp (PH Z.n) (clC y (PH Z.n) ⟨x, false, 0, 0, 0, false⟩) 101
  exact ⟨_, _, rfl, a, b, (hp.below (laid_below _ _ _ _)).mono fun j hj => .inl hj, by have := h.kl _ hp.ks; omega⟩
theorem E_newscan (h : Env Z K k c S X V w) : Calls Tryz.prog 22 #[.agg #[.int .u64 1, .int .u64 2, .int .i64 Z.n, .int .u64 1073741824]] w fun e w' => ∃ bs K', e = .returned (.pointer (some ⟨bs, 0, none⟩)) ∧ Env Z K' k c S X V w' ∧ Prc Z K' V bs (scC (PH Z.n) false 0 0 (.slice none 0 0) (.slice none 0 0) false) 103 w' := by
  refine (newscan_calls w (PH Z.n)).mono ?_
  rintro e w' ⟨rfl, rfl⟩
  exact ⟨_, _, rfl, h.newp _ _ _⟩

section
variable {bs : Nat} {P : SlP}
theorem E_snerr {a i pw g st kk gg s er : Int} (h : Prc Z K V bs (snC P ⟨a, i, pw, g, st, kk, gg, s, er⟩) 88 w) : Calls Tryz.prog 11 #[.pointer (some ⟨bs, 0, none⟩)] w fun e w' => e = .returned (.int .i64 er) ∧ Below w.heap.size w w' := snerr_calls w bs P _ h.ob
theorem E_snstamp {a i pw g st kk gg s er : Int} (h : Prc Z K V bs (snC P ⟨a, i, pw, g, st, kk, gg, s, er⟩) 88 w) : Calls Tryz.prog 14 #[.pointer (some ⟨bs, 0, none⟩)] w fun e w' => e = .returned (.int .u64 s) ∧ Below w.heap.size w w' := snstamp_calls w bs P _ h.ob
theorem E_snhandle {a i pw g st gg s er : Int} (h : Prc Z K V bs (snC P ⟨a, i, pw, g, st, 3, gg, s, er⟩) 88 w) (i0 : 0 ≤ i) (i1 : i < 256) (g0 : 0 ≤ g) (g1 : g < 1048576) : Calls Tryz.prog 13 #[.pointer (some ⟨bs, 0, none⟩)] w fun e w' => e = .returned (.int .u64 (i + 1 + 65536 * g)) ∧ Below w.heap.size w w' := snhandle_calls w bs P _ h.ob rfl i0 i1 g0 g1
theorem E_relerr {ρ : RlS} {x : Int} (hx : ρ.er = x) (h : Prc Z K V bs (relC P ρ) 95 w) : Calls Tryz.prog 16 #[.pointer (some ⟨bs, 0, none⟩)] w fun e w' => e = .returned (.int .i64 x) ∧ Below w.heap.size w w' := hx ▸ relerr_calls w bs P ρ h.ob
theorem E_operr {x k' g' s' : Int} {on : Bool} (h : Prc Z K V bs (opC P ⟨x, true, k', g', s', on⟩) 99 w) : Calls Tryz.prog 19 #[.pointer (some ⟨bs, 0, none⟩)] w fun e w' => e = .returned (.int .i64 (if on = true then 0 else 33)) ∧ Below w.heap.size w w' := by
  cases on with
  | true => exact operr_true w bs P ⟨x, true, k', g', s', true⟩ h.ob
  | false => exact operr_false w bs P ⟨x, true, k', g', s', false⟩ h.ob
theorem E_operr_t {x k' g' s' : Int} (h : Prc Z K V bs (opC P ⟨x, true, k', g', s', true⟩) 99 w) : Calls Tryz.prog 19 #[.pointer (some ⟨bs, 0, none⟩)] w fun e w' => e = .returned (.int .i64 0) ∧ Below w.heap.size w w' := E_operr h
theorem E_operr_f {x k' g' s' : Int} (h : Prc Z K V bs (opC P ⟨x, true, k', g', s', false⟩) 99 w) : Calls Tryz.prog 19 #[.pointer (some ⟨bs, 0, none⟩)] w fun e w' => e = .returned (.int .i64 33) ∧ Below w.heap.size w w' := E_operr h
theorem E_opstamp {x k' g' s' : Int} (h : Prc Z K V bs (opC P ⟨x, true, k', g', s', true⟩) 99 w) : Calls Tryz.prog 20 #[.pointer (some ⟨bs, 0, none⟩)] w fun e w' => e = .returned (.int .u64 s') ∧ Below w.heap.size w w' := opstamp_true w bs P ⟨x, true, k', g', s', true⟩ h.ob
theorem E_clerr {x k' g' st s' : Int} {on : Bool} (h : Prc Z K V bs (clC st P ⟨x, true, k', g', s', on⟩) 101 w) (hs : on = true → s' = st) : Calls Tryz.prog 21 #[.pointer (some ⟨bs, 0, none⟩)] w fun e w' => e = .returned (.int .i64 (if on = true then 0 else 34)) ∧ Below w.heap.size w w' := by
  cases on with
  | true =>
    obtain rfl := hs rfl
    exact clerr_yes w bs P s' ⟨x, true, k', g', s', true⟩ h.ob
  | false => exact clerr_no w bs P st ⟨x, true, k', g', s', false⟩ h.ob
theorem E_clerr_t {x k' g' s' : Int} (h : Prc Z K V bs (clC s' P ⟨x, true, k', g', s', true⟩) 101 w) : Calls Tryz.prog 21 #[.pointer (some ⟨bs, 0, none⟩)] w fun e w' => e = .returned (.int .i64 0) ∧ Below w.heap.size w w' := E_clerr h fun _ => rfl
theorem E_clerr_f {x k' g' st s' : Int} (h : Prc Z K V bs (clC st P ⟨x, true, k', g', s', false⟩) 101 w) : Calls Tryz.prog 21 #[.pointer (some ⟨bs, 0, none⟩)] w fun e w' => e = .returned (.int .i64 34) ∧ Below w.heap.size w w' := E_clerr h fun e => by simp at e
end
/-- What a region reads of the box and of the rows at j. -/
structure RdP (Z : HCt) (ga gb gc j : Nat) (u : Hd) (w : World) : Prop where
  c0 : w.cell? ⟨Z.b10, 0, none⟩ = some (.int .u64 1)
  c1 : w.cell? ⟨Z.b10, 1, none⟩ = some (.int .u64 2)
  c2 : w.cell? ⟨Z.b10, 2, none⟩ = some (.int .i64 Z.n)
  c3 : w.cell? ⟨Z.b10, 3, none⟩ = some (.int .u64 1073741824)
  xa : w.cell? ⟨ga, j, none⟩ = some (.int .u64 (hdl u))
  xb : w.cell? ⟨gb, j, none⟩ = some (.int .u64 ((j : Int) + 1))
  xc : w.cell? ⟨gc, j, none⟩ = some (.bool u.on)
theorem Env.box (h : Env Z K k c S X V w) : w.cell? ⟨Z.b10, 0, none⟩ = some (.int .u64 1) ∧ w.cell? ⟨Z.b10, 1, none⟩ = some (.int .u64 2) ∧ w.cell? ⟨Z.b10, 2, none⟩ = some (.int .i64 Z.n) ∧ w.cell? ⟨Z.b10, 3, none⟩ = some (.int .u64 1073741824) :=
  ⟨(blk_cell h.rows.box 0).trans rfl, (blk_cell h.rows.box 1).trans rfl, (blk_cell h.rows.box 2).trans rfl, (blk_cell h.rows.box 3).trans rfl⟩
theorem own_at4 {base n size : Nat} {e : TypeId} {A : Option Addr} {cc : Nat} {xs : List Value} (h : w.ownsRow base e size (.slice A n cc) n xs) (hn : 0 < n) :
    ∃ g, A = some ⟨g, 0, none⟩ ∧ ∀ i u, xs[i]? = some u → w.cell? ⟨g, i, none⟩ = some u := by
  obtain ⟨g, cap, e1, _, h2⟩ := own_at3 h hn
  injection e1 with e1 _ _
  exact ⟨g, e1, h2⟩
theorem Env.rd {A B C : Option Addr} {a b d j : Nat} {u : Hd} {H : List Hd} (h : Env Z K k c S (XsH H) ⟨.slice A H.length a, .slice B H.length b, .slice C H.length d⟩ w) (hj : H[j]? = some u) :
    ∃ ga gb gc, A = some ⟨ga, 0, none⟩ ∧ B = some ⟨gb, 0, none⟩ ∧ C = some ⟨gc, 0, none⟩ ∧ ∀ (K' : Nat → Prop) (k' : Nat) (c' : Int) (S' : List Sl) (w' : World), Env Z K' k' c' S' (XsH H) ⟨.slice A H.length a, .slice B H.length b, .slice C H.length d⟩ w' → RdP Z ga gb gc j u w' := by
  have hl : j < H.length := (List.getElem?_eq_some_iff.1 hj).1
  obtain ⟨ga, rfl, _⟩ := own_at4 h.rows.ra (show 0 < H.length by omega)
  obtain ⟨gb, rfl, _⟩ := own_at4 h.rows.rb (show 0 < H.length by omega)
  obtain ⟨gc, rfl, _⟩ := own_at4 h.rows.rc (show 0 < H.length by omega)
  refine ⟨ga, gb, gc, rfl, rfl, rfl, fun K' k' c' S' w' h' => ?_⟩
  obtain ⟨x1, e1, ha⟩ := own_at4 h'.rows.ra (show 0 < H.length by omega)
  obtain ⟨x2, e2, hb⟩ := own_at4 h'.rows.rb (show 0 < H.length by omega)
  obtain ⟨x3, e3, hc⟩ := own_at4 h'.rows.rc (show 0 < H.length by omega)
  obtain rfl : ga = x1 := by simpa using e1
  obtain rfl : gb = x2 := by simpa using e2
  obtain rfl : gc = x3 := by simpa using e3
  obtain ⟨c0, c1, c2, c3⟩ := h'.box
  refine ⟨c0, c1, c2, c3, ha _ _ ?_, hb _ _ ?_, hc _ _ ?_⟩
  · show (hdV H)[j]? = _
    unfold hdV
    rw [List.getElem?_map, hj]
    rfl
  · show (stV H.length)[j]? = _
    unfold stV
    rw [List.getElem?_map, List.getElem?_range hl]
    rfl
  · show (onV H)[j]? = _
    unfold onV
    rw [List.getElem?_map, hj]
    rfl
theorem set_same {α : Type} {l : List α} {j : Nat} {x : α} (h : l[j]? = some x) : l.set j x = l := by
  refine List.ext_getElem? fun i => ?_
  rw [List.getElem?_set]
  split
  · rename_i e
    subst e
    rw [if_pos (List.getElem?_eq_some_iff.1 h).1, h]
  · rfl
/-- A handle holds no more. -/
theorem Env.off {d j gc : Nat} {u : Hd} {H : List Hd} (h : Env Z K k c S (XsH H) V w) (hV : V.c = .slice (some ⟨gc, 0, none⟩) H.length d) (hj : H[j]? = some u) :
    w.frozen? ⟨gc, j, none⟩ = false ∧ Env Z K k c S (XsH (H.set j { u with on := false })) V (w.setCell ⟨gc, j, none⟩ (.bool false)) := by
  have hl : j < H.length := (List.getElem?_eq_some_iff.1 hj).1
  have h0 := h.rows.rc
  rw [hV] at h0
  have hown : V.c.ownBlock = some gc := by rw [hV]; rfl
  have hR : Kd.R Kd.bool 4 w Z.B (fun _ => True) (.slice (some ⟨gc, 0, none⟩) H.length d) (H.map (·.on)) := Kd.R_of_own (by
    have e : encs Value.bool (H.map (·.on)) = onV H := by simp [encs, onV, Function.comp_def]
    rw [List.length_map, e]
    exact h0) fun _ _ => trivial
  have hfz := (Kd.R_celln false hR (j : Int) (by omega) (by omega)).2
  have hp := Kd.own_of_R (Kd.R_putn hR (j : Int) false)
  have hkc := h.rows.kc gc hown
  have hg : w.grownBy (w.setCell ⟨gc, j, none⟩ (.bool false)) (some gc) := (Kd.R_putg hR (j : Int) false).2
  obtain ⟨cs, n0, xs, md, m, v0, r⟩ := h.mem
  have hset : (H.map (·.on)).set j false = (H.set j { u with on := false }).map (·.on) := by rw [List.map_set]
  have ea : hdV (H.set j { u with on := false }) = hdV H := by
    unfold hdV
    rw [List.map_set]
    exact set_same (by rw [List.getElem?_map, hj]; rfl)
  have ec : encs Value.bool ((H.map (·.on)).set j false) = onV (H.set j { u with on := false }) := by
    rw [hset]
    simp [encs, onV, Function.comp_def]
  have mv : ∀ i, V.at_ Z i → i ≠ gc → (w.setCell ⟨gc, j, none⟩ (.bool false)).heap[i]? = w.heap[i]? := fun i hi hn => hg.block i (h.rows.lt hi).1 fun e => hn (Option.some.inj e)
  refine ⟨hfz, ⟨cs, n0, xs, md, m.set hkc.1 _, (hg.block _ (m.kl _ h.kv) fun e => hkc.2.1 (Option.some.inj e).symm).trans v0, r⟩, h.kv, h.bvB, ⟨?_, ?_, ?_, (mv _ (.inl rfl) hkc.2.2.1.symm).trans h.rows.box, h.rows.k10, h.rows.ka, h.rows.kb, h.rows.kc⟩, h.low.trans ⟨hg.os, hg.tape, hg.output, hg.size, fun i hi => hg.block i (by have := h.leB; omega) fun e => ?_⟩, h.lowK⟩
  · have := own_move h.rows.ra fun i e => mv i (.inr (.inl e)) fun e2 => hkc.2.2.2.1 (e2 ▸ e)
    show World.ownsRow _ _ _ _ _ (H.set j _).length (hdV (H.set j _))
    rw [List.length_set, ea]
    exact this
  · have := own_move h.rows.rb fun i e => mv i (.inr (.inr (.inl e))) fun e2 => hkc.2.2.2.2 (e2 ▸ e)
    show World.ownsRow _ _ _ _ _ (H.set j _).length (stV (H.set j _).length)
    rw [List.length_set]
    exact this
  · show World.ownsRow _ _ _ _ _ (H.set j _).length (onV (H.set j _))
    rw [List.length_set, hV, ← ec]
    rw [List.length_set, List.length_map] at hp
    exact hp
  · have := own_base h.rows.rc gc hown
    obtain rfl := Option.some.inj e
    omega
theorem XsH_snoc (H : List Hd) (u : Hd) : XsH (H ++ [u]) = ⟨H.length + 1, hdV H ++ [.int .u64 (hdl u)], H.length + 1, stV H.length ++ [.int .u64 ((H.length : Int) + 1)], H.length + 1, onV H ++ [.bool u.on]⟩ := by
  unfold XsH hdV stV onV
  rw [List.length_append, List.length_singleton, List.range_succ, List.map_append, List.map_append, List.map_append]
  rfl
end
end Go.Proofs.YtcbndfmbpojppaaGreat
