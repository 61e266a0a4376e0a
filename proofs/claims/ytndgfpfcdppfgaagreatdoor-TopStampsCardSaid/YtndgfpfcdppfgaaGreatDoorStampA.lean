/- TopStamps: the plain law: what picks of takes come to. No condition. -/
import Derived.Test.YtndgfpfcdppfgaaGreatDoorRunNewM
import Derived.Test.YtndgfpfcdppfgaaGreatDoorEv
import Derived.Test.YtndgfpfcdppfgaaGreatDoorHistSpec
import Derived.Test.YtndgfpfcdppfgaaGreatDoorPickM
import Derived.Test.YtndgfpfcdppfgaaGreatDoorOwnx3
import Derived.Test.YtndgfpfcdppfgaaGreatDoorLinA
import Derived.Test.YtndgfpfcdppfgaaGreatDoorOwnx1
/- TopStamps: the plain law: what picks of takes come to. No condition. -/
namespace Go.Proofs.YtndgfpfcdppfgaaGreatDoor
open Go.RowKit Go.Proofs.YtndgfpfcdppfgaaGreatDoorW.PrintWords Go.Proofs.YtndgfpfcdppfgaaGreatDoorW.PrintMore
set_option linter.unusedVariables false
set_option linter.unusedSimpArgs false
open Go.Proofs.YtndgfpfcdppfgaaGreatDoor.Own (SpSt spRun)
abbrev SE := Own.S109
abbrev SS := Own.S49
def b2n (b : Bool) : Nat := if b = true then 1 else 0
def bg (R : RS) (t : Nat) : Nat := R.at_ t + b2n (R.op t)
def tot (R : RS) (t : Nat) : Nat := 2 * R.at_ t + b2n (R.op t)
def sumT (f : Nat → Nat) : Nat → Nat
  | 0 => 0
  | T + 1 => sumT f T + f T
theorem sumT_congr {f g : Nat → Nat} {T : Nat} (h : ∀ t, t < T → f t = g t) : sumT f T = sumT g T := by
  induction T with
  | zero => rfl
  | succ T ih => unfold sumT; rw [ih fun t ht => h t (by omega), h T (by omega)]
theorem sumT_le {f : Nat → Nat} {T B : Nat} (h : ∀ t, t < T → f t ≤ B) : sumT f T ≤ T * B := by
  induction T with
  | zero => exact Nat.zero_le _
  | succ T ih => unfold sumT; have := ih fun t ht => h t (by omega); have := h T (by omega); rw [Nat.succ_mul]; omega
theorem sumT_up {f g : Nat → Nat} {T t : Nat} (ht : t < T) (h : ∀ i, i ≠ t → g i = f i) (hg : g t = f t + 1) : sumT g T = sumT f T + 1 := by
  induction T with
  | zero => omega
  | succ T ih =>
    unfold sumT
    by_cases e : t = T
    · subst e
      rw [sumT_congr fun i hi => h i (by omega), hg]; omega
    · rw [ih (by omega), h T fun e2 => e e2.symm]; omega
theorem spRun_append (p : SE) (l : List SE) (e : SE) (s : SpSt) : ∃ q, spRun p (l ++ [e]) s = (spRun p l s).bind fun s' => s'.next q e := by
  induction l generalizing p s with
  | nil => exact ⟨p, by simp [spRun]⟩
  | cons a l ih =>
    cases h : s.next p a with
    | none => exact ⟨p, by simp [spRun, h]⟩
    | some s' =>
      obtain ⟨q, hq⟩ := ih a s'
      exact ⟨q, by simp [spRun, h, hq]⟩
/-- What the events say, read by Spans. -/
structure SI (T k : Nat) (R : RS) (S : SpSt) : Prop where
  stp : S.step < (k : Int)
  begun : ∀ t : Nat, t < T → S.begun t = (bg R t : Int)
  l0 : ∀ t : Nat, t < T → bg R t = 0 → S.last t = none
  l1 : ∀ t : Nat, t < T → 0 < bg R t → ∃ i x, S.last (t : Int) = some i ∧ S.out[i]? = some x ∧ x.f0 = (t : Int) ∧ x.f1 = (bg R t : Int) - 1
  out : ∀ (i : Nat) (x : SS), S.out[i]? = some x → ∃ t j : Nat, t < T ∧ j < bg R t ∧ x.f0 = (t : Int) ∧ x.f1 = (j : Int) ∧ 0 ≤ x.f2 ∧ x.f2 < (k : Int) ∧ x.f3 < (k : Int) ∧ -1 ≤ x.f3 ∧ (x.f3 = -1 ↔ (R.op t = true ∧ j = R.at_ t))
  uq : ∀ (i i' : Nat) (x x' : SS), S.out[i]? = some x → S.out[i']? = some x' → x.f0 = x'.f0 → x.f1 = x'.f1 → i = i'
section
variable {T k : Nat} {R : RS} {S : SpSt}
theorem rd_some {l : List SS} {i : Nat} {x : SS} (h : l[i]? = some x) : Own.rd_T49 l (i : Int) = x := by
  unfold Own.rd_T49
  rw [List.getD_eq_getElem?_getD, Int.toNat_natCast, h]
  rfl
theorem SI.last (h : SI T k R S) {t : Nat} (ht : t < T) (hb : 0 < bg R t) : ∃ i x, S.last (t : Int) = some i ∧ S.out[i]? = some x ∧ x.f0 = (t : Int) ∧ x.f1 = (bg R t : Int) - 1 ∧ (x.f3 = -1 ↔ R.op t = true) := by
  obtain ⟨i, x, h1, h2, h3, h4⟩ := h.l1 t ht hb
  obtain ⟨t', j, a1, a2, a3, a4, a5, a6, a7, a8, a9⟩ := h.out i x h2
  have e1 : t' = t := by omega
  subst e1
  refine ⟨i, x, h1, h2, h3, h4, a9.trans ⟨fun e => e.1, fun e => ⟨e, ?_⟩⟩⟩
  have : bg R t' = R.at_ t' + 1 := by unfold bg b2n; rw [if_pos e]
  omega
theorem SI.open_ (h : SI T k R S) {t : Nat} (ht : t < T) : S.open_ (t : Int) = R.op t := by
  unfold SpSt.open_
  rcases Nat.eq_zero_or_pos (bg R t) with hb | hb
  · rw [h.l0 t ht hb]
    have : R.op t = false := by
      cases ho : R.op t with
      | false => rfl
      | true => unfold bg b2n at hb; rw [if_pos ho] at hb; omega
    rw [this]; rfl
  · obtain ⟨i, x, h1, h2, h3, h4, h5⟩ := h.last ht hb
    rw [h1]
    show (true && ((Own.rd_T49 S.out ((i : Nat) : Int)).f3 == -1)) = _
    rw [rd_some h2]
    cases ho : R.op t with
    | true => simp [h5.2 ho]
    | false =>
      have : x.f3 ≠ -1 := fun e => by rw [h5.1 e] at ho; cases ho
      simp [this]
theorem SI.idle (h : SI T k R S) (R' : RS) (h1 : R'.at_ = R.at_) (h2 : R'.op = R.op) : SI T (k + 1) R' S := by
  have hb : ∀ t, bg R' t = bg R t := fun t => by unfold bg; rw [h1, h2]
  refine ⟨by have := h.stp; omega, fun t ht => by rw [hb]; exact h.begun t ht, fun t ht => by rw [hb]; exact h.l0 t ht, fun t ht => by rw [hb]; exact h.l1 t ht, fun i x hx => ?_, h.uq⟩
  obtain ⟨t, j, a1, a2, a3, a4, a5, a6, a7, a8, a9⟩ := h.out i x hx
  exact ⟨t, j, a1, by rw [hb]; exact a2, a3, a4, a5, by omega, by omega, a8, by rw [h1, h2]; exact a9⟩
theorem getElem?_snoc {α : Type} {l : List α} {a x : α} {i : Nat} (h : (l ++ [a])[i]? = some x) : l[i]? = some x ∨ (i = l.length ∧ x = a) := by
  by_cases hi : i < l.length
  · rw [List.getElem?_append_left hi] at h; exact .inl h
  · rw [List.getElem?_append_right (by omega)] at h
    by_cases he : i = l.length
    · subst he
      rw [Nat.sub_self] at h
      exact .inr ⟨rfl, (Option.some.inj h).symm⟩
    · rw [List.getElem?_eq_none (by simp; omega)] at h
      cases h
/-- A call begins. -/
theorem SI.begin (h : SI T k R S) {t : Nat} (ht : t < T) (ho : R.op t = false) (q : SE) (R' : RS) (h1 : R'.at_ = R.at_) (h2 : R'.op = upd R.op t true) :
    ∃ S', S.next q ⟨(k : Int), (t : Int), (R.at_ t : Int), false⟩ = some S' ∧ SI T (k + 1) R' S' ∧ S'.out = S.out ++ [⟨(t : Int), (R.at_ t : Int), (k : Int), -1⟩] := by
  have hop := h.open_ ht
  rw [ho] at hop
  have hbt : bg R t = R.at_ t := by unfold bg b2n; rw [if_neg (by rw [ho]; decide)]; omega
  have hbt' : bg R' t = R.at_ t + 1 := by unfold bg b2n; rw [h1, h2, upd_same, if_pos rfl]
  have hbo : ∀ i, i ≠ t → bg R' i = bg R i := fun i hi => by unfold bg; rw [h1, h2, upd_ne _ _ hi]
  have hbe := h.begun t ht
  have hst := h.stp
  have hbad : S.bad1 ⟨(k : Int), (t : Int), (R.at_ t : Int), false⟩ = false := by
    unfold SpSt.bad1
    rw [hop, hbe, hbt]
    simp
    omega
  refine ⟨({ S with step := (k : Int), cnt := 1 } : SpSt).go ⟨(k : Int), (t : Int), (R.at_ t : Int), false⟩, ?_, ?_, rfl⟩
  · unfold SpSt.next
    rw [hbad, if_neg (by decide), if_neg (show ¬ (k : Int) = S.step by omega)]
  · have hgo : (({ S with step := (k : Int), cnt := 1 } : SpSt).go ⟨(k : Int), (t : Int), (R.at_ t : Int), false⟩) = ⟨S.out ++ [⟨(t : Int), (R.at_ t : Int), (k : Int), -1⟩], fun y => if y = (t : Int) then some S.out.length else S.last y, fun y => if y = (t : Int) then S.begun (t : Int) + 1 else S.begun y, (k : Int), 1⟩ := rfl
    rw [hgo]
    refine ⟨by show (k : Int) < _; omega, fun i hi => ?_, fun i hi hz => ?_, fun i hi hz => ?_, fun i x hx => ?_, fun i i' x x' hx hx' e0 e1 => ?_⟩
    · show (if (i : Int) = (t : Int) then S.begun (t : Int) + 1 else S.begun (i : Int)) = _
      by_cases e : i = t
      · subst e; rw [if_pos rfl, hbt', hbe, hbt]; omega
      · rw [if_neg (by omega), hbo i e]; exact h.begun i hi
    · show (if (i : Int) = (t : Int) then some S.out.length else S.last (i : Int)) = none
      by_cases e : i = t
      · subst e; omega
      · rw [if_neg (by omega)]; exact h.l0 i hi (by rw [← hbo i e]; exact hz)
    · show ∃ i' x, (if (i : Int) = (t : Int) then some S.out.length else S.last (i : Int)) = some i' ∧ (S.out ++ [(⟨(t : Int), (R.at_ t : Int), (k : Int), -1⟩ : SS)])[i']? = some x ∧ _
      by_cases e : i = t
      · subst e
        refine ⟨S.out.length, ⟨(i : Int), (R.at_ i : Int), (k : Int), -1⟩, if_pos rfl, by simp, rfl, ?_⟩
        rw [hbt']; show (R.at_ i : Int) = _; omega
      · obtain ⟨i', x, b1, b2, b3, b4⟩ := h.l1 i hi (by rw [← hbo i e]; exact hz)
        refine ⟨i', x, by rw [if_neg (by omega)]; exact b1, ?_, b3, by rw [hbo i e]; exact b4⟩
        rw [List.getElem?_append_left (List.getElem?_eq_some_iff.1 b2).1]; exact b2
    · rcases getElem?_snoc hx with hx | ⟨_, rfl⟩
      · obtain ⟨t', j, a1, a2, a3, a4, a5, a6, a7, a8, a9⟩ := h.out i x hx
        refine ⟨t', j, a1, ?_, a3, a4, a5, by omega, by omega, a8, ?_⟩
        · by_cases e : t' = t
          · subst e; omega
          · rw [hbo t' e]; exact a2
        · by_cases e : t' = t
          · subst e
            rw [h1, h2, upd_same]
            refine a9.trans ⟨fun e2 => ?_, fun e2 => ?_⟩
            · rw [ho] at e2; cases e2.1
            · omega
          · rw [h1, h2, upd_ne _ _ e]; exact a9
      · refine ⟨t, R.at_ t, ht, by omega, rfl, rfl, ?_, ?_, ?_, ?_, ?_⟩
        · show 0 ≤ (k : Int); omega
        · show (k : Int) < _; omega
        · show (-1 : Int) < _; omega
        · show (-1 : Int) ≤ -1; omega
        · rw [h1, h2, upd_same]; exact ⟨fun _ => ⟨rfl, rfl⟩, fun _ => rfl⟩
    · have hnew : ∀ (i : Nat) (x : SS), S.out[i]? = some x → x.f0 = (t : Int) → x.f1 = (R.at_ t : Int) → False := fun i x hx e0 e1 => by
        obtain ⟨t', j, a1, a2, a3, a4, _⟩ := h.out i x hx
        have : t' = t := by omega
        subst this
        omega
      rcases getElem?_snoc hx with hx | ⟨q1, rfl⟩
      · rcases getElem?_snoc hx' with hx' | ⟨q2, rfl⟩
        · exact h.uq i i' x x' hx hx' e0 e1
        · exact (hnew i x hx e0 e1).elim
      · rcases getElem?_snoc hx' with hx' | ⟨q2, rfl⟩
        · exact (hnew i' x' hx' e0.symm e1.symm).elim
        · omega
/-- A call ends. -/
theorem SI.end_ (h : SI T k R S) {t : Nat} (ht : t < T) (ho : R.op t = true) (q : SE) (R' : RS) (h1 : R'.at_ = upd R.at_ t (R.at_ t + 1)) (h2 : R'.op = upd R.op t false) :
    ∃ S' i x, S.next q ⟨(k : Int), (t : Int), (R.at_ t : Int), true⟩ = some S' ∧ SI T (k + 1) R' S' ∧ S.out[i]? = some x ∧ x.f0 = (t : Int) ∧ x.f1 = (R.at_ t : Int) ∧ S'.out = S.out.set i ⟨x.f0, x.f1, x.f2, (k : Int)⟩ := by
  have hop := h.open_ ht
  rw [ho] at hop
  have hbt : bg R t = R.at_ t + 1 := by unfold bg b2n; rw [if_pos ho]
  have hbt' : bg R' t = R.at_ t + 1 := by unfold bg b2n; rw [h1, h2, upd_same, upd_same, if_neg (by decide)]
  have hbo : ∀ i, i ≠ t → bg R' i = bg R i := fun i hi => by unfold bg; rw [h1, h2, upd_ne _ _ hi, upd_ne _ _ hi]
  have hst := h.stp
  obtain ⟨i, x, l1, l2, l3, l4, l5⟩ := h.last ht (by omega)
  have hx1 : x.f1 = (R.at_ t : Int) := by omega
  have hlt := (List.getElem?_eq_some_iff.1 l2).1
  have hbad : S.bad1 ⟨(k : Int), (t : Int), (R.at_ t : Int), true⟩ = false := by
    unfold SpSt.bad1
    rw [hop, l1]
    show (decide ((k : Int) < 0) || decide ((k : Int) < S.step) || (true != true) || (true && ((R.at_ t : Int) != (Own.rd_T49 S.out ((i : Nat) : Int)).f1)) || (!true && _)) = false
    rw [rd_some l2, hx1]
    simp
    omega
  refine ⟨({ S with step := (k : Int), cnt := 1 } : SpSt).go ⟨(k : Int), (t : Int), (R.at_ t : Int), true⟩, i, x, ?_, ?_, l2, l3, hx1, ?_⟩
  · unfold SpSt.next
    rw [hbad, if_neg (by decide), if_neg (show ¬ (k : Int) = S.step by omega)]
  · have hgo : (({ S with step := (k : Int), cnt := 1 } : SpSt).go ⟨(k : Int), (t : Int), (R.at_ t : Int), true⟩) = ⟨S.out.set i ⟨x.f0, x.f1, x.f2, (k : Int)⟩, S.last, S.begun, (k : Int), 1⟩ := by
      unfold SpSt.go
      rw [if_pos rfl]
      show ({ out := S.out.set ((S.last (t : Int)).getD 0) _, last := _, begun := _, step := _, cnt := _ } : SpSt) = _
      rw [l1]
      show ({ out := S.out.set i ⟨(Own.rd_T49 S.out ((i : Nat) : Int)).f0, (Own.rd_T49 S.out ((i : Nat) : Int)).f1, (Own.rd_T49 S.out ((i : Nat) : Int)).f2, (k : Int)⟩, last := _, begun := _, step := _, cnt := _ } : SpSt) = _
      rw [rd_some l2]
    rw [hgo]
    have hset : ∀ (i' : Nat) (y : SS), (S.out.set i ⟨x.f0, x.f1, x.f2, (k : Int)⟩)[i']? = some y → (i' = i ∧ y = ⟨x.f0, x.f1, x.f2, (k : Int)⟩) ∨ (i' ≠ i ∧ S.out[i']? = some y) := fun i' y hy => by
      by_cases e : i' = i
      · subst e
        rw [List.getElem?_set_self hlt] at hy
        exact .inl ⟨rfl, (Option.some.inj hy).symm⟩
      · rw [List.getElem?_set_ne (fun e2 => e e2.symm)] at hy
        exact .inr ⟨e, hy⟩
    have hse : ∀ (i' : Nat) (y : SS), S.out[i']? = some y → ∃ y', (S.out.set i ⟨x.f0, x.f1, x.f2, (k : Int)⟩)[i']? = some y' ∧ y'.f0 = y.f0 ∧ y'.f1 = y.f1 := fun i' y hy => by
      by_cases e : i' = i
      · subst e
        rw [l2] at hy
        have := Option.some.inj hy
        subst this
        exact ⟨_, List.getElem?_set_self hlt, rfl, rfl⟩
      · exact ⟨y, by rw [List.getElem?_set_ne (fun e2 => e e2.symm)]; exact hy, rfl, rfl⟩
    refine ⟨by show (k : Int) < _; omega, fun t' ht' => ?_, fun t' ht' hz => ?_, fun t' ht' hz => ?_, fun i' y hy => ?_, fun i1 i2 y1 y2 hy1 hy2 e0 e1 => ?_⟩
    · by_cases e : t' = t
      · subst e; rw [hbt', ← hbt]; exact h.begun t' ht'
      · rw [hbo t' e]; exact h.begun t' ht'
    · by_cases e : t' = t
      · subst e; omega
      · exact h.l0 t' ht' (by rw [← hbo t' e]; exact hz)
    · by_cases e : t' = t
      · subst e
        obtain ⟨y', c1, c2, c3⟩ := hse i x l2
        exact ⟨i, y', l1, c1, by rw [c2]; exact l3, by rw [c3, hbt', ← hbt]; exact l4⟩
      · obtain ⟨i', y, b1, b2, b3, b4⟩ := h.l1 t' ht' (by rw [← hbo t' e]; exact hz)
        obtain ⟨y', c1, c2, c3⟩ := hse i' y b2
        exact ⟨i', y', b1, c1, by rw [c2]; exact b3, by rw [c3, hbo t' e]; exact b4⟩
    · rcases hset i' y hy with ⟨_, rfl⟩ | ⟨hne, hy⟩
      · obtain ⟨t', j, a1, a2, a3, a4, a5, a6, a7, a8, a9⟩ := h.out i x l2
        refine ⟨t, R.at_ t, ht, by omega, l3, hx1, a5, ?_, ?_, ?_, ?_⟩
        · show x.f2 < _; omega
        · show (k : Int) < _; omega
        · show -1 ≤ (k : Int); omega
        · rw [h2, upd_same]
          exact ⟨fun e => by have : (k : Int) = -1 := e; omega, fun e => by cases e.1⟩
      · obtain ⟨t', j, a1, a2, a3, a4, a5, a6, a7, a8, a9⟩ := h.out i' y hy
        refine ⟨t', j, a1, ?_, a3, a4, a5, by omega, by omega, a8, ?_⟩
        · by_cases e : t' = t
          · subst e; omega
          · rw [hbo t' e]; exact a2
        · by_cases e : t' = t
          · subst e
            have hj : j ≠ R.at_ t' := fun e2 => hne (h.uq i' i y x hy l2 (by omega) (by omega))
            rw [h2, upd_same]
            refine a9.trans ⟨fun e2 => absurd e2.2 hj, fun e2 => by cases e2.1⟩
          · rw [h1, h2, upd_ne _ _ e, upd_ne _ _ e]; exact a9
    · have hold : ∀ (i' : Nat) (y : SS), (S.out.set i ⟨x.f0, x.f1, x.f2, (k : Int)⟩)[i']? = some y → ∃ y0, S.out[i']? = some y0 ∧ y0.f0 = y.f0 ∧ y0.f1 = y.f1 := fun i' y hy => by
        rcases hset i' y hy with ⟨rfl, rfl⟩ | ⟨_, hy⟩
        · exact ⟨x, l2, rfl, rfl⟩
        · exact ⟨y, hy, rfl, rfl⟩
      obtain ⟨z1, b1, b2, b3⟩ := hold i1 y1 hy1
      obtain ⟨z2, c1, c2, c3⟩ := hold i2 y2 hy2
      exact h.uq i1 i2 z1 z2 b1 c1 (by rw [b2, c2, e0]) (by rw [b3, c3, e1])
  · show (SpSt.go { S with step := (k : Int), cnt := 1 } _).out = _
    unfold SpSt.go
    rw [if_pos rfl]
    show S.out.set ((S.last (t : Int)).getD 0) _ = _
    rw [l1]
    show S.out.set i ⟨(Own.rd_T49 S.out ((i : Nat) : Int)).f0, (Own.rd_T49 S.out ((i : Nat) : Int)).f1, (Own.rd_T49 S.out ((i : Nat) : Int)).f2, (k : Int)⟩ = _
    rw [rd_some l2]
end
end Go.Proofs.YtndgfpfcdppfgaaGreatDoor

/- TopStamps: the plain law, pick by pick. No condition. -/
namespace Go.Proofs.YtndgfpfcdppfgaaGreatDoor
open Go.RowKit Go.Proofs.YtndgfpfcdppfgaaGreatDoorW.PrintWords Go.Proofs.YtndgfpfcdppfgaaGreatDoorW.PrintMore
set_option linter.unusedVariables false
set_option linter.unusedSimpArgs false
open Go.Proofs.YtndgfpfcdppfgaaGreatDoor.Own (SpSt spRun)
theorem noteA_len (ats : List Int) (a b : Nat) (x : Int) (h : ats.length ≤ a) (hb : b = a + 1) : (noteA ats a b x).length ≤ b := by
  unfold noteA
  simp
  omega
theorem pk_cas (cs : List Int) (x : Int) (hl : cs.length = 128) (hx : x ≤ pk cs 1) : (casC cs 1 x (x + 1)).length = 128 ∧ x < pk (casC cs 1 x (x + 1)) 1 ∧ pk cs 1 ≤ pk (casC cs 1 x (x + 1)) 1 ∧ pk (casC cs 1 x (x + 1)) 1 ≤ pk cs 1 + 1 := by
  have hp : pk cs 1 = rd cs 1 := by unfold pk; rw [if_pos (by omega)]
  unfold casC casB
  rw [decide_eq_true (by omega : (1 : Int) < cs.length), Bool.true_and]
  by_cases he : rd cs 1 = x
  · rw [if_pos (by simp [he])]
    have h1 : pk (cs.set (1 : Int).toNat (x + 1)) 1 = x + 1 := by
      unfold pk
      rw [if_pos (by rw [List.length_set]; omega)]
      unfold rd
      simp [List.getD_eq_getElem?_getD, List.getElem?_set, hl]
    rw [h1, List.length_set]
    omega
  · rw [if_neg (by simp [he])]
    omega
/-- The state behind k picks. -/
structure TI (T : Nat) (cnt : Nat → Nat) (k : Nat) (s : TS) (R : RS) (evs : List SE) (S : SpSt) : Prop where
  st : R.st = k
  ev : R.ev = evs.flatMap encE
  nev : R.nev = evs.length
  th : ∀ e ∈ evs, 0 ≤ e.f1 ∧ e.f1 < 64
  run : spRun Own.z109 evs SpSt.start = some S
  si : SI T k R S
  len : evs.length = sumT (tot R) T
  n : s.n = evs.length + 1
  ats : R.ats.length ≤ s.n
  md : ∀ t, t < T → s.md t = (tot R t : Int)
  bc : ∀ t, t < T → bg R t ≤ cnt t
  cl : s.cs.length = 128
  c1 : 1 ≤ pk s.cs 1 ∧ pk s.cs 1 ≤ (s.n : Int)
  fresh : ∀ t j, t < T → bg R t ≤ j → s.tk t j = ⟨0, 0, 0, false⟩
  pend : ∀ t, t < T → R.op t = true → ∃ x, s.tk t (R.at_ t) = ⟨1, x, 0, false⟩ ∧ 1 ≤ x ∧ x ≤ pk s.cs 1
  done : ∀ t j, t < T → j < R.at_ t → ∃ x m, s.tk t j = ⟨2, x, x, m⟩ ∧ 1 ≤ x ∧ x < pk s.cs 1
  key : ∀ (i i' : Nat) (x x' : SS), S.out[i]? = some x → S.out[i']? = some x' → 0 ≤ x.f3 → x.f3 < x'.f2 → (s.tk x.f0.toNat x.f1.toNat).stamp < (s.tk x'.f0.toNat x'.f1.toNat).t
section
variable {T : Nat} {cnt : Nat → Nat} {k : Nat} {s : TS} {R : RS} {evs : List SE} {S : SpSt}
theorem tot_le (h : TI T cnt k s R evs S) (h8 : ∀ t, t < T → cnt t ≤ 8) {t : Nat} (ht : t < T) : tot R t ≤ 16 := by
  have h1 := h.bc t ht
  have h2 := h8 t ht
  unfold bg at h1
  unfold tot
  omega
theorem evs_le (h : TI T cnt k s R evs S) (h8 : ∀ t, t < T → cnt t ≤ 8) (hT : T ≤ 64) : evs.length ≤ 1024 := by
  have := sumT_le (f := tot R) (B := 16) fun t ht => tot_le h h8 ht
  have := h.len
  omega
theorem TI.idle (h : TI T cnt k s R evs S) : TI T cnt (k + 1) s { R with st := R.st + 1 } evs S :=
  ⟨by show R.st + 1 = _; rw [h.st], h.ev, h.nev, h.th, h.run, h.si.idle _ rfl rfl, h.len, h.n, h.ats, h.md, h.bc, h.cl, h.c1, h.fresh, h.pend, h.done, h.key⟩
theorem TI.begin (h : TI T cnt k s R evs S) (hT : T ≤ 64) {t : Nat} (ht : t < T) (ho : R.op t = false) (hat : R.at_ t < cnt t) (xs' : List Value) :
    ∃ evs' S', TI T cnt (k + 1) ⟨s.cs, s.n + 1, xs', upd s.md t (s.md t + 1), upd2 s.tk t (R.at_ t) ⟨1, pk s.cs 1, 0, false⟩⟩ (pickR R t s.n (s.n + 1) false) evs' S' := by
  have hR : pickR R t s.n (s.n + 1) false = ⟨R.at_, upd R.op t true, R.st + 1, R.nev + 1, R.ev ++ evC R.st t (R.at_ t) false, noteA R.ats s.n (s.n + 1) R.st⟩ := by simp [pickR, ho]
  rw [hR]
  obtain ⟨q, hq⟩ := spRun_append Own.z109 evs ⟨(k : Int), (t : Int), (R.at_ t : Int), false⟩ SpSt.start
  obtain ⟨S', g1, g2, g3⟩ := h.si.begin ht ho q ⟨R.at_, upd R.op t true, R.st + 1, R.nev + 1, R.ev ++ evC R.st t (R.at_ t) false, noteA R.ats s.n (s.n + 1) R.st⟩ rfl rfl
  have hbt : bg R t = R.at_ t := by unfold bg b2n; rw [if_neg (by rw [ho]; decide)]; omega
  generalize hRR : (⟨R.at_, upd R.op t true, R.st + 1, R.nev + 1, R.ev ++ evC R.st t (R.at_ t) false, noteA R.ats s.n (s.n + 1) R.st⟩ : RS) = R' at g2 ⊢
  have r1 : R'.at_ = R.at_ := by rw [← hRR]
  have r2 : R'.op = upd R.op t true := by rw [← hRR]
  have r3 : R'.st = k + 1 := by rw [← hRR, ← h.st]
  have r4 : R'.nev = evs.length + 1 := by rw [← hRR, ← h.nev]
  have r5 : R'.ev = (evs ++ [(⟨(k : Int), (t : Int), (R.at_ t : Int), false⟩ : SE)]).flatMap encE := by
    rw [← hRR, List.flatMap_append, ← h.ev]
    show R.ev ++ evC R.st t (R.at_ t) false = _
    rw [h.st]
    simp [encE, evC]
  have r6 : R'.ats.length ≤ s.n + 1 := by rw [← hRR]; exact noteA_len _ _ _ _ h.ats rfl
  clear hRR hR
  have hbt' : bg R' t = R.at_ t + 1 := by unfold bg b2n; rw [r1, r2, upd_same, if_pos rfl]
  have hbo : ∀ i, i ≠ t → bg R' i = bg R i := fun i hi => by unfold bg; rw [r1, r2, upd_ne _ _ hi]
  have htt : tot R' t = tot R t + 1 := by unfold tot b2n; rw [r1, r2, upd_same, if_pos rfl, ho, if_neg (by decide)]
  have hto : ∀ i, i ≠ t → tot R' i = tot R i := fun i hi => by unfold tot; rw [r1, r2, upd_ne _ _ hi]
  have hout : ∀ (i : Nat) (x : SS), S.out[i]? = some x → ∃ t' j : Nat, x.f0.toNat = t' ∧ x.f1.toNat = j ∧ t' < T ∧ j < bg R t' ∧ ¬ (t' = t ∧ j = R.at_ t) ∧ (0 ≤ x.f3 → j < R.at_ t') := fun i x hx => by
    obtain ⟨t', j, a1, a2, a3, a4, a5, a6, a7, a8, a9⟩ := h.si.out i x hx
    refine ⟨t', j, by omega, by omega, a1, a2, fun e => ?_, fun h3 => ?_⟩
    · obtain ⟨rfl, rfl⟩ := e; omega
    · by_cases e : j < R.at_ t'
      · exact e
      · exfalso
        unfold bg b2n at a2
        cases ho' : R.op t' with
        | false => rw [ho', if_neg (by decide)] at a2; omega
        | true => rw [ho', if_pos rfl] at a2; have := a9.2 ⟨ho', by omega⟩; omega
  refine ⟨evs ++ [⟨(k : Int), (t : Int), (R.at_ t : Int), false⟩], S', ⟨r3, r5, by rw [r4]; simp, fun e he => ?_, by rw [hq, h.run]; exact g1, g2, ?_, ?_, r6, fun i hi => ?_, fun i hi => ?_, h.cl, ⟨h.c1.1, ?_⟩, fun i j hi hj => ?_, fun i hi hoi => ?_, fun i j hi hj => ?_, fun i i' x x' hx hx' h0 hlt => ?_⟩⟩
  · rcases List.mem_append.1 he with he | he
    · exact h.th e he
    · have := List.mem_singleton.1 he
      subst this
      exact ⟨by show (0 : Int) ≤ (t : Int); omega, by show (t : Int) < 64; omega⟩
  · rw [sumT_up ht hto htt, List.length_append, h.len]; rfl
  · show s.n + 1 = _
    rw [h.n, List.length_append]; rfl
  · show upd s.md t (s.md t + 1) i = _
    by_cases e : i = t
    · subst e; rw [upd_same, htt, h.md i hi]; omega
    · rw [upd_ne _ _ e, hto i e]; exact h.md i hi
  · by_cases e : i = t
    · subst e; omega
    · rw [hbo i e]; exact h.bc i hi
  · show pk s.cs 1 ≤ ((s.n + 1 : Nat) : Int)
    have := h.c1.2
    omega
  · show upd2 s.tk t (R.at_ t) ⟨1, pk s.cs 1, 0, false⟩ i j = _
    by_cases e : i = t
    · subst e
      rw [upd2_ne _ _ (by omega)]
      exact h.fresh i j hi (by omega)
    · rw [upd2_ne _ _ fun e2 => e e2.1]
      exact h.fresh i j hi (by rw [← hbo i e]; exact hj)
  · show ∃ x, upd2 s.tk t (R.at_ t) ⟨1, pk s.cs 1, 0, false⟩ i (R'.at_ i) = _ ∧ _
    rw [r1]
    by_cases e : i = t
    · subst e
      exact ⟨pk s.cs 1, upd2_same _ _ _ _, h.c1.1, Int.le_refl _⟩
    · rw [upd2_ne _ _ fun e2 => e e2.1]
      rw [r2, upd_ne _ _ e] at hoi
      exact h.pend i hi hoi
  · show ∃ x m, upd2 s.tk t (R.at_ t) ⟨1, pk s.cs 1, 0, false⟩ i j = _ ∧ _
    rw [r1] at hj
    rw [upd2_ne _ _ fun e2 => by obtain ⟨rfl, rfl⟩ := e2; omega]
    exact h.done i j hi hj
  · show (upd2 s.tk t (R.at_ t) ⟨1, pk s.cs 1, 0, false⟩ x.f0.toNat x.f1.toNat).stamp < (upd2 s.tk t (R.at_ t) ⟨1, pk s.cs 1, 0, false⟩ x'.f0.toNat x'.f1.toNat).t
    rw [g3] at hx hx'
    rcases getElem?_snoc hx with hx | ⟨_, rfl⟩
    · obtain ⟨t1, j1, p1, p2, p3, p4, p5, p6⟩ := hout i x hx
      rw [p1, p2, upd2_ne _ _ p5]
      rcases getElem?_snoc hx' with hx' | ⟨_, rfl⟩
      · obtain ⟨t2, j2, o1, o2, o3, o4, o5, o6⟩ := hout i' x' hx'
        rw [o1, o2, upd2_ne _ _ o5, ← p1, ← p2, ← o1, ← o2]
        exact h.key i i' x x' hx hx' h0 hlt
      · obtain ⟨y, m, hy, _, hlt2⟩ := h.done t1 j1 p3 (p6 h0)
        rw [hy]
        show y < (upd2 s.tk t (R.at_ t) ⟨1, pk s.cs 1, 0, false⟩ t (R.at_ t)).t
        rw [upd2_same]
        exact hlt2
    · exact absurd h0 (by show ¬ (0 : Int) ≤ -1; omega)
theorem TI.end_ (h : TI T cnt k s R evs S) (hT : T ≤ 64) {t : Nat} (ht : t < T) (ho : R.op t = true) {x : Int} (hx : s.tk t (R.at_ t) = ⟨1, x, 0, false⟩) (hx1 : 1 ≤ x) (hx2 : x ≤ pk s.cs 1) (xs' : List Value) (mv : Bool) :
    ∃ evs' S', TI T cnt (k + 1) ⟨casC s.cs 1 x (x + 1), s.n + 1, xs', upd s.md t (s.md t + 1), upd2 s.tk t (R.at_ t) ⟨2, x, x, mv⟩⟩ (pickR R t s.n (s.n + 1) true) evs' S' := by
  have hR : pickR R t s.n (s.n + 1) true = ⟨upd R.at_ t (R.at_ t + 1), upd R.op t false, R.st + 1, R.nev + 1, R.ev ++ evC R.st t (R.at_ t) true, noteA R.ats s.n (s.n + 1) R.st⟩ := by simp [pickR, ho]
  rw [hR]
  obtain ⟨q, hq⟩ := spRun_append Own.z109 evs ⟨(k : Int), (t : Int), (R.at_ t : Int), true⟩ SpSt.start
  obtain ⟨S', i0, x0, g1, g2, g3, g4, g5, g6⟩ := h.si.end_ ht ho q ⟨upd R.at_ t (R.at_ t + 1), upd R.op t false, R.st + 1, R.nev + 1, R.ev ++ evC R.st t (R.at_ t) true, noteA R.ats s.n (s.n + 1) R.st⟩ rfl rfl
  obtain ⟨k1, k2, k3, k4⟩ := pk_cas s.cs x h.cl hx2
  have hbt : bg R t = R.at_ t + 1 := by unfold bg b2n; rw [if_pos ho]
  generalize casC s.cs 1 x (x + 1) = cs' at k1 k2 k3 k4 ⊢
  generalize hRR : (⟨upd R.at_ t (R.at_ t + 1), upd R.op t false, R.st + 1, R.nev + 1, R.ev ++ evC R.st t (R.at_ t) true, noteA R.ats s.n (s.n + 1) R.st⟩ : RS) = R' at g2 ⊢
  have r1 : R'.at_ = upd R.at_ t (R.at_ t + 1) := by rw [← hRR]
  have r2 : R'.op = upd R.op t false := by rw [← hRR]
  have r3 : R'.st = k + 1 := by rw [← hRR, ← h.st]
  have r4 : R'.nev = evs.length + 1 := by rw [← hRR, ← h.nev]
  have r5 : R'.ev = (evs ++ [(⟨(k : Int), (t : Int), (R.at_ t : Int), true⟩ : SE)]).flatMap encE := by
    rw [← hRR, List.flatMap_append, ← h.ev]
    show R.ev ++ evC R.st t (R.at_ t) true = _
    rw [h.st]
    simp [encE, evC]
  have r6 : R'.ats.length ≤ s.n + 1 := by rw [← hRR]; exact noteA_len _ _ _ _ h.ats rfl
  clear hRR hR
  have hbt' : bg R' t = R.at_ t + 1 := by unfold bg b2n; rw [r1, r2, upd_same, upd_same, if_neg (by decide)]
  have hbo : ∀ i, i ≠ t → bg R' i = bg R i := fun i hi => by unfold bg; rw [r1, r2, upd_ne _ _ hi, upd_ne _ _ hi]
  have hba : ∀ i, bg R' i = bg R i := fun i => by
    by_cases e : i = t
    · subst e; rw [hbt', hbt]
    · exact hbo i e
  have htt : tot R' t = tot R t + 1 := by unfold tot b2n; rw [r1, r2, upd_same, upd_same, if_neg (by decide), ho, if_pos rfl]; omega
  have hto : ∀ i, i ≠ t → tot R' i = tot R i := fun i hi => by unfold tot; rw [r1, r2, upd_ne _ _ hi, upd_ne _ _ hi]
  refine ⟨evs ++ [⟨(k : Int), (t : Int), (R.at_ t : Int), true⟩], S', ⟨r3, r5, by rw [r4]; simp, fun e he => ?_, by rw [hq, h.run]; exact g1, g2, ?_, ?_, r6, fun i hi => ?_, fun i hi => by rw [hba]; exact h.bc i hi, k1, ⟨by have := h.c1.1; show 1 ≤ pk cs' 1; omega, ?_⟩, fun i j hi hj => ?_, fun i hi hoi => ?_, fun i j hi hj => ?_, fun i i' y y' hy hy' h0 hlt => ?_⟩⟩
  · rcases List.mem_append.1 he with he | he
    · exact h.th e he
    · have := List.mem_singleton.1 he
      subst this
      exact ⟨by show (0 : Int) ≤ (t : Int); omega, by show (t : Int) < 64; omega⟩
  · rw [sumT_up ht hto htt, List.length_append, h.len]; rfl
  · show s.n + 1 = _
    rw [h.n, List.length_append]; rfl
  · show upd s.md t (s.md t + 1) i = _
    by_cases e : i = t
    · subst e; rw [upd_same, htt, h.md i hi]; omega
    · rw [upd_ne _ _ e, hto i e]; exact h.md i hi
  · show pk cs' 1 ≤ ((s.n + 1 : Nat) : Int)
    have := h.c1.2
    omega
  · show upd2 s.tk t (R.at_ t) ⟨2, x, x, mv⟩ i j = _
    rw [hba] at hj
    rw [upd2_ne _ _ fun e2 => by obtain ⟨rfl, rfl⟩ := e2; omega]
    exact h.fresh i j hi hj
  · show ∃ x', upd2 s.tk t (R.at_ t) ⟨2, x, x, mv⟩ i (R'.at_ i) = _ ∧ _ ∧ x' ≤ pk cs' 1
    have e : i ≠ t := fun e => by subst e; rw [r2, upd_same] at hoi; cases hoi
    rw [r1, upd_ne _ _ e, upd2_ne _ _ fun e2 => e e2.1]
    rw [r2, upd_ne _ _ e] at hoi
    obtain ⟨z, z1, z2, z3⟩ := h.pend i hi hoi
    exact ⟨z, z1, z2, by omega⟩
  · show ∃ x' m, upd2 s.tk t (R.at_ t) ⟨2, x, x, mv⟩ i j = _ ∧ _ ∧ x' < pk cs' 1
    by_cases e : i = t ∧ j = R.at_ t
    · obtain ⟨rfl, rfl⟩ := e
      exact ⟨x, mv, upd2_same _ _ _ _, hx1, k2⟩
    · rw [upd2_ne _ _ e]
      have hj2 : j < R.at_ i := by
        by_cases e2 : i = t
        · subst e2
          rw [r1, upd_same] at hj
          have : j ≠ R.at_ i := fun e3 => e ⟨rfl, e3⟩
          omega
        · rw [r1, upd_ne _ _ e2] at hj; exact hj
      obtain ⟨z, m, z1, z2, z3⟩ := h.done i j hi hj2
      exact ⟨z, m, z1, z2, by omega⟩
  · have hlt0 := (List.getElem?_eq_some_iff.1 g3).1
    have hold : ∀ (i' : Nat) (y : SS), S'.out[i']? = some y → ∃ z, S.out[i']? = some z ∧ z.f0 = y.f0 ∧ z.f1 = y.f1 ∧ z.f2 = y.f2 ∧ (i' = i0 → y.f3 = (k : Int)) ∧ (i' ≠ i0 → z = y) := fun i' y hy => by
      rw [g6] at hy
      by_cases e : i' = i0
      · subst e
        rw [List.getElem?_set_self hlt0] at hy
        have := Option.some.inj hy
        subst this
        exact ⟨x0, g3, rfl, rfl, rfl, fun _ => rfl, fun e => absurd rfl e⟩
      · rw [List.getElem?_set_ne (fun e2 => e e2.symm)] at hy
        exact ⟨y, hy, rfl, rfl, rfl, fun e2 => absurd e2 e, fun _ => rfl⟩
    obtain ⟨z, p1, p2, p3, p4, p5, p6⟩ := hold i y hy
    obtain ⟨z', o1, o2, o3, o4, o5, o6⟩ := hold i' y' hy'
    obtain ⟨t2, j2, a1, a2, a3, a4, a5, a6, a7, a8, a9⟩ := h.si.out i' z' o1
    have hi : i ≠ i0 := fun e => by have := p5 e; omega
    have ez := p6 hi
    subst ez
    have hk := h.key i i' z z' p1 o1 h0 (by omega)
    obtain ⟨t1, j1, b1, b2, b3, b4, b5, b6, b7, b8, b9⟩ := h.si.out i z p1
    show (upd2 s.tk t (R.at_ t) ⟨2, x, x, mv⟩ z.f0.toNat z.f1.toNat).stamp < (upd2 s.tk t (R.at_ t) ⟨2, x, x, mv⟩ y'.f0.toNat y'.f1.toNat).t
    have hn : ¬ (z.f0.toNat = t ∧ z.f1.toNat = R.at_ t) := fun e => by
      have e1 : t1 = t := by omega
      subst e1
      have := b9.2 ⟨ho, by omega⟩
      omega
    rw [upd2_ne _ _ hn, ← o2, ← o3]
    by_cases e : z'.f0.toNat = t ∧ z'.f1.toNat = R.at_ t
    · rw [e.1, e.2] at hk ⊢
      rw [upd2_same]
      rw [hx] at hk
      exact hk
    · rw [upd2_ne _ _ e]
      exact hk
end
end Go.Proofs.YtndgfpfcdppfgaaGreatDoor

/- TopStamps: Run over takes, and the law behind it. No condition. -/
namespace Go.Proofs.YtndgfpfcdppfgaaGreatDoor
open Go.RowKit Go.Proofs.YtndgfpfcdppfgaaGreatDoorW.PrintWords Go.Proofs.YtndgfpfcdppfgaaGreatDoorW.PrintMore
set_option linter.unusedVariables false
set_option linter.unusedSimpArgs false
open Go.Proofs.YtndgfpfcdppfgaaGreatDoor.Own (SpSt spRun)
section
variable {T tcap : Nat} {cnt pcap vw pb : Nat → Nat} {pa : Nat → Nat → Nat} {pr : Nat → Option Addr} {bm bp bc fr br bt : Nat} {s : TS} {X : Nat → Prop} {w : World} {evv atv : Value} {R : RS}
theorem stamp_run (hT : T ≤ 64) (h8 : ∀ t, t < T → cnt t ≤ 8) (hvi : ∀ t t', t < T → t' < T → vw t = vw t' → t = t') (hpi : ∀ t k t' k', t < T → k < cnt t → t' < T → k' < cnt t' → pa t k = pa t' k' → t = t' ∧ k = k')
    (h : RE (envT T cnt vw pa bm bp bc fr 1073741824) w br bt T tcap pr cnt pcap vw pb pa s X evv atv R) (h0 : TI T cnt 0 s R [] SpSt.start) (ad : Option Addr) (n cap : Nat) (ps : Nat → Int) (hn : n ≤ 9223372036854775807)
    (hp : ∀ i, i < n → ∃ a, ad = some a ∧ w.cell? (a.add i) = some (.int .i64 (ps i)) ∧ ¬ OX X br bt evv atv (a.add i).block) :
    Calls Tryz.prog 10 #[.pointer (some ⟨br, 0, none⟩), .slice ad n cap] w fun e w' => e = .returned (.tuple #[]) ∧ ∃ s' X' evv' atv' R', (∃ evs S, TI T cnt n s' R' evs S) ∧ RE (envT T cnt vw pa bm bp bc fr 1073741824) w' br bt T tcap pr cnt pcap vw pb pa s' X' evv' atv' R' ∧ Stp (OX X br bt evv atv) w (OX X' br bt evv' atv') w' := by
  refine run_calls (fun k s R => ∃ evs S, TI T cnt k s R evs S) ad n cap ps ?_ ?_ ?_ h ⟨_, _, h0⟩ hn hp
  · rintro k s R hk ⟨evs, S, hI⟩ _
    exact ⟨evs, S, hI.idle⟩
  · rintro k s R t hk ⟨evs, S, hI⟩ _ ht hat
    have hlen := evs_le hI h8 hT
    have hmd := hI.md t ht
    have htl := tot_le hI h8 ht
    have hsn := hI.n
    have hc1 := hI.c1
    cases ho : R.op t with
    | false =>
      have hfr := hI.fresh t (R.at_ t) ht (by unfold bg b2n; rw [if_neg (by rw [ho]; decide)]; omega)
      refine ⟨fun d s' => d = false ∧ ∃ xs', s' = ⟨s.cs, s.n + 1, xs', upd s.md t (s.md t + 1), upd2 s.tk t (R.at_ t) ⟨1, pk s.cs 1, 0, false⟩⟩, fun X wx hE => ?_, ?_⟩
      · have hE' : TE T cnt vw pa bm bp bc fr 1073741824 s X wx := hE
        refine (hE'.next hvi hpi ht hat (Q := fun d cs' n' xs' md' τ' => d = false ∧ cs' = s.cs ∧ n' = s.n + 1 ∧ md' = s.md t + 1 ∧ τ' = ⟨1, pk s.cs 1, 0, false⟩) fun K _ hP => ?_).mono ?_
        · refine (take0 hP (by omega) (by omega) (by omega) (by rw [hfr]) (by omega) (by omega)).mono ?_
          rintro e w' ⟨rfl, h2⟩
          rw [hfr] at h2
          exact ⟨false, _, _, _, _, _, ⟨rfl, rfl, rfl, rfl, rfl⟩, rfl, h2⟩
        · rintro e w' ⟨d, cs', n', xs', md', τ', X', ⟨rfl, rfl, rfl, rfl, rfl⟩, he, h2, h3, h4⟩
          exact ⟨false, _, X', ⟨rfl, xs', rfl⟩, he, h2, h3, h4⟩
      · rintro d s' ⟨rfl, xs', rfl⟩
        exact hI.begin hT ht ho hat xs'
    | true =>
      obtain ⟨x, hx, hx1, hx2⟩ := hI.pend t ht ho
      refine ⟨fun d s' => d = true ∧ ∃ xs' mv, s' = ⟨casC s.cs 1 x (x + 1), s.n + 1, xs', upd s.md t (s.md t + 1), upd2 s.tk t (R.at_ t) ⟨2, x, x, mv⟩⟩, fun X wx hE => ?_, ?_⟩
      · have hE' : TE T cnt vw pa bm bp bc fr 1073741824 s X wx := hE
        refine (hE'.next hvi hpi ht hat (Q := fun d cs' n' xs' md' τ' => d = true ∧ cs' = casC s.cs 1 x (x + 1) ∧ n' = s.n + 1 ∧ md' = s.md t + 1 ∧ ∃ mv, τ' = ⟨2, x, x, mv⟩) fun K _ hP => ?_).mono ?_
        · rw [hx] at hP
          refine (take1 hP (by omega) (by omega) (by omega) rfl (by omega) (by show 0 ≤ x; omega) (by show x ≤ _; omega)).mono ?_
          rintro e w' ⟨rfl, h2⟩
          exact ⟨true, _, _, _, _, _, ⟨rfl, rfl, rfl, rfl, _, rfl⟩, rfl, h2⟩
        · rintro e w' ⟨d, cs', n', xs', md', τ', X', ⟨rfl, rfl, rfl, rfl, mv, rfl⟩, he, h2, h3, h4⟩
          exact ⟨true, _, X', ⟨rfl, xs', mv, rfl⟩, he, h2, h3, h4⟩
      · rintro d s' ⟨rfl, xs', mv, rfl⟩
        exact hI.end_ hT ht ho hx hx1 hx2 xs' mv
  · rintro k s R hk ⟨evs, S, hI⟩
    have hlen := evs_le hI h8 hT
    have h1 := hI.st
    have h2 := hI.nev
    have h3 := hI.ats
    have h4 := hI.n
    omega
/-- What Spans tells of the events. -/
theorem stamp_spans {k : Nat} {evs : List SE} {S : SpSt} (h : TI T cnt k s R evs S) (hT : T ≤ 64) (h8 : ∀ t, t < T → cnt t ≤ 8) : Own.hist_Spans.f evs = some (S.out, 0) := by
  have hlen := evs_le h h8 hT
  have hall : evs.all (fun e => Own.fit e.f1) = true := List.all_eq_true.2 fun e he => by
    have := h.th e he
    unfold Own.fit
    rw [decide_eq_true (by omega), decide_eq_true (by omega)]
    rfl
  unfold Own.hist_Spans.f
  rw [if_pos ⟨by omega, hall⟩, h.run]
/-- What the law asks of each span, and of each two. -/
theorem stamp_law {k : Nat} {evs : List SE} {S : SpSt} (h : TI T cnt k s R evs S) {i : Nat} {x : SS} (hx : S.out[i]? = some x) : ∃ t j : Nat, t < T ∧ j < cnt t ∧ x.f0 = (t : Int) ∧ x.f1 = (j : Int) ∧
    (0 ≤ x.f3 → 1 ≤ (s.tk t j).stamp ∧ (s.tk t j).stamp < pk s.cs 1) ∧ ∀ (i' : Nat) (y : SS), S.out[i']? = some y → ∃ t' j' : Nat, t' < T ∧ j' < cnt t' ∧ y.f0 = (t' : Int) ∧ y.f1 = (j' : Int) ∧ (0 ≤ y.f3 → y.f3 < x.f2 → 0 ≤ x.f3 → (s.tk t' j').stamp < (s.tk t j).stamp) := by
  have hdone : ∀ (i : Nat) (x : SS), S.out[i]? = some x → ∃ t j : Nat, t < T ∧ j < cnt t ∧ x.f0 = (t : Int) ∧ x.f1 = (j : Int) ∧ (0 ≤ x.f3 → ∃ z m, s.tk t j = ⟨2, z, z, m⟩ ∧ 1 ≤ z ∧ z < pk s.cs 1) := fun i x hx => by
    obtain ⟨t, j, a1, a2, a3, a4, a5, a6, a7, a8, a9⟩ := h.si.out i x hx
    refine ⟨t, j, a1, Nat.lt_of_lt_of_le a2 (h.bc t a1), a3, a4, fun h3 => ?_⟩
    refine h.done t j a1 ?_
    unfold bg b2n at a2
    cases ho : R.op t with
    | false => rw [ho, if_neg (by decide)] at a2; omega
    | true =>
      rw [ho, if_pos rfl] at a2
      have : j ≠ R.at_ t := fun e => by have := a9.2 ⟨ho, e⟩; omega
      omega
  obtain ⟨t, j, b1, b2, b3, b4, b5⟩ := hdone i x hx
  refine ⟨t, j, b1, b2, b3, b4, fun h3 => ?_, fun i' y hy => ?_⟩
  · obtain ⟨z, m, e, z1, z2⟩ := b5 h3
    rw [e]
    exact ⟨z1, z2⟩
  · obtain ⟨t', j', c1, c2, c3, c4, c5⟩ := hdone i' y hy
    refine ⟨t', j', c1, c2, c3, c4, fun h3 hlt hx3 => ?_⟩
    have hk := h.key i' i y x hy hx h3 hlt
    rw [c3, c4, b3, b4, Int.toNat_natCast, Int.toNat_natCast, Int.toNat_natCast, Int.toNat_natCast] at hk
    obtain ⟨z, m, e, _⟩ := b5 hx3
    rw [e] at hk ⊢
    exact hk
end
end Go.Proofs.YtndgfpfcdppfgaaGreatDoor

/- TopStamps: the rows of takes that are being built. No condition. -/
namespace Go.Proofs.YtndgfpfcdppfgaaGreatDoor
open Go.RowKit Go.Proofs.YtndgfpfcdppfgaaGreatDoorW.PrintWords Go.Proofs.YtndgfpfcdppfgaaGreatDoorW.PrintMore
set_option linter.unusedVariables false
set_option linter.unusedSimpArgs false
def mapR {α : Type} (f : Nat → α) (n : Nat) : List α := (List.range n).map f
theorem mapR_succ {α : Type} (f : Nat → α) (n : Nat) : mapR f (n + 1) = mapR f n ++ [f n] := by unfold mapR; rw [List.range_succ, List.map_append]; rfl
theorem mapR_congr {α : Type} {f g : Nat → α} {n : Nat} (h : ∀ i, i < n → f i = g i) : mapR f n = mapR g n := List.map_congr_left fun i hi => h i (List.mem_range.1 hi)
theorem mapR_at {α : Type} (f : Nat → α) {n i : Nat} (h : i < n) : (mapR f n)[i]? = some (f i) := by unfold mapR; rw [List.getElem?_map, List.getElem?_range h]; rfl
theorem mapR_len {α : Type} (f : Nat → α) (n : Nat) : (mapR f n).length = n := by unfold mapR; simp
/-- A row of one's own, as a block. -/
theorem row_blk {w : World} {base : Nat} {e : TypeId} {n : Nat} {v : Value} {f : Nat → Value} (h : w.ownsRow base e 1 v n (mapR f n)) (hn : 0 < n) : ∃ g cap cs, v = .slice (some ⟨g, 0, none⟩) n cap ∧ base ≤ g ∧ n ≤ cap ∧ Bk g e cs w ∧ ∀ i, i < n → cs[i]? = some (f i) := by
  rcases h.2 with ⟨_, e2⟩ | ⟨g, cap, cur, e1, hb, hh, q1, q2, q3, q4⟩
  · omega
  · refine ⟨g, cap, cur, e1, hb, q1, hh, fun i hi => ?_⟩
    have := mapR_at f hi
    rw [← q4, List.getElem?_take, if_pos (by omega), Array.getElem?_toList] at this
    exact this
def ptrV (a : Nat) : Value := .pointer (some ⟨a, 0, none⟩)
def ifcV (a : Nat) : Value := .iface 37 (ptrV a)
def fresh0 : Array Value := tkC 1 1073741824 ⟨0, 0, 0, false⟩
/-- One thread's takes so far: jt are made, jl stand among the procs, jr among the takes. -/
structure BIn (wi wr : World) (jt jl jr : Nat) (lv rv : Value) (pk : Nat → Nat) : Prop where
  b : Below wi.heap.size wi wr
  l : wr.ownsRow wi.heap.size 103 1 lv jl (mapR (fun q => ifcV (pk q)) jl)
  r : wr.ownsRow wi.heap.size 37 1 rv jr (mapR (fun q => ptrV (pk q)) jr)
  zl : jl = 0 → lv = .slice none 0 0
  zr : jr = 0 → rv = .slice none 0 0
  t : ∀ q, q < jt → wi.heap.size ≤ pk q ∧ Bk (pk q) 94 fresh0 wr
  i : ∀ q q', q < jt → q' < jt → pk q = pk q' → q = q'
section
variable {wi wr W : World} {jt jl jr : Nat} {lv rv : Value} {pk : Nat → Nat}
theorem below_trans {a b c : World} (h : Below a.heap.size a b) (k : Below b.heap.size b c) : Below a.heap.size a c :=
  ⟨k.os.trans h.os, k.tape.trans h.tape, k.output.trans h.output, Nat.le_trans h.size k.size, fun j hj => (k.block j (Nat.lt_of_lt_of_le hj h.size)).trans (h.block j hj)⟩
theorem BIn.start (w : World) (pk : Nat → Nat) : BIn w w 0 0 0 (.slice none 0 0) (.slice none 0 0) pk :=
  ⟨Below.refl _ _, ⟨rfl, .inl ⟨rfl, rfl⟩⟩, ⟨rfl, .inl ⟨rfl, rfl⟩⟩, fun _ => rfl, fun _ => rfl, fun q hq => absurd hq (by omega), fun q q' hq => absurd hq (by omega)⟩
theorem BIn.below (h : BIn wi wr jt jl jr lv rv pk) (hb : Below wr.heap.size wr W) : BIn wi W jt jl jr lv rv pk :=
  ⟨below_trans h.b hb, own_move h.l fun k hk => hb.block k (own_lt h.l k hk), own_move h.r fun k hk => hb.block k (own_lt h.r k hk), h.zl, h.zr, fun q hq => ⟨(h.t q hq).1, (h.t q hq).2.below hb⟩, h.i⟩
theorem BIn.newt (h : BIn wi wr jt jl jr lv rv pk) (hl : jl ≤ jt) (hr : jr ≤ jt) : BIn wi (wr.alloc (.cells fresh0 94)) (jt + 1) jl jr lv rv (upd pk jt wr.heap.size) := by
  have h1 := h.below ((Below.refl wr.heap.size wr).alloc (Nat.le_refl _) (.cells fresh0 94))
  have hn : Bk wr.heap.size 94 fresh0 (wr.alloc (.cells fresh0 94)) := Bk.new wr _ _
  have hs := h.b.size
  have hlt : ∀ q, q < jt → pk q < wr.heap.size := fun q hq => (h.t q hq).2.lt
  refine ⟨h1.b, ?_, ?_, h1.zl, h1.zr, fun q hq => ?_, fun q q' hq hq' he => ?_⟩
  · rw [mapR_congr (g := fun q => ifcV (pk q)) fun q hq => by rw [upd_ne _ _ (by omega)]]; exact h1.l
  · rw [mapR_congr (g := fun q => ptrV (pk q)) fun q hq => by rw [upd_ne _ _ (by omega)]]; exact h1.r
  · by_cases e : q = jt
    · subst e; rw [upd_same]; exact ⟨hs, hn⟩
    · rw [upd_ne _ _ e]; exact h1.t q (by omega)
  · by_cases e1 : q = jt
    · by_cases e2 : q' = jt
      · rw [e1, e2]
      · rw [e1, upd_same, upd_ne _ _ e2] at he
        have := hlt q' (by omega)
        omega
    · by_cases e2 : q' = jt
      · rw [e2, upd_same, upd_ne _ _ e1] at he
        have := hlt q (by omega)
        omega
      · rw [upd_ne _ _ e1, upd_ne _ _ e2] at he
        exact h.i q q' (by omega) (by omega) he
theorem own_base' {w : World} {base : Nat} {e : TypeId} {size n : Nat} {v : Value} {xs : List Value} (h : w.ownsRow base e size v n xs) (k : Nat) (hk : v.ownBlock = some k) : base ≤ k := own_base h k hk
theorem BIn.appl (h : BIn wi wr jt jl jr lv rv pk) {v1 : Value} (hg : wr.grownBy W lv.ownBlock) (hown : W.ownsRow wi.heap.size 103 1 v1 (jl + 1) (mapR (fun q => ifcV (pk q)) jl ++ [ifcV (pk jl)])) : BIn wi W jt (jl + 1) jr v1 rv pk :=
  ⟨h.b.grown hg h.b.size fun k hk => own_base' h.l k hk, by rw [mapR_succ]; exact hown, own_move h.r fun k hk => hg.block k (own_lt h.r k hk) fun e => own_own h.r h.l (by decide) hk e.symm, fun e => by omega, h.zr, fun q hq => ⟨(h.t q hq).1, (hg.block _ (h.t q hq).2.lt fun e => own_ne h.l (h.t q hq).2 (by decide) e).trans (h.t q hq).2⟩, h.i⟩
theorem BIn.appr (h : BIn wi wr jt jl jr lv rv pk) {v1 : Value} (hg : wr.grownBy W rv.ownBlock) (hown : W.ownsRow wi.heap.size 37 1 v1 (jr + 1) (mapR (fun q => ptrV (pk q)) jr ++ [ptrV (pk jr)])) : BIn wi W jt jl (jr + 1) lv v1 pk :=
  ⟨h.b.grown hg h.b.size fun k hk => own_base' h.r k hk, own_move h.l fun k hk => hg.block k (own_lt h.l k hk) fun e => own_own h.l h.r (by decide) hk e.symm, by rw [mapR_succ]; exact hown, h.zl, fun e => by omega, fun q hq => ⟨(h.t q hq).1, (hg.block _ (h.t q hq).2.lt fun e => own_ne h.r (h.t q hq).2 (by decide) e).trans (h.t q hq).2⟩, h.i⟩
end
/-- All threads' takes so far: i threads are made, nt stand among the threads, na among all. -/
structure BOut (w0 wr : World) (i nt na : Nat) (tv av : Value) (P A : Nat → Option Addr) (cnt pc ac pb rb : Nat → Nat) (pa : Nat → Nat → Nat) : Prop where
  b : Below w0.heap.size w0 wr
  t : wr.ownsRow w0.heap.size 34 1 tv nt (mapR (fun t => .slice (P t) (cnt t) (pc t)) nt)
  a : wr.ownsRow w0.heap.size 35 1 av na (mapR (fun t => .slice (A t) (cnt t) (ac t)) na)
  z : ∀ t, t < i → cnt t = 0 → P t = none ∧ pc t = 0 ∧ A t = none ∧ ac t = 0
  r : ∀ t, t < i → 0 < cnt t → P t = some ⟨pb t, 0, none⟩ ∧ A t = some ⟨rb t, 0, none⟩ ∧ cnt t ≤ pc t ∧ cnt t ≤ ac t ∧ w0.heap.size ≤ rb t ∧ (∃ cs, Bk (pb t) 103 cs wr ∧ ∀ k, k < cnt t → cs[k]? = some (ifcV (pa t k))) ∧ ∃ cs, Bk (rb t) 37 cs wr ∧ ∀ k, k < cnt t → cs[k]? = some (ptrV (pa t k))
  k : ∀ t k, t < i → k < cnt t → w0.heap.size ≤ pa t k ∧ Bk (pa t k) 94 fresh0 wr
  inj : ∀ t k t' k', t < i → k < cnt t → t' < i → k' < cnt t' → pa t k = pa t' k' → t = t' ∧ k = k'
section
variable {w0 wr W : World} {i nt na : Nat} {tv av : Value} {P A : Nat → Option Addr} {cnt pc ac pb rb : Nat → Nat} {pa : Nat → Nat → Nat}
theorem BOut.start (w : World) : BOut w w 0 0 0 (.slice none 0 0) (.slice none 0 0) (fun _ => none) (fun _ => none) cnt (fun _ => 0) (fun _ => 0) (fun _ => 0) (fun _ => 0) (fun _ _ => 0) :=
  ⟨Below.refl _ _, ⟨rfl, .inl ⟨rfl, rfl⟩⟩, ⟨rfl, .inl ⟨rfl, rfl⟩⟩, fun t ht => absurd ht (by omega), fun t ht => absurd ht (by omega), fun t k ht => absurd ht (by omega), fun t k t' k' ht => absurd ht (by omega)⟩
/-- Blocks of other types than the two rows' stay. -/
theorem BOut.move (h : BOut w0 wr i nt na tv av P A cnt pc ac pb rb pa) (hb : Below w0.heap.size w0 W) {tv' av' : Value} {nt' na' : Nat} (ht : W.ownsRow w0.heap.size 34 1 tv' nt' (mapR (fun t => .slice (P t) (cnt t) (pc t)) nt')) (ha : W.ownsRow w0.heap.size 35 1 av' na' (mapR (fun t => .slice (A t) (cnt t) (ac t)) na'))
    (hm : ∀ (j : Nat) (T : TypeId) (cs : Array Value), Bk j T cs wr → T ≠ 34 → T ≠ 35 → Bk j T cs W) : BOut w0 W i nt' na' tv' av' P A cnt pc ac pb rb pa := by
  refine ⟨hb, ht, ha, h.z, fun t ht hc => ?_, fun t k ht hk => ⟨(h.k t k ht hk).1, hm _ _ _ (h.k t k ht hk).2 (by decide) (by decide)⟩, h.inj⟩
  obtain ⟨e1, e2, e3, e4, e5, ⟨cs, c1, c2⟩, ds, d1, d2⟩ := h.r t ht hc
  exact ⟨e1, e2, e3, e4, e5, ⟨cs, hm _ _ _ c1 (by decide) (by decide), c2⟩, ds, hm _ _ _ d1 (by decide) (by decide), d2⟩
theorem BOut.below (h : BOut w0 wr i nt na tv av P A cnt pc ac pb rb pa) (hb : Below wr.heap.size wr W) : BOut w0 W i nt na tv av P A cnt pc ac pb rb pa :=
  h.move (below_trans h.b hb) (own_move h.t fun k hk => hb.block k (own_lt h.t k hk)) (own_move h.a fun k hk => hb.block k (own_lt h.a k hk)) fun j T cs hj _ _ => hj.below hb
theorem BOut.appt (h : BOut w0 wr i nt na tv av P A cnt pc ac pb rb pa) {v1 : Value} (hg : wr.grownBy W tv.ownBlock) (hown : W.ownsRow w0.heap.size 34 1 v1 (nt + 1) (mapR (fun t => .slice (P t) (cnt t) (pc t)) nt ++ [.slice (P nt) (cnt nt) (pc nt)])) : BOut w0 W i (nt + 1) na v1 av P A cnt pc ac pb rb pa :=
  h.move (h.b.grown hg h.b.size fun k hk => own_base' h.t k hk) (by rw [mapR_succ]; exact hown) (own_move h.a fun k hk => hg.block k (own_lt h.a k hk) fun e => own_own h.a h.t (by decide) hk e.symm) fun j T cs hj h1 h2 => (hg.block j hj.lt fun e => own_ne h.t hj (fun e2 => h1 e2.symm) e).trans hj
theorem BOut.appa (h : BOut w0 wr i nt na tv av P A cnt pc ac pb rb pa) {v1 : Value} (hg : wr.grownBy W av.ownBlock) (hown : W.ownsRow w0.heap.size 35 1 v1 (na + 1) (mapR (fun t => .slice (A t) (cnt t) (ac t)) na ++ [.slice (A na) (cnt na) (ac na)])) : BOut w0 W i nt (na + 1) tv v1 P A cnt pc ac pb rb pa :=
  h.move (h.b.grown hg h.b.size fun k hk => own_base' h.a k hk) (own_move h.t fun k hk => hg.block k (own_lt h.t k hk) fun e => own_own h.t h.a (by decide) hk e.symm) (by rw [mapR_succ]; exact hown) fun j T cs hj h1 h2 => (hg.block j hj.lt fun e => own_ne h.a hj (fun e2 => h2 e2.symm) e).trans hj
/-- A thread's takes are made. -/
theorem BOut.thread (h : BOut w0 wr i i i tv av P A cnt pc ac pb rb pa) {lv rv : Value} {pk : Nat → Nat} (k : BIn wr W (cnt i) (cnt i) (cnt i) lv rv pk) :
    ∃ P' A' pc' ac' pb' rb' pa', BOut w0 W (i + 1) i i tv av P' A' cnt pc' ac' pb' rb' pa' ∧ lv = .slice (P' i) (cnt i) (pc' i) ∧ rv = .slice (A' i) (cnt i) (ac' i) := by
  have h1 := h.below k.b
  obtain ⟨g1, c1, e1, r1⟩ : ∃ (g1 c1 : Nat) (a : Option Addr), lv = .slice a (cnt i) c1 ∧ (cnt i = 0 → a = none ∧ c1 = 0) ∧ (0 < cnt i → a = some ⟨g1, 0, none⟩ ∧ cnt i ≤ c1 ∧ ∃ cs, Bk g1 103 cs W ∧ ∀ q, q < cnt i → cs[q]? = some (ifcV (pk q))) := by
    rcases Nat.eq_zero_or_pos (cnt i) with hz | hp
    · have := k.zl hz
      exact ⟨0, 0, none, by rw [this, hz], fun _ => ⟨rfl, rfl⟩, fun hp => absurd hp (by omega)⟩
    · obtain ⟨g, cap, cs, a1, a2, a3, a4, a5⟩ := row_blk k.l hp
      exact ⟨g, cap, _, a1, fun hz => absurd hz (by omega), fun _ => ⟨rfl, a3, cs, a4, a5⟩⟩
  obtain ⟨r1, r2, r3⟩ := r1
  obtain ⟨g2, c2, e2, s1⟩ : ∃ (g1 c1 : Nat) (a : Option Addr), rv = .slice a (cnt i) c1 ∧ (cnt i = 0 → a = none ∧ c1 = 0) ∧ (0 < cnt i → a = some ⟨g1, 0, none⟩ ∧ cnt i ≤ c1 ∧ wr.heap.size ≤ g1 ∧ ∃ cs, Bk g1 37 cs W ∧ ∀ q, q < cnt i → cs[q]? = some (ptrV (pk q))) := by
    rcases Nat.eq_zero_or_pos (cnt i) with hz | hp
    · have := k.zr hz
      exact ⟨0, 0, none, by rw [this, hz], fun _ => ⟨rfl, rfl⟩, fun hp => absurd hp (by omega)⟩
    · obtain ⟨g, cap, cs, a1, a2, a3, a4, a5⟩ := row_blk k.r hp
      exact ⟨g, cap, _, a1, fun hz => absurd hz (by omega), fun _ => ⟨rfl, a3, a2, cs, a4, a5⟩⟩
  obtain ⟨s1, s2, s3⟩ := s1
  have hs := h.b.size
  have hold : ∀ t q, t < i → q < cnt t → pa t q < wr.heap.size := fun t q ht hq => (h.k t q ht hq).2.lt
  refine ⟨upd P i e1, upd A i e2, upd pc i c1, upd ac i c2, upd pb i g1, upd rb i g2, upd pa i pk, ⟨h1.b, ?_, ?_, fun t ht hz => ?_, fun t ht hp => ?_, fun t q ht hq => ?_, fun t q t' q' ht hq ht' hq' he => ?_⟩, by rw [upd_same, upd_same]; exact r1, by rw [upd_same, upd_same]; exact s1⟩
  · rw [mapR_congr (g := fun t => .slice (P t) (cnt t) (pc t)) fun t ht => by rw [upd_ne _ _ (by omega), upd_ne _ _ (by omega)]]; exact h1.t
  · rw [mapR_congr (g := fun t => .slice (A t) (cnt t) (ac t)) fun t ht => by rw [upd_ne _ _ (by omega), upd_ne _ _ (by omega)]]; exact h1.a
  · by_cases e : t = i
    · subst e
      rw [upd_same, upd_same, upd_same, upd_same]
      exact ⟨(r2 hz).1, (r2 hz).2, (s2 hz).1, (s2 hz).2⟩
    · rw [upd_ne _ _ e, upd_ne _ _ e, upd_ne _ _ e, upd_ne _ _ e]; exact h1.z t (by omega) hz
  · by_cases e : t = i
    · subst e
      rw [upd_same, upd_same, upd_same, upd_same, upd_same, upd_same, upd_same]
      obtain ⟨a1, a2, a3⟩ := r3 hp
      obtain ⟨b1, b2, b4, b3⟩ := s3 hp
      exact ⟨a1, b1, a2, b2, Nat.le_trans hs b4, a3, b3⟩
    · rw [upd_ne _ _ e, upd_ne _ _ e, upd_ne _ _ e, upd_ne _ _ e, upd_ne _ _ e, upd_ne _ _ e, upd_ne _ _ e]; exact h1.r t (by omega) hp
  · by_cases e : t = i
    · subst e
      rw [upd_same]
      exact ⟨Nat.le_trans hs (k.t q hq).1, (k.t q hq).2⟩
    · rw [upd_ne _ _ e]; exact h1.k t q (by omega) hq
  · by_cases x1 : t = i
    · by_cases x2 : t' = i
      · subst x1
        subst x2
        rw [upd_same] at he
        exact ⟨rfl, k.i q q' hq hq' he⟩
      · subst x1
        rw [upd_same, upd_ne _ _ x2] at he
        have := hold t' q' (by omega) hq'
        have := (k.t q hq).1
        omega
    · by_cases x2 : t' = i
      · subst x2
        rw [upd_same, upd_ne _ _ x1] at he
        have := hold t q (by omega) hq
        have := (k.t q' hq').1
        omega
      · rw [upd_ne _ _ x1, upd_ne _ _ x2] at he
        exact h.inj t q t' q' (by omega) hq (by omega) hq' he
end
end Go.Proofs.YtndgfpfcdppfgaaGreatDoor

/- TopStamps: its beginning. No condition. -/
namespace Go.Proofs.YtndgfpfcdppfgaaGreatDoor
open Go.RowKit Go.Proofs.YtndgfpfcdppfgaaGreatDoorW.PrintWords Go.Proofs.YtndgfpfcdppfgaaGreatDoorW.PrintMore
set_option linter.unusedVariables false
set_option linter.unusedSimpArgs false
theorem which_in (a : Int) (m : Int) (h0 : 0 < m) (h1 : m < 9223372036854775808) : ∃ r, Own.shuttertop_which.f a m = some r ∧ 0 ≤ r ∧ r < m := by
  unfold Own.shuttertop_which.f
  rw [if_neg (by omega)]
  have e1 := Int.tmod_lt_of_pos a h0
  have e2 : -m < Int.tmod a m := by
    have := Int.lt_tmod_of_pos a h0
    omega
  by_cases hn : Int.tmod a m < 0
  · rw [if_pos hn]
    refine ⟨_, rfl, ?_⟩
    have : wrap64 (Int.tmod a m + m) = Int.tmod a m + m := by unfold wrap64; omega
    rw [this]
    omega
  · rw [if_neg hn]
    exact ⟨_, rfl, by omega, e1⟩
/-- How many takes a thread does. -/
def nT (x : Int) : Nat := ((Own.shuttertop_which.f x 9).getD 0).toNat
theorem nT_is (x : Int) : Own.shuttertop_which.f x 9 = some (nT x : Int) ∧ nT x ≤ 8 := by
  obtain ⟨r, h, h0, h1⟩ := which_in x 9 (by omega) (by omega)
  unfold nT
  rw [h]
  show some r = some ((r.toNat : Nat) : Int) ∧ r.toNat ≤ 8
  rw [Int.toNat_of_nonneg h0]
  exact ⟨rfl, by omega⟩
/-- What is there when the memory has its one cell. -/
def cs0 : List Int := alC (List.replicate 128 0) 1 [1]
theorem cs0_len : cs0.length = 128 := by kernel_rfl
theorem cs0_pk : pk cs0 1 = 1 := by kernel_rfl
/-- The memory is made; its cell is handed out. -/
theorem head_alloc (w w1 : World) (hM : Mem w1 (fun j => j < w.heap.size) (w.heap.size + 1 + 1) (w.heap.size + 1) w.heap.size (List.replicate 128 0) 1 0 []) (hb : Below w.heap.size w w1) (hs : w1.heap.size = w.heap.size + 3) :
    Calls Tryz.prog 6 #[.pointer (some ⟨w.heap.size + 3, 0, none⟩), .slice (some ⟨w.heap.size + 4, 0, none⟩) 1 1] ((w1.alloc (.cells #[.pointer (some ⟨w.heap.size + 1 + 1, 0, none⟩), .int .i64 (-1), .int .i64 0] 87)).alloc (.cells #[.int .u64 1] 27)) fun e w' => e = .returned (.int .u64 1) ∧
      ∃ XM xs, MX w' XM (w.heap.size + 1 + 1) (w.heap.size + 1) w.heap.size cs0 2 1 xs ∧ Below w.heap.size w w' ∧ ∀ j, XM j → w.heap.size ≤ j := by
  have hM2 := (hM.alloc (.cells #[.pointer (some ⟨w.heap.size + 1 + 1, 0, none⟩), .int .i64 (-1), .int .i64 0] 87))
  have hV : Vw (w1.alloc (.cells #[.pointer (some ⟨w.heap.size + 1 + 1, 0, none⟩), .int .i64 (-1), .int .i64 0] 87)) w1.heap.size (w.heap.size + 1 + 1) (-1) 0 := heap_alloc_new w1 _
  have hb2 := hb.alloc hb.size (.cells #[.pointer (some ⟨w.heap.size + 1 + 1, 0, none⟩), .int .i64 (-1), .int .i64 0] 87)
  have hs2 : (w1.alloc (.cells #[.pointer (some ⟨w.heap.size + 1 + 1, 0, none⟩), .int .i64 (-1), .int .i64 0] 87)).heap.size = w.heap.size + 4 := by rw [World.size_alloc, hs]
  generalize w1.alloc (.cells #[.pointer (some ⟨w.heap.size + 1 + 1, 0, none⟩), .int .i64 (-1), .int .i64 0] 87) = w2 at hM2 hV hb2 hs2 ⊢
  have hM3 := hM2.alloc (.cells #[.int .u64 1] 27)
  have hV3 : Vw (w2.alloc (.cells #[.int .u64 1] 27)) w1.heap.size (w.heap.size + 1 + 1) (-1) 0 := (heap_alloc_old w2 _ (by omega)).trans hV
  have hb3 := hb2.alloc hb2.size (.cells #[.int .u64 1] 27)
  have hn : (w2.alloc (.cells #[.int .u64 1] 27)).heap[w2.heap.size]? = some (.cells #[.int .u64 1] 27 (0, 0)) := heap_alloc_new w2 _
  have hs3 : (w2.alloc (.cells #[.int .u64 1] 27)).heap.size = w.heap.size + 5 := by rw [World.size_alloc, hs2]
  generalize w2.alloc (.cells #[.int .u64 1] 27) = w3 at hM3 hV3 hb3 hn hs3 ⊢
  rw [hs] at hM3 hV3
  rw [hs2] at hM3 hn
  refine (alloc_calls hM3 (by rw [List.length_replicate]; omega) (.inl (.inr rfl)) hV3 (by omega) (by omega) (by omega) ⟨w.heap.size + 4, 0, none⟩ (fun j => by rw [Addr.add_lit]) (.inr rfl) 1 1 [1] rfl (by omega) (by omega) (fun j hj => ?_) (by rw [List.length_replicate]; omega)).mono ?_
  · have : j = 0 := by omega
    subst this
    exact (blk_cell hn 0).trans rfl
  · rintro e w' ⟨rfl, g, cap, h1, h2, h3⟩
    have hk := h3.size
    refine ⟨rfl, fun j => j < w'.heap.size ∧ ¬ ((j < w.heap.size ∨ j = w.heap.size + 3) ∨ j = w.heap.size + 4), _, ⟨h1.less fun j hj => Classical.byContradiction fun hx => hj.2 ⟨hj.1, hx⟩, fun j hj => hj.1⟩, ?_⟩
    refine ⟨?_, fun j hj => Nat.le_of_not_lt fun e => hj.2 (.inl (.inl e))⟩
    exact ⟨h3.os.trans hb3.os, h3.tape.trans hb3.tape, h3.output.trans hb3.output, Nat.le_trans hb3.size hk, fun j hj => (h3.block j ⟨.inl (.inl hj), by omega⟩ (by omega)).trans (hb3.block j hj)⟩
end Go.Proofs.YtndgfpfcdppfgaaGreatDoor

/- TopStamps: the runner over the takes, at its start. No condition. -/
namespace Go.Proofs.YtndgfpfcdppfgaaGreatDoor
open Go.RowKit Go.Proofs.YtndgfpfcdppfgaaGreatDoorW.PrintWords Go.Proofs.YtndgfpfcdppfgaaGreatDoorW.PrintMore
set_option linter.unusedVariables false
set_option linter.unusedSimpArgs false
open Go.Proofs.YtndgfpfcdppfgaaGreatDoor.Own (SpSt spRun)
def R0 : RS := ⟨fun _ => 0, fun _ => false, 0, 0, [], []⟩
def s0 (xs : List Value) : TS := ⟨cs0, 1, xs, fun _ => 0, fun _ _ => ⟨0, 0, 0, false⟩⟩
theorem ti_start (T : Nat) (cnt : Nat → Nat) (xs : List Value) : TI T cnt 0 (s0 xs) R0 [] SpSt.start := by
  have hb : ∀ t, bg R0 t = 0 := fun t => rfl
  refine ⟨rfl, rfl, rfl, fun e he => (by cases he), rfl, ⟨by show (-1 : Int) < 0; omega, fun t _ => rfl, fun t _ _ => rfl, fun t _ h => absurd h (by rw [hb]; omega), fun i x hx => (by cases hx), fun i i' x x' hx => (by cases hx)⟩, ?_, rfl, Nat.zero_le _, fun t _ => rfl, fun t _ => Nat.zero_le _, cs0_len, ?_, fun t j _ _ => rfl, fun t _ h => (by cases h), fun t j _ h => absurd h (Nat.not_lt_zero _), fun i i' x x' hx => (by cases hx)⟩
  · have := sumT_le (f := tot R0) (T := T) (B := 0) fun t _ => Nat.le_refl _
    show 0 = _
    omega
  · show 1 ≤ pk cs0 1 ∧ pk cs0 1 ≤ ((1 : Nat) : Int)
    rw [cs0_pk]
    omega
section
variable {w3 wc w6 : World} {XM : Nat → Prop} {bm bp bc br T : Nat} {xs : List Value} {v8 v9 tv : Value} {P A pr : Nat → Option Addr} {cnt pc ac pb0 rb pcap vw pb : Nat → Nat} {pa : Nat → Nat → Nat}
theorem stamp_start (hX : MX w3 XM bm bp bc cs0 2 1 xs) (hB : BOut w3 wc T T T v8 v9 P A cnt pc ac pb0 rb pa) (hN : NI wc w6 br bm T T cnt (fun t k => ifcV (pa t k)) tv pr pcap vw pb) (hT : T ≤ 64) (h8 : ∀ t, t < T → cnt t ≤ 8) :
    ∃ bt tcap X, RE (envT T cnt vw pa bm bp bc 2 1073741824) w6 br bt T tcap pr cnt pcap vw pb pa (s0 xs) X (.slice none 0 0) (.slice none 0 0) R0 ∧ ∀ j, OX X br bt (.slice none 0 0) (.slice none 0 0) j → XM j ∨ (w3.heap.size ≤ j ∧ ∃ Tb cs, Bk j Tb cs w6 ∧ (Tb = 87 ∨ Tb = 94 ∨ Tb = 105 ∨ Tb = 100)) := by
  obtain ⟨bt, tcap, hbt, ⟨Tb, cb, hTb, hbb⟩, hRn⟩ := hN.rn hT fun t ht => by have := h8 t ht; omega
  obtain ⟨rc, r0, _⟩ := hN.r
  have hb6 : Below w3.heap.size w3 w6 := below_trans hB.b hN.b
  have hs3 := hB.b.size
  have hge := hN.ge
  have hpa : ∀ t k, t < T → k < cnt t → Bk (pa t k) 94 fresh0 w6 := fun t k ht hk => (hB.k t k ht hk).2.below hN.b
  have hrb : ∀ j, RBk br bt (.slice none 0 0) (.slice none 0 0) j → j = br ∨ j = bt := fun j hj => by
    rcases hj with e | e | e | e
    · exact .inl e
    · exact .inr e
    · cases e
    · cases e
  have hdis : ∀ j, (XM j ∨ TO T cnt vw pa j) → j ≠ br ∧ j ≠ bt := fun j hj => by
    rcases hj with e | ⟨t, ht, rfl⟩ | ⟨t, k, ht, hk, rfl⟩
    · have := hX.2 j e
      exact ⟨by omega, by omega⟩
    · refine ⟨Bk.ne (hN.v t ht).1 r0 (by decide), Bk.ne (hN.v t ht).1 hbb ?_⟩
      rcases hTb with rfl | rfl <;> decide
    · refine ⟨Bk.ne (hpa t k ht hk) r0 (by decide), Bk.ne (hpa t k ht hk) hbb ?_⟩
      rcases hTb with rfl | rfl <;> decide
  refine ⟨bt, tcap, fun j => XM j ∨ TO T cnt vw pa j, ⟨hRn, ⟨⟨XM, fun j => Iff.rfl, hX.far hb6.size fun j hj => hb6.block j (hX.2 j hj), fun t ht e => ?_, fun t k ht hk e => ?_⟩, fun t ht => (hN.v t ht).1, fun t k ht hk => hpa t k ht hk⟩, hbb.lt, fun j hj hb => ?_, fun t ht hc => ?_⟩, fun j hj => ?_⟩
  · have := hX.2 _ e
    have := (hN.v t ht).2
    omega
  · have := hX.2 _ e
    have := (hB.k t k ht hk).1
    omega
  · rcases hrb j hb with e | e
    · exact (hdis j hj).1 e
    · exact (hdis j hj).2 e
  · obtain ⟨e1, e2, pcs, e3, e4⟩ := (hN.p t ht).2 hc
    refine ⟨e1, fun hx => ?_, pcs, e3, e4⟩
    rcases hx with e | ⟨t', ht', e⟩ | ⟨t', k', ht', hk', e⟩
    · have := hX.2 _ e
      omega
    · exact Bk.ne e3 (hN.v t' ht').1 (by decide) e
    · exact Bk.ne e3 (hpa t' k' ht' hk') (by decide) e
  · rcases hj with (e | ⟨t, ht, rfl⟩ | ⟨t, k, ht, hk, rfl⟩) | hb
    · exact .inl e
    · exact .inr ⟨by have := (hN.v t ht).2; omega, _, _, (hN.v t ht).1, .inl rfl⟩
    · exact .inr ⟨(hB.k t k ht hk).1, _, _, hpa t k ht hk, .inr (.inl rfl)⟩
    · rcases hrb j hb with rfl | rfl
      · exact .inr ⟨by omega, _, _, r0, .inr (.inr (.inr rfl))⟩
      · refine .inr ⟨by omega, _, _, hbb, ?_⟩
        rcases hTb with e | e
        · exact .inr (.inr (.inl e))
        · exact .inr (.inr (.inr e))
theorem bout_th {a8 : Option Addr} {k8 : Nat} (hB : BOut w3 wc T T T (.slice a8 T k8) v9 P A cnt pc ac pb0 rb pa) (h8 : ∀ t, t < T → cnt t ≤ 8) : ThIn wc a8 T P cnt pc := fun t ht => by
  obtain ⟨g, cap, cs, e, _, _, hb, hc⟩ := row_blk hB.t (by omega)
  injection e with e
  subst e
  refine ⟨_, rfl, ?_, by have := h8 t ht; omega⟩
  rw [Addr.add_lit, Nat.zero_add]
  exact hb.cell (hc t ht)
theorem bout_cl (hB : BOut w3 wc T T T v8 v9 P A cnt pc ac pb0 rb pa) (h8 : ∀ t, t < T → cnt t ≤ 8) : ClIn wc T P cnt pc fun t k => ifcV (pa t k) := by
  refine clIn (fun t ht => by have := h8 t ht; omega) (fun t j => rfl) fun t ht => ?_
  rcases Nat.eq_zero_or_pos (cnt t) with h0 | h0
  · obtain ⟨e1, e2, _⟩ := hB.z t ht h0
    exact .inl ⟨h0, e1, e2⟩
  · obtain ⟨e1, _, _, _, _, ⟨cs, c1, c2⟩, _⟩ := hB.r t ht h0
    refine .inr ⟨h0, _, e1, fun j hj => ?_⟩
    rw [Addr.add_lit, Nat.zero_add]
    exact c1.cell (c2 j hj)
end
/-- What the checks read. -/
structure CK (W : World) (T : Nat) (a9 : Option Addr) (A : Nat → Option Addr) (cnt ac rb : Nat → Nat) (pa : Nat → Nat → Nat) (s : TS) (bm bp bc : Nat) : Prop where
  a : ∀ t, t < T → ∃ g, a9 = some ⟨g, 0, none⟩ ∧ W.cell? ⟨g, t, none⟩ = some (.slice (A t) (cnt t) (ac t))
  r : ∀ t k, t < T → k < cnt t → A t = some ⟨rb t, 0, none⟩ ∧ W.cell? ⟨rb t, k, none⟩ = some (ptrV (pa t k))
  p : ∀ t k, t < T → k < cnt t → Bk (pa t k) 94 (tkC 1 1073741824 (s.tk t k)) W
  m : ∃ K, Mem W K bm bp bc s.cs 2 s.n s.xs
section
variable {w3 wc w9 w10 W : World} {XM X X' O' : Nat → Prop} {bm bp bc br bt T : Nat} {xs : List Value} {v8 : Value} {a9 : Option Addr} {k9 : Nat} {P A : Nat → Option Addr} {cnt pc ac pb0 rb vw : Nat → Nat} {pa : Nat → Nat → Nat} {s : TS}
theorem CK.below (h : CK w10 T a9 A cnt ac rb pa s bm bp bc) (hb : Below w10.heap.size w10 W) : CK W T a9 A cnt ac rb pa s bm bp bc := by
  have cl : ∀ {p : Addr} {v : Value}, w10.cell? p = some v → W.cell? p = some v := fun hc => (World.cell?_of_block (hb.block _ (World.block_lt_of_cell? _ _ hc))).trans hc
  refine ⟨fun t ht => ?_, fun t k ht hk => ⟨(h.r t k ht hk).1, cl (h.r t k ht hk).2⟩, fun t k ht hk => (h.p t k ht hk).below hb, ?_⟩
  · obtain ⟨g, e, hc⟩ := h.a t ht
    exact ⟨g, e, cl hc⟩
  · obtain ⟨K, hM⟩ := h.m
    exact ⟨K, hM.of_below hb⟩
theorem ck_start (hX : ∀ j, XM j → j < w3.heap.size) (hB : BOut w3 wc T T T v8 (.slice a9 T k9) P A cnt pc ac pb0 rb pa) (hN : Below wc.heap.size wc w9)
    (hO : ∀ j, OX X br bt (.slice none 0 0) (.slice none 0 0) j → XM j ∨ (w3.heap.size ≤ j ∧ ∃ Tb cs, Bk j Tb cs w9 ∧ (Tb = 87 ∨ Tb = 94 ∨ Tb = 105 ∨ Tb = 100)))
    (hS : Stp (OX X br bt (.slice none 0 0) (.slice none 0 0)) w9 O' w10) (hE : TE T cnt vw pa bm bp bc 2 1073741824 s X' w10) : CK w10 T a9 A cnt ac rb pa s bm bp bc := by
  have mv : ∀ {j : Nat} {Tj : TypeId} {cs : Array Value}, Bk j Tj cs wc → w3.heap.size ≤ j → (Tj = 37 ∨ Tj = 35) → Bk j Tj cs w10 := fun {j Tj cs} hj hl ht => by
    have h9 := hj.below hN
    refine (hS.k.block j (fun ho => ?_) h9.lt).trans h9
    rcases hO j ho with e | ⟨_, Tb, ds, hd, e⟩
    · have := hX j e
      omega
    · refine Bk.ne h9 hd ?_ rfl
      rcases ht with rfl | rfl <;> rcases e with rfl | rfl | rfl | rfl <;> decide
  refine ⟨fun t ht => ?_, fun t k ht hk => ?_, fun t k ht hk => hE.p t k ht hk, hE.mem⟩
  · obtain ⟨g, cap, cs, e, hb, _, h1, h2⟩ := row_blk hB.a (by omega)
    injection e with e
    subst e
    exact ⟨g, rfl, (mv h1 hb (.inr rfl)).cell (h2 t ht)⟩
  · obtain ⟨_, e2, _, _, e5, _, ds, d1, d2⟩ := hB.r t ht (by omega)
    exact ⟨e2, (mv d1 e5 (.inl rfl)).cell (d2 k hk)⟩
end
end Go.Proofs.YtndgfpfcdppfgaaGreatDoor

/- TopStamps: what the checks read. No condition. -/
namespace Go.Proofs.YtndgfpfcdppfgaaGreatDoor
open Go.RowKit Go.Proofs.YtndgfpfcdppfgaaGreatDoorW.PrintWords Go.Proofs.YtndgfpfcdppfgaaGreatDoorW.PrintMore
set_option linter.unusedVariables false
set_option linter.unusedSimpArgs false
theorem ahead_no {a b a' b' p q p' r : Int} (h : ¬ (0 ≤ q ∧ q < p')) : Own.hist_Ahead.f a b p q a' b' p' r = some false := by
  unfold Own.hist_Ahead.f
  by_cases h0 : q ≥ 0
  · rw [if_pos h0, decide_eq_false fun e => h ⟨h0, e⟩]
  · rw [if_neg h0]
section
variable {W : World} {T : Nat} {a9 : Option Addr} {A : Nat → Option Addr} {cnt ac rb : Nat → Nat} {pa : Nat → Nat → Nat} {s : TS} {bm bp bc : Nat} {AS : Option Addr} {l : List SS}
/-- The list of spans, its block. -/
theorem spans_blk {w : World} {base : Nat} {ok : Nat → Prop} {v : Value} (h : Kd.R Own.k49 49 w base ok v l) (hl : 0 < l.length) : ∃ g c, v = .slice (some ⟨g, 0, none⟩) l.length c := by
  obtain ⟨inner, ho⟩ := Kd.R_own h
  rcases ho.2 with ⟨rfl, h0⟩ | ⟨g, cap, cur, rfl, _⟩
  · omega
  · exact ⟨g, cap, rfl⟩
/-- The cells of a span. -/
theorem span_cells {gs : Nat} (h : Kd.C Own.k49 W (some ⟨gs, 0, none⟩) l.length l) {i : Nat} {x : SS} (hx : l[i]? = some x) :
    W.cell? ⟨gs, i * 4, none⟩ = some (.int .i64 x.f0) ∧ W.cell? ⟨gs, i * 4 + 1, none⟩ = some (.int .i64 x.f1) ∧ W.cell? ⟨gs, i * 4 + 2, none⟩ = some (.int .i64 x.f2) ∧ W.cell? ⟨gs, i * 4 + 3, none⟩ = some (.int .i64 x.f3) := by
  have hi := (List.getElem?_eq_some_iff.1 hx).1
  obtain ⟨ad, e, hc⟩ := h.2.2 (by omega)
  obtain ⟨cs, c1, c2, c3⟩ := hc i x hx
  have := Own.k49_open c2
  subst this
  have ea := Option.some.inj e
  subst ea
  have g : ∀ f u, [Value.int .i64 x.f0, .int .i64 x.f1, .int .i64 x.f2, .int .i64 x.f3][f]? = some u → W.cell? ⟨gs, i * 4 + f, none⟩ = some u := fun f u hu => by
    have h3 := c3 f u hu
    rw [Addr.add_lit, Nat.zero_add] at h3
    exact h3
  exact ⟨g 0 _ rfl, g 1 _ rfl, g 2 _ rfl, g 3 _ rfl⟩
/-- What stands behind a span: the row of takes, the take. -/
theorem ck_at (h : CK W T a9 A cnt ac rb pa s bm bp bc) {t j : Nat} (ht : t < T) (hj : j < cnt t) : ∃ g, a9 = some ⟨g, 0, none⟩ ∧ W.cell? ⟨g, t, none⟩ = some (.slice (some ⟨rb t, 0, none⟩) (cnt t) (ac t)) ∧ W.cell? ⟨rb t, j, none⟩ = some (.pointer (some ⟨pa t j, 0, none⟩)) ∧ Bk (pa t j) 94 (tkC 1 1073741824 (s.tk t j)) W := by
  obtain ⟨g, e, hc⟩ := h.a t ht
  obtain ⟨e1, hc1⟩ := h.r t j ht hj
  rw [e1] at hc
  exact ⟨g, e, hc, hc1, h.p t j ht hj⟩
end
end Go.Proofs.YtndgfpfcdppfgaaGreatDoor
