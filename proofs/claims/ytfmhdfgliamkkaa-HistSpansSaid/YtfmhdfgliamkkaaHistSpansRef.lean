/- The program's Spans and the reference's tell the same of any events (under way). No condition. -/
import Derived.Test.YtfmhdfgliamkkaaHistRightMath
import Derived.Test.YtfmhdfgliamkkaaOwnx3
import Derived.Test.YtfmhdfgliamkkaaOwnx4
import Derived.Test.YtfmhdfgliamkkaaOwnx5
set_option linter.unusedVariables false
set_option linter.unusedSimpArgs false
namespace Go.Proofs.Ytfmhdfgliamkkaa.Own
open Go.RowKit Go.Proofs.YtfmhdfgliamkkaaW.PrintWords Go.Proofs.YtfmhdfgliamkkaaW.PrintLast Go.Proofs.YtfmhdfgliamkkaaW.PrintMore
namespace RS
open RM
def ev (l : List S33) (j : Nat) : S33 := rd_T33 l (j : Int)
/-- What the reference's 'last' tells: the last event of a thread, and whether there is one. -/
def tup (e : S33) (b : Bool) : Int × Int × Int × Bool × Bool := (e.f0, e.f1, e.f2, e.f3, b)
theorem last_l0 (l : List S33) (t : Int) (hl : l.length < 4398046511104) : ∀ (d K : Nat), d ≤ l.length → d < K →
    (∃ j, j < d ∧ (ev l j).f1 = t ∧ (∀ k, j < k → k < d → (ev l k).f1 ≠ t) ∧ shutterref05_last.l0 K l t ((d : Int) - 1) = some (tup (ev l j) true)) ∨
    ((∀ j, j < d → (ev l j).f1 ≠ t) ∧ shutterref05_last.l0 K l t ((d : Int) - 1) = some (tup z33 false))
  | 0, K, h, hK => by
    obtain ⟨K, rfl⟩ : ∃ m, K = m + 1 := ⟨K - 1, by omega⟩
    right
    refine ⟨fun j hj => absurd hj (Nat.not_lt_zero _), ?_⟩
    simp only [shutterref05_last.l0]
    rw [if_neg (by omega)]
    rfl
  | d + 1, K, h, hK => by
    obtain ⟨K, rfl⟩ : ∃ m, K = m + 1 := ⟨K - 1, by omega⟩
    have e1 : ((d + 1 : Nat) : Int) - 1 = (d : Int) := by omega
    have hw : wrap64 ((d : Int) - 1) = (d : Int) - 1 := by unfold wrap64; omega
    rw [e1]
    simp only [shutterref05_last.l0]
    rw [if_pos (by omega), if_pos (by omega), if_pos (by omega), hw]
    have hg : rd_T33 l (d : Int) = ev l d := rfl
    rw [hg]
    by_cases ht : (ev l d).f1 = t
    · left
      rw [if_pos ht]
      exact ⟨d, by omega, ht, fun k h1 h2 => by omega, rfl⟩
    · rw [if_neg ht]
      rcases last_l0 l t hl d K (by omega) (by omega) with ⟨j, h1, h2, h3, h4⟩ | ⟨h1, h2⟩
      · left
        refine ⟨j, by omega, h2, fun k h5 h6 => ?_, h4⟩
        rcases Nat.lt_or_ge k d with h7 | h7
        · exact h3 k h5 h7
        · obtain rfl : k = d := by omega
          exact ht
      · right
        refine ⟨fun j hj => ?_, h2⟩
        rcases Nat.lt_or_ge j d with h7 | h7
        · exact h1 j h7
        · obtain rfl : j = d := by omega
          exact ht
theorem last_f (l : List S33) (t : Int) (hl : l.length < 4398046511104) (K : Nat) (hK : l.length < K) :
    (∃ j, j < l.length ∧ (ev l j).f1 = t ∧ (∀ k, j < k → k < l.length → (ev l k).f1 ≠ t) ∧ shutterref05_last.f K l t = some (tup (ev l j) true)) ∨
    ((∀ j, j < l.length → (ev l j).f1 ≠ t) ∧ shutterref05_last.f K l t = some (tup z33 false)) := by
  unfold shutterref05_last.f
  have hw : wrap64 ((l.length : Int) - 1) = (l.length : Int) - 1 := by unfold wrap64; omega
  rw [hw]
  exact last_l0 l t hl l.length K (Nat.le_refl _) hK
/-- A thread's last span has the number before the one that comes. -/
theorem begun_last {p : S33} {s : SpSt} (hI : SI p s) {t : Int} {n : Nat} (h : s.last t = some n) : s.begun t = (g s.out n).f1 + 1 := by
  obtain ⟨n1, n2, n3⟩ := hI.some_ t n h
  rw [hI.begun, (hI.rp n n1).2.1, n2]
  have hc : ∀ d, n + 1 + d ≤ s.out.length → cnt s.out (n + 1 + d) t = cnt s.out (n + 1) t := by
    intro d
    induction d with
    | zero => intro _; rfl
    | succ d ih =>
      intro hd
      rw [← Nat.add_assoc, cnt_succ, ih (by omega), if_neg (n3 _ (by omega) (by omega)), Nat.add_zero]
  have h1 := hc (s.out.length - (n + 1)) (by omega)
  rw [show n + 1 + (s.out.length - (n + 1)) = s.out.length by omega, cnt_succ, if_pos n2] at h1
  omega
def early (l : List S33) (e : S33) : Bool := decide (e.f0 < 0) || (decide (0 < l.length) && decide (e.f0 < (ev l (l.length - 1)).f0)) || (decide (1 < l.length) && ((e.f0 == (ev l (l.length - 1)).f0) && (e.f0 == (ev l (l.length - 2)).f0)))
def clash (l : List S33) (e : S33) : Bool := decide (0 < l.length) && ((e.f0 == (ev l (l.length - 1)).f0) && (!e.f3 || (ev l (l.length - 1)).f3 || ((ev l (l.length - 1)).f1 != e.f1)))
def fits_ (e was : S33) (some_ : Bool) : Bool := if e.f3 = true then (some_ && (!was.f3 && (was.f2 == e.f2))) else if some_ = true then (was.f3 && (e.f2 == wrap64 (was.f2 + 1))) else e.f2 == 0
theorem j1_is (K : Nat) (e was : S33) (b c : Bool) : shutterref05_follows.j1 (K + 1) b c e.f0 e.f1 e.f2 e.f3 was.f0 was.f1 was.f2 was.f3 = some (!c && fits_ e was b) := by
  unfold fits_
  simp only [shutterref05_follows.j1]
  cases c <;> cases he : e.f3 <;> cases b <;> cases hw : was.f3 <;> simp
  all_goals (by_cases h0 : e.f2 = 0 <;> simp [h0])
theorem j0_is (K : Nat) (l : List S33) (e was : S33) (b c : Bool) (hl : l.length < 4398046511104) (hlast : shutterref05_last.f (K + 1) l e.f1 = some (tup was b)) :
    shutterref05_follows.j0 (K + 2) l (l.length : Int) c e.f0 e.f1 e.f2 e.f3 = some (!c && (!clash l e && fits_ e was b)) := by
  have hj := fun c => j1_is K e was b c
  generalize hK : K + 1 = K1 at hlast hj
  have e2 : K + 2 = K1 + 1 := by omega
  rw [e2]
  simp only [shutterref05_follows.j0]
  cases c with
  | true => simp
  | false =>
    rw [if_neg (by decide), hlast]
    simp only [Option.bind_some, tup]
    unfold clash
    by_cases hn : l.length = 0
    · rw [if_neg (by omega), hj, decide_eq_false (show ¬ 0 < l.length by omega)]
      simp
    · have hw : wrap64 ((l.length : Int) - 1) = ((l.length - 1 : Nat) : Int) := by unfold wrap64; omega
      have hg : rd_T33 l ((l.length - 1 : Nat) : Int) = ev l (l.length - 1) := rfl
      rw [if_pos (by omega), hw, if_pos (by omega), if_pos (by omega), hg, decide_eq_true (show 0 < l.length by omega)]
      by_cases h1 : e.f0 = (ev l (l.length - 1)).f0
      · rw [if_pos h1]
        have h1b : (e.f0 == (ev l (l.length - 1)).f0) = true := by simpa using h1
        rw [h1b]
        cases he : e.f3 with
        | false =>
          have := hj true
          rw [he] at this
          rw [if_neg (by decide), this]
          simp
        | true =>
          rw [if_pos rfl]
          cases hp : (ev l (l.length - 1)).f3 with
          | true =>
            have := hj true
            rw [he] at this
            rw [if_pos rfl, this]
            simp
          | false =>
            have := hj ((ev l (l.length - 1)).f1 != e.f1)
            rw [he] at this
            rw [if_neg (by decide), this]
            simp
      · rw [if_neg h1, hj]
        have h1b : (e.f0 == (ev l (l.length - 1)).f0) = false := by simpa using h1
        rw [h1b]
        simp
theorem follows_is (K : Nat) (l : List S33) (e was : S33) (b : Bool) (hl : l.length < 4398046511104) (hlast : shutterref05_last.f (K + 1) l e.f1 = some (tup was b)) :
    shutterref05_follows.f (K + 2) l e.f0 e.f1 e.f2 e.f3 = some (!early l e && (!clash l e && fits_ e was b)) := by
  have hj := fun c => j0_is K l e was b c hl hlast
  generalize (!clash l e && fits_ e was b) = z at hj ⊢
  unfold shutterref05_follows.f early
  by_cases h0 : e.f0 < 0
  · rw [if_pos h0, hj, decide_eq_true h0]
    simp
  rw [if_neg h0, decide_eq_false h0]
  by_cases hn : l.length = 0
  · rw [if_neg (by omega), if_neg (by omega), hj, decide_eq_false (show ¬ 0 < l.length by omega), decide_eq_false (show ¬ 1 < l.length by omega)]
    simp
  have hw : wrap64 ((l.length : Int) - 1) = ((l.length - 1 : Nat) : Int) := by unfold wrap64; omega
  have hg : rd_T33 l ((l.length - 1 : Nat) : Int) = ev l (l.length - 1) := rfl
  rw [if_pos (by omega), hw, if_pos (by omega), if_pos (by omega), hg, decide_eq_true (show 0 < l.length by omega)]
  by_cases h1 : e.f0 < (ev l (l.length - 1)).f0
  · rw [if_pos h1, hj, decide_eq_true h1]
    simp
  rw [if_neg h1, decide_eq_false h1]
  by_cases h2 : 1 < l.length
  · have hw2 : wrap64 ((l.length : Int) - 2) = ((l.length - 2 : Nat) : Int) := by unfold wrap64; omega
    have hg2 : rd_T33 l ((l.length - 2 : Nat) : Int) = ev l (l.length - 2) := rfl
    rw [if_pos (by omega), decide_eq_true h2]
    by_cases h3 : e.f0 = (ev l (l.length - 1)).f0
    · have h3b : (e.f0 == (ev l (l.length - 1)).f0) = true := by simpa using h3
      rw [if_pos h3, hw2, if_pos (by omega), if_pos (by omega), hg2, hj, h3b]
      simp
    · have h3b : (e.f0 == (ev l (l.length - 1)).f0) = false := by simpa using h3
      rw [if_neg h3, hj, h3b]
      simp
  · rw [if_neg (by omega), hj, decide_eq_false h2]
    simp
theorem ev_take {l : List S33} {i k : Nat} (h : k < i) (hi : i ≤ l.length) : ev (l.take i) k = ev l k := by
  unfold ev rd_T33
  rw [Int.toNat_natCast, List.getD_eq_getElem?_getD, List.getD_eq_getElem?_getD, List.getElem?_take_of_lt h]
/-- Behind the first i events. -/
structure EI (l : List S33) (i : Nat) (s : SpSt) : Prop where
  si : SI (ev l (i - 1)) s
  step0 : i = 0 → s.step = -1 ∧ s.cnt = 0
  step1 : 0 < i → s.step = (ev l (i - 1)).f0 ∧ 0 ≤ s.step ∧ 1 ≤ s.cnt
  cnt : 2 ≤ s.cnt ↔ (1 < i ∧ (ev l (i - 1)).f0 = (ev l (i - 2)).f0)
  non : ∀ t, s.last t = none → ∀ j, j < i → (ev l j).f1 ≠ t
  som : ∀ t n, s.last t = some n → ∃ j, j < i ∧ (ev l j).f1 = t ∧ (∀ k, j < k → k < i → (ev l k).f1 ≠ t) ∧ (ev l j).f3 = (!s.open_ t) ∧ (ev l j).f2 = (g s.out n).f1
theorem ei_start (l : List S33) : EI l 0 SpSt.start := ⟨si_start _, fun _ => ⟨rfl, rfl⟩, fun h => absurd h (Nat.lt_irrefl _), ⟨fun h => absurd h (by decide), fun h => absurd h.1 (by decide)⟩, fun t _ j hj => absurd hj (Nat.not_lt_zero _), fun t n h => (nomatch h)⟩
theorem begun_none {p : S33} {s : SpSt} (hI : SI p s) {t : Int} (h : s.last t = none) : s.begun t = 0 := by
  rw [hI.begun]
  have hc : ∀ d, d ≤ s.out.length → cnt s.out d t = 0 := by
    intro d
    induction d with
    | zero => intro _; rfl
    | succ d ih =>
      intro hd
      rw [cnt_succ, ih (by omega), if_neg (hI.none_ t h d (by omega))]
  rw [hc _ (Nat.le_refl _)]
  rfl
/-- What the reference asks of an event's own thread is what the program asks. -/
theorem own_thread {l : List S33} {i : Nat} {s : SpSt} (hI : EI l i s) (hi : i < l.length) (hl : l.length < 4398046511104) (hlen : s.out.length ≤ i) (K : Nat) (hK : i < K + 1) :
    ∃ was b, shutterref05_last.f (K + 1) (l.take i) (ev l i).f1 = some (tup was b) ∧
      fits_ (ev l i) was b = !(((ev l i).f3 != s.open_ (ev l i).f1) || (s.open_ (ev l i).f1 && ((ev l i).f2 != (g s.out ((s.last (ev l i).f1).getD 0)).f1)) || (!s.open_ (ev l i).f1 && ((ev l i).f2 != s.begun (ev l i).f1))) := by
  have hil : (l.take i).length = i := by rw [List.length_take]; omega
  rcases last_f (l.take i) (ev l i).f1 (by omega) (K + 1) (by omega) with ⟨j, h1, h2, h3, h4⟩ | ⟨h1, h2⟩
  · rw [hil] at h1 h3
    rw [ev_take h1 (by omega)] at h2 h4
    refine ⟨_, _, h4, ?_⟩
    cases hla : s.last (ev l i).f1 with
    | none => exact absurd h2 (hI.non _ hla j h1)
    | some n =>
      obtain ⟨j2, q1, q2, q3, q4, q5⟩ := hI.som _ n hla
      have hjj : j = j2 := by
        rcases Nat.lt_trichotomy j j2 with h | h | h
        · exact absurd (by rw [ev_take q1 (by omega)]; exact q2) (h3 j2 h q1)
        · exact h
        · exact absurd h2 (q3 j h h1)
      subst hjj
      have hb := begun_last hI.si hla
      obtain ⟨n1, _, _⟩ := hI.si.some_ _ n hla
      have hix := (hI.si.rp n n1).2.1
      have hcn : RM.cnt s.out n (g s.out n).f0 ≤ n := by
        unfold RM.cnt
        have := List.countP_le_length (p := fun j => (g s.out j).f0 == (g s.out n).f0) (l := List.range n)
        rwa [List.length_range] at this
      have hw : wrap64 ((ev l j).f2 + 1) = s.begun (ev l i).f1 := by rw [hb, q5]; unfold wrap64; omega
      unfold fits_
      simp only [Option.getD_some]
      rw [hw, q4, ← q5]
      have hcm : ((ev l j).f2 == (ev l i).f2) = ((ev l i).f2 == (ev l j).f2) := BEq.comm
      rw [hcm]
      cases (ev l i).f3 <;> cases s.open_ (ev l i).f1 <;> simp [bne]
  · refine ⟨_, _, h2, ?_⟩
    rw [hil] at h1
    cases hla : s.last (ev l i).f1 with
    | some n =>
      obtain ⟨j2, q1, q2, _⟩ := hI.som _ n hla
      exact absurd (by rw [ev_take q1 (by omega)]; exact q2) (h1 j2 q1)
    | none =>
      have ho : s.open_ (ev l i).f1 = false := by unfold SpSt.open_; rw [hla]; rfl
      rw [ho, begun_none hI.si hla]
      unfold fits_
      cases (ev l i).f3 <;> simp [bne]
/-- What the reference asks of an event's step is what the program asks. -/
theorem steps {l : List S33} {i : Nat} {s : SpSt} (hI : EI l i s) (hi : i < l.length) (e : S33) :
    (early (l.take i) e || clash (l.take i) e) = (decide (e.f0 < 0) || decide (e.f0 < s.step) || ((e.f0 == s.step) && s.bad2 (ev l (i - 1)) e)) := by
  have hil : (l.take i).length = i := by rw [List.length_take]; omega
  unfold early clash
  rw [hil]
  by_cases h0 : i = 0
  · obtain ⟨h1, h2⟩ := hI.step0 h0
    rw [h1, decide_eq_false (show ¬ 0 < i by omega), decide_eq_false (show ¬ 1 < i by omega)]
    by_cases h3 : e.f0 < 0
    · rw [decide_eq_true h3]; rfl
    · have h4 : (e.f0 == -1) = false := by
        have : e.f0 ≠ -1 := by omega
        simpa using this
      rw [decide_eq_false h3, decide_eq_false (show ¬ e.f0 < -1 by omega), h4]
      rfl
  · obtain ⟨h1, h2, h3⟩ := hI.step1 (by omega)
    rw [ev_take (show i - 1 < i by omega) (by omega), decide_eq_true (show 0 < i by omega), ← h1]
    have hc : decide (2 < s.cnt + 1) = (decide (1 < i) && (s.step == (ev l (i - 2)).f0)) := by
      by_cases h4 : 2 ≤ s.cnt
      · obtain ⟨h5, h6⟩ := hI.cnt.1 h4
        rw [decide_eq_true (show 2 < s.cnt + 1 by omega), decide_eq_true h5, h1, h6]
        simp
      · rw [decide_eq_false (show ¬ 2 < s.cnt + 1 by omega)]
        by_cases h5 : 1 < i
        · have h6 : s.step ≠ (ev l (i - 2)).f0 := fun h => h4 (hI.cnt.2 ⟨h5, by rw [← h1]; exact h⟩)
          have h7 : (s.step == (ev l (i - 2)).f0) = false := by simpa using h6
          rw [h7, Bool.and_false]
        · rw [decide_eq_false h5]; rfl
    unfold SpSt.bad2
    rw [hc]
    by_cases h4 : 1 < i
    · rw [ev_take (show i - 2 < i by omega) (by omega)]
      by_cases h5 : e.f0 = s.step
      · rw [h5]
        cases decide (s.step < 0) <;> cases decide (s.step < s.step) <;> cases decide (1 < i) <;> cases (s.step == (ev l (i - 2)).f0) <;> simp
      · have h6 : (e.f0 == s.step) = false := by simpa using h5
        rw [h6]
        simp
    · rw [decide_eq_false h4]
      cases decide (e.f0 < 0) <;> cases decide (e.f0 < s.step) <;> cases (e.f0 == s.step) <;> simp
/-- The reference takes an event where the program does. -/
theorem follows_next {l : List S33} {i : Nat} {s : SpSt} (hI : EI l i s) (hi : i < l.length) (hl : l.length < 4398046511104) (hlen : s.out.length ≤ i) (K : Nat) (hK : i < K + 1) :
    shutterref05_follows.f (K + 2) (l.take i) (ev l i).f0 (ev l i).f1 (ev l i).f2 (ev l i).f3 = some (s.next (ev l (i - 1)) (ev l i)).isSome := by
  obtain ⟨was, b, h1, h2⟩ := own_thread hI hi hl hlen K hK
  have hil : (l.take i).length = i := by rw [List.length_take]; omega
  rw [follows_is K (l.take i) (ev l i) was b (by omega) h1, h2]
  have hs := steps hI hi (ev l i)
  have hb : s.bad1 (ev l i) = (decide ((ev l i).f0 < 0) || decide ((ev l i).f0 < s.step) || (((ev l i).f3 != s.open_ (ev l i).f1) || (s.open_ (ev l i).f1 && ((ev l i).f2 != (g s.out ((s.last (ev l i).f1).getD 0)).f1)) || (!s.open_ (ev l i).f1 && ((ev l i).f2 != s.begun (ev l i).f1)))) := by
    unfold SpSt.bad1 g
    simp only [Bool.or_assoc]
  generalize (((ev l i).f3 != s.open_ (ev l i).f1) || (s.open_ (ev l i).f1 && ((ev l i).f2 != (g s.out ((s.last (ev l i).f1).getD 0)).f1)) || (!s.open_ (ev l i).f1 && ((ev l i).f2 != s.begun (ev l i).f1))) = z at hb ⊢
  have e3 : (!early (l.take i) (ev l i) && (!clash (l.take i) (ev l i) && !z)) = !((early (l.take i) (ev l i) || clash (l.take i) (ev l i)) || z) := by
    cases early (l.take i) (ev l i) <;> cases clash (l.take i) (ev l i) <;> cases z <;> rfl
  rw [e3, hs]
  unfold SpSt.next
  rw [hb]
  by_cases h5 : (ev l i).f0 = s.step
  · rw [if_pos h5]
    have h6 : ((ev l i).f0 == s.step) = true := by simpa using h5
    rw [h6]
    cases decide ((ev l i).f0 < 0) <;> cases decide ((ev l i).f0 < s.step) <;> cases s.bad2 (ev l (i - 1)) (ev l i) <;> cases z <;> rfl
  · rw [if_neg h5]
    have h6 : ((ev l i).f0 == s.step) = false := by simpa using h5
    rw [h6]
    cases decide ((ev l i).f0 < 0) <;> cases decide ((ev l i).f0 < s.step) <;> cases z <;> rfl
/-- The inner loop: it ends the one span that is meant. -/
theorem l1_none (l : List S33) (i : Nat) (hi : i < l.length) (hl : l.length < 4398046511104) (K : Nat) : ∀ (d q : Nat) (x : List S36), q + d = x.length → x.length < 4398046511104 →
    (∀ j, q ≤ j → j < x.length → ¬ ((g x j).f0 = (ev l i).f1 ∧ (g x j).f1 = (ev l i).f2)) →
    shutterref05_Spans.l1 (K + d + 1) l x (i : Int) (q : Int) = shutterref05_Spans.l0 K l x ((i + 1 : Nat) : Int)
  | 0, q, x, h, hx, hno => by
    have hw : wrap64 ((i : Int) + 1) = ((i + 1 : Nat) : Int) := by unfold wrap64; omega
    simp only [shutterref05_Spans.l1]
    rw [if_neg (by omega), hw]
  | d + 1, q, x, h, hx, hno => by
    have hw : wrap64 ((q : Int) + 1) = ((q + 1 : Nat) : Int) := by unfold wrap64; omega
    have ih := l1_none l i hi hl K d (q + 1) x (by omega) hx (fun j h1 h2 => hno j (by omega) h2)
    have e1 : K + (d + 1) + 1 = (K + d + 1) + 1 := by omega
    rw [e1]
    generalize K + d + 1 = K2 at ih ⊢
    have hg : rd_T36 x (q : Int) = g x q := rfl
    have hg2 : rd_T33 l (i : Int) = ev l i := rfl
    simp only [shutterref05_Spans.l1]
    rw [if_pos (by omega), if_pos (by omega), if_pos (by omega), if_pos (by omega), hw, hg, hg2]
    have h1 := hno q (Nat.le_refl _) (by omega)
    by_cases h2 : (g x q).f0 = (ev l i).f1
    · rw [if_pos h2, if_neg (fun h3 => h1 ⟨h2, h3⟩)]
      exact ih
    · rw [if_neg h2]
      exact ih
end RS
end Go.Proofs.Ytfmhdfgliamkkaa.Own
