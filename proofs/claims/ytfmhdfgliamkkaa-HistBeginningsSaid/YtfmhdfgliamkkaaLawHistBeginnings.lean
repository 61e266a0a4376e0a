/- For every spans and order HistBeginnings answers true, and its arguments read as they did. No condition. -/
import Derived.Test.YtfmhdfgliamkkaaRows
import Derived.Test.YtfmhdfgliamkkaaHistKeepsMath
import Derived.Test.YtfmhdfgliamkkaaHistRowKit
import Derived.Test.YtfmhdfgliamkkaaOwnx8
import Derived.Test.YtfmhdfgliamkkaaOwnx15
import Derived.Test.YtfmhdfgliamkkaaOwnx25
import Derived.WalkKit
import Derived.ProofKit
import Derived.OpenShut
import Derived.ShutString
import Derived.ChangeOld
import Derived.Below
import Derived.SizedLaws
import Derived.Lib.SmallJoins
import Derived.Lib.Hide
namespace Go.Proofs.Ytfmhdfgliamkkaa.histBeginnings
open Go.ChangeShapes Go.WideShapes Go.ChangeAt Go.RowKit Go.Joins
set_option linter.unusedVariables false
open Go.Proofs.YtfmhdfgliamkkaaW.PrintWords Go.Proofs.YtfmhdfgliamkkaaW.PrintLast Go.Proofs.YtfmhdfgliamkkaaW.PrintMore Go.Proofs.Ytfmhdfgliamkkaa.Own
set_option linter.unusedSimpArgs false
theorem live_true : shutterlaw05_live.f = some true := by decide +kernel
theorem ahead_is (a b : S36) : hist_Ahead.f a.f0 a.f1 a.f2 a.f3 b.f0 b.f1 b.f2 b.f3 = some (aheadB a b) := by
  unfold hist_Ahead.f aheadB
  by_cases h : a.f3 ≥ 0
  · rw [if_pos h, decide_eq_true (show 0 ≤ a.f3 from h)]; simp
  · rw [if_neg h, decide_eq_false (show ¬ 0 ≤ a.f3 from h)]; simp
theorem l3_is (l : List S36) (o : List Int) (ho : o.length < 17592186044416) (i k B : Nat) (hi : i ≤ o.length) (hn : ∀ K, B ≤ K → shutterlaw05_HistBeginnings.l2 K l o (i : Int) (RowKit.wrap64 ((k : Int) + 1)) = some true) : ∀ (d K q : Nat) (th : Bool), q + d = i → d + 1 + B ≤ K → (th = true ∨ ∃ p : Nat, q ≤ p ∧ p < i ∧ rd o (p : Int) = (k : Int)) →
    shutterlaw05_HistBeginnings.l3 K l o (i : Int) (k : Int) th (q : Int) = some true
  | 0, K, q, th, h, hK, ht => by
    obtain ⟨K, rfl⟩ : ∃ m, K = m + 1 := ⟨K - 1, by omega⟩
    have hth : th = true := by
      rcases ht with h1 | ⟨p, h1, h2, _⟩
      · exact h1
      · omega
    simp only [shutterlaw05_HistBeginnings.l3]
    rw [if_neg (by omega), if_pos hth]
    exact hn K (by omega)
  | d + 1, K, q, th, h, hK, ht => by
    obtain ⟨K, rfl⟩ : ∃ m, K = m + 1 := ⟨K - 1, by omega⟩
    have hw : RowKit.wrap64 ((q : Int) + 1) = ((q + 1 : Nat) : Int) := by unfold RowKit.wrap64; omega
    have ih := l3_is l o ho i k B hi hn d K (q + 1)
    simp only [shutterlaw05_HistBeginnings.l3]
    rw [if_pos (by omega), hw]
    cases hth : th with
    | true =>
      rw [if_pos rfl]
      exact ih true (by omega) (by omega) (Or.inl rfl)
    | false =>
      rw [if_neg (by simp), if_pos (by omega), if_pos (by omega)]
      refine ih _ (by omega) (by omega) ?_
      rcases ht with h1 | ⟨p, h1, h2, h3⟩
      · rw [hth] at h1; cases h1
      · rcases Nat.eq_or_lt_of_le h1 with e | e
        · subst e
          left
          rw [h3]
          simp
        · exact Or.inr ⟨p, e, h2, h3⟩
theorem l2_is (l : List S36) (o : List Int) (hl : l.length < 4398046511104) (ho : o.length < 17592186044416) (hk : keepsB l o = true) (hg : ∀ m : Nat, m < l.length → ¬ (0 ≤ (rd_T36 l (m : Int)).f3 ∧ (rd_T36 l (m : Int)).f3 < (rd_T36 l (m : Int)).f2)) (i B : Nat) (hi : i < o.length) (hn : ∀ K, B ≤ K → shutterlaw05_HistBeginnings.l1 K l o (RowKit.wrap64 ((i : Int) + 1)) = some true) : ∀ (d K k : Nat), k + d = l.length → d * (o.length + 3) + 1 + B ≤ K →
    shutterlaw05_HistBeginnings.l2 K l o (i : Int) (k : Int) = some true
  | 0, K, k, h, hK => by
    obtain ⟨K, rfl⟩ : ∃ m, K = m + 1 := ⟨K - 1, by omega⟩
    simp only [shutterlaw05_HistBeginnings.l2]
    rw [if_neg (by omega)]
    exact hn K (by omega)
  | d + 1, K, k, h, hK => by
    rw [Nat.succ_mul] at hK
    obtain ⟨K, rfl⟩ : ∃ m, K = m + 1 := ⟨K - 1, by omega⟩
    have hw : RowKit.wrap64 ((k : Int) + 1) = ((k + 1 : Nat) : Int) := by unfold RowKit.wrap64; omega
    have ih := fun K2 => l2_is l o hl ho hk hg i B hi hn d K2 (k + 1) (by omega)
    obtain ⟨g0, g1⟩ := KM.inside l o hk i hi
    simp only [shutterlaw05_HistBeginnings.l2]
    rw [if_pos (by omega), if_pos (by omega), if_pos (by omega), if_pos (by omega), if_pos g0, if_pos g1, ahead_is]
    simp only [Option.bind_some]
    cases ha : aheadB (rd_T36 l (k : Int)) (rd_T36 l (rd o (i : Int))) with
    | false =>
      rw [if_neg (by simp), hw]
      exact ih K (by omega)
    | true =>
      rw [if_pos rfl]
      obtain ⟨q, hq, hq2⟩ := KM.there l o hk hg i k hi (by omega) ha
      exact l3_is l o ho i k (d * (o.length + 3) + 1 + B) (by omega) (fun K2 hK2 => by rw [hw]; exact ih K2 hK2) i K 0 false (by omega) (by omega) (Or.inr ⟨q, Nat.zero_le _, hq, hq2⟩)
theorem l1_is (l : List S36) (o : List Int) (hl : l.length < 4398046511104) (ho : o.length < 17592186044416) (hk : keepsB l o = true) (hg : ∀ m : Nat, m < l.length → ¬ (0 ≤ (rd_T36 l (m : Int)).f3 ∧ (rd_T36 l (m : Int)).f3 < (rd_T36 l (m : Int)).f2)) : ∀ (d K i : Nat), i + d = o.length → d * (l.length * (o.length + 3) + 2) + 1 ≤ K →
    shutterlaw05_HistBeginnings.l1 K l o (i : Int) = some true
  | 0, K, i, h, hK => by
    obtain ⟨K, rfl⟩ : ∃ m, K = m + 1 := ⟨K - 1, by omega⟩
    simp only [shutterlaw05_HistBeginnings.l1]
    rw [if_neg (by omega), live_true]
    rfl
  | d + 1, K, i, h, hK => by
    rw [Nat.succ_mul] at hK
    obtain ⟨K, rfl⟩ : ∃ m, K = m + 1 := ⟨K - 1, by omega⟩
    have hw : RowKit.wrap64 ((i : Int) + 1) = ((i + 1 : Nat) : Int) := by unfold RowKit.wrap64; omega
    simp only [shutterlaw05_HistBeginnings.l1]
    rw [if_pos (by omega)]
    exact l2_is l o hl ho hk hg i (d * (l.length * (o.length + 3) + 2) + 1) (by omega) (fun K2 hK2 => by rw [hw]; exact l1_is l o hl ho hk hg d K2 (i + 1) (by omega) hK2) l.length K 0 (by omega) (by omega)
theorem l0_is (l : List S36) (o : List Int) (hl : l.length < 4398046511104) (ho : o.length < 17592186044416) (hk : keepsB l o = true) : ∀ (d K i : Nat), i + d = l.length → (∀ m : Nat, m < i → ¬ (0 ≤ (rd_T36 l (m : Int)).f3 ∧ (rd_T36 l (m : Int)).f3 < (rd_T36 l (m : Int)).f2)) → d + (o.length * (l.length * (o.length + 3) + 2) + 1) + 1 ≤ K →
    shutterlaw05_HistBeginnings.l0 K l o (i : Int) = some true
  | 0, K, i, h, hg, hK => by
    obtain ⟨K, rfl⟩ : ∃ m, K = m + 1 := ⟨K - 1, by omega⟩
    simp only [shutterlaw05_HistBeginnings.l0]
    rw [if_neg (by omega)]
    exact l1_is l o hl ho hk (fun m hm => hg m (by omega)) o.length K 0 (by omega) (by omega)
  | d + 1, K, i, h, hg, hK => by
    obtain ⟨K, rfl⟩ : ∃ m, K = m + 1 := ⟨K - 1, by omega⟩
    have hw : RowKit.wrap64 ((i : Int) + 1) = ((i + 1 : Nat) : Int) := by unfold RowKit.wrap64; omega
    have ih := fun hx => l0_is l o hl ho hk d K (i + 1) (by omega) hx (by omega)
    simp only [shutterlaw05_HistBeginnings.l0]
    rw [if_pos (by omega), if_pos (by omega), hw]
    by_cases h1 : (rd_T36 l (i : Int)).f3 ≥ 0
    · rw [if_pos h1]
      by_cases h2 : (rd_T36 l (i : Int)).f3 < (rd_T36 l (i : Int)).f2
      · rw [if_pos h2, live_true]
        rfl
      · rw [if_neg h2]
        refine ih fun m hm => ?_
        rcases Nat.lt_or_ge m i with h3 | h3
        · exact hg m h3
        · obtain rfl : m = i := by omega
          rintro ⟨_, h5⟩
          exact h2 h5
    · rw [if_neg h1]
      refine ih fun m hm => ?_
      rcases Nat.lt_or_ge m i with h3 | h3
      · exact hg m h3
      · obtain rfl : m = i := by omega
        rintro ⟨h5, _⟩
        exact h1 h5
theorem f_is (l : List S36) (o : List Int) (hl : l.length < 4398046511104) (ho : o.length < 17592186044416) : ∃ K, shutterlaw05_HistBeginnings.f K l o = some true := by
  refine ⟨l.length + (o.length * (l.length * (o.length + 3) + 2) + 1) + 1 + (o.length * (o.length + 4) + (l.length + o.length + 4)), ?_⟩
  unfold shutterlaw05_HistBeginnings.f hist_Keeps.f
  rw [if_pos ⟨hl, ho⟩]
  simp only [Option.bind_some]
  cases hk : keepsB l o with
  | true =>
    rw [if_pos rfl]
    exact l0_is l o hl ho hk l.length _ 0 (by omega) (fun m hm => by omega) (by omega)
  | false =>
    rw [if_neg (by simp), live_true]
    simp only [Option.bind_some]
    rw [if_pos trivial, KM.ref l o hl ho _ (by omega), hk]
    rfl
theorem walk (A0 : Option Addr) (c0 : Nat) (l0 : List S36) (A1 : Option Addr) (c1 : Nat) (l1 : List Int) (w : World) (hr0 : Kd.C k36 w A0 l0.length l0) (hc0 : l0.length ≤ c0) (hr1 : Kd.C (Kd.int .i64) w A1 l1.length l1) (hc1 : l1.length ≤ c1) (hl0 : l0.length < 4398046511104) (hl1 : l1.length < 17592186044416) :
    Calls Try.prog 7 #[.slice A0 l0.length c0, .slice A1 l1.length c1] w fun e w' => e = .returned (.bool true) ∧ Below w.heap.size w w' := by
  obtain ⟨K, hK⟩ := f_is l0 l1 hl0 hl1
  exact shutterlaw05_HistBeginnings.calls K A0 c0 l0 A1 c1 l1 true w hr0 hc0 hr1 hc1 hK
theorem own : ownKnob Try.prog.godebug = none := by kernel_rfl
set_option maxRecDepth 100000 in
theorem lifted (os : Os) (started : os.Started) (H : Type) (enc : TypeId × Value → H) :
    ReturnsInHanded {} Try.checked os 7 .any (Rows.histBeginningsSpec.pre6 enc Try.prog Try.f7 Rows.histBeginningsRow.domain false) (Rows.histBeginningsSpec.post enc Try.prog Try.f7 false true false false) := by
  refine returnsInHanded_of_change_sized (C := Try.checked) own started (by kernel_rfl) Try.func7
    (ChangeSpec.witness6 (enc := enc) (C := Try.checked) false ⟨#[], #[.slice none 0 0, .slice none 0 0], []⟩ 8 (by kernel_rfl) (by kernel_rfl) (by kernel_rfl) (by kernel_rfl)) ?_
  intro W base args ds gs before hval0 hW hcnd hsz0 _
  have hsz : (DataW.weightsEach Try.prog (Try.f7.params.toList ++ Rows.histBeginningsSpec.plain.varTypes Try.prog) (ds ++ gs)).all (· ≤ reachBytes) = true := hsz0
  have hval : ∀ (j : Nat) t v, Try.f7.params[j]? = some t → args[j]? = some v → Value.okWide Try.prog W .any base t v := hval0
  have hW' := hW
  obtain ⟨p, q, hA0, hV, rfl, hfz, hnd⟩ := hW
  have hA : DataW.TrodAll enc Try.prog W 0 (fun _ => true) true Try.f7.params.toList args.toList ds p := hA0
  rw [Try.params7] at hA hval hsz
  obtain ⟨v0, vs0, d0, ds0, p0, q0, hargs, rfl, rfl, h0, r0⟩ := trodAll_cons hA
  obtain ⟨v1, vs1, d1, ds1, p1, q1, rfl, rfl, rfl, h1, r1⟩ := trodAll_cons r0
  obtain ⟨rfl, rfl, rfl⟩ := trodAll_nil r1
  obtain rfl : args = #[v0, v1] := by cases args; simp_all
  obtain ⟨rfl, rfl⟩ := trodVars_none hV
  have lt0 : ∀ x ∈ p0, x.block < W.heap.size := by obtain ⟨m, hm⟩ := h0; exact DataW.trod_lt m _ _ _ hm
  obtain ⟨A0, cap0, l0, rfl, hcap0, hC0, hok0, hby0⟩ := OR.open_rows (j := 0) Try.underlying23 OR.cells36 OR.bytes36 (hval 0 23 v0 rfl rfl) OR.dec36 hsz rfl rfl h0
  have lt1 : ∀ x ∈ p1, x.block < W.heap.size := by obtain ⟨m, hm⟩ := h1; exact DataW.trod_lt m _ _ _ hm
  obtain ⟨A1, cap1, l1, rfl, hcap1, hC1, hok1, hby1⟩ := OR.open_rows (j := 1) Try.underlying41 OR.cells3 OR.bytes3 (hval 1 41 v1 rfl rfl) (OR.dec_int Try.underlying3) hsz rfl rfl h1
  clear hA0 hval0 hsz0 hsz
  refine (walk A0 cap0 l0 A1 cap1 l1 W hC0 hcap0 hC1 hcap1 (by omega) (by omega)).mono fun e W' ⟨he, bel⟩ => ?_
  subst he
  exact ⟨_, rfl, _, _, _, [], _, [], hW', trodAll_mk1 (shut_bool Try.underlying4 _), (trodAll_cons_mk (Below.trod OR.laidOut (by kernel_rfl) (of_decide_eq_true (by kernel_rfl)) h0 bel lt0) (trodAll_cons_mk (Below.trod OR.laidOut (by kernel_rfl) (of_decide_eq_true (by kernel_rfl)) h1 bel lt1) trodAll_mk0)), rfl, bel.frame _, fun h => by cases h⟩
theorem over : Rows.histBeginningsRow.holds Try.pinned (OpenSpec.ofChange Rows.histBeginningsSpec) :=
  OpenClaim.holds_of_wide 7 Try.f7 rfl rfl rfl rfl rfl rfl rfl ⟨rfl, rfl, rfl, rfl, rfl⟩ rfl rfl rfl rfl rfl (by kernel_rfl) Try.func7 (by kernel_rfl)
    (of_decide_eq_true (by kernel_rfl)) (by unfold Func.isWrapper; first | (rw [if_pos (by decide +kernel)]; kernel_rfl) | (rw [if_neg (by decide +kernel)]; exact ⟨rfl, rfl⟩))
    (fun os started H enc _ => lifted os started H enc)
end Go.Proofs.Ytfmhdfgliamkkaa.histBeginnings
namespace Go.Proofs.Ytfmhdfgliamkkaa
theorem histBeginnings_holds : Rows.HistBeginningsSaid := histBeginnings.over
end Go.Proofs.Ytfmhdfgliamkkaa
