/- For every two slots and two handles WordUnlike answers true, and its arguments read as they did. No condition. -/
import Derived.Test.YtkiofmbecjfanaaRows
import Derived.Test.YtkiofmbecjfanaaUnlikeWalk
import Derived.Test.YtkiofmbecjfanaaSlotMath
import Derived.Test.YtkiofmbecjfanaaWordMath
import Derived.WalkKit
import Derived.ProofKit
import Derived.OpenShut
import Derived.ShutString
import Derived.ChangeOld
import Derived.Below
import Derived.SizedLaws
import Derived.Lib.SmallJoins
import Derived.Lib.Hide
namespace Go.Proofs.Ytkiofmbecjfanaa.Math
open Go.RowKit
set_option linter.unusedVariables false
theorem pack_inj (k0 g0 s0 k1 g1 s1 : Int) (h0 : 0 ≤ k0) (h1 : 0 ≤ g0) (h2 : 0 ≤ s0) (h3 : 0 ≤ k1) (h4 : 0 ≤ g1) (h5 : 0 ≤ s1) : ∃ a e b f, pack k0 g0 s0 = (a, e) ∧ pack k1 g1 s1 = (b, f) ∧
    (e ≠ 0 ∨ (e = 0 ∧ f ≠ 0) ∨ (e = 0 ∧ f = 0 ∧ a = b ∧ k0 = k1 ∧ g0 = g1 ∧ s0 = s1) ∨ (e = 0 ∧ f = 0 ∧ a ≠ b ∧ ¬ (k0 = k1 ∧ g0 = g1 ∧ s0 = s1))) := by
  unfold pack
  by_cases c : k0 > 3 ∨ g0 ≥ 1048576 ∨ s0 > 1099511627776
  · rw [if_pos c]; exact ⟨_, _, _, _, rfl, rfl, .inl (by omega)⟩
  rw [if_neg c]
  by_cases d : k1 > 3 ∨ g1 ≥ 1048576 ∨ s1 > 1099511627776
  · rw [if_pos d]; exact ⟨_, _, _, _, rfl, rfl, .inr (.inl ⟨rfl, by omega⟩)⟩
  rw [if_neg d]
  by_cases q : k0 = k1 ∧ g0 = g1 ∧ s0 = s1
  · obtain ⟨rfl, rfl, rfl⟩ := q
    exact ⟨_, _, _, _, rfl, rfl, .inr (.inr (.inl ⟨rfl, rfl, rfl, rfl, rfl, rfl⟩))⟩
  · exact ⟨_, _, _, _, rfl, rfl, .inr (.inr (.inr ⟨rfl, rfl, by omega, q⟩))⟩
theorem unhandle_inj (x y : Int) (h0 : 0 ≤ x) (h1 : 0 ≤ y) : ∃ u1 u2 u3 v1 v2 v3, unhandle x = (u1, u2, u3) ∧ unhandle y = (v1, v2, v3) ∧
    (u3 ≠ 0 ∨ (u3 = 0 ∧ v3 ≠ 0) ∨ (u3 = 0 ∧ v3 = 0 ∧ u1 ≠ v1 ∧ x ≠ y) ∨ (u3 = 0 ∧ v3 = 0 ∧ u1 = v1 ∧ u2 ≠ v2 ∧ x ≠ y) ∨ (u3 = 0 ∧ v3 = 0 ∧ u1 = v1 ∧ u2 = v2 ∧ x = y)) := by
  unfold unhandle
  by_cases c : x % 65536 < 1 ∨ x % 65536 > 256 ∨ x / 65536 ≥ 1048576
  · rw [if_pos c]; exact ⟨_, _, _, _, _, _, rfl, rfl, .inl (by omega)⟩
  rw [if_neg c]
  by_cases d : y % 65536 < 1 ∨ y % 65536 > 256 ∨ y / 65536 ≥ 1048576
  · rw [if_pos d]; exact ⟨_, _, _, _, _, _, rfl, rfl, .inr (.inl ⟨rfl, by omega⟩)⟩
  rw [if_neg d]
  by_cases q : x % 65536 = y % 65536
  · by_cases r : x / 65536 = y / 65536
    · exact ⟨_, _, _, _, _, _, rfl, rfl, .inr (.inr (.inr (.inr ⟨rfl, rfl, by omega, by omega, by omega⟩)))⟩
    · exact ⟨_, _, _, _, _, _, rfl, rfl, .inr (.inr (.inr (.inl ⟨rfl, rfl, by omega, by omega, by omega⟩)))⟩
  · exact ⟨_, _, _, _, _, _, rfl, rfl, .inr (.inr (.inl ⟨rfl, rfl, by omega, by omega⟩))⟩
end Go.Proofs.Ytkiofmbecjfanaa.Math
namespace Go.Proofs.Ytkiofmbecjfanaa.wordUnlike
open Go.ChangeShapes Go.WideShapes Go.ChangeAt Go.RowKit Go.Joins
set_option linter.unusedVariables false
theorem walk (k0 g0 s0 k1 g1 s1 x y : Int) (w : World) (h0 : 0 ≤ k0) (h1 : 0 ≤ g0) (h2 : 0 ≤ s0) (h3 : 0 ≤ k1) (h4 : 0 ≤ g1) (h5 : 0 ≤ s1) (x0 : 0 ≤ x) (x1 : x < 18446744073709551616) (y0 : 0 ≤ y) (y1 : y < 18446744073709551616) :
    Calls Try.prog 6 #[.agg #[.int .u8 k0, .int .u64 g0, .int .u64 s0], .agg #[.int .u8 k1, .int .u64 g1, .int .u64 s1], .agg #[.int .u64 x, .int .u64 y]] w fun e w' => e = .returned (.bool true) ∧ Below w.heap.size w w' := by
  obtain ⟨a, e, b, f, hp, hq, hc⟩ := Math.pack_inj k0 g0 s0 k1 g1 s1 h0 h1 h2 h3 h4 h5
  obtain ⟨u1, u2, u3, v1, v2, v3, hu, hv, hd⟩ := Math.unhandle_inj x y x0 y0
  have Hp : Hid (PWordSlots.word_Pack.f k0 g0 s0 = some (a, e)) := by rw [← hp]; exact Math.pack_p h0 h1 h2
  have Hq : Hid (PWordSlots.word_Pack.f k1 g1 s1 = some (b, f)) := by rw [← hq]; exact Math.pack_p h3 h4 h5
  have Hu : Hid (PWordHandles.word_Unhandle.f x = some (u1, u2, u3)) := by rw [← hu]; exact Math.unhandle_p x0 x1
  have Hv : Hid (PWordHandles.word_Unhandle.f y = some (v1, v2, v3)) := by rw [← hv]; exact Math.unhandle_p y0 y1
  have Hz : Hid (PWordHandles.word_Unhandle.f 0 = some (0, 0, 33)) := Math.unhandle_p (by omega) (by omega)
  have Hl : Hid (PWordHandles.shutterlaw01_live.f 2 = some true) := Math.live_true' 0
  clear hp hq hu hv
  have ne : ∀ {p q : Int}, p ≠ q → (p == q) = false := fun h => beq_eq_false_iff_ne.2 h
  have nb : ∀ {p q : Int}, p ≠ q → (p != q) = true := fun h => bne_iff_ne.2 h
  have st : ¬ (k0 = k1 ∧ g0 = g1 ∧ s0 = s1) → (k0 == k1 && (g0 == g1 && s0 == s1)) = false := fun h => by
    rw [Bool.eq_false_iff]
    intro he
    simp at he
    exact h he
  rcases hc with hc | ⟨rfl, hc⟩ | ⟨rfl, rfl, rfl, rfl, rfl, rfl⟩ | ⟨rfl, rfl, hc1, hc2⟩
  · rcases hd with hd | ⟨rfl, hd⟩ | ⟨rfl, rfl, hd1, hd2⟩ | ⟨rfl, rfl, rfl, hd1, hd2⟩ | ⟨rfl, rfl, rfl, rfl, rfl⟩
    · exact walk_a1 _ _ _ _ _ _ _ _ _ _ _ _ _ _ _ _ _ _ _ _ w Hp Hq Hu Hv Hz Hl (ne hc) (nb hd)
    · exact walk_a2 _ _ _ _ _ _ _ _ _ _ _ _ _ _ _ _ _ _ _ _ w Hp Hq Hu Hv Hz Hl (ne hc) rfl (nb hd)
    · exact walk_a3 _ _ _ _ _ _ _ _ _ _ _ _ _ _ _ _ _ _ _ _ w Hp Hq Hu Hv Hz Hl (ne hc) rfl rfl (ne hd1) (ne hd2)
    · exact walk_a4 _ _ _ _ _ _ _ _ _ _ _ _ _ _ _ _ _ _ _ _ w Hp Hq Hu Hv Hz Hl (ne hc) rfl rfl (beq_self_eq_true _) (ne hd1) (ne hd2)
    · exact walk_a5 _ _ _ _ _ _ _ _ _ _ _ _ _ _ _ _ _ _ _ _ w Hp Hq Hu Hv Hz Hl (ne hc) rfl rfl (beq_self_eq_true _) (beq_self_eq_true _) (beq_self_eq_true _)
  · rcases hd with hd | ⟨rfl, hd⟩ | ⟨rfl, rfl, hd1, hd2⟩ | ⟨rfl, rfl, rfl, hd1, hd2⟩ | ⟨rfl, rfl, rfl, rfl, rfl⟩
    · exact walk_b1 _ _ _ _ _ _ _ _ _ _ _ _ _ _ _ _ _ _ _ _ w Hp Hq Hu Hv Hz Hl rfl (ne hc) (nb hd)
    · exact walk_b2 _ _ _ _ _ _ _ _ _ _ _ _ _ _ _ _ _ _ _ _ w Hp Hq Hu Hv Hz Hl rfl (ne hc) rfl (nb hd)
    · exact walk_b3 _ _ _ _ _ _ _ _ _ _ _ _ _ _ _ _ _ _ _ _ w Hp Hq Hu Hv Hz Hl rfl (ne hc) rfl rfl (ne hd1) (ne hd2)
    · exact walk_b4 _ _ _ _ _ _ _ _ _ _ _ _ _ _ _ _ _ _ _ _ w Hp Hq Hu Hv Hz Hl rfl (ne hc) rfl rfl (beq_self_eq_true _) (ne hd1) (ne hd2)
    · exact walk_b5 _ _ _ _ _ _ _ _ _ _ _ _ _ _ _ _ _ _ _ _ w Hp Hq Hu Hv Hz Hl rfl (ne hc) rfl rfl (beq_self_eq_true _) (beq_self_eq_true _) (beq_self_eq_true _)
  · rcases hd with hd | ⟨rfl, hd⟩ | ⟨rfl, rfl, hd1, hd2⟩ | ⟨rfl, rfl, rfl, hd1, hd2⟩ | ⟨rfl, rfl, rfl, rfl, rfl⟩
    · exact walk_c1 _ _ _ _ _ _ _ _ _ _ _ _ _ _ _ _ _ _ _ _ w Hp Hq Hu Hv Hz Hl rfl rfl (beq_self_eq_true _) (beq_self_eq_true _) (beq_self_eq_true _) (beq_self_eq_true _) (nb hd)
    · exact walk_c2 _ _ _ _ _ _ _ _ _ _ _ _ _ _ _ _ _ _ _ _ w Hp Hq Hu Hv Hz Hl rfl rfl (beq_self_eq_true _) (beq_self_eq_true _) (beq_self_eq_true _) (beq_self_eq_true _) rfl (nb hd)
    · exact walk_c3 _ _ _ _ _ _ _ _ _ _ _ _ _ _ _ _ _ _ _ _ w Hp Hq Hu Hv Hz Hl rfl rfl (beq_self_eq_true _) (beq_self_eq_true _) (beq_self_eq_true _) (beq_self_eq_true _) rfl rfl (ne hd1) (ne hd2)
    · exact walk_c4 _ _ _ _ _ _ _ _ _ _ _ _ _ _ _ _ _ _ _ _ w Hp Hq Hu Hv Hz Hl rfl rfl (beq_self_eq_true _) (beq_self_eq_true _) (beq_self_eq_true _) (beq_self_eq_true _) rfl rfl (beq_self_eq_true _) (ne hd1) (ne hd2)
    · exact walk_c5 _ _ _ _ _ _ _ _ _ _ _ _ _ _ _ _ _ _ _ _ w Hp Hq Hu Hv Hz Hl rfl rfl (beq_self_eq_true _) (beq_self_eq_true _) (beq_self_eq_true _) (beq_self_eq_true _) rfl rfl (beq_self_eq_true _) (beq_self_eq_true _) (beq_self_eq_true _)
  · rcases hd with hd | ⟨rfl, hd⟩ | ⟨rfl, rfl, hd1, hd2⟩ | ⟨rfl, rfl, rfl, hd1, hd2⟩ | ⟨rfl, rfl, rfl, rfl, rfl⟩
    · exact walk_d1 _ _ _ _ _ _ _ _ _ _ _ _ _ _ _ _ _ _ _ _ w Hp Hq Hu Hv Hz Hl rfl rfl (ne hc1) (st hc2) (nb hd)
    · exact walk_d2 _ _ _ _ _ _ _ _ _ _ _ _ _ _ _ _ _ _ _ _ w Hp Hq Hu Hv Hz Hl rfl rfl (ne hc1) (st hc2) rfl (nb hd)
    · exact walk_d3 _ _ _ _ _ _ _ _ _ _ _ _ _ _ _ _ _ _ _ _ w Hp Hq Hu Hv Hz Hl rfl rfl (ne hc1) (st hc2) rfl rfl (ne hd1) (ne hd2)
    · exact walk_d4 _ _ _ _ _ _ _ _ _ _ _ _ _ _ _ _ _ _ _ _ w Hp Hq Hu Hv Hz Hl rfl rfl (ne hc1) (st hc2) rfl rfl (beq_self_eq_true _) (ne hd1) (ne hd2)
    · exact walk_d5 _ _ _ _ _ _ _ _ _ _ _ _ _ _ _ _ _ _ _ _ w Hp Hq Hu Hv Hz Hl rfl rfl (ne hc1) (st hc2) rfl rfl (beq_self_eq_true _) (beq_self_eq_true _) (beq_self_eq_true _)
theorem own : ownKnob Try.prog.godebug = none := by kernel_rfl
theorem cells23 : Try.prog.cellsOf 23 = 1 := by kernel_rfl
theorem cells33 : Try.prog.cellsOf 33 = 3 := by kernel_rfl
theorem cells41 : Try.prog.cellsOf 41 = 2 := by kernel_rfl
theorem int_mk {H : Type} {enc : TypeId × Value → H} {P : Program} {w : World} {base : Nat} {spare : Nat → Bool} {held : Bool} {t : TypeId} {k : IntKind} {x : Int}
    (hu : P.underlying t = some (.int k)) (wx : (Lit.int k x).wf = true) : ∃ n, DataW.trod enc P w base spare held n t [.int k x] = some (.lit (.int k x), []) :=
  ⟨1, by simp [DataW.trod, hu, wx]⟩
theorem open_arr2 {H : Type} {enc : TypeId × Value → H} {P : Program} {w : World} {base : Nat} {spare : Nat → Bool} {held : Bool} {r : Reach} {b0 : Nat} {t e : TypeId} {k : IntKind} {v : Value} {d : DataW H} {p : List MemPlace} (ht : P.underlying t = some (.array 2 e)) (he : P.underlying e = some (.int k)) (hC : P.cellsOf t = 2) (hE : P.cellsOf e = 1)
    (hv : Value.okWide P w r b0 t v) (h : DataW.Trod enc P w base spare held t v d p) : ∃ x y : Int, v = .agg #[.int k x, .int k y] ∧ d = .agg [.lit (.int k x), .lit (.int k y)] ∧ p = [] ∧ (Lit.int k x).wf = true ∧ (Lit.int k y).wf = true := by
  have hag : ∃ cs, v = .agg cs ∧ cs.size = P.cellsOf t := by
    simp only [Value.okWide, ht] at hv
    obtain ⟨cs, h1, h2, _⟩ := hv
    exact ⟨cs, h1, h2⟩
  obtain ⟨cs, rfl, hsz⟩ := hag
  rw [hC] at hsz
  obtain ⟨l⟩ := cs
  match l, hsz with
  | [c0, c1], _ =>
    obtain ⟨fuel, hf⟩ := h
    obtain ⟨xs, m, _, hx, _, hlen, hg⟩ := DataW.trod_array ht hf
    match xs, hlen with
    | [y0, y1], _ =>
      simp only [Prod.mk.injEq] at hx
      have g0 := hg 0 (by omega)
      have g1 := hg 1 (by omega)
      rw [hE] at g0 g1
      simp [Value.cells] at g0 g1
      obtain ⟨a, e0, rfl, wa⟩ := DataW.trod_int he g0
      obtain ⟨b, e1, rfl, wb⟩ := DataW.trod_int he g1
      simp only [List.cons.injEq, and_true] at e0 e1
      subst e0 e1
      exact ⟨a, b, rfl, by simpa using hx.1, by simpa using hx.2, wa, wb⟩
theorem shut_arr2 {H : Type} {enc : TypeId × Value → H} {P : Program} {w : World} {base : Nat} {spare : Nat → Bool} {held : Bool} {t e : TypeId} {k : IntKind} {x y : Int} (ht : P.underlying t = some (.array 2 e)) (he : P.underlying e = some (.int k)) (hC : P.cellsOf t = 2) (hE : P.cellsOf e = 1)
    (wx : (Lit.int k x).wf = true) (wy : (Lit.int k y).wf = true) : DataW.Trod enc P w base spare held t (.agg #[.int k x, .int k y]) (.agg [.lit (.int k x), .lit (.int k y)]) [] :=
  ⟨2, by simp [DataW.trod, ht, he, hC, hE, wx, wy, Value.cells, List.range_succ]⟩
set_option maxRecDepth 100000 in
theorem lifted (os : Os) (started : os.Started) (H : Type) (enc : TypeId × Value → H) :
    ReturnsInHanded {} Try.checked os 6 .any (Rows.wordUnlikeSpec.pre6 enc Try.prog Try.f6 Rows.wordUnlikeRow.domain false) (Rows.wordUnlikeSpec.post enc Try.prog Try.f6 false true false false) := by
  refine returnsInHanded_of_change_sized (C := Try.checked) own started (by kernel_rfl) Try.func6
    (ChangeSpec.witness6 (enc := enc) (C := Try.checked) false ⟨#[], #[.agg #[.int .u8 0, .int .u64 0, .int .u64 0], .agg #[.int .u8 0, .int .u64 0, .int .u64 0], .agg #[.int .u64 0, .int .u64 0]], []⟩ 8 (by kernel_rfl) (by kernel_rfl) (by kernel_rfl) (by kernel_rfl)) ?_
  intro W base args ds gs before hval0 hW hcnd _ _
  have hval : ∀ (j : Nat) t v, Try.f6.params[j]? = some t → args[j]? = some v → Value.okWide Try.prog W .any base t v := hval0
  have hW' := hW
  obtain ⟨p, q, hA0, hV, rfl, hfz, hnd⟩ := hW
  have hA : DataW.TrodAll enc Try.prog W 0 (fun _ => true) true Try.f6.params.toList args.toList ds p := hA0
  rw [Try.params6] at hA hval
  obtain ⟨v0, vs0, d0, ds0, p0, q0, hargs, rfl, rfl, h0, r0⟩ := trodAll_cons hA
  obtain ⟨v1, vs1, d1, ds1, p1, q1, rfl, rfl, rfl, h1, r1⟩ := trodAll_cons r0
  obtain ⟨v2, vs2, d2, ds2, p2, q2, rfl, rfl, rfl, h2, r2⟩ := trodAll_cons r1
  obtain ⟨rfl, rfl, rfl⟩ := trodAll_nil r2
  obtain rfl : args = #[v0, v1, v2] := by cases args; simp_all
  obtain ⟨rfl, rfl⟩ := trodVars_none hV
  obtain ⟨c0_0, c0_1, c0_2, y0_0, y0_1, y0_2, m0, rfl, rfl, rfl, hy0_0, hy0_1, hy0_2⟩ := open_agg3 Try.underlying33 (by kernel_rfl) cells33 (hval 0 33 v0 rfl rfl) h0
  obtain ⟨a0_0, e0_0, rfl, w0_0⟩ := DataW.trod_int Try.underlying31 hy0_0
  obtain ⟨a0_1, e0_1, rfl, w0_1⟩ := DataW.trod_int Try.underlying23 hy0_1
  obtain ⟨a0_2, e0_2, rfl, w0_2⟩ := DataW.trod_int Try.underlying23 hy0_2
  simp only [List.cons.injEq, and_true] at e0_0 e0_1 e0_2
  subst e0_0 e0_1 e0_2
  obtain ⟨lo0_0, hi0_0⟩ := bounds_u8 w0_0
  obtain ⟨lo0_1, hi0_1⟩ := bounds_u64 w0_1
  obtain ⟨lo0_2, hi0_2⟩ := bounds_u64 w0_2
  obtain ⟨c1_0, c1_1, c1_2, y1_0, y1_1, y1_2, m1, rfl, rfl, rfl, hy1_0, hy1_1, hy1_2⟩ := open_agg3 Try.underlying33 (by kernel_rfl) cells33 (hval 1 33 v1 rfl rfl) h1
  obtain ⟨a1_0, e1_0, rfl, w1_0⟩ := DataW.trod_int Try.underlying31 hy1_0
  obtain ⟨a1_1, e1_1, rfl, w1_1⟩ := DataW.trod_int Try.underlying23 hy1_1
  obtain ⟨a1_2, e1_2, rfl, w1_2⟩ := DataW.trod_int Try.underlying23 hy1_2
  simp only [List.cons.injEq, and_true] at e1_0 e1_1 e1_2
  subst e1_0 e1_1 e1_2
  obtain ⟨lo1_0, hi1_0⟩ := bounds_u8 w1_0
  obtain ⟨lo1_1, hi1_1⟩ := bounds_u64 w1_1
  obtain ⟨lo1_2, hi1_2⟩ := bounds_u64 w1_2
  obtain ⟨a2_0, a2_1, rfl, rfl, rfl, w2_0, w2_1⟩ := open_arr2 Try.underlying41 Try.underlying23 cells41 cells23 (hval 2 41 v2 rfl rfl) h2
  obtain ⟨lo2_0, hi2_0⟩ := bounds_u64 w2_0
  obtain ⟨lo2_1, hi2_1⟩ := bounds_u64 w2_1
  clear hA0 hval0
  refine (walk a0_0 a0_1 a0_2 a1_0 a1_1 a1_2 a2_0 a2_1 W (by omega) (by omega) (by omega) (by omega) (by omega) (by omega) (by omega) (by omega) (by omega) (by omega)).mono fun e W' ⟨he, bel⟩ => ?_
  subst he
  exact ⟨_, rfl, _, _, _, [], _, [], hW', trodAll_mk1 (shut_bool Try.underlying4 _), (trodAll_cons_mk (shut_agg3 (y0 := (.lit (.int .u8 a0_0), [])) (y1 := (.lit (.int .u64 a0_1), [])) (y2 := (.lit (.int .u64 a0_2), [])) Try.underlying33 (by kernel_rfl) cells33 (int_mk Try.underlying31 w0_0) (int_mk Try.underlying23 w0_1) (int_mk Try.underlying23 w0_2)) (trodAll_cons_mk (shut_agg3 (y0 := (.lit (.int .u8 a1_0), [])) (y1 := (.lit (.int .u64 a1_1), [])) (y2 := (.lit (.int .u64 a1_2), [])) Try.underlying33 (by kernel_rfl) cells33 (int_mk Try.underlying31 w1_0) (int_mk Try.underlying23 w1_1) (int_mk Try.underlying23 w1_2)) (trodAll_cons_mk (shut_arr2 Try.underlying41 Try.underlying23 cells41 cells23 w2_0 w2_1) trodAll_mk0))), rfl, bel.frame _, fun h => by cases h⟩
theorem over : Rows.wordUnlikeRow.holds Try.pinned (OpenSpec.ofChange Rows.wordUnlikeSpec) :=
  OpenClaim.holds_of_wide 6 Try.f6 rfl rfl rfl rfl rfl rfl rfl ⟨rfl, rfl, rfl, rfl, rfl⟩ rfl rfl rfl rfl rfl (by kernel_rfl) Try.func6 (by kernel_rfl)
    (of_decide_eq_true (by kernel_rfl)) (by unfold Func.isWrapper; first | (rw [if_pos (by decide +kernel)]; kernel_rfl) | (rw [if_neg (by decide +kernel)]; exact ⟨rfl, rfl⟩))
    (fun os started H enc _ => lifted os started H enc)
end Go.Proofs.Ytkiofmbecjfanaa.wordUnlike
namespace Go.Proofs.Ytkiofmbecjfanaa
theorem wordUnlike_holds : Rows.WordUnlikeSaid := wordUnlike.over
end Go.Proofs.Ytkiofmbecjfanaa
