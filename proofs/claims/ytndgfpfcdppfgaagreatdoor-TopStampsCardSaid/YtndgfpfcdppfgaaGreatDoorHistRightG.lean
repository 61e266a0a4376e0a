/- hist.Right, called with any spans, tells what 'hist_Right.f' says. -/
import Derived.Test.YtndgfpfcdppfgaaGreatDoorHistSpec
import Derived.Test.YtndgfpfcdppfgaaGreatDoorMapFun
import Derived.Lib.Hide
import Derived.Outline
import Derived.BigFrameIn
import Derived.BigQuiet
import Derived.OpenShut
namespace Go.Proofs.YtndgfpfcdppfgaaGreatDoor.Own
open Go.RowKit Go.Proofs.YtndgfpfcdppfgaaGreatDoorW.PrintWords Go.Proofs.YtndgfpfcdppfgaaGreatDoorW.PrintLast Go.Proofs.YtndgfpfcdppfgaaGreatDoorW.PrintMore Go.Proofs.YtndgfpfcdppfgaaGreatDoor.MF
set_option linter.unusedVariables false
set_option linter.unusedSimpArgs false
namespace HR
theorem zero3 (w : World) : (zeroValue 3).run Tryz.prog w = .ok (.int .i64 0) w := by kernel_rfl
theorem zero36 (w : World) : (zeroValue 49).run Tryz.prog w = .ok (.agg #[.int .i64 0, .int .i64 0, .int .i64 0, .int .i64 0]) w := by kernel_rfl
theorem keyed3 : Go.Maps.Keyed Tryz.prog 3 := Go.Maps.int_keyed Tryz.underlying3
theorem fit_wf {n : Int} (h : fit n = true) : (Lit.int .i64 n).wf = true := by
  simp only [fit, Bool.and_eq_true, decide_eq_true_eq] at h
  exact WalkArith.wf_i64 h
theorem key3 {n : Int} (h : fit n = true) : keyOf Tryz.prog 3 (.int .i64 n) = some (.int .i64 n) := Go.Maps.keyOf_int_mk Tryz.underlying3 (fit_wf h)
/-- A span as a value. -/
def v36 (x : S49) : Value := .agg #[.int .i64 x.f0, .int .i64 x.f1, .int .i64 x.f2, .int .i64 x.f3]
def gl (s : RiSt) : Int → Option Value := fun t => (s.last t).map v36
def gb (s : RiSt) : Int → Option Value := fun t => if s.begun t = 0 then none else some (Value.int .i64 (s.begun t))
def gu (u : Int → Option Int) : Int → Option Value := fun t => (u t).map (Value.int .i64)
theorem gb_get (s : RiSt) (t : Int) : (gb s t).getD (.int .i64 0) = .int .i64 (s.begun t) := by
  unfold gb
  by_cases hb : s.begun t = 0
  · simp [hb]
  · simp [hb]
theorem gu_get (u : Int → Option Int) (t : Int) : (gu u t).getD (.int .i64 0) = .int .i64 ((u t).getD 0) := by unfold gu; cases u t <;> rfl
theorem gu_some (u : Int → Option Int) (t : Int) : (gu u t).isSome = (u t).isSome := by unfold gu; cases u t <;> rfl
theorem gl_get (s : RiSt) (t : Int) : (gl s t).getD (.agg #[.int .i64 0, .int .i64 0, .int .i64 0, .int .i64 0]) = .agg #[.int .i64 ((s.last t).getD z49).f0, .int .i64 ((s.last t).getD z49).f1, .int .i64 ((s.last t).getD z49).f2, .int .i64 ((s.last t).getD z49).f3] := by unfold gl; cases s.last t <;> rfl
theorem gl_some (s : RiSt) (t : Int) : (gl s t).isSome = (s.last t).isSome := by unfold gl; cases s.last t <;> rfl

/-- The three maps in memory, behind k spans and m ends of the next one. -/
structure Maps (w wr : World) (k m : Nat) (s : RiSt) (u : Int → Option Int) : Prop where
  last : HasMap wr Tryz.prog 3 (Value.int .i64) w.heap.size k (gl s)
  begun : HasMap wr Tryz.prog 3 (Value.int .i64) (w.heap.size + 1) k (gb s)
  used : HasMap wr Tryz.prog 3 (Value.int .i64) (w.heap.size + 1 + 1) (2 * k + m) (gu u)
  below : Below w.heap.size w wr
structure Rel (w wr : World) (l0 : List S49) (R : Option RiSt) (k : Nat) (s : RiSt) : Prop where
  run : riRun (l0.drop k) s = R
  maps : Maps w wr k 0 s s.used
  begunLe : ∀ t, 0 ≤ s.begun t ∧ s.begun t ≤ k
section
variable {w wr w1 : World} {l0 : List S49} {R : Option RiSt} {k m : Nat} {s : RiSt} {u : Int → Option Int}
theorem Maps.move (h : Maps w wr k m s u) (hb : Below wr.heap.size wr w1) : Maps w w1 k m s u := by
  have hl := h.used.lt
  exact ⟨h.last.below hb (by omega), h.begun.below hb (by omega), h.used.below hb hl, h.below.trans (hb.mono h.below.size)⟩
theorem Maps.start (w : World) : Maps w (((w.alloc (.map #[] 0)).alloc (.map #[] 0)).alloc (.map #[] 0)) 0 0 RiSt.start (fun _ => none) := by
  have e1 : (w.alloc (.map #[] 0)).heap.size = w.heap.size + 1 := by simp
  have e2 : ((w.alloc (.map #[] 0)).alloc (.map #[] 0)).heap.size = w.heap.size + 1 + 1 := by simp
  refine ⟨(((HasMap.made w _ _ _).alloc _).alloc _).congr (fun i => rfl), ?_, ?_, (((Below.refl _ _).alloc (Nat.le_refl _) _).alloc (by simp) _).alloc (by simp; omega) _⟩
  · have h := HasMap.made (w.alloc (.map #[] 0)) Tryz.prog 3 (Value.int .i64)
    rw [e1] at h
    exact (h.alloc _).congr (fun i => rfl)
  · have h := HasMap.made ((w.alloc (.map #[] 0)).alloc (.map #[] 0)) Tryz.prog 3 (Value.int .i64)
    rw [e2] at h
    exact h.congr (fun i => rfl)
end
theorem drop_k {l0 : List S49} {k : Nat} (h : k < l0.length) : l0.drop k = l0[k] :: l0.drop (k + 1) := List.drop_eq_getElem_cons h
theorem rd_k {l0 : List S49} {k : Nat} {e : S49} (h : k < l0.length) (he : e = rd_T49 l0 (k : Int)) : l0[k] = e := by
  rw [he]; unfold rd_T49
  rw [List.getD_eq_getElem?_getD, Int.toNat_natCast, List.getElem?_eq_getElem h]; rfl
theorem below0 (w : World) (n : Nat) : Below w.heap.size w (w.drewN n) := pw_below_drewN (Below.refl _ _) n
/-- What is left to be done behind j of a span's two ends. -/
def rem (rest : List S49) (s : RiSt) (e : S49) : Nat → (Int → Option Int) → Option RiSt
  | 0, u => if useBad u e.f0 e.f2 = true then none else if useBad (useUp u e.f0 e.f2) e.f0 e.f3 = true then none else riRun rest (s.up e (useUp (useUp u e.f0 e.f2) e.f0 e.f3))
  | 1, u => if useBad u e.f0 e.f3 = true then none else riRun rest (s.up e (useUp u e.f0 e.f3))
  | _, u => riRun rest (s.up e u)
structure In (w wr : World) (k j : Nat) (s : RiSt) (u : Int → Option Int) (b1 b3 : Nat) (e : S49) (rest : List S49) (R : Option RiSt) : Prop where
  maps : Maps w wr k j s u
  blk1 : wr.heap[b1]? = some (.cells #[.int .i64 e.f0, .int .i64 e.f1, .int .i64 e.f2, .int .i64 e.f3] 49 (0, 0))
  blk3 : wr.heap[b3]? = some (.cells #[.int .i64 e.f2, .int .i64 e.f3] 3 (0, 0))
  run : R = rem rest s e j u
theorem In.step {w wr wb : World} {k j : Nat} {s : RiSt} {u : Int → Option Int} {b1 b3 : Nat} {e : S49} {rest : List S49} {R : Option RiSt} {x : Int} (h : In w wr k j s u b1 b3 e rest R) (hg : wr.grownBy wb (some (w.heap.size + 1 + 1))) (h1 : b1 ≠ w.heap.size + 1 + 1) (h3 : b3 ≠ w.heap.size + 1 + 1)
    (hu : HasMap wb Tryz.prog 3 (Value.int .i64) (w.heap.size + 1 + 1) (2 * k + j + 1) (put (gu u) x (.int .i64 e.f0))) (hrun : R = rem rest s e (j + 1) (useUp u e.f0 x)) : In w wb k (j + 1) s (useUp u e.f0 x) b1 b3 e rest R := by
  refine ⟨⟨h.maps.last.kept hg (by simp; omega), h.maps.begun.kept hg (by simp), ?_, h.maps.below.grown hg h.maps.below.size (fun j hj => by cases hj; omega)⟩, blk_grown hg h.blk1 (by simpa using h1), blk_grown hg h.blk3 (by simpa using h3), hrun⟩
  refine (hu.congr (fun y => ?_)).mono (by omega)
  by_cases hy : y = x
  · simp [put, gu, useUp, hy]
  · simp [put, gu, useUp, hy]
theorem In.end_ {w wr : World} {k j : Nat} {s : RiSt} {u : Int → Option Int} {b1 b3 : Nat} {e : S49} {rest : List S49} {R : Option RiSt} (h : In w wr k j s u b1 b3 e rest R) (hj : j < 2) (hf : fit e.f2 = true) (ht : fit e.f3 = true) :
    ∃ x, fit x = true ∧ wr.cell? ⟨b3, j, none⟩ = some (.int .i64 x) ∧ R = (if useBad u e.f0 x = true then none else rem rest s e (j + 1) (useUp u e.f0 x)) := by
  have hc0 : wr.cell? ⟨b3, 0, none⟩ = some (.int .i64 e.f2) := (blk_cell h.blk3 0).trans rfl
  have hc1 : wr.cell? ⟨b3, 1, none⟩ = some (.int .i64 e.f3) := (blk_cell h.blk3 1).trans rfl
  match j, hj with
  | 0, _ => exact ⟨e.f2, hf, hc0, h.run⟩
  | 1, _ => exact ⟨e.f3, ht, hc1, h.run⟩
theorem rel_up {w wb : World} {l0 : List S49} {R : Option RiSt} {k : Nat} {s : RiSt} {e : S49} {u : Int → Option Int} (hle : ∀ t, 0 ≤ s.begun t ∧ s.begun t ≤ k) (hrun : R = rem (l0.drop (k + 1)) s e 2 u)
    (hl : HasMap wb Tryz.prog 3 (Value.int .i64) w.heap.size (k + 1) (put (gl s) e.f0 (.agg #[.int .i64 e.f0, .int .i64 e.f1, .int .i64 e.f2, .int .i64 e.f3])))
    (hb : HasMap wb Tryz.prog 3 (Value.int .i64) (w.heap.size + 1) (k + 1) (put (gb s) e.f0 (.int .i64 (s.begun e.f0 + 1))))
    (hu : HasMap wb Tryz.prog 3 (Value.int .i64) (w.heap.size + 1 + 1) (2 * k + 2) (gu u)) (hbe : Below w.heap.size w wb) : Rel w wb l0 R (k + 1) (s.up e u) := by
  have h0 := hle e.f0
  refine ⟨hrun.symm, ⟨hl.congr (fun t => ?_), hb.congr (fun t => ?_), hu.mono (by omega), hbe⟩, fun t => ?_⟩
  · by_cases ht : t = e.f0
    · simp [put, gl, RiSt.up, ht, v36]
    · simp [put, gl, RiSt.up, ht]
  · by_cases ht : t = e.f0
    · subst ht
      have : ¬ s.begun e.f0 + 1 = 0 := by omega
      simp [put, gb, RiSt.up, this]
    · simp [put, gb, RiSt.up, ht]
  · have ht2 := hle t
    show 0 ≤ (if t = e.f0 then s.begun e.f0 + 1 else s.begun t) ∧ (if t = e.f0 then s.begun e.f0 + 1 else s.begun t) ≤ ((k + 1 : Nat) : Int)
    by_cases ht : t = e.f0
    · rw [if_pos ht]; omega
    · rw [if_neg ht]; omega
end HR
open HR in
set_option maxHeartbeats 8000000 in
set_option maxRecDepth 100000 in
theorem hist_Right.calls (A0 : Option Addr) (c0 : Nat) (l0 : List (S49)) (r : Int) (w : World) (hr0 : Kd.C k49 w A0 l0.length l0) (hc0 : l0.length ≤ c0) (h : hist_Right.f l0 = some r) :
    Calls Tryz.prog 41 #[.slice A0 l0.length c0] w fun e w' => e = .returned (.int .i64 r) ∧ Below w.heap.size w w' := by
  have hmm := @run_makeMap Tryz.prog
  have hu36 := Tryz.underlying49
  have hcc : l0.length < 4398046511104 ∧ l0.all fit36 = true := by
    unfold hist_Right.f at h
    by_cases hc : l0.length < 4398046511104 ∧ l0.all fit36 = true
    · exact hc
    · rw [if_neg hc] at h; cases h
  have hlen := hcc.1
  have HF : Aside0 (∀ i : Int, 0 ≤ i → i < (l0.length : Int) → fit36 (rd_T49 l0 i) = true) := by
    refine ⟨fun i h0 h1 => ?_⟩
    have hm : rd_T49 l0 i ∈ l0 := by
      unfold rd_T49
      rw [List.getD_eq_getElem?_getD, List.getElem?_eq_getElem (show i.toNat < l0.length by omega)]
      exact List.getElem_mem _
    exact List.all_eq_true.1 hcc.2 _ hm
  have H0 : Aside0 ((match riRun l0 RiSt.start with | none => some 50 | some _ => some 0) = some r) := by
    refine ⟨?_⟩
    unfold hist_Right.f at h
    rw [if_pos hcc] at h
    exact h
  have HR0 := Aside0.mk hr0
  clear hr0 hc0 h hcc
  go_enter Tryz.func41, Tryz.ntmps41
  go_wp2
  go_loopw [19] (fun v19 wr => ∃ (k : Nat) (s : RiSt), k ≤ l0.length ∧ v19 = .int .i64 k ∧ Aside0 (HR.Rel w wr l0 (riRun l0 RiSt.start) k s)) (fun i _ => l0.length - (intOf i).toNat)
  case atStart =>
    exact ⟨0, RiSt.start, Nat.zero_le _, rfl, ⟨⟨rfl, Maps.start w, fun t => ⟨by simp [RiSt.start], by simp [RiSt.start]⟩⟩⟩⟩
  case round =>
    obtain ⟨k, s, hk, rfl, HS⟩ := hrel
    by_cases hlt : k < l0.length
    · have hk0 : (0 : Int) ≤ (k : Int) := by omega
      have hkl : (k : Int) < (l0.length : Int) := by omega
      obtain ⟨ad, rfl, x0, x1, x2, x3⟩ := at_T49 (Kd.C_below HR0.out HS.out.maps.below) (k : Int) hk0 hkl
      have hfit : fit36 (rd_T49 l0 (k : Int)) = true := HF.out _ hk0 hkl
      obtain ⟨e0, he⟩ : ∃ e, e = rd_T49 l0 (k : Int) := ⟨_, rfl⟩
      rw [← he] at hfit
      rw [← he, Int.toNat_natCast] at x0 x1 x2 x3
      have HE := Aside0.mk he
      clear he
      obtain ⟨th, ix, fr, tt⟩ := e0
      have hfits : fit th = true ∧ fit fr = true ∧ fit tt = true := by
        simp only [fit36, Bool.and_eq_true] at hfit
        exact ⟨hfit.1.1, hfit.1.2, hfit.2⟩
      clear hfit
      have HFT := Aside0.mk hfits
      clear hfits
      go_upto_region 7 with (fail)
      have HS1 := Aside0.mk (HS.out.maps.move (w1 := wr.alloc (.cells #[.int .i64 th, .int .i64 ix, .int .i64 fr, .int .i64 tt] 49)) ((Below.refl _ _).alloc (Nat.le_refl _) _))
      have HBk := Aside0.mk (show (wr.alloc (.cells #[.int .i64 th, .int .i64 ix, .int .i64 fr, .int .i64 tt] 49)).heap[wr.heap.size]? = some (.cells #[.int .i64 th, .int .i64 ix, .int .i64 fr, .int .i64 tt] 49 (0, 0)) from by simpa using heap_alloc_new wr _)
      have HRN := Aside0.mk HS.out.run
      have HLE := Aside0.mk HS.out.begunLe
      clear HS x0 x1 x2 x3
      generalize wr.alloc (.cells #[.int .i64 th, .int .i64 ix, .int .i64 fr, .int .i64 tt] 49) = w1 at HS1 HBk ⊢
      generalize wr.heap.size = b1 at HBk ⊢
      have y0 : w1.cell? ⟨b1, 0, none⟩ = some (.int .i64 th) := (blk_cell HBk.out 0).trans rfl
      have hg := gl_get s th
      have hgs := gl_some s th
      go_upto_region 8 with (at_lookup; refine wpList_look_ok _ rfl _ _ 162 rfl 3 49 keyed3 Tryz.underlying162 (zero36 _) (Value.int .i64) vint_inj w.heap.size k _ rfl HS1.out.last th _ rfl (key3 HFT.out.1) ?_; rw [hg, hgs])
      generalize hwas : (s.last th).getD z49 = was at hg ⊢
      have HWAS := Aside0.mk hwas
      clear hg hgs hwas
      generalize hsm : (s.last th).isSome = sm
      have HSM := Aside0.mk hsm
      clear hsm
      obtain ⟨wf0, wf1, wf2, wf3⟩ := was
      have HS2 := Aside0.mk (HS1.out.move (w1 := w1.alloc (.cells #[.int .i64 wf0, .int .i64 wf1, .int .i64 wf2, .int .i64 wf3] 49)) ((Below.refl _ _).alloc (Nat.le_refl _) _))
      have HB1 := Aside0.mk (show (w1.alloc (.cells #[.int .i64 wf0, .int .i64 wf1, .int .i64 wf2, .int .i64 wf3] 49)).heap[b1]? = some (.cells #[.int .i64 th, .int .i64 ix, .int .i64 fr, .int .i64 tt] 49 (0, 0)) from blk_grown (World.grownBy_alloc w1 _ none) HBk.out (by simp))
      have HB2 := Aside0.mk (show (w1.alloc (.cells #[.int .i64 wf0, .int .i64 wf1, .int .i64 wf2, .int .i64 wf3] 49)).heap[w1.heap.size]? = some (.cells #[.int .i64 wf0, .int .i64 wf1, .int .i64 wf2, .int .i64 wf3] 49 (0, 0)) from by simpa using heap_alloc_new w1 _)
      clear HS1 HBk y0
      generalize w1.alloc (.cells #[.int .i64 wf0, .int .i64 wf1, .int .i64 wf2, .int .i64 wf3] 49) = w2 at HS2 HB1 HB2 ⊢
      generalize w1.heap.size = b2 at HB2 ⊢
      have y0 : w2.cell? ⟨b1, 0, none⟩ = some (.int .i64 th) := (blk_cell HB1.out 0).trans rfl
      have y1 : w2.cell? ⟨b1, 1, none⟩ = some (.int .i64 ix) := (blk_cell HB1.out 1).trans rfl
      have y2 : w2.cell? ⟨b1, 2, none⟩ = some (.int .i64 fr) := (blk_cell HB1.out 2).trans rfl
      have y3 : w2.cell? ⟨b1, 3, none⟩ = some (.int .i64 tt) := (blk_cell HB1.out 3).trans rfl
      have z3 : w2.cell? ⟨b2, 3, none⟩ = some (.int .i64 wf3) := (blk_cell HB2.out 3).trans rfl
      have hlk : (Instr.lookup 107 (.map (some (w.heap.size + 1))) (.int .i64 th) false).run Tryz.prog w2 = .ok (.int .i64 (s.begun th)) w2 := by
        rw [HS2.out.begun.look keyed3 vint_inj Tryz.underlying107 (zero3 _) (key3 HFT.out.1), gb_get]
      have HX : Aside0 (s.bad ⟨th, ix, fr, tt⟩ = (decide (fr < 0) || ((tt != -1) && decide (tt < fr)) || (ix != s.begun th) || (sm && ((wf3 == -1) || decide (fr ≤ wf3))))) := by
        refine ⟨?_⟩
        have e2 := HWAS.out
        have e3 := HSM.out
        unfold RiSt.bad
        simp only [e2, e3]
      generalize s.begun th = bg at hlk HX
      generalize hbb : s.bad ⟨th, ix, fr, tt⟩ = bb at HX
      have HBB := Aside0.mk hbb
      clear hbb
      go_cut [68] (fun v68 wc => v68 = .bool bb ∧ w2 = wc)
      case first =>
        have HX2 := HX.out
        by_cases q1 : fr < 0
        · have p1 : decide (fr < 0) = true := decide_eq_true q1
          simp only [p1, Bool.true_or] at HX2
          subst HX2
          go_wp2
          go_meet
          case rel => exact ⟨rfl, rfl⟩
        · have p1 : decide (fr < 0) = false := decide_eq_false q1
          have hq2 : ((tt != -1) = true ∧ decide (tt < fr) = true) ∨ ((tt != -1) = true ∧ decide (tt < fr) = false) ∨ (tt != -1) = false := by
            cases (tt != -1) <;> cases decide (tt < fr) <;> simp
          rcases hq2 with ⟨p2, p3⟩ | hq2
          · simp only [p1, p2, p3, Bool.true_or, Bool.or_true, Bool.and_true] at HX2
            subst HX2
            go_wp2
            go_meet
            case rel => exact ⟨rfl, rfl⟩
          · by_cases q4 : ix = bg
            · have p4 : (ix != bg) = false := by simpa using q4
              clear q4
              cases sm with
              | false =>
                rcases hq2 with ⟨p2, p3⟩ | p2
                all_goals
                  simp only [*, Bool.false_or, Bool.and_false, Bool.false_and] at HX2
                  subst HX2
                  go_wp2
                  go_meet
                  case rel => exact ⟨rfl, rfl⟩
              | true =>
                by_cases q5 : wf3 = -1
                · have p5 : (wf3 == -1) = true := by simpa using q5
                  clear q5
                  rcases hq2 with ⟨p2, p3⟩ | p2
                  all_goals
                    simp only [*, Bool.false_or, Bool.true_or, Bool.true_and, Bool.and_false, Bool.false_and] at HX2
                    subst HX2
                    go_wp2
                    go_meet
                    case rel => exact ⟨rfl, rfl⟩
                · have p5 : (wf3 == -1) = false := by simpa using q5
                  clear q5
                  by_cases q6 : fr ≤ wf3
                  · have p6 : decide (fr ≤ wf3) = true := decide_eq_true q6
                    rcases hq2 with ⟨p2, p3⟩ | p2
                    all_goals
                      simp only [p1, p2, p4, p5, p6, Bool.false_or, Bool.true_or, Bool.true_and, Bool.and_false, Bool.false_and, Bool.or_true] at HX2
                      subst HX2
                      go_wp2
                      go_meet
                      case rel => exact ⟨rfl, rfl⟩
                  · have p6 : decide (fr ≤ wf3) = false := decide_eq_false q6
                    rcases hq2 with ⟨p2, p3⟩ | p2
                    · simp only [p1, p2, p3, p4, p5, p6, Bool.false_or, Bool.and_false] at HX2
                      subst HX2
                      go_wp2
                      go_meet
                      case rel => exact ⟨rfl, rfl⟩
                    · simp only [p1, p2, p4, p5, p6, Bool.false_or, Bool.and_false, Bool.false_and] at HX2
                      subst HX2
                      go_wp2
                      go_meet
                      case rel => exact ⟨rfl, rfl⟩
            · have p4 : (ix != bg) = true := by simpa using q4
              clear q4
              rcases hq2 with ⟨p2, p3⟩ | p2
              all_goals
                simp only [p1, p2, p4, Bool.false_or, Bool.true_or, Bool.or_true] at HX2
                subst HX2
                go_wp2
                go_meet
                case rel => exact ⟨rfl, rfl⟩
      case rest =>
        obtain ⟨rfl, rfl⟩ := hcut
        cases bb with
        | true =>
          have hnone : riRun l0 RiSt.start = none := by
            rw [← HRN.out, drop_k hlt, riRun, RiSt.next, show l0[k] = (⟨th, ix, fr, tt⟩ : S49) from rd_k hlt HE.out, HBB.out]
            rfl
          go_wp2
          have h := H0.out
          rw [hnone] at h
          simp only [Option.some.injEq] at h
          subst h
          go_ret
          exact ⟨rfl, HS2.out.below⟩
        | false =>
          have HR1 : Aside0 (riRun l0 RiSt.start = if useBad s.used th fr = true then none else if useBad (useUp s.used th fr) th tt = true then none else riRun (l0.drop (k + 1)) (s.up ⟨th, ix, fr, tt⟩ (useUp (useUp s.used th fr) th tt))) := by
            refine ⟨?_⟩
            rw [← HRN.out, drop_k hlt, riRun, RiSt.next, show l0[k] = (⟨th, ix, fr, tt⟩ : S49) from rd_k hlt HE.out, HBB.out]
            simp only [Bool.false_eq_true, if_false]
            by_cases h1 : useBad s.used th fr = true
            · rw [if_pos h1, if_pos h1]; rfl
            · rw [if_neg h1, if_neg h1]
              by_cases h2 : useBad (useUp s.used th fr) th tt = true
              · rw [if_pos h2, if_pos h2]; rfl
              · rw [if_neg h2, if_neg h2]; rfl
          clear HX hlk y0 y1 z3 HB2 HSM HWAS
          go_wp2_with fail
          have HIN : Aside0 (In w (w2.alloc (.cells #[.int .i64 fr, .int .i64 tt] 3)) k 0 s s.used b1 w2.heap.size ⟨th, ix, fr, tt⟩ (l0.drop (k + 1)) (riRun l0 RiSt.start)) :=
            ⟨⟨HS2.out.move ((Below.refl _ _).alloc (Nat.le_refl _) _), blk_grown (World.grownBy_alloc w2 _ none) HB1.out (by simp), by simpa using heap_alloc_new w2 _, HR1.out⟩⟩
          clear HS2 HB1 HR1 y2 y3
          generalize w2.alloc (.cells #[.int .i64 fr, .int .i64 tt] 3) = w3 at HIN ⊢
          generalize w2.heap.size = b3 at HIN ⊢
          go_loopw [75] (fun v75 wi => ∃ (j : Nat) (u : Int → Option Int), j ≤ 2 ∧ v75 = .int .i64 j ∧ Aside0 (In w wi k j s u b1 b3 ⟨th, ix, fr, tt⟩ (l0.drop (k + 1)) (riRun l0 RiSt.start))) (fun i _ => 2 - (intOf i).toNat)
          case atStart => exact ⟨0, s.used, by omega, rfl, HIN⟩
          case round =>
            clear HIN
            obtain ⟨j, u, hj, rfl, HI⟩ := hrel
            by_cases hj2 : j < 2
            · obtain ⟨x, hfx, hcx, hrx⟩ := HI.out.end_ hj2 HFT.out.2.1 HFT.out.2.2
              have HRX := Aside0.mk hrx
              clear hrx
              have y0 : wr.cell? ⟨b1, 0, none⟩ = some (.int .i64 th) := (blk_cell HI.out.blk1 0).trans rfl
              have HUB : Aside0 (useBad u th x = ((u x).isSome && ((u x).getD 0 != th) && (x != -1))) := ⟨rfl⟩
              have hgg := gu_get u x
              have hgs := gu_some u x
              go_upto_region 14 with (at_lookup; refine wpList_look_ok _ rfl _ _ 107 rfl 3 3 keyed3 Tryz.underlying107 (zero3 _) (Value.int .i64) vint_inj (w.heap.size + 1 + 1) _ _ rfl HI.out.maps.used x _ rfl (key3 hfx) ?_; rw [hgg, hgs])
              clear hgg hgs
              have HU2 := HUB.out
              generalize (u x).getD 0 = ug at HU2 ⊢
              generalize (u x).isSome = us at HU2 ⊢
              generalize hub : useBad u th x = ub at HU2
              have HUBB := Aside0.mk hub
              clear hub HUB
              go_cut [95] (fun v95 wc => v95 = .bool ub ∧ wr = wc)
              case first =>
                cases us with
                | false =>
                  simp only [Bool.false_and] at HU2
                  subst HU2
                  go_wp2
                  go_meet
                  case rel => exact ⟨rfl, rfl⟩
                | true =>
                  by_cases q1 : ug = th
                  · have p1 : (ug != th) = false := by simpa using q1
                    simp only [p1, Bool.true_and, Bool.false_and] at HU2
                    clear q1
                    subst HU2
                    go_wp2
                    go_meet
                    case rel => exact ⟨rfl, rfl⟩
                  · have p1 : (ug != th) = true := by simpa using q1
                    clear q1
                    by_cases q2 : x = -1
                    · have p2 : (x != -1) = false := by simpa using q2
                      simp only [p1, p2, Bool.true_and] at HU2
                      clear q2
                      subst HU2
                      go_wp2
                      go_meet
                      case rel => exact ⟨rfl, rfl⟩
                    · have p2 : (x != -1) = true := by simpa using q2
                      simp only [p1, p2, Bool.true_and] at HU2
                      clear q2
                      subst HU2
                      go_wp2
                      go_meet
                      case rel => exact ⟨rfl, rfl⟩
              case rest =>
                obtain ⟨rfl, rfl⟩ := hcut
                clear HU2
                cases ub with
                | true =>
                  have hnone : riRun l0 RiSt.start = none := by
                    have h := HRX.out
                    have h2 := HUBB.out
                    rw [if_pos h2] at h
                    exact h
                  go_wp2
                  have h := H0.out
                  rw [hnone] at h
                  simp only [Option.some.injEq] at h
                  subst h
                  go_ret
                  exact ⟨rfl, HI.out.maps.below⟩
                | false =>
                  have HR2 : Aside0 (riRun l0 RiSt.start = rem (l0.drop (k + 1)) s ⟨th, ix, fr, tt⟩ (j + 1) (useUp u th x)) := by
                    refine ⟨?_⟩
                    have h := HRX.out
                    have h2 := HUBB.out
                    rw [if_neg (by rw [h2]; simp)] at h
                    exact h
                  have hb1 := HI.out.maps.used.ne_cells HI.out.blk1
                  have hb3 := HI.out.maps.used.ne_cells HI.out.blk3
                  have HN1 := Aside0.mk hb1
                  have HN3 := Aside0.mk hb3
                  clear hb1 hb3
                  go_wp2_with (at_mapUpdate; refine wpList_update _ rfl _ _ _ 107 rfl 3 3 keyed3 Tryz.underlying107 (Value.int .i64) vint_inj (w.heap.size + 1 + 1) _ _ rfl HI.out.maps.used x _ _ rfl rfl (key3 hfx) ?_; intro wb hlb hgb)
                  have hin : In w wb k (j + 1) s (useUp u th x) b1 b3 ⟨th, ix, fr, tt⟩ (l0.drop (k + 1)) (riRun l0 RiSt.start) :=
                    HI.out.step hgb HN1.out HN3.out hlb HR2.out
                  exact ⟨⟨j + 1, _, by omega, by rfl, ⟨hin⟩⟩, by simp [intOf]; omega⟩
            · have hjj : j = 2 := by omega
              subst hjj
              have y0 : wr.cell? ⟨b1, 0, none⟩ = some (.int .i64 th) := (blk_cell HI.out.blk1 0).trans rfl
              have y1 : wr.cell? ⟨b1, 1, none⟩ = some (.int .i64 ix) := (blk_cell HI.out.blk1 1).trans rfl
              have y2 : wr.cell? ⟨b1, 2, none⟩ = some (.int .i64 fr) := (blk_cell HI.out.blk1 2).trans rfl
              have y3 : wr.cell? ⟨b1, 3, none⟩ = some (.int .i64 tt) := (blk_cell HI.out.blk1 3).trans rfl
              have hb0 := (HLE.out th).1
              have hb1 := (HLE.out th).2
              go_upto_region 19 with (at_mapUpdate; refine wpList_update _ rfl _ _ _ 162 rfl 3 49 keyed3 Tryz.underlying162 (Value.int .i64) vint_inj w.heap.size _ _ rfl HI.out.maps.last th _ _ rfl rfl (key3 HFT.out.1) ?_; intro wa hla hga)
              have hn1 := HI.out.maps.last.ne_cells HI.out.blk1
              have HLA := Aside0.mk hla
              have HBA := Aside0.mk (HI.out.maps.begun.kept hga (by simp))
              have HUA := Aside0.mk (HI.out.maps.used.kept hga (by simp; omega))
              have HB4 := Aside0.mk (blk_grown hga HI.out.blk1 (by simpa using hn1))
              have HBE := Aside0.mk (HI.out.maps.below.grown hga HI.out.maps.below.size (fun j hj => by cases hj; exact Nat.le_refl _))
              have HSZ := Aside0.mk hga.size
              have ya0 : wa.cell? ⟨b1, 0, none⟩ = some (.int .i64 th) := (blk_cell HB4.out 0).trans rfl
              have hlk : (Instr.lookup 107 (.map (some (w.heap.size + 1))) (.int .i64 th) false).run Tryz.prog wa = .ok (.int .i64 (s.begun th)) wa := by
                rw [HBA.out.look keyed3 vint_inj Tryz.underlying107 (zero3 _) (key3 HFT.out.1), gb_get]
              clear hla hga y0 y1 y2 y3 hn1
              go_wp2_with (at_mapUpdate; refine wpList_update _ rfl _ _ _ 107 rfl 3 3 keyed3 Tryz.underlying107 (Value.int .i64) vint_inj (w.heap.size + 1) _ _ rfl HBA.out th _ _ rfl rfl (key3 HFT.out.1) ?_; intro wb hlb hgb)
              have hrel : HR.Rel w wb l0 (riRun l0 RiSt.start) (k + 1) (s.up ⟨th, ix, fr, tt⟩ u) :=
                rel_up HLE.out HI.out.run (HLA.out.kept hgb (by simp)) hlb (HUA.out.kept hgb (by simp)) (HBE.out.grown hgb HBE.out.size (fun j hj => by cases hj; omega))
              exact ⟨⟨k + 1, _, by omega, by rfl, ⟨hrel⟩⟩, by simp [intOf]; omega⟩
    · have hkk : k = l0.length := by omega
      subst hkk
      have hrun := HS.out.run
      rw [List.drop_length, riRun] at hrun
      have h := H0.out
      rw [← hrun] at h
      simp only [Option.some.injEq] at h
      subst h
      clear hrun
      go_wp2
      go_ret
      exact ⟨rfl, HS.out.maps.below⟩
end Go.Proofs.YtndgfpfcdppfgaaGreatDoor.Own
