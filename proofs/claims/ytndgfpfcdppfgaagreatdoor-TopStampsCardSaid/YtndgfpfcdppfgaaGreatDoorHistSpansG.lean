/- hist.Spans, called with any events, tells what 'hist_Spans.f' says, in new memory. -/
import Derived.Test.YtndgfpfcdppfgaaGreatDoorHistSpec
import Derived.Test.YtndgfpfcdppfgaaGreatDoorMapFun
import Derived.Lib.Hide
import Derived.Outline
import Derived.BigFrameIn
import Derived.BigQuiet
import Derived.OpenShut
namespace Go.Proofs.YtndgfpfcdppfgaaGreatDoor.Own
open Go.RowKit Go.Proofs.YtndgfpfcdppfgaaGreatDoorW.PrintWords Go.Proofs.YtndgfpfcdppfgaaGreatDoorW.PrintLast Go.Proofs.YtndgfpfcdppfgaaGreatDoorW.PrintMore Go.Proofs.YtndgfpfcdppfgaaGreatDoor.MF
set_option linter.unusedVariables false
set_option linter.unusedSimpArgs false

/-- The relation between the plain state and the memory in the loop of Spans. -/
structure SpRel (w wr : World) (l0 : List S109) (R : Option SpSt) (k : Nat) (s : SpSt) (v : Value) : Prop where
  run : spRun (if k = 0 then z109 else rd_T109 l0 ((k : Int) - 1)) (l0.drop k) s = R
  out : Kd.R k49 49 wr w.heap.size (fun j => j ≠ w.heap.size ∧ j ≠ w.heap.size + 1) v s.out
  last : HasMap wr Tryz.prog 3 (Value.int .i64) w.heap.size k (fun t => (s.last t).map fun n => Value.int .i64 (n : Int))
  begun : HasMap wr Tryz.prog 3 (Value.int .i64) (w.heap.size + 1) k (fun t => if s.begun t = 0 then none else some (Value.int .i64 (s.begun t)))
  below : Below w.heap.size w wr
  lastLt : ∀ t n, s.last t = some n → n < s.out.length
  len : s.out.length ≤ k
  begunLe : ∀ t, 0 ≤ s.begun t ∧ s.begun t ≤ k
  stepLo : -1 ≤ s.step ∧ (k = 0 → s.step = -1)
  cntLo : 0 ≤ s.cnt ∧ s.cnt ≤ 2

theorem zero3 (w : World) : (zeroValue 3).run Tryz.prog w = .ok (.int .i64 0) w := by kernel_rfl
theorem keyed3 : Go.Maps.Keyed Tryz.prog 3 := Go.Maps.int_keyed Tryz.underlying3
theorem fit_wf {n : Int} (h : fit n = true) : (Lit.int .i64 n).wf = true := by
  simp only [fit, Bool.and_eq_true, decide_eq_true_eq] at h
  exact WalkArith.wf_i64 h
theorem key3 {n : Int} (h : fit n = true) : keyOf Tryz.prog 3 (.int .i64 n) = some (.int .i64 n) := Go.Maps.keyOf_int_mk Tryz.underlying3 (fit_wf h)

section
variable {w wr w1 : World} {l0 : List S109} {R : Option SpSt} {k : Nat} {s : SpSt} {v : Value}
theorem SpRel.move (h : SpRel w wr l0 R k s v) (hb : Below wr.heap.size wr w1) : SpRel w w1 l0 R k s v := by
  have hl := h.begun.lt
  exact ⟨h.run, Kd.R_below h.out hb, h.last.below hb (by omega), h.begun.below hb hl, h.below.trans (hb.mono h.below.size), h.lastLt, h.len, h.begunLe, h.stepLo, h.cntLo⟩
theorem SpRel.start (hl : True) : SpRel w ((w.alloc (.map #[] 0)).alloc (.map #[] 0)) l0 (spRun z109 l0 SpSt.start) 0 SpSt.start (.slice none 0 0) := by
  have e1 : (w.alloc (.map #[] 0)).heap.size = w.heap.size + 1 := by simp
  refine ⟨rfl, Kd.R_nil _ _ _ _ _, ?_, ?_, ((Below.refl _ _).alloc (Nat.le_refl _) _).alloc (by simp) _, (fun t n h => by cases h), (by simp [SpSt.start]), (fun t => ⟨(by simp [SpSt.start]), (by simp [SpSt.start])⟩), ⟨(by simp [SpSt.start]), fun _ => rfl⟩, (by simp [SpSt.start])⟩
  · exact ((HasMap.made w _ _ _).alloc _).congr (fun i => rfl)
  · have h := HasMap.made (w.alloc (.map #[] 0)) Tryz.prog 3 (Value.int .i64)
    rw [e1] at h
    exact h.congr (fun i => rfl)
theorem SpRel.store {go cap : Nat} (h : SpRel w wr l0 R k s (.slice (some ⟨go, 0, none⟩) s.out.length cap)) (hlt : k < l0.length) {st th ix cn : Int} (he : (⟨st, th, ix, true⟩ : S109) = rd_T109 l0 (k : Int)) {n : Nat} (hn : n < s.out.length) (hnn : (s.last th).getD 0 = n)
    (hst : 0 ≤ st) (hcn : 0 ≤ cn ∧ cn ≤ 2) (hrun : R = spRun ⟨st, th, ix, true⟩ (l0.drop (k + 1)) (SpSt.go { s with step := st, cnt := cn } ⟨st, th, ix, true⟩)) :
    SpRel w (wr.setCell ⟨go, n * 4 + 3, none⟩ (.int .i64 st)) l0 R (k + 1) (SpSt.go { s with step := st, cnt := cn } ⟨st, th, ix, true⟩) (.slice (some ⟨go, 0, none⟩) s.out.length cap) := by
  have hgo : SpSt.go { s with step := st, cnt := cn } ⟨st, th, ix, true⟩ = { out := s.out.set n ⟨(rd_T49 s.out (n : Int)).f0, (rd_T49 s.out (n : Int)).f1, (rd_T49 s.out (n : Int)).f2, st⟩, last := s.last, begun := s.begun, step := st, cnt := cn } := by
    unfold SpSt.go
    simp only [if_true, hnn]
  have hn0 : (0 : Int) ≤ (n : Int) := by omega
  have hn1 : (n : Int) < (s.out.length : Int) := by omega
  obtain ⟨ce, hcl, hM, hcc, hfr⟩ := Kd.R_elem h.out z49 (n : Int) hn0 hn1
  obtain rfl := k49_openM hM
  have hp := Kd.R_seg h.out (n : Int) hn0 hn1 (seg := [.int .i64 st]) (j := 3) hcl hcc (show 4 ≤ 4 from by decide) (x' := (⟨(rd_T49 s.out (n : Int)).f0, (rd_T49 s.out (n : Int)).f1, (rd_T49 s.out (n : Int)).f2, st⟩ : S49)) (k49_mkM _ _ (fun _ => False) (⟨(rd_T49 s.out (n : Int)).f0, (rd_T49 s.out (n : Int)).f1, (rd_T49 s.out (n : Int)).f2, st⟩ : S49)) (fun _ hk => hk.elim)
  rw [Int.toNat_natCast] at hp
  have hw : wr.setCells go (n * k49.sz + 3) [.int .i64 st] = wr.setCell ⟨go, n * 4 + 3, none⟩ (.int .i64 st) := rfl
  rw [hw] at hp
  obtain ⟨hp1, hp2⟩ := hp
  have hok := h.out.1 go (by simp [Value.ownBlock])
  have hbase : w.heap.size ≤ go := by
    obtain ⟨inner, ho⟩ := Kd.R_own h.out
    exact own_base ho go (by simp [Value.ownBlock])
  rw [hgo]
  refine ⟨?_, hp1, (h.last.kept hp2 (fun e => hok.1 (by injection e with e; exact e.symm))).mono (by omega), (h.begun.kept hp2 (fun e => hok.2 (by injection e with e; exact e.symm))).mono (by omega), h.below.setCell hbase _, ?_, ?_, fun t => ⟨(h.begunLe t).1, by have := (h.begunLe t).2; show s.begun t ≤ ((k + 1 : Nat) : Int); omega⟩, ⟨by show -1 ≤ st; omega, fun h0 => by omega⟩, hcn⟩
  · rw [if_neg (by omega), ← hgo, hrun]
    have e1 : ((k + 1 : Nat) : Int) - 1 = (k : Int) := by omega
    rw [e1, ← he]
  · intro t m hm
    rw [List.length_set]
    exact h.lastLt t m hm
  · rw [List.length_set]
    have := h.len
    omega
theorem SpRel.push {v1 : Value} (h : SpRel w wr l0 R k s v) (hlt : k < l0.length) {st th ix cn : Int} (he : (⟨st, th, ix, false⟩ : S109) = rd_T109 l0 (k : Int))
    (hst : 0 ≤ st) (hcn : 0 ≤ cn ∧ cn ≤ 2) (hrun : R = spRun ⟨st, th, ix, false⟩ (l0.drop (k + 1)) (SpSt.go { s with step := st, cnt := cn } ⟨st, th, ix, false⟩))
    (ho : Kd.R k49 49 w1 w.heap.size (fun j => j ≠ w.heap.size ∧ j ≠ w.heap.size + 1) v1 (s.out ++ [⟨th, ix, st, -1⟩])) (hb : Below w.heap.size w w1)
    (hl : HasMap w1 Tryz.prog 3 (Value.int .i64) w.heap.size (k + 1) (put (fun t => (s.last t).map fun n => Value.int .i64 (n : Int)) th (.int .i64 (s.out.length : Int))))
    (hg : HasMap w1 Tryz.prog 3 (Value.int .i64) (w.heap.size + 1) (k + 1) (put (fun t => if s.begun t = 0 then none else some (Value.int .i64 (s.begun t))) th (.int .i64 (s.begun th + 1)))) :
    SpRel w w1 l0 R (k + 1) (SpSt.go { s with step := st, cnt := cn } ⟨st, th, ix, false⟩) v1 := by
  have hgo : SpSt.go { s with step := st, cnt := cn } ⟨st, th, ix, false⟩ = { out := s.out ++ [⟨th, ix, st, -1⟩], last := fun t => if t = th then some s.out.length else s.last t, begun := fun t => if t = th then s.begun th + 1 else s.begun t, step := st, cnt := cn } := rfl
  have hb0 := (h.begunLe th)
  rw [hgo]
  refine ⟨?_, ho, hl.congr ?_, hg.congr ?_, hb, ?_, ?_, ?_, ⟨by show -1 ≤ st; omega, fun h0 => by omega⟩, hcn⟩
  · rw [if_neg (by omega), ← hgo, hrun]
    have e1 : ((k + 1 : Nat) : Int) - 1 = (k : Int) := by omega
    rw [e1, ← he]
  · intro t
    by_cases ht : t = th
    · simp [put, ht]
    · simp [put, ht]
  · intro t
    by_cases ht : t = th
    · subst ht
      have : ¬ s.begun t + 1 = 0 := by omega
      simp [put, this]
    · simp [put, ht]
  · intro t m hm
    have hm2 : (if t = th then some s.out.length else s.last t) = some m := hm
    rw [List.length_append]
    by_cases ht : t = th
    · rw [if_pos ht] at hm2
      injection hm2 with hm2
      simp; omega
    · rw [if_neg ht] at hm2
      have := h.lastLt t m hm2
      omega
  · rw [List.length_append]
    have := h.len
    simp; omega
  · intro t
    have ht2 := h.begunLe t
    show 0 ≤ (if t = th then s.begun th + 1 else s.begun t) ∧ (if t = th then s.begun th + 1 else s.begun t) ≤ ((k + 1 : Nat) : Int)
    by_cases ht : t = th
    · rw [if_pos ht]; omega
    · rw [if_neg ht]; omega
end
theorem below_drewN0 (w : World) (n : Nat) : Below w.heap.size w (w.drewN n) := pw_below_drewN (Below.refl _ _) n
theorem below_drewN0' {B : Nat} {w w1 : World} (h : Below B w w1) (n : Nat) : Below B w (w1.drewN n) := pw_below_drewN h n
theorem drop_k {l0 : List S109} {k : Nat} (h : k < l0.length) : l0.drop k = l0[k] :: l0.drop (k + 1) := List.drop_eq_getElem_cons h
theorem rd_k {l0 : List S109} {k : Nat} {e : S109} (h : k < l0.length) (he : e = rd_T109 l0 (k : Int)) : l0[k] = e := by
  rw [he]; unfold rd_T109
  rw [List.getD_eq_getElem?_getD, Int.toNat_natCast, List.getElem?_eq_getElem h]; rfl
set_option maxHeartbeats 8000000 in
set_option maxRecDepth 100000 in
theorem hist_Spans.calls (A0 : Option Addr) (c0 : Nat) (l0 : List (S109)) (r1 : List (S49)) (r2 : Int) (w : World) (hr0 : Kd.C k109 w A0 l0.length l0) (hc0 : l0.length ≤ c0) (h : hist_Spans.f l0 = some (r1, r2)) :
    Calls Tryz.prog 11 #[.slice A0 l0.length c0] w fun e w' => ∃ v0_ : Value, e = .returned (.tuple #[v0_, .int .i64 r2]) ∧ Kd.R k49 49 w' w.heap.size (fun _ => True) v0_ r1 ∧ Below w.heap.size w w' := by
  have hmm := @run_makeMap Tryz.prog
  have hu33 := Tryz.underlying109
  have hu36 := Tryz.underlying49
  have hlen : l0.length < 4398046511104 := by
    unfold hist_Spans.f at h
    by_cases hc : l0.length < 4398046511104 ∧ l0.all (fun e => fit e.f1) = true
    · exact hc.1
    · rw [if_neg hc] at h; cases h
  have HF : Aside0 (∀ i : Int, 0 ≤ i → i < (l0.length : Int) → fit (rd_T109 l0 i).f1 = true) := by
    refine ⟨fun i h0 h1 => ?_⟩
    unfold hist_Spans.f at h
    by_cases hc : l0.length < 4398046511104 ∧ l0.all (fun e => fit e.f1) = true
    · have hm : rd_T109 l0 i ∈ l0 := by
        unfold rd_T109
        rw [List.getD_eq_getElem?_getD, List.getElem?_eq_getElem (show i.toNat < l0.length by omega)]
        exact List.getElem_mem _
      exact List.all_eq_true.1 hc.2 _ hm
    · rw [if_neg hc] at h; cases h
  have H0 := Lib.hid h
  have HR0 := Aside0.mk hr0
  have HC0 := Aside0.mk hc0
  clear hr0 hc0 h
  go_enter Tryz.func11, Tryz.ntmps11
  go_wp2
  go_loopw [4, 7, 8, 18] (fun v4 v7 v8 v18 wr => ∃ (k : Nat) (s : SpSt), k ≤ l0.length ∧ v18 = .int .i64 k ∧ v7 = .int .i64 s.step ∧ v8 = .int .i64 s.cnt ∧ Aside0 (SpRel w wr l0 (spRun z109 l0 SpSt.start) k s v4)) (fun _ _ _ i _ => l0.length - (intOf i).toNat)
  case atStart =>
    exact ⟨0, SpSt.start, Nat.zero_le _, rfl, rfl, rfl, ⟨SpRel.start trivial⟩⟩
  case round =>
    obtain ⟨k, s, hk, rfl, rfl, rfl, HS⟩ := hrel
    by_cases hlt : k < l0.length
    · have hk0 : (0 : Int) ≤ (k : Int) := by omega
      have hkl : (k : Int) < (l0.length : Int) := by omega
      obtain ⟨ad, rfl, x0, x1, x2, x3⟩ := at_T109 (Kd.C_below HR0.out HS.out.below) (k : Int) hk0 hkl
      have hfit : fit (rd_T109 l0 (k : Int)).f1 = true := HF.out _ hk0 hkl
      obtain ⟨e0, he⟩ : ∃ e, e = rd_T109 l0 (k : Int) := ⟨_, rfl⟩
      rw [← he] at hfit
      rw [← he, Int.toNat_natCast] at x0 x1 x2 x3
      have HE := Aside0.mk he
      clear he
      obtain ⟨st, th, ix, rt⟩ := e0
      obtain ⟨A4, c4, rfl, hc4, hC4⟩ := Kd.R_reads HS.out.out
      have HC4 := Aside0.mk hc4
      clear hc4 hC4
      go_upto_region 8 with (fail)
      have HS1 := Aside0.mk (HS.out.move (w1 := wr.alloc (.cells #[.int .i64 st, .int .i64 th, .int .i64 ix, .bool rt] 109)) ((Below.refl _ _).alloc (Nat.le_refl _) _))
      have HBk := Aside0.mk (show (wr.alloc (.cells #[.int .i64 st, .int .i64 th, .int .i64 ix, .bool rt] 109)).heap[wr.heap.size]? = some (.cells #[.int .i64 st, .int .i64 th, .int .i64 ix, .bool rt] 109 (0, 0)) from by simpa using heap_alloc_new wr _)
      have HR1 := Aside0.mk (Kd.C_below (HR0.out) HS1.out.below)
      clear HS x0 x1 x2 x3
      generalize wr.alloc (.cells #[.int .i64 st, .int .i64 th, .int .i64 ix, .bool rt] 109) = w1 at HS1 HBk HR1 ⊢
      generalize wr.heap.size = b1 at HBk ⊢
      have y0 : w1.cell? ⟨b1, 0, none⟩ = some (.int .i64 st) := (blk_cell HBk.out 0).trans rfl
      have y1 : w1.cell? ⟨b1, 1, none⟩ = some (.int .i64 th) := (blk_cell HBk.out 1).trans rfl
      have y2 : w1.cell? ⟨b1, 2, none⟩ = some (.int .i64 ix) := (blk_cell HBk.out 2).trans rfl
      have y3 : w1.cell? ⟨b1, 3, none⟩ = some (.bool rt) := (blk_cell HBk.out 3).trans rfl
      go_cut [11, 12] (fun v11 v12 wc => v11 = .int .i64 (((s.last th).getD 0 : Nat) : Int) ∧ v12 = .bool (s.last th).isSome ∧ w1 = wc)
      case first =>
        go_wp2_with (at_lookup; go_loud (refine wpList_look_ok _ rfl _ _ 107 rfl 3 3 keyed3 Tryz.underlying107 (zero3 _) (Value.int .i64) vint_inj w.heap.size k _ rfl HS1.out.last th _ rfl (key3 hfit) ?_))
        go_meet
        case rel => exact ⟨by cases s.last th <;> rfl, by cases s.last th <;> rfl, rfl⟩
      case rest =>
        obtain ⟨rfl, rfl, rfl⟩ := hcut
        have hn : (s.last th).isSome = true → (s.last th).getD 0 < s.out.length := by
          intro h
          obtain ⟨n, hn⟩ := Option.isSome_iff_exists.1 h
          rw [hn]
          exact HS1.out.lastLt _ _ hn
        have HC1 : Aside0 (Kd.C k49 w1 A4 s.out.length s.out) := ⟨(Kd.R_reads' HS1.out.out).2.2⟩
        have hop : s.open_ th = ((s.last th).isSome && (rd_T49 s.out (((s.last th).getD 0 : Nat) : Int)).f3 == -1) := rfl
        have HX : Aside0 (s.bad1 ⟨st, th, ix, rt⟩ = (decide (st < 0) || decide (st < s.step) || (rt != s.open_ th) || (s.open_ th && (ix != (rd_T49 s.out (((s.last th).getD 0 : Nat) : Int)).f1)) || (!s.open_ th && (ix != s.begun th)))) := ⟨rfl⟩
        have HG : Aside0 (∀ e, SpSt.go s e = SpSt.go s e) := ⟨fun _ => rfl⟩
        generalize hsm : (s.last th).isSome = sm at hn hop ⊢
        generalize hnn : (s.last th).getD 0 = n at hn hop HX ⊢
        have HSM := Aside0.mk hsm
        have HNN := Aside0.mk hnn
        have HN := Aside0.mk hn
        clear hsm hnn hn
        generalize hob : s.open_ th = ob at hop HX
        have HOB := Aside0.mk hob
        have HOP := Aside0.mk hop
        clear hob hop
        go_upto_region 9 with (fail)
        go_cut [13] (fun v13 wc => v13 = .bool ob ∧ w1 = wc)
        case first =>
          cases sm with
          | false =>
            have e1 : ob = false := HOP.out
            subst e1
            go_wp2
            go_meet
            case rel => exact ⟨rfl, rfl⟩
          | true =>
            have hlt2 : (n : Int) < (s.out.length : Int) := by have := HN.out rfl; omega
            have hn0 : (0 : Int) ≤ (n : Int) := by omega
            obtain ⟨ad4, rfl, z0, z1, z2, z3⟩ := at_T49 HC1.out (n : Int) hn0 hlt2
            rw [Int.toNat_natCast] at z0 z1 z2 z3
            have e1 : ob = ((rd_T49 s.out (n : Int)).f3 == -1) := HOP.out
            generalize (rd_T49 s.out (n : Int)).f3 = f3 at z3 e1
            clear z0 z1 z2
            go_wp2
            go_meet
            case rel => exact ⟨by rw [e1], rfl⟩
        case rest =>
          obtain ⟨rfl, rfl⟩ := hcut
          go_upto_region 10 with (fail)
          have hbg : ((fun t => if s.begun t = 0 then none else some (Value.int .i64 (s.begun t))) th).getD (.int .i64 0) = .int .i64 (s.begun th) := by
            by_cases hb : s.begun th = 0
            · simp [hb]
            · simp [hb]
          have hlk : ∀ j, (Instr.lookup 107 (.map (some (w.heap.size + 1))) (.int .i64 th) false).run Tryz.prog (w1.drewN j) = .ok (.int .i64 (s.begun th)) (w1.drewN j) := fun j => by
            rw [(HS1.out.begun.drewN j).look keyed3 vint_inj Tryz.underlying107 (zero3 _) (key3 hfit), hbg]
          have hlk0 : (Instr.lookup 107 (.map (some (w.heap.size + 1))) (.int .i64 th) false).run Tryz.prog w1 = .ok (.int .i64 (s.begun th)) w1 := hlk 0
          generalize s.begun th = bg at hlk hlk0 HX
          clear hbg
          generalize hbb : s.bad1 ⟨st, th, ix, rt⟩ = bb at HX
          have HBB := Aside0.mk hbb
          clear hbb
          go_cut [79] (fun v79 wc => v79 = .bool bb ∧ ∃ m, w1.drewN m = wc)
          case first =>
            have HX2 := HX.out
            by_cases q1 : st < 0
            · have p1 : decide (st < 0) = true := decide_eq_true q1
              simp only [p1, Bool.true_or] at HX2
              subst HX2
              go_quiet (fail)
              go_wp2
              go_meet
              case rel => exact ⟨rfl, _, rfl⟩
            · have p1 : decide (st < 0) = false := decide_eq_false q1
              by_cases q2 : st < s.step
              · have p2 : decide (st < s.step) = true := decide_eq_true q2
                simp only [p1, p2, Bool.true_or, Bool.or_true] at HX2
                subst HX2
                go_quiet (fail)
                go_wp2
                go_meet
                case rel => exact ⟨rfl, _, rfl⟩
              · have p2 : decide (st < s.step) = false := decide_eq_false q2
                cases ob with
                | true =>
                  have hsmt : sm = true := by
                    have h := HOP.out.symm
                    rw [Bool.and_eq_true] at h
                    exact h.1
                  have hlt2 : (n : Int) < (s.out.length : Int) := by have := HN.out hsmt; omega
                  have hn0 : (0 : Int) ≤ (n : Int) := by omega
                  clear hsmt
                  obtain ⟨ad4, rfl, z0, z1, z2, z3⟩ := at_T49 HC1.out (n : Int) hn0 hlt2
                  rw [Int.toNat_natCast] at z0 z1 z2 z3
                  generalize (rd_T49 s.out (n : Int)).f1 = f1 at z1 HX2
                  clear z0 z2 z3
                  cases rt with
                  | false =>
                    simp only [p1, p2, Bool.false_or, Bool.true_or, show (false != true) = true from rfl] at HX2
                    subst HX2
                    go_quiet (fail)
                    go_wp2
                    go_meet
                    case rel => exact ⟨rfl, _, rfl⟩
                  | true =>
                    by_cases q4 : ix = f1
                    · have p4 : (ix != f1) = false := by simpa using q4
                      simp only [p1, p2, p4, Bool.false_or, Bool.or_false, Bool.and_false, Bool.not_true, Bool.false_and, show (true != true) = false from rfl] at HX2
                      clear q4
                      subst HX2
                      go_quiet (fail)
                      go_wp2
                      go_meet
                      case rel => exact ⟨rfl, _, rfl⟩
                    · have p4 : (ix != f1) = true := by simpa using q4
                      simp only [p1, p2, p4, Bool.false_or, Bool.or_false, Bool.true_or, Bool.true_and, Bool.not_true, Bool.false_and, show (true != true) = false from rfl] at HX2
                      clear q4
                      subst HX2
                      go_quiet (fail)
                      go_wp2
                      go_meet
                      case rel => exact ⟨rfl, _, rfl⟩
                | false =>
                  cases rt with
                  | true =>
                    simp only [p1, p2, Bool.false_or, Bool.true_or, show (true != false) = true from rfl] at HX2
                    subst HX2
                    go_quiet (fail)
                    go_wp2
                    go_meet
                    case rel => exact ⟨rfl, _, rfl⟩
                  | false =>
                    by_cases q4 : ix = bg
                    · have p4 : (ix != bg) = false := by simpa using q4
                      simp only [p1, p2, p4, Bool.false_or, Bool.or_false, Bool.and_false, Bool.not_false, Bool.true_and, Bool.false_and, show (false != false) = false from rfl] at HX2
                      clear q4
                      subst HX2
                      go_quiet (fail)
                      go_wp2
                      go_meet
                      case rel => exact ⟨rfl, _, rfl⟩
                    · have p4 : (ix != bg) = true := by simpa using q4
                      simp only [p1, p2, p4, Bool.false_or, Bool.or_true, Bool.true_and, Bool.not_false, Bool.false_and, show (false != false) = false from rfl] at HX2
                      clear q4
                      subst HX2
                      go_quiet (fail)
                      go_wp2
                      go_meet
                      case rel => exact ⟨rfl, _, rfl⟩
          case rest =>
            obtain ⟨rfl, m1, rfl⟩ := hcut
            have HW := Aside0.mk (HS1.out.move (w1 := w1.drewN m1) (below_drewN0 _ _))
            cases bb with
            | true =>
              go_wp2
              have hnone : spRun z109 l0 SpSt.start = none := by
                rw [← HS1.out.run, drop_k hlt, spRun, SpSt.next]
                rw [show l0[k] = (⟨st, th, ix, rt⟩ : S109) from rd_k hlt HE.out, HBB.out]
                rfl
              have h := H0.out
              unfold hist_Spans.f at h
              by_cases hc : l0.length < 4398046511104 ∧ l0.all (fun e => fit e.f1) = true
              · rw [if_pos hc, hnone] at h
                simp only [Option.some.injEq, Prod.mk.injEq] at h
                obtain ⟨rfl, rfl⟩ := h
                go_ret2
                exact ⟨_, rfl, Kd.R_nil _ _ _ _ _, below_drewN0' HS1.out.below _⟩
              · rw [if_neg hc] at h; cases h
            | false =>
              have hgood : ¬ st < 0 ∧ rt = ob ∧ (ob = true → ix = (rd_T49 s.out (n : Int)).f1) := by
                have h := HX.out.symm
                simp only [Bool.or_eq_false_iff, decide_eq_false_iff_not, bne_eq_false_iff_eq, Bool.and_eq_false_iff] at h
                obtain ⟨⟨⟨⟨h1, h2⟩, h3⟩, h4⟩, h5⟩ := h
                refine ⟨h1, h3, fun ho => ?_⟩
                rcases h4 with h4 | h4
                · rw [ho] at h4; cases h4
                · exact h4
              have HGD := Aside0.mk hgood
              clear hgood
              have HB2 := Aside0.mk (show (w1.drewN m1).heap[b1]? = some (.cells #[.int .i64 st, .int .i64 th, .int .i64 ix, .bool rt] 109 (0, 0)) from HBk.out)
              have HR2 : Aside0 (Kd.C k109 (w1.drewN m1) (some ad) l0.length l0) := ⟨Kd.C_below HR1.out (below_drewN0 _ _)⟩
              clear HR1 HC1 HBk HS1 hlk hlk0 y0 y1 y2 y3
              generalize w1.drewN m1 = w2 at HW HB2 HR2 ⊢
              have y0 : w2.cell? ⟨b1, 0, none⟩ = some (.int .i64 st) := (blk_cell HB2.out 0).trans rfl
              have y1 : w2.cell? ⟨b1, 1, none⟩ = some (.int .i64 th) := (blk_cell HB2.out 1).trans rfl
              have y2 : w2.cell? ⟨b1, 2, none⟩ = some (.int .i64 ix) := (blk_cell HB2.out 2).trans rfl
              have y3 : w2.cell? ⟨b1, 3, none⟩ = some (.bool rt) := (blk_cell HB2.out 3).trans rfl
              have hcnt1 : 0 ≤ s.cnt := HW.out.cntLo.1
              have hcnt2 : s.cnt ≤ 2 := HW.out.cntLo.2
              go_upto_if 83 with (fail)
              go_cut [7, 8] (fun v7 v8 wc => ∃ cn : Int, v7 = .int .i64 st ∧ v8 = .int .i64 cn ∧ Aside0 (0 ≤ cn ∧ cn ≤ 2) ∧ Aside0 (spRun z109 l0 SpSt.start = spRun ⟨st, th, ix, rt⟩ (l0.drop (k + 1)) (SpSt.go { s with step := st, cnt := cn } ⟨st, th, ix, rt⟩)) ∧ ∃ m, w2.drewN m = wc)
              case first =>
                by_cases hs : st = s.step
                · subst hs
                  have hk1 : 1 ≤ k := by
                    rcases Nat.eq_zero_or_pos k with h0 | h0
                    · exact absurd (HGD.out.1) (by have := HW.out.stepLo.2 h0; omega)
                    · exact h0
                  have hk2 : (0 : Int) ≤ (k : Int) - 1 := by omega
                  have hk3 : (k : Int) - 1 < (l0.length : Int) := by omega
                  obtain ⟨adp, hap, p0, p1, p2, p3⟩ := at_T109 HR2.out ((k : Int) - 1) hk2 hk3
                  injection hap with hap
                  subst hap
                  have hrun : spRun z109 l0 SpSt.start = (if s.bad2 (rd_T109 l0 ((k : Int) - 1)) ⟨s.step, th, ix, rt⟩ = true then none else spRun ⟨s.step, th, ix, rt⟩ (l0.drop (k + 1)) (SpSt.go { s with step := s.step, cnt := s.cnt + 1 } ⟨s.step, th, ix, rt⟩)) := by
                    have h := HW.out.run
                    rw [if_neg (show ¬ k = 0 by omega), drop_k hlt, show l0[k] = (⟨s.step, th, ix, rt⟩ : S109) from rd_k hlt HE.out, spRun, SpSt.next, HBB.out] at h
                    rw [← h]
                    simp only [Bool.false_eq_true, if_false, if_true]
                    by_cases hb : s.bad2 (rd_T109 l0 ((k : Int) - 1)) ⟨s.step, th, ix, rt⟩ = true
                    · rw [if_pos hb, if_pos hb]; rfl
                    · rw [if_neg hb, if_neg hb]; rfl
                  have HRN := Aside0.mk hrun
                  clear hrun
                  have HB3 : Aside0 (s.bad2 (rd_T109 l0 ((k : Int) - 1)) ⟨s.step, th, ix, rt⟩ = (decide (2 < s.cnt + 1) || !rt || (rd_T109 l0 ((k : Int) - 1)).f3 || ((rd_T109 l0 ((k : Int) - 1)).f1 != th))) := ⟨rfl⟩
                  rw [show ((k : Int) - 1).toNat = k - 1 by omega] at p0 p1 p2 p3
                  generalize rd_T109 l0 ((k : Int) - 1) = pe at p0 p1 p2 p3 HRN HB3
                  generalize hb2 : s.bad2 pe ⟨s.step, th, ix, rt⟩ = b2 at HRN HB3
                  clear hb2 p0 p2
                  obtain ⟨pf0, pf1, pf2, pf3⟩ := pe
                  go_upto_region 14 with (fail)
                  have e1 : IntKind.i64.wrap ((k : Int) - 1) = (k : Int) - 1 := IntWalk.i64_in _ (by omega)
                  have e2 : ((k : Int) - 1).toNat = k - 1 := by omega
                  have HX3 := HB3.out
                  go_cut [111] (fun v111 wc => v111 = .bool b2 ∧ ∃ m, w2.drewN m = wc)
                  case first =>
                    by_cases q1 : 2 < s.cnt + 1
                    · have g1 : decide (2 < s.cnt + 1) = true := decide_eq_true q1
                      simp only [g1, Bool.true_or] at HX3
                      subst HX3
                      go_quiet (fail)
                      go_wp2
                      go_meet
                      case rel => exact ⟨rfl, _, rfl⟩
                    · have g1 : decide (2 < s.cnt + 1) = false := decide_eq_false q1
                      cases rt with
                      | false =>
                        simp only [g1, Bool.false_or, Bool.not_false, Bool.true_or] at HX3
                        subst HX3
                        go_quiet (fail)
                        go_wp2
                        go_meet
                        case rel => exact ⟨rfl, _, rfl⟩
                      | true =>
                        cases pf3 with
                        | true =>
                          simp only [g1, Bool.false_or, Bool.not_true, Bool.true_or] at HX3
                          subst HX3
                          go_quiet (fail)
                          go_wp2
                          go_meet
                          case rel => exact ⟨rfl, _, rfl⟩
                        | false =>
                          by_cases q2 : pf1 = th
                          · have g2 : (pf1 != th) = false := by simpa using q2
                            simp only [g1, g2, Bool.false_or, Bool.not_true] at HX3
                            clear q2
                            subst HX3
                            go_quiet (fail)
                            go_wp2
                            go_meet
                            case rel => exact ⟨rfl, _, rfl⟩
                          · have g2 : (pf1 != th) = true := by simpa using q2
                            simp only [g1, g2, Bool.false_or, Bool.not_true] at HX3
                            clear q2
                            subst HX3
                            go_quiet (fail)
                            go_wp2
                            go_meet
                            case rel => exact ⟨rfl, _, rfl⟩
                  case rest =>
                    obtain ⟨rfl, m2, rfl⟩ := hcut
                    cases b2 with
                    | true =>
                      have hnone : spRun z109 l0 SpSt.start = none := by rw [HRN.out]; rfl
                      go_wp2
                      have h := H0.out
                      unfold hist_Spans.f at h
                      by_cases hc : l0.length < 4398046511104 ∧ l0.all (fun e => fit e.f1) = true
                      · rw [if_pos hc, hnone] at h
                        simp only [Option.some.injEq, Prod.mk.injEq] at h
                        obtain ⟨rfl, rfl⟩ := h
                        go_ret2
                        exact ⟨_, rfl, Kd.R_nil _ _ _ _ _, below_drewN0' HW.out.below _⟩
                      · rw [if_neg hc] at h; cases h
                    | false =>
                      have hcn : s.cnt + 1 ≤ 2 := by
                        have h := HX3.symm
                        simp only [Bool.or_eq_false_iff, decide_eq_false_iff_not] at h
                        omega
                      have hcn0 : 0 ≤ s.cnt + 1 := by omega
                      go_wp2
                      go_meet
                      case rel => exact ⟨_, rfl, rfl, ⟨hcn0, hcn⟩, ⟨by rw [HRN.out]; rfl⟩, _, rfl⟩
                · have hs1 : (st == s.step) = false := beq_eq_false_iff_ne.2 hs
                  have hrun : spRun z109 l0 SpSt.start = spRun ⟨st, th, ix, rt⟩ (l0.drop (k + 1)) (SpSt.go { s with step := st, cnt := 1 } ⟨st, th, ix, rt⟩) := by
                    have h := HW.out.run
                    rw [drop_k hlt, show l0[k] = (⟨st, th, ix, rt⟩ : S109) from rd_k hlt HE.out, spRun, SpSt.next, HBB.out] at h
                    rw [← h]
                    simp only [Bool.false_eq_true, if_false]
                    rw [if_neg hs]
                    rfl
                  have HRN := Aside0.mk hrun
                  clear hrun hs
                  go_wp2
                  go_meet
                  case rel => exact ⟨1, rfl, rfl, ⟨by omega, by omega⟩, HRN, 0, rfl⟩
              case rest =>
                obtain ⟨cn, rfl, rfl, HCN, HRN, m2, rfl⟩ := hcut
                have HW3 := Aside0.mk (HW.out.move (w1 := w2.drewN m2) (below_drewN0 _ _))
                have HB3 := Aside0.mk (show (w2.drewN m2).heap[b1]? = some (.cells #[.int .i64 st, .int .i64 th, .int .i64 ix, .bool rt] 109 (0, 0)) from HB2.out)
                clear HW HB2 HR2 y0 y1 y2 y3 hcnt1 hcnt2
                generalize w2.drewN m2 = w3 at HW3 HB3 ⊢
                have y0 : w3.cell? ⟨b1, 0, none⟩ = some (.int .i64 st) := (blk_cell HB3.out 0).trans rfl
                have y1 : w3.cell? ⟨b1, 1, none⟩ = some (.int .i64 th) := (blk_cell HB3.out 1).trans rfl
                have y2 : w3.cell? ⟨b1, 2, none⟩ = some (.int .i64 ix) := (blk_cell HB3.out 2).trans rfl
                have y3 : w3.cell? ⟨b1, 3, none⟩ = some (.bool rt) := (blk_cell HB3.out 3).trans rfl
                have hst0 : 0 ≤ st := by have := HGD.out.1; omega
                cases rt with
                | true =>
                  have hsmt : sm = true := by
                    have h1 : true = ob := HGD.out.2.1
                    have h := HOP.out.symm
                    rw [← h1, Bool.and_eq_true] at h
                    exact h.1
                  have hlt2 : (n : Int) < (s.out.length : Int) := by have := HN.out hsmt; omega
                  have hn0 : (0 : Int) ≤ (n : Int) := by omega
                  have HNL : Aside0 (n < s.out.length) := ⟨HN.out hsmt⟩
                  clear hsmt
                  obtain ⟨go, cap, hv, hgb, hgl, cells, hgc⟩ := Kd.R_form HW3.out.out (by omega)
                  injection hv with hv1 hv2 hv3
                  subst hv1 hv3
                  clear hv2
                  obtain ⟨ce, hcl, hM, hcc, hfr⟩ := Kd.R_elem HW3.out.out z49 (n : Int) hn0 hlt2
                  obtain rfl := k49_openM hM
                  rw [Int.toNat_natCast] at hcc hfr
                  have hx3 : w3.cell? ⟨go, n * 4 + 3, none⟩ = some (.int .i64 ((s.out.getD n z49).f3)) := hcc 3 _ rfl
                  have hf3 : w3.frozen? ⟨go, n * 4 + 3, none⟩ = false := hfr 3
                  generalize (s.out.getD n z49).f3 = of3 at hx3
                  clear hcl hcc hfr hM hgc hgl
                  have HREL := HW3.out.store hlt HE.out HNL.out HNN.out hst0 HCN.out HRN.out
                  go_wp2
                  exact ⟨⟨k + 1, _, by omega, by rfl, rfl, rfl, ⟨HREL⟩⟩, by simp [intOf]; omega⟩
                | false =>
                  have hrowok := HW3.out.out.1
                  have HOK := Aside0.mk hrowok
                  clear hrowok
                  have hb0 := (HW3.out.begunLe th).1
                  have hb1 := (HW3.out.begunLe th).2
                  have hlen3 := HW3.out.len
                  go_upto_region 20 with (at_mapUpdate; refine wpList_update _ rfl _ _ _ 107 rfl 3 3 keyed3 Tryz.underlying107 (Value.int .i64) vint_inj w.heap.size k _ rfl HW3.out.last th _ _ rfl rfl (key3 hfit) ?_; intro wa hla hga)
                  have HLA := Aside0.mk hla
                  have HGA := Aside0.mk hga
                  have hsz3 := HW3.out.begun.lt
                  have hn1 := HW3.out.last.ne_cells HB3.out
                  have hn2 := HW3.out.begun.ne_cells HB3.out
                  have HBA := Aside0.mk (HW3.out.begun.kept hga (by simp))
                  have HB4 := Aside0.mk (blk_grown hga HB3.out (by simpa using hn1))
                  have HN1 := Aside0.mk hn1
                  have HN2 := Aside0.mk hn2
                  have ya0 : wa.cell? ⟨b1, 0, none⟩ = some (.int .i64 st) := (blk_cell HB4.out 0).trans rfl
                  have ya1 : wa.cell? ⟨b1, 1, none⟩ = some (.int .i64 th) := (blk_cell HB4.out 1).trans rfl
                  have hbg : ((fun t => if s.begun t = 0 then none else some (Value.int .i64 (s.begun t))) th).getD (.int .i64 0) = .int .i64 (s.begun th) := by
                    by_cases hb : s.begun th = 0
                    · simp [hb]
                    · simp [hb]
                  have hlk : (Instr.lookup 107 (.map (some (w.heap.size + 1))) (.int .i64 th) false).run Tryz.prog wa = .ok (.int .i64 (s.begun th)) wa := by
                    rw [HBA.out.look keyed3 vint_inj Tryz.underlying107 (zero3 _) (key3 hfit), hbg]
                  clear hla hga y0 y1 y2 y3 hbg hn1 hn2
                  go_upto_region 21 with (at_mapUpdate; refine wpList_update _ rfl _ _ _ 107 rfl 3 3 keyed3 Tryz.underlying107 (Value.int .i64) vint_inj (w.heap.size + 1) k _ rfl HBA.out th _ _ rfl rfl (key3 hfit) ?_; intro wb hlb hgb)
                  have HLB := Aside0.mk (HLA.out.kept hgb (by simp))
                  have HB5 := Aside0.mk (blk_grown hgb HB4.out (by simpa using HN2.out))
                  have HO5 : Aside0 (Kd.R k49 49 wb w.heap.size (fun j => j ≠ w.heap.size ∧ j ≠ w.heap.size + 1) (.slice A4 s.out.length c4) s.out) :=
                    ⟨Kd.R_grown (Kd.R_grown HW3.out.out HGA.out (fun j hj e => hj.1 (by injection e))) hgb (fun j hj e => hj.2 (by injection e))⟩
                  have HBE : Aside0 (Below w.heap.size w wb) := ⟨(HW3.out.below.grown HGA.out HW3.out.below.size (fun j hj => by cases hj; exact Nat.le_refl _)).grown hgb (Nat.le_trans HW3.out.below.size HGA.out.size) (fun j hj => by cases hj; omega)⟩
                  have HSZ : Aside0 (w.heap.size + 1 < wb.heap.size) := ⟨Nat.lt_of_lt_of_le hsz3 (Nat.le_trans HGA.out.size hgb.size)⟩
                  have HLB2 := Aside0.mk hlb
                  have yb0 : wb.cell? ⟨b1, 0, none⟩ = some (.int .i64 st) := (blk_cell HB5.out 0).trans rfl
                  have yb1 : wb.cell? ⟨b1, 1, none⟩ = some (.int .i64 th) := (blk_cell HB5.out 1).trans rfl
                  have yb2 : wb.cell? ⟨b1, 2, none⟩ = some (.int .i64 ix) := (blk_cell HB5.out 2).trans rfl
                  clear hlb hgb ya0 ya1 hlk
                  go_wp2_with (at_builtin; refine Kd.R_append k49 (w0 := w) w.heap.size rfl (.tmp 132) (.tmp 140) 43 49 (.agg #[(.int .i64 0), (.int .i64 0), (.int .i64 0), (.int .i64 0)]) 32 rfl Tryz.underlying43 info49 rfl (by decide) (by omega) (.slice A4 s.out.length c4) s.out (⟨th, ix, st, -1⟩ : S49) [.int .i64 th, .int .i64 ix, .int .i64 st, .int .i64 (-1)] (fun j => j ≠ w.heap.size ∧ j ≠ w.heap.size + 1) (fun _ => False) rfl rfl ?aP (fun _ hk => hk.elim) ?aF HO5.out HBE.out ?aS ?aL ?_; (case aP => exact k49_mkM _ _ _ (⟨th, ix, st, -1⟩ : S49)); (case aF => (have h9 := HSZ.out; exact fun j hj => ⟨by omega, by omega⟩)); (case aS => (have h9 := HSZ.out; omega)); (case aL => omega); intro v1 wc ho hb hg hat)
                  have hre : SpRel w wc l0 (spRun z109 l0 SpSt.start) (k + 1) (SpSt.go { s with step := st, cnt := cn } ⟨st, th, ix, false⟩) v1 :=
                    HW3.out.push hlt HE.out hst0 HCN.out HRN.out ho hb
                      (HLB.out.kept hg (fun e => (HOK.out _ e.symm).1 rfl)) (HLB2.out.kept hg (fun e => (HOK.out _ e.symm).2 rfl))
                  exact ⟨⟨k + 1, _, by omega, by rfl, rfl, rfl, ⟨hre⟩⟩, by simp [intOf]; omega⟩
    · have hkk : k = l0.length := by omega
      subst hkk
      have hrun := HS.out.run
      rw [List.drop_length, spRun] at hrun
      have h := H0.out
      unfold hist_Spans.f at h
      by_cases hc : l0.length < 4398046511104 ∧ l0.all (fun e => fit e.f1) = true
      · rw [if_pos hc, ← hrun] at h
        simp only [Option.some.injEq, Prod.mk.injEq] at h
        obtain ⟨rfl, rfl⟩ := h
        clear hrun hc
        go_wp2
        go_ret2
        exact ⟨_, rfl, Kd.R_mono HS.out.out (fun _ _ => trivial), HS.out.below⟩
      · rw [if_neg hc] at h; cases h
end Go.Proofs.YtndgfpfcdppfgaaGreatDoor.Own
