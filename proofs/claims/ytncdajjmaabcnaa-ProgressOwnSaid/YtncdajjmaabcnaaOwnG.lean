/- progress.Own, called with any result, tells what 'progress_Own.f' says, in new memory. -/
import Derived.Test.YtncdajjmaabcnaaLongestG
namespace Go.Proofs.Ytncdajjmaabcnaa.Own
open Go.RowKit Go.Proofs.YtncdajjmaabcnaaW.PrintWords Go.Proofs.YtncdajjmaabcnaaW.PrintLast Go.Proofs.YtncdajjmaabcnaaW.PrintMore Go.Proofs.Ytncdajjmaabcnaa.MF
attribute [local go_sem] max2_int min2_int max_two min_two
set_option linter.unusedVariables false
set_option linter.unusedSimpArgs false
namespace LG
/-- Is an access, at step s, one of a call's? -/
def hit (d : S63) (a : S66) (s : Int) : Bool := (a.f0 == d.f0.f0) && (decide (d.f0.f2 ≤ s) && (decide (d.f0.f3 < 0) || decide (s ≤ d.f0.f3)))
def cntT (d : S63) (l1 : List S66) (l2 : List Int) : Nat → Int
  | 0 => 0
  | n + 1 => cntT d l1 l2 n + (if hit d (rd_T66 l1 (n : Int)) (stepAt l2 n) = true then 1 else 0)
def owns (l0 : List S63) (l1 : List S66) (l2 : List Int) (n : Nat) : List Int := (List.range n).map fun i => mx (cntT (rd_T63 l0 (i : Nat)) l1 l2 l1.length) 1
theorem owns_succ (l0 : List S63) (l1 : List S66) (l2 : List Int) (n : Nat) : owns l0 l1 l2 (n + 1) = owns l0 l1 l2 n ++ [mx (cntT (rd_T63 l0 (n : Int)) l1 l2 l1.length) 1] := by
  unfold owns
  rw [List.range_succ, List.map_append]
  rfl
theorem owns_len (l0 : List S63) (l1 : List S66) (l2 : List Int) (n : Nat) : (owns l0 l1 l2 n).length = n := by
  unfold owns
  simp
theorem cnt_le (d : S63) (l1 : List S66) (l2 : List Int) : ∀ n : Nat, 0 ≤ cntT d l1 l2 n ∧ cntT d l1 l2 n ≤ n
  | 0 => ⟨Int.le_refl _, Int.le_refl _⟩
  | n + 1 => by
    have := cnt_le d l1 l2 n
    unfold cntT
    split <;> omega
end LG
def progress_Own.f (l0_0 : List S63) (l0_1 : List S66) (l0_2 : List Int) : Option (List Int) :=
  if l0_0.length < 4398046511104 ∧ l0_1.length < 4398046511104 then some (LG.owns l0_0 l0_1 l0_2 l0_0.length) else none
namespace LG
structure ORel (w wr : World) (A0_0 : Option Addr) (c0_0 : Nat) (A0_1 : Option Addr) (c0_1 : Nat) (A0_2 : Option Addr) (c0_2 : Nat) (l0_0 : List S63) (l0_1 : List S66) (l0_2 : List Int) (k : Nat) (v : Value) : Prop where
  out : Kd.R (Kd.int .i64) 3 wr w.heap.size (fun j => j ≠ w.heap.size) v (owns l0_0 l0_1 l0_2 k)
  box : wr.heap[w.heap.size]? = some (.cells #[.slice A0_0 l0_0.length c0_0, .slice A0_1 l0_1.length c0_1, .slice A0_2 l0_2.length c0_2] 38 (0, 0))
  below : Below w.heap.size w wr
theorem ORel.move {w wr w1 : World} {A0_0 : Option Addr} {c0_0 : Nat} {A0_1 : Option Addr} {c0_1 : Nat} {A0_2 : Option Addr} {c0_2 : Nat} {l0_0 : List S63} {l0_1 : List S66} {l0_2 : List Int} {k : Nat} {v : Value} (h : ORel w wr A0_0 c0_0 A0_1 c0_1 A0_2 c0_2 l0_0 l0_1 l0_2 k v) (hb : Below wr.heap.size wr w1) : ORel w w1 A0_0 c0_0 A0_1 c0_1 A0_2 c0_2 l0_0 l0_1 l0_2 k v :=
  ⟨Kd.R_below h.out hb, (hb.block _ (Array.getElem?_eq_some_iff.1 h.box).1).trans h.box, h.below.trans (hb.mono h.below.size)⟩
theorem info66s : (Try.prog.info? 66).map (·.size) = some 8 := by kernel_rfl
theorem spot_at {a : Addr} (hsp : a.spot = none) : a = ⟨a.block, a.off, none⟩ := by
  obtain ⟨b, o, s⟩ := a
  simp only at hsp
  subst hsp
  rfl
theorem did_at2 {w : World} {A : Option Addr} {l : List S63} (h : Kd.C k63 w A l.length l) (k : Nat) (hk : k < l.length) :
    ∃ (B O : Nat) (cs : List Value) (ad : Addr), A = some ad ∧ ad.add (k * 22) = ⟨B, O, none⟩ ∧ cs.length = 22 ∧ cs[0]? = some (.int .i64 (rd_T63 l (k : Int)).f0.f0) ∧ cs[2]? = some (.int .i64 (rd_T63 l (k : Int)).f0.f2) ∧ cs[3]? = some (.int .i64 (rd_T63 l (k : Int)).f0.f3) ∧ (∀ v ∈ cs, v.oneCell' = true) ∧ w.rangeAt B O cs := by
  obtain ⟨ad, c, e, hln, hK, hc0⟩ := Kd.C_get h z63 (k : Int) (by omega) (by omega)
  rw [Int.toNat_natCast] at hK hc0
  have hc : ∀ j u, c[j]? = some u → w.cell? (ad.add (k * 22 + j)) = some u := hc0
  obtain ⟨A12, c12, A20, c20, hcs, _, _, _, _⟩ := k63_open hK
  have e3 : (l.getD k z63) = rd_T63 l (k : Int) := by unfold rd_T63; rw [Int.toNat_natCast]
  rw [e3] at hcs
  have h0 := hc 0 (.int .i64 (rd_T63 l (k : Int)).f0.f0) (by rw [hcs]; rfl)
  rw [Nat.add_zero] at h0
  have hsp : (ad.add (k * 22)).spot = none := World.cell?_spot h0
  refine ⟨(ad.add (k * 22)).block, (ad.add (k * 22)).off, c, ad, e, spot_at hsp, by rw [hcs]; rfl, by rw [hcs]; rfl, by rw [hcs]; rfl, by rw [hcs]; rfl, ?_, ?_⟩
  · intro v hv
    rw [hcs] at hv
    simp only [List.mem_cons, List.not_mem_nil, or_false] at hv
    rcases hv with h | h | h | h | h | h | h | h | h | h | h | h | h | h | h | h | h | h | h | h | h | h <;> (rw [h]; rfl)
  · intro j v hj
    have h1 := hc j v hj
    rw [← Go.Deep.add_add, spot_at hsp, Addr.add_mid] at h1
    exact h1
theorem acc_at {w : World} {A : Option Addr} {l : List S66} (h : Kd.C k66 w A l.length l) (k : Nat) (hk : k < l.length) :
    ∃ (B O : Nat) (cs : List Value) (ad : Addr), A = some ad ∧ ad.add (k * 8) = ⟨B, O, none⟩ ∧ cs.length = 8 ∧ cs[0]? = some (.int .i64 (rd_T66 l (k : Int)).f0) ∧ (∀ v ∈ cs, v.oneCell' = true) ∧ w.rangeAt B O cs := by
  obtain ⟨ad, c, e, hln, hK, hc0⟩ := Kd.C_get h z66 (k : Int) (by omega) (by omega)
  rw [Int.toNat_natCast] at hK hc0
  have hc : ∀ j u, c[j]? = some u → w.cell? (ad.add (k * 8 + j)) = some u := hc0
  obtain ⟨A5, c5, hcs, _, _⟩ := k66_open hK
  have e3 : (l.getD k z66) = rd_T66 l (k : Int) := by unfold rd_T66; rw [Int.toNat_natCast]
  rw [e3] at hcs
  have h0 := hc 0 (.int .i64 (rd_T66 l (k : Int)).f0) (by rw [hcs]; rfl)
  rw [Nat.add_zero] at h0
  have hsp : (ad.add (k * 8)).spot = none := World.cell?_spot h0
  refine ⟨(ad.add (k * 8)).block, (ad.add (k * 8)).off, c, ad, e, spot_at hsp, by rw [hcs]; rfl, by rw [hcs]; rfl, ?_, ?_⟩
  · intro v hv
    rw [hcs] at hv
    simp only [List.mem_cons, List.not_mem_nil, or_false] at hv
    rcases hv with h | h | h | h | h | h | h | h <;> (rw [h]; rfl)
  · intro j v hj
    have h1 := hc j v hj
    rw [← Go.Deep.add_add, spot_at hsp, Addr.add_mid] at h1
    exact h1
theorem there66 {w : World} {g : Nat} (h : w.heap[g]? = some (.cells #[.int .i64 0, .int .u8 0, .int .u64 0, .int .u64 0, .int .u64 0, .slice none 0 0, .int .u64 0, .bool false] 66 (0, 0))) : w.there g 0 8 := by
  intro j hj
  have hc := blk_cell h (0 + j)
  refine ⟨?_, ?_⟩
  · rw [hc]
    simpa using hj
  · unfold World.frozen?
    rw [h]
    simp
theorem cellN {w : World} {g n : Nat} {cs : List Value} {v : Value} (j : Nat) (ht : w.there g 0 n) (hl : cs.length = n) (h3 : cs[j]? = some v) : (w.setCells g 0 cs).cell? ⟨g, j, none⟩ = some v := by
  have hj : j < cs.length := (List.getElem?_eq_some_iff.1 h3).1
  have hx := World.cell?_setCells_in g cs 0 w (fun i hi => (ht i (by omega)).1) j hj
  rw [Nat.zero_add] at hx
  rw [List.getElem?_eq_getElem hj] at h3
  rw [← h3]
  exact hx
theorem blk_below0 {w w1 : World} {g : Nat} {i : Nat} {v : Value} (h : w.cell? ⟨g, i, none⟩ = some v) (hb : Below w.heap.size w w1) : w1.cell? ⟨g, i, none⟩ = some v :=
  (hb.cell (World.block_lt_of_cell? w _ h)).trans h
end LG
open LG in
set_option maxHeartbeats 8000000 in
set_option maxRecDepth 100000 in
theorem progress_Own.calls (A0_0 : Option Addr) (c0_0 : Nat) (l0_0 : List (S63)) (A0_1 : Option Addr) (c0_1 : Nat) (l0_1 : List (S66)) (A0_2 : Option Addr) (c0_2 : Nat) (l0_2 : List Int) (r : List Int) (w : World) (hr0_0 : Kd.C k63 w A0_0 l0_0.length l0_0) (hc0_0 : l0_0.length ≤ c0_0) (hr0_1 : Kd.C k66 w A0_1 l0_1.length l0_1) (hc0_1 : l0_1.length ≤ c0_1) (hr0_2 : Kd.C (Kd.int .i64) w A0_2 l0_2.length l0_2) (hc0_2 : l0_2.length ≤ c0_2) (h : progress_Own.f l0_0 l0_1 l0_2 = some r) :
    Calls Try.prog 13 #[.agg #[.slice A0_0 l0_0.length c0_0, .slice A0_1 l0_1.length c0_1, .slice A0_2 l0_2.length c0_2]] w fun e w' => ∃ v0_ : Value, e = .returned (v0_) ∧ Kd.R (Kd.int .i64) 3 w' w.heap.size (fun _ => True) v0_ r ∧ Below w.heap.size w w' := by
  have hu38 := Try.underlying38
  have hu52 := Try.underlying52
  have hcc : (l0_0.length < 4398046511104 ∧ l0_1.length < 4398046511104) ∧ r = owns l0_0 l0_1 l0_2 l0_0.length := by
    unfold progress_Own.f at h
    split at h
    · rename_i hc
      exact ⟨hc, (Option.some.inj h).symm⟩
    · cases h
  obtain ⟨⟨hl0, hl1⟩, rfl⟩ := hcc
  have HR0 := Aside0.mk hr0_0
  have HR1 := Aside0.mk hr0_1
  have HR2 := Aside0.mk hr0_2
  have HC0 := Aside0.mk hc0_0
  have HC1 := Aside0.mk hc0_1
  have HC2 := Aside0.mk hc0_2
  clear h hr0_0 hr0_1 hr0_2 hc0_0 hc0_1 hc0_2
  go_enter Try.func13, Try.ntmps13
  go_upto_region 2 with (fail)
  have HS0 : Aside0 (ORel w (w.alloc (.cells #[.slice A0_0 l0_0.length c0_0, .slice A0_1 l0_1.length c0_1, .slice A0_2 l0_2.length c0_2] 38)) A0_0 c0_0 A0_1 c0_1 A0_2 c0_2 l0_0 l0_1 l0_2 0 (.slice none 0 0)) := ⟨⟨Kd.R_nil _ _ _ _ _, by simpa using heap_alloc_new w _, (Below.refl _ _).alloc (Nat.le_refl _) _⟩⟩
  generalize w.alloc (.cells #[.slice A0_0 l0_0.length c0_0, .slice A0_1 l0_1.length c0_1, .slice A0_2 l0_2.length c0_2] 38) = w1 at HS0 ⊢
  have y0 : w1.cell? ⟨w.heap.size, 0, none⟩ = some (.slice A0_0 l0_0.length c0_0) := (blk_cell HS0.out.box 0).trans rfl
  go_wp2
  clear y0
  go_loopw [3, 13] (fun v3 v13 wr => ∃ (k : Nat), k ≤ l0_0.length ∧ v13 = .int .i64 k ∧ Aside0 (ORel w wr A0_0 c0_0 A0_1 c0_1 A0_2 c0_2 l0_0 l0_1 l0_2 k v3)) (fun _ i _ => l0_0.length - (intOf i).toNat)
  case atStart => exact ⟨0, Nat.zero_le _, rfl, HS0⟩
  case round =>
    clear HS0
    obtain ⟨k, hk, rfl, HS⟩ := hrel
    by_cases hlt : k < l0_0.length
    · have hk0 : (0 : Int) ≤ (k : Int) := by omega
      have hkl : (k : Int) < (l0_0.length : Int) := by omega
      obtain ⟨B, O, cs, ad, rfl, hBO, hln, h0, h2, h3, h1c, hrg⟩ := did_at2 (Kd.C_below HR0.out HS.out.below) k hlt
      have HNX := Aside0.mk (owns_succ l0_0 l0_1 l0_2 k)
      have HCL := Aside0.mk (cnt_le (rd_T63 l0_0 (k : Int)) l0_1 l0_2)
      have hcn : cntT (rd_T63 l0_0 (k : Int)) l0_1 l0_2 0 = 0 := rfl
      have HCN := Aside0.mk hcn
      have HCS := Aside0.mk (fun i => show cntT (rd_T63 l0_0 (k : Int)) l0_1 l0_2 (i + 1) = cntT (rd_T63 l0_0 (k : Int)) l0_1 l0_2 i + (if ((rd_T66 l0_1 (i : Int)).f0 == (rd_T63 l0_0 (k : Int)).f0.f0) && (decide ((rd_T63 l0_0 (k : Int)).f0.f2 ≤ stepAt l0_2 i) && (decide ((rd_T63 l0_0 (k : Int)).f0.f3 < 0) || decide (stepAt l0_2 i ≤ (rd_T63 l0_0 (k : Int)).f0.f3))) then 1 else 0) from rfl)
      clear hcn
      generalize (rd_T63 l0_0 (k : Int)).f0.f0 = dt at h0 HCS
      generalize (rd_T63 l0_0 (k : Int)).f0.f2 = df at h2 HCS
      generalize (rd_T63 l0_0 (k : Int)).f0.f3 = dto at h3 HCS
      generalize (cntT (rd_T63 l0_0 (k : Int)) l0_1 l0_2) = cnt at HNX HCL HCN HCS
      have hsz : cs.toArray.size = 22 := by simpa using hln
      have HIN : Aside0 ((Try.prog.info? 63).map (·.size) = some cs.length) := ⟨by rw [hln]; exact info63s⟩
      have HIN2 : Aside0 ((Try.prog.info? 63).map (·.size) = some cs.toArray.size) := ⟨by rw [hsz]; exact info63s⟩
      have HRG := Aside0.mk hrg
      have HON := Aside0.mk (all_oneCell_toArray h1c)
      have HLN := Aside0.mk hln
      have HSZ := Aside0.mk hsz
      have H0 := Aside0.mk h0
      have H2 := Aside0.mk h2
      have H3 := Aside0.mk h3
      clear hln h1c hsz hrg h0 h2 h3
      go_upto_region 5 with (first
        | ((with_reducible refine gate_dst (N := 16) rfl ?_); refine wpList_load_mid rfl 63 (.tmp 15) rfl B O rfl cs _ HRG.out Try.underlying63 rfl HIN.out ?_)
        | ((with_reducible refine gate_dst (N := 5) rfl ?_); refine box_event ?hg5 (N := 5) ?hd5 (cs := #[.int .i64 0, .int .i64 0, .int .i64 0, .int .i64 0, .int .u8 0, .int .u64 0, .int .u64 0, .int .u64 0, .int .u64 0, .bool false, .int .i64 0, .int .i64 0, .slice none 0 0, .int .u64 0, .int .u64 0, .int .i64 0, .bool false, .int .u64 0, .bool false, .int .u64 0, .slice none 0 0, .int .u64 0]) (t := 63) ?hr5 ?_; (case hd5 => rfl); (case hg5 => rfl); (case hr5 => first | (go_simp; done) | (go_simp; rfl)); intro gb hg w7 hbox hb; have HGB := Aside0.mk hg; have HBX := Aside0.mk hbox; have HBL := Aside0.mk hb; clear hg hbox hb)
        | ((with_reducible refine gate_store (t := 63) (p := 5) rfl ?_); refine wpList_store_mid rfl 63 (.tmp 5) (.tmp 16) rfl gb 0 cs.toArray rfl rfl ?ht63 HIN2.out HON.out ?_; (case ht63 => (rw [HSZ.out]; exact there63 HBX.out))))
      have hu63 := Try.underlying63
      have HB2 : Aside0 (Below wr.heap.size wr (w7.setCells gb 0 cs)) := ⟨below_setCells' (by rw [HGB.out]; exact Nat.le_refl _) cs 0 HBL.out⟩
      have HS1 : Aside0 (ORel w (w7.setCells gb 0 cs) (some ad) c0_0 A0_1 c0_1 A0_2 c0_2 l0_0 l0_1 l0_2 k u3) := ⟨HS.out.move HB2.out⟩
      have X0 := Aside0.mk (cellN 0 (there63 HBX.out) HLN.out H0.out)
      have X2 := Aside0.mk (cellN 2 (there63 HBX.out) HLN.out H2.out)
      have X3 := Aside0.mk (cellN 3 (there63 HBX.out) HLN.out H3.out)
      clear HBX HBL HGB HIN HIN2 HRG HON HLN HSZ H0 H2 H3 hBO HS HB2
      generalize w7.setCells gb 0 cs = w2 at HS1 X0 X2 X3 ⊢
      have y1 : w2.cell? ⟨w.heap.size, 1, none⟩ = some (.slice A0_1 l0_1.length c0_1) := (blk_cell HS1.out.box 1).trans rfl
      go_wp2_with fail
      clear y1
      go_loopw [6, 20] (fun v6 v20 wi => ∃ (i : Nat), i ≤ l0_1.length ∧ v20 = .int .i64 i ∧ v6 = .int .i64 (cnt i) ∧ Aside0 (Below w2.heap.size w2 wi)) (fun _ i _ => l0_1.length - (intOf i).toNat)
      case atStart => exact ⟨0, Nat.zero_le _, rfl, by rw [HCN.out], ⟨Below.refl _ _⟩⟩
      case round =>
        obtain ⟨i, hi, rfl, rfl, HW⟩ := hrel
        have HS2 := Aside0.mk (HS1.out.move HW.out)
        by_cases hlt2 : i < l0_1.length
        · have hi0 : (0 : Int) ≤ (i : Int) := by omega
          have hil : (i : Int) < (l0_1.length : Int) := by omega
          obtain ⟨Ba, Oa, ca, aa, hae, hBOa, hlna, ha0, h1a, hrga⟩ := acc_at (Kd.C_below HR1.out HS2.out.below) i hlt2
          subst hae
          have hsa : ca.toArray.size = 8 := by simpa using hlna
          have KIN : Aside0 ((Try.prog.info? 66).map (·.size) = some ca.length) := ⟨by rw [hlna]; exact info66s⟩
          have KIN2 : Aside0 ((Try.prog.info? 66).map (·.size) = some ca.toArray.size) := ⟨by rw [hsa]; exact info66s⟩
          have HCI := Aside0.mk (HCS.out i)
          have HST0 := Aside0.mk (step_is l0_0 l0_1 l0_2 i)
          generalize stepAt l0_2 i = st at HCI HST0
          generalize (rd_T66 l0_1 (i : Int)).f0 = at_ at ha0 HCI
          have KRG := Aside0.mk hrga
          have KON := Aside0.mk (all_oneCell_toArray h1a)
          have KLN := Aside0.mk hlna
          have KSZ := Aside0.mk hsa
          have K0 := Aside0.mk ha0
          clear hlna h1a hsa hrga ha0
          go_upto_region 9 with (first
            | ((with_reducible refine gate_dst (N := 24) rfl ?_); refine wpList_load_mid rfl 66 (.tmp 23) rfl Ba Oa rfl ca _ KRG.out Try.underlying66 rfl KIN.out ?_)
            | ((with_reducible refine gate_dst (N := 8) rfl ?_); refine box_event ?hg8 (N := 8) ?hd8 (cs := #[.int .i64 0, .int .u8 0, .int .u64 0, .int .u64 0, .int .u64 0, .slice none 0 0, .int .u64 0, .bool false]) (t := 66) ?hr8 ?_; (case hd8 => rfl); (case hg8 => rfl); (case hr8 => first | (go_simp; done) | (go_simp; rfl)); intro ga hg w8 hbox hb; have KGB := Aside0.mk hg; have KBX := Aside0.mk hbox; have KBL := Aside0.mk hb; clear hg hbox hb)
            | ((with_reducible refine gate_store (t := 66) (p := 8) rfl ?_); refine wpList_store_mid rfl 66 (.tmp 8) (.tmp 24) rfl ga 0 ca.toArray rfl rfl ?ht66 KIN2.out KON.out ?_; (case ht66 => (rw [KSZ.out]; exact there66 KBX.out))))
          have hu66 := Try.underlying66
          have KB2 : Aside0 (Below wr.heap.size wr (w8.setCells ga 0 ca)) := ⟨below_setCells' (by rw [KGB.out]; exact Nat.le_refl _) ca 0 KBL.out⟩
          have HW3 := Aside0.mk (HW.out.trans (KB2.out.mono HW.out.size))
          have XA := Aside0.mk (cellN 0 (there66 KBX.out) KLN.out K0.out)
          clear KBX KBL KGB KIN KIN2 KRG KON KLN KSZ K0 hBOa KB2 HS2 HW
          generalize w8.setCells ga 0 ca = w3 at HW3 XA ⊢
          have HS3 := Aside0.mk (HS1.out.move HW3.out)
          have z0 : w3.cell? ⟨w.heap.size, 0, none⟩ = some (.slice (some ad) l0_0.length c0_0) := (blk_cell HS3.out.box 0).trans rfl
          have z1 : w3.cell? ⟨w.heap.size, 1, none⟩ = some (.slice (some aa) l0_1.length c0_1) := (blk_cell HS3.out.box 1).trans rfl
          have z2 : w3.cell? ⟨w.heap.size, 2, none⟩ = some (.slice A0_2 l0_2.length c0_2) := (blk_cell HS3.out.box 2).trans rfl
          have HST := Lib.hid (progress_step.calls (some ad) c0_0 l0_0 (some aa) c0_1 l0_1 A0_2 c0_2 l0_2 (i : Int) st w3 (Kd.C_below HR0.out HS3.out.below) HC0.out (Kd.C_below HR1.out HS3.out.below) HC1.out (Kd.C_below HR2.out HS3.out.below) HC2.out HST0.out)
          go_upto_region 10 with ((go_at_call 27; refine HST.out.mono ?_; rintro e w4 ⟨rfl, hb⟩; have HW4 := Aside0.mk hb; clear hb))
          have HW5 := Aside0.mk (HW3.out.trans (HW4.out.mono HW3.out.size))
          have xa := blk_below0 XA.out HW4.out
          have x0 := blk_below0 X0.out HW5.out
          have x2 := blk_below0 X2.out HW5.out
          have x3 := blk_below0 X3.out HW5.out
          have hcl := HCL.out i
          have hci := HCI.out
          clear z0 z1 z2 HS3 HW3 HW4 XA HST HST0 HCI
          obtain ⟨cl0, cl1⟩ := hcl
          generalize hci' : cnt (i + 1) = c1 at hci
          have HC := Aside0.mk hci'
          clear hci'
          generalize cnt i = c0 at hci cl0 cl1 ⊢
          cases hp1 : (at_ == dt) with
          | false =>
            rw [hp1] at hci
            have HCI := Aside0.mk hci
            clear hci
            go_wp2
            exact ⟨⟨i + 1, by omega, by rfl, by rw [HC.out, HCI.out]; simp, HW5⟩, by simp [intOf]; omega⟩
          | true =>
            rw [hp1] at hci
            by_cases hp2 : df ≤ st
            · have p2 : decide (df ≤ st) = true := decide_eq_true hp2
              rw [p2] at hci
              by_cases hp3 : dto < 0
              · have p3 : decide (dto < 0) = true := decide_eq_true hp3
                rw [p3] at hci
                have HCI := Aside0.mk hci
                clear hci
                go_wp2
                exact ⟨⟨i + 1, by omega, by rfl, by rw [HC.out, HCI.out]; simp, HW5⟩, by simp [intOf]; omega⟩
              · have p3 : decide (dto < 0) = false := decide_eq_false hp3
                rw [p3] at hci
                by_cases hp4 : st ≤ dto
                · have p4 : decide (st ≤ dto) = true := decide_eq_true hp4
                  rw [p4] at hci
                  have HCI := Aside0.mk hci
                  clear hci
                  go_wp2
                  exact ⟨⟨i + 1, by omega, by rfl, by rw [HC.out, HCI.out]; simp, HW5⟩, by simp [intOf]; omega⟩
                · have p4 : decide (st ≤ dto) = false := decide_eq_false hp4
                  rw [p4] at hci
                  have HCI := Aside0.mk hci
                  clear hci
                  go_wp2
                  exact ⟨⟨i + 1, by omega, by rfl, by rw [HC.out, HCI.out]; simp, HW5⟩, by simp [intOf]; omega⟩
            · have p2 : decide (df ≤ st) = false := decide_eq_false hp2
              rw [p2] at hci
              have HCI := Aside0.mk hci
              clear hci
              go_wp2
              exact ⟨⟨i + 1, by omega, by rfl, by rw [HC.out, HCI.out]; simp, HW5⟩, by simp [intOf]; omega⟩
        · have hii : i = l0_1.length := by omega
          subst hii
          have hltw : w.heap.size < wr.heap.size := (Array.getElem?_eq_some_iff.1 HS2.out.box).1
          have hol := owns_len l0_0 l0_1 l0_2 k
          have HOK := Aside0.mk HS2.out.out.1
          obtain ⟨q, hq⟩ : ∃ q : Int, (if cnt l0_1.length < 1 then 1 else cnt l0_1.length) = q := ⟨_, rfl⟩
          have HQ := Aside0.mk (show mx (cnt l0_1.length) 1 = q from hq)
          go_wp2_with (at_builtin; refine Kd.R_append (Kd.int .i64) (w0 := w) w.heap.size rfl (.tmp 57) (.tmp 60) 36 3 (.int .i64 0) 8 rfl Try.underlying36 info3 rfl (by decide) (by omega) u3 (owns l0_0 l0_1 l0_2 k) q [.int .i64 q] (fun j => j ≠ w.heap.size) (fun _ => False) rfl rfl ?aP (fun _ hk => hk.elim) ?aF HS2.out.out HS2.out.below ?aS ?aL ?_; (case aP => exact rfl); (case aF => (have h9 := hltw; exact fun j hj => by omega)); (case aS => exact HS2.out.below.size); (case aL => omega); intro v1 wc ho hb hg hat)
          have hre : ORel w wc (some ad) c0_0 A0_1 c0_1 A0_2 c0_2 l0_0 l0_1 l0_2 (k + 1) v1 := ⟨by rw [HNX.out, HQ.out]; exact ho, blk_grown hg HS2.out.box (fun e => HOK.out _ e.symm rfl), hb⟩
          exact ⟨⟨k + 1, by omega, by rfl, ⟨hre⟩⟩, by simp [intOf]; omega⟩
    · have hkk : k = l0_0.length := by omega
      subst hkk
      go_wp2
      go_ret
      exact ⟨_, rfl, Kd.R_mono HS.out.out (fun _ _ => trivial), HS.out.below⟩
end Go.Proofs.Ytncdajjmaabcnaa.Own
