/- progress.Longest, called with any result, tells what 'progress_Longest.f' says. No condition but that the steps are ints. -/
import Derived.Test.YtncdajjmaabcnaaOwnx0
import Derived.Test.YtncdajjmaabcnaaOwnx1
import Derived.Test.YtncdajjmaabcnaaMapFun
import Derived.Lib.Hide
import Derived.Outline
import Derived.BigFrameIn
import Derived.BigQuiet
import Derived.OpenShut
import Derived.Deep.MidRow
import Derived.Deep.Slices
import Derived.DataReads
namespace Go.Proofs.Ytncdajjmaabcnaa.Own
open Go.RowKit Go.Proofs.YtncdajjmaabcnaaW.PrintWords Go.Proofs.YtncdajjmaabcnaaW.PrintLast Go.Proofs.YtncdajjmaabcnaaW.PrintMore Go.Proofs.Ytncdajjmaabcnaa.MF
attribute [local go_sem] max2_int min2_int max_two min_two
set_option linter.unusedVariables false
set_option linter.unusedSimpArgs false
def fitI (n : Int) : Bool := decide (-9223372036854775808 ≤ n) && decide (n ≤ 9223372036854775807)
namespace LG
/-- Does a call return at step t? -/
def retAny (l : List S63) (t : Int) : Bool := l.any fun d => decide (0 ≤ d.f0.f3) && (d.f0.f3 == t)
def stepAt (st : List Int) (i : Nat) : Int := if i < st.length then rd st (i : Int) else -1
/-- The longest row and the row that lasts, behind n accesses. -/
def run (l : List S63) (st : List Int) : Nat → Int × Int
  | 0 => (0, 0)
  | n + 1 => (mx (run l st n).1 (if retAny l (stepAt st n) = true then 0 else (run l st n).2 + 1), if retAny l (stepAt st n) = true then 0 else (run l st n).2 + 1)
end LG
def progress_Longest.f (l0_0 : List S63) (l0_1 : List S66) (l0_2 : List Int) : Option Int :=
  if l0_0.length < 4398046511104 ∧ l0_1.length < 4398046511104 ∧ (l0_0.all fun d => fitI d.f0.f3) = true ∧ l0_2.all fitI = true then some (LG.run l0_0 l0_2 l0_1.length).1 else none
namespace LG
theorem zero4 (w : World) : (zeroValue 4).run Try.prog w = .ok (.bool false) w := by kernel_rfl
theorem keyed3 : Go.Maps.Keyed Try.prog 3 := Go.Maps.int_keyed Try.underlying3
theorem fit_wf {n : Int} (h : fitI n = true) : (Lit.int .i64 n).wf = true := by
  simp only [fitI, Bool.and_eq_true, decide_eq_true_eq] at h
  exact WalkArith.wf_i64 h
theorem key3 {n : Int} (h : fitI n = true) : keyOf Try.prog 3 (.int .i64 n) = some (.int .i64 n) := Go.Maps.keyOf_int_mk Try.underlying3 (fit_wf h)
def gm (l : List S63) : Int → Option Value := fun t => if retAny l t = true then some (.bool true) else none
theorem gm_get (l : List S63) (t : Int) : (gm l t).getD (.bool false) = .bool (retAny l t) := by
  unfold gm
  cases retAny l t <;> rfl
theorem take_k {l : List S63} {k : Nat} (h : k < l.length) : l.take (k + 1) = l.take k ++ [rd_T63 l (k : Int)] := by
  rw [List.take_add_one, List.getElem?_eq_getElem h]
  unfold rd_T63
  rw [Int.toNat_natCast, List.getD_eq_getElem?_getD, List.getElem?_eq_getElem h]
  rfl
theorem ret_snoc (l : List S63) (d : S63) (t : Int) : retAny (l ++ [d]) t = (retAny l t || (decide (0 ≤ d.f0.f3) && (d.f0.f3 == t))) := by
  unfold retAny
  rw [List.any_append]
  simp
structure Rel (w wr : World) (A0_0 : Option Addr) (c0_0 : Nat) (A0_1 : Option Addr) (c0_1 : Nat) (A0_2 : Option Addr) (c0_2 : Nat) (l0_0 : List S63) (l0_1 : List S66) (l0_2 : List Int) (k : Nat) : Prop where
  map : HasMap wr Try.prog 3 (Value.int .i64) (w.heap.size + 1) k (gm (l0_0.take k))
  box : wr.heap[w.heap.size]? = some (.cells #[.slice A0_0 l0_0.length c0_0, .slice A0_1 l0_1.length c0_1, .slice A0_2 l0_2.length c0_2] 38 (0, 0))
  below : Below w.heap.size w wr
theorem Rel.move {w wr w1 : World} {A0_0 : Option Addr} {c0_0 : Nat} {A0_1 : Option Addr} {c0_1 : Nat} {A0_2 : Option Addr} {c0_2 : Nat} {l0_0 : List S63} {l0_1 : List S66} {l0_2 : List Int} {k : Nat} (h : Rel w wr A0_0 c0_0 A0_1 c0_1 A0_2 c0_2 l0_0 l0_1 l0_2 k) (hb : Below wr.heap.size wr w1) : Rel w w1 A0_0 c0_0 A0_1 c0_1 A0_2 c0_2 l0_0 l0_1 l0_2 k :=
  ⟨h.map.below hb h.map.lt, (hb.block _ (Array.getElem?_eq_some_iff.1 h.box).1).trans h.box, h.below.trans (hb.mono h.below.size)⟩
theorem Rel.put_ {w wr wb : World} {A0_0 : Option Addr} {c0_0 : Nat} {A0_1 : Option Addr} {c0_1 : Nat} {A0_2 : Option Addr} {c0_2 : Nat} {l0_0 : List S63} {l0_1 : List S66} {l0_2 : List Int} {k : Nat} (h : Rel w wr A0_0 c0_0 A0_1 c0_1 A0_2 c0_2 l0_0 l0_1 l0_2 k) (hk : k < l0_0.length)
    (h0 : 0 ≤ (rd_T63 l0_0 (k : Int)).f0.f3) (hm : HasMap wb Try.prog 3 (Value.int .i64) (w.heap.size + 1) (k + 1) (put (gm (l0_0.take k)) (rd_T63 l0_0 (k : Int)).f0.f3 (.bool true))) (hg : wr.grownBy wb (some (w.heap.size + 1))) : Rel w wb A0_0 c0_0 A0_1 c0_1 A0_2 c0_2 l0_0 l0_1 l0_2 (k + 1) := by
  refine ⟨hm.congr (fun t => ?_), blk_grown hg h.box (by simp), h.below.grown hg h.below.size (fun j hj => by cases hj; omega)⟩
  unfold put gm
  rw [take_k hk, ret_snoc, decide_eq_true h0, Bool.true_and]
  by_cases ht : t = (rd_T63 l0_0 (k : Int)).f0.f3
  · subst ht
    simp
  · have : ((rd_T63 l0_0 (k : Int)).f0.f3 == t) = false := by simpa using fun e => ht e.symm
    rw [if_neg ht, this, Bool.or_false]
theorem Rel.skip {w wr : World} {A0_0 : Option Addr} {c0_0 : Nat} {A0_1 : Option Addr} {c0_1 : Nat} {A0_2 : Option Addr} {c0_2 : Nat} {l0_0 : List S63} {l0_1 : List S66} {l0_2 : List Int} {k : Nat} (h : Rel w wr A0_0 c0_0 A0_1 c0_1 A0_2 c0_2 l0_0 l0_1 l0_2 k) (hk : k < l0_0.length)
    (h0 : ¬ 0 ≤ (rd_T63 l0_0 (k : Int)).f0.f3) : Rel w wr A0_0 c0_0 A0_1 c0_1 A0_2 c0_2 l0_0 l0_1 l0_2 (k + 1) := by
  refine ⟨(h.map.mono (Nat.le_succ _)).congr (fun t => ?_), h.box, h.below⟩
  unfold gm
  rw [take_k hk, ret_snoc, decide_eq_false h0]
  simp
theorem run_le (l : List S63) (st : List Int) : ∀ n : Nat, (0 ≤ (run l st n).1 ∧ (run l st n).1 ≤ n) ∧ 0 ≤ (run l st n).2 ∧ (run l st n).2 ≤ n
  | 0 => ⟨⟨Int.le_refl _, Int.le_refl _⟩, Int.le_refl _, Int.le_refl _⟩
  | n + 1 => by
    obtain ⟨⟨h1, h2⟩, h3, h4⟩ := run_le l st n
    unfold run
    simp only
    generalize (run l st n).1 = a at h1 h2
    generalize (run l st n).2 = b at h3 h4
    cases retAny l (stepAt st n) with
    | true =>
      simp only [if_true]
      unfold mx
      split <;> omega
    | false =>
      simp only [Bool.false_eq_true, if_false]
      unfold mx
      split <;> omega
theorem step_is (l0 : List S63) (l1 : List S66) (l2 : List Int) (i : Nat) : progress_step.f l0 l1 l2 (i : Int) = some (stepAt l2 i) := by
  unfold progress_step.f stepAt
  by_cases h : i < l2.length
  · rw [if_pos (by omega), if_pos (by omega), if_pos h]
  · rw [if_neg (by omega), if_neg h]
theorem step_fit {l2 : List Int} (h : l2.all fitI = true) (i : Nat) : fitI (stepAt l2 i) = true := by
  unfold stepAt
  by_cases hi : i < l2.length
  · rw [if_pos hi]
    unfold rd
    rw [Int.toNat_natCast, List.getD_eq_getElem?_getD, List.getElem?_eq_getElem hi]
    exact List.all_eq_true.1 h _ (List.getElem_mem hi)
  · rw [if_neg hi]; decide
theorem info63s : (Try.prog.info? 63).map (·.size) = some 22 := by kernel_rfl
/-- A Did in memory: its cells, whatever they are, and where its call returned. -/
theorem did_at {w : World} {A : Option Addr} {l : List S63} (h : Kd.C k63 w A l.length l) (k : Nat) (hk : k < l.length) :
    ∃ (B O : Nat) (cs : List Value) (ad : Addr), A = some ad ∧ ad.add (k * 22) = ⟨B, O, none⟩ ∧ cs.length = 22 ∧ cs[3]? = some (.int .i64 (rd_T63 l (k : Int)).f0.f3) ∧ (∀ v ∈ cs, v.oneCell' = true) ∧ w.rangeAt B O cs := by
  obtain ⟨ad, c, e, hln, hK, hc0⟩ := Kd.C_get h z63 (k : Int) (by omega) (by omega)
  rw [Int.toNat_natCast] at hK hc0
  have hc : ∀ j u, c[j]? = some u → w.cell? (ad.add (k * 22 + j)) = some u := hc0
  obtain ⟨A12, c12, A20, c20, hcs, _, _, _, _⟩ := k63_open hK
  have e3 : (l.getD k z63) = rd_T63 l (k : Int) := by unfold rd_T63; rw [Int.toNat_natCast]
  rw [e3] at hcs
  have h0 := hc 0 (.int .i64 (rd_T63 l (k : Int)).f0.f0) (by rw [hcs]; rfl)
  rw [Nat.add_zero] at h0
  have hsp : (ad.add (k * 22)).spot = none := World.cell?_spot h0
  refine ⟨(ad.add (k * 22)).block, (ad.add (k * 22)).off, c, ad, e, ?_, by rw [hcs]; rfl, by rw [hcs]; rfl, ?_, ?_⟩
  · generalize ad.add (k * 22) = a at hsp
    obtain ⟨b, o, s⟩ := a
    simp only at hsp
    subst hsp
    rfl
  · intro v hv
    rw [hcs] at hv
    simp only [List.mem_cons, List.not_mem_nil, or_false] at hv
    rcases hv with h | h | h | h | h | h | h | h | h | h | h | h | h | h | h | h | h | h | h | h | h | h <;> (rw [h]; rfl)
  · intro j v hj
    have h1 := hc j v hj
    rw [← Go.Deep.add_add] at h1
    generalize ad.add (k * 22) = a at hsp h1
    obtain ⟨b, o, s⟩ := a
    simp only at hsp
    subst hsp
    rw [Addr.add_mid] at h1
    exact h1
theorem there63 {w : World} {g : Nat} (h : w.heap[g]? = some (.cells #[.int .i64 0, .int .i64 0, .int .i64 0, .int .i64 0, .int .u8 0, .int .u64 0, .int .u64 0, .int .u64 0, .int .u64 0, .bool false, .int .i64 0, .int .i64 0, .slice none 0 0, .int .u64 0, .int .u64 0, .int .i64 0, .bool false, .int .u64 0, .bool false, .int .u64 0, .slice none 0 0, .int .u64 0] 63 (0, 0))) : w.there g 0 22 := by
  intro j hj
  have hc := blk_cell h (0 + j)
  refine ⟨?_, ?_⟩
  · rw [hc]
    simpa using hj
  · unfold World.frozen?
    rw [h]
    simp
theorem below_setCells' {w : World} {n g : Nat} (hg : n ≤ g) : ∀ (vs : List Value) (o : Nat) {w1 : World}, Below n w w1 → Below n w (w1.setCells g o vs)
  | [], _, _, h => h
  | v :: r, o, _, h => below_setCells' hg r (o + 1) (h.setCell hg _)
theorem cell3 {w : World} {g : Nat} {cs : List Value} {v : Value} (h : w.heap[g]? = some (.cells #[.int .i64 0, .int .i64 0, .int .i64 0, .int .i64 0, .int .u8 0, .int .u64 0, .int .u64 0, .int .u64 0, .int .u64 0, .bool false, .int .i64 0, .int .i64 0, .slice none 0 0, .int .u64 0, .int .u64 0, .int .i64 0, .bool false, .int .u64 0, .bool false, .int .u64 0, .slice none 0 0, .int .u64 0] 63 (0, 0))) (hl : cs.length = 22) (h3 : cs[3]? = some v) : (w.setCells g 0 cs).cell? ⟨g, 3, none⟩ = some v := by
  have hj : 3 < cs.length := by rw [hl]; decide
  have hx := World.cell?_setCells_in g cs 0 w (fun j hj2 => (there63 h j (by omega)).1) 3 hj
  rw [List.getElem?_eq_getElem hj] at h3
  rw [← h3]
  exact hx
end LG
open LG in
set_option maxHeartbeats 8000000 in
set_option maxRecDepth 100000 in
theorem progress_Longest.calls (A0_0 : Option Addr) (c0_0 : Nat) (l0_0 : List (S63)) (A0_1 : Option Addr) (c0_1 : Nat) (l0_1 : List (S66)) (A0_2 : Option Addr) (c0_2 : Nat) (l0_2 : List Int) (r : Int) (w : World) (hr0_0 : Kd.C k63 w A0_0 l0_0.length l0_0) (hc0_0 : l0_0.length ≤ c0_0) (hr0_1 : Kd.C k66 w A0_1 l0_1.length l0_1) (hc0_1 : l0_1.length ≤ c0_1) (hr0_2 : Kd.C (Kd.int .i64) w A0_2 l0_2.length l0_2) (hc0_2 : l0_2.length ≤ c0_2) (h : progress_Longest.f l0_0 l0_1 l0_2 = some r) :
    Calls Try.prog 15 #[.agg #[.slice A0_0 l0_0.length c0_0, .slice A0_1 l0_1.length c0_1, .slice A0_2 l0_2.length c0_2]] w fun e w' => e = .returned (.int .i64 r) ∧ Below w.heap.size w w' := by
  have hmm := @run_makeMap Try.prog
  have hu38 := Try.underlying38
  have hu63 := Try.underlying63
  have hu52 := Try.underlying52
  have hcc : (l0_0.length < 4398046511104 ∧ l0_1.length < 4398046511104 ∧ (l0_0.all fun d => fitI d.f0.f3) = true ∧ l0_2.all fitI = true) ∧ r = (run l0_0 l0_2 l0_1.length).1 := by
    unfold progress_Longest.f at h
    split at h
    · rename_i hc
      exact ⟨hc, (Option.some.inj h).symm⟩
    · cases h
  obtain ⟨⟨hl0, hl1, hf0, hf2⟩, rfl⟩ := hcc
  have HR0 := Aside0.mk hr0_0
  have HR1 := Aside0.mk hr0_1
  have HR2 := Aside0.mk hr0_2
  have HC0 := Aside0.mk hc0_0
  have HC1 := Aside0.mk hc0_1
  have HC2 := Aside0.mk hc0_2
  have HF0 := Aside0.mk hf0
  have HF2 := Aside0.mk hf2
  clear h hr0_0 hr0_1 hr0_2 hc0_0 hc0_1 hc0_2 hf0 hf2
  go_enter Try.func15, Try.ntmps15
  go_upto_region 2 with (fail)
  have HS0 : Aside0 (Rel w ((w.alloc (.cells #[.slice A0_0 l0_0.length c0_0, .slice A0_1 l0_1.length c0_1, .slice A0_2 l0_2.length c0_2] 38)).alloc (.map #[] 0)) A0_0 c0_0 A0_1 c0_1 A0_2 c0_2 l0_0 l0_1 l0_2 0) := ⟨by
    have e1 : (w.alloc (.cells #[.slice A0_0 l0_0.length c0_0, .slice A0_1 l0_1.length c0_1, .slice A0_2 l0_2.length c0_2] 38)).heap.size = w.heap.size + 1 := by simp
    have hm := HasMap.made (w.alloc (.cells #[.slice A0_0 l0_0.length c0_0, .slice A0_1 l0_1.length c0_1, .slice A0_2 l0_2.length c0_2] 38)) Try.prog 3 (Value.int .i64)
    rw [e1] at hm
    exact ⟨hm.congr (fun i => rfl), blk_alloc (by simpa using heap_alloc_new w _) _, ((Below.refl _ _).alloc (Nat.le_refl _) _).alloc (by simp) _⟩⟩
  generalize ((w.alloc (.cells #[.slice A0_0 l0_0.length c0_0, .slice A0_1 l0_1.length c0_1, .slice A0_2 l0_2.length c0_2] 38)).alloc (.map #[] 0)) = w1 at HS0 ⊢
  have y0 : w1.cell? ⟨w.heap.size, 0, none⟩ = some (.slice A0_0 l0_0.length c0_0) := (blk_cell HS0.out.box 0).trans rfl
  go_wp2
  clear y0
  go_loopw [13] (fun v13 wr => ∃ (k : Nat), k ≤ l0_0.length ∧ v13 = .int .i64 k ∧ Aside0 (Rel w wr A0_0 c0_0 A0_1 c0_1 A0_2 c0_2 l0_0 l0_1 l0_2 k)) (fun i _ => l0_0.length - (intOf i).toNat)
  case atStart => exact ⟨0, Nat.zero_le _, rfl, HS0⟩
  case round =>
    clear HS0
    obtain ⟨k, hk, rfl, HS⟩ := hrel
    by_cases hlt : k < l0_0.length
    · have hk0 : (0 : Int) ≤ (k : Int) := by omega
      have hkl : (k : Int) < (l0_0.length : Int) := by omega
      obtain ⟨B, O, cs, ad, rfl, hBO, hln, h3, h1c, hrg⟩ := did_at (Kd.C_below HR0.out HS.out.below) k hlt
      have hfk : fitI (rd_T63 l0_0 (k : Int)).f0.f3 = true := by
        unfold rd_T63
        rw [Int.toNat_natCast, List.getD_eq_getElem?_getD, List.getElem?_eq_getElem hlt]
        exact List.all_eq_true.1 HF0.out _ (List.getElem_mem hlt)
      have HPUT := Lib.hid (fun (h0 : 0 ≤ (rd_T63 l0_0 (k : Int)).f0.f3) (wx wb : World) (hx : Rel w wx (some ad) c0_0 A0_1 c0_1 A0_2 c0_2 l0_0 l0_1 l0_2 k) hm hg => hx.put_ (wb := wb) hlt h0 hm hg)
      have HSKIP := Lib.hid (fun (h0 : ¬ 0 ≤ (rd_T63 l0_0 (k : Int)).f0.f3) (wx : World) (hx : Rel w wx (some ad) c0_0 A0_1 c0_1 A0_2 c0_2 l0_0 l0_1 l0_2 k) => hx.skip hlt h0)
      generalize (rd_T63 l0_0 (k : Int)).f0.f3 = key at h3 hfk HPUT HSKIP
      have HFK := Aside0.mk hfk
      clear hfk
      have hsz : cs.toArray.size = 22 := by simpa using hln
      have hone := all_oneCell_toArray h1c
      have HIN : Aside0 ((Try.prog.info? 63).map (·.size) = some cs.length) := ⟨by rw [hln]; exact info63s⟩
      have HIN2 : Aside0 ((Try.prog.info? 63).map (·.size) = some cs.toArray.size) := ⟨by rw [hsz]; exact info63s⟩
      have HRG := Aside0.mk hrg
      have HON := Aside0.mk hone
      have HLN := Aside0.mk hln
      have HSZ := Aside0.mk hsz
      have H3 := Aside0.mk h3
      clear hln h1c hsz hone hrg h3 hu63
      go_upto_region 5 with (first
        | ((with_reducible refine gate_dst (N := 16) rfl ?_); refine wpList_load_mid rfl 63 (.tmp 15) rfl B O rfl cs _ HRG.out Try.underlying63 rfl HIN.out ?_)
        | ((with_reducible refine gate_dst (N := 5) rfl ?_); refine box_event ?hg (N := 5) ?hd (cs := #[.int .i64 0, .int .i64 0, .int .i64 0, .int .i64 0, .int .u8 0, .int .u64 0, .int .u64 0, .int .u64 0, .int .u64 0, .bool false, .int .i64 0, .int .i64 0, .slice none 0 0, .int .u64 0, .int .u64 0, .int .i64 0, .bool false, .int .u64 0, .bool false, .int .u64 0, .slice none 0 0, .int .u64 0]) (t := 63) ?hr ?_; (case hd => rfl); (case hg => rfl); (case hr => first | (go_simp; done) | (go_simp; rfl)); intro gb hg w7 hbox hb; have HGB := Aside0.mk hg; have HBX := Aside0.mk hbox; have HBL := Aside0.mk hb; clear hg hbox hb)
        | ((with_reducible refine gate_store (t := 63) (p := 5) rfl ?_); refine wpList_store_mid rfl 63 (.tmp 5) (.tmp 16) rfl gb 0 cs.toArray rfl rfl ?ht HIN2.out HON.out ?_; (case ht => (rw [HSZ.out]; exact there63 HBX.out))))
      have hu63 := Try.underlying63
      have HS1 : Aside0 (Rel w (w7.setCells gb 0 cs) (some ad) c0_0 A0_1 c0_1 A0_2 c0_2 l0_0 l0_1 l0_2 k) := ⟨HS.out.move (below_setCells' (by rw [HGB.out]; exact Nat.le_refl _) cs 0 HBL.out)⟩
      have y3 : (w7.setCells gb 0 cs).cell? ⟨gb, 3, none⟩ = some (.int .i64 key) := cell3 HBX.out HLN.out H3.out
      clear HBX HBL HGB HIN HIN2 HRG HON HLN HSZ H3 hBO HS
      generalize w7.setCells gb 0 cs = w2 at HS1 y3 ⊢
      generalize gb = b1 at y3 ⊢
      by_cases h0 : 0 ≤ key
      · have HP := Aside0.mk (HPUT.out h0 w2)
        go_wp2_with (at_mapUpdate; refine wpList_update _ rfl _ _ _ 68 rfl 3 4 keyed3 Try.underlying68 (Value.int .i64) vint_inj (w.heap.size + 1) _ _ rfl HS1.out.map key _ _ rfl rfl (key3 HFK.out) ?_; intro wb hm hg)
        exact ⟨⟨k + 1, by omega, by rfl, ⟨HP.out wb HS1.out hm hg⟩⟩, by simp [intOf]; omega⟩
      · have HP := Aside0.mk (HSKIP.out h0 w2 HS1.out)
        go_wp2
        exact ⟨⟨k + 1, by omega, by rfl, HP⟩, by simp [intOf]; omega⟩
    · have hkk : k = l0_0.length := by omega
      subst hkk
      have y1 : wr.cell? ⟨w.heap.size, 1, none⟩ = some (.slice A0_1 l0_1.length c0_1) := (blk_cell HS.out.box 1).trans rfl
      go_wp2
      clear y1
      go_loopw [6, 7, 29] (fun v6 v7 v29 wi => ∃ (i : Nat), i ≤ l0_1.length ∧ v29 = .int .i64 i ∧ v6 = .int .i64 (run l0_0 l0_2 i).1 ∧ v7 = .int .i64 (run l0_0 l0_2 i).2 ∧ Aside0 (Rel w wi A0_0 c0_0 A0_1 c0_1 A0_2 c0_2 l0_0 l0_1 l0_2 l0_0.length)) (fun _ _ i _ => l0_1.length - (intOf i).toNat)
      case atStart => exact ⟨0, Nat.zero_le _, rfl, rfl, rfl, HS⟩
      case round =>
        clear HS
        obtain ⟨i, hi, rfl, rfl, rfl, HS⟩ := hrel
        by_cases hlt2 : i < l0_1.length
        · have y0 : wr.cell? ⟨w.heap.size, 0, none⟩ = some (.slice A0_0 l0_0.length c0_0) := (blk_cell HS.out.box 0).trans rfl
          have y1 : wr.cell? ⟨w.heap.size, 1, none⟩ = some (.slice A0_1 l0_1.length c0_1) := (blk_cell HS.out.box 1).trans rfl
          have y2 : wr.cell? ⟨w.heap.size, 2, none⟩ = some (.slice A0_2 l0_2.length c0_2) := (blk_cell HS.out.box 2).trans rfl
          have HST := Lib.hid (progress_step.calls A0_0 c0_0 l0_0 A0_1 c0_1 l0_1 A0_2 c0_2 l0_2 (i : Int) (stepAt l0_2 i) wr (Kd.C_below HR0.out HS.out.below) HC0.out (Kd.C_below HR1.out HS.out.below) HC1.out (Kd.C_below HR2.out HS.out.below) HC2.out (step_is l0_0 l0_1 l0_2 i))
          have hkf := step_fit HF2.out i
          have hgq := gm_get (l0_0.take l0_0.length) (stepAt l0_2 i)
          rw [List.take_length] at hgq
          have hle := run_le l0_0 l0_2 i
          have hrun : run l0_0 l0_2 (i + 1) = (mx (run l0_0 l0_2 i).1 (if retAny l0_0 (stepAt l0_2 i) = true then 0 else (run l0_0 l0_2 i).2 + 1), if retAny l0_0 (stepAt l0_2 i) = true then 0 else (run l0_0 l0_2 i).2 + 1) := rfl
          have HMP := Aside0.mk (fun wx (hx : Rel w wx A0_0 c0_0 A0_1 c0_1 A0_2 c0_2 l0_0 l0_1 l0_2 l0_0.length) => hx.map)
          rw [List.take_length] at HMP
          generalize stepAt l0_2 i = st at HST hkf hgq hrun
          generalize retAny l0_0 st = b at hgq hrun
          generalize (run l0_0 l0_2 i).1 = mo at hle hrun ⊢
          generalize (run l0_0 l0_2 i).2 = ro at hle hrun ⊢
          obtain ⟨⟨m0, m1⟩, r0, r1⟩ := hle
          have HKF := Aside0.mk hkf
          clear hkf
          have HRN := Aside0.mk hrun
          clear hrun
          cases b with
          | true =>
            have HQ : Aside0 (mx mo 0 = mo) := ⟨by unfold mx; rw [if_neg (by omega)]⟩
            go_wp2_with (first
              | (go_at_call 27; refine HST.out.mono ?_; rintro e w' ⟨rfl, hb⟩; have HW := Aside0.mk (HS.out.move hb); clear hb)
              | (at_lookup; refine wpList_look _ rfl _ _ 68 rfl 3 4 keyed3 Try.underlying68 (zero4 _) (Value.int .i64) vint_inj (w.heap.size + 1) _ _ rfl (HMP.out _ HW.out) st _ rfl (key3 HKF.out) ?_; rw [hgq]))
            exact ⟨⟨i + 1, by omega, by rfl, by rw [HRN.out]; exact congrArg (Value.int .i64) HQ.out.symm, by rw [HRN.out]; rfl, HW⟩, by simp [intOf]; omega⟩
          | false =>
            obtain ⟨q, hq⟩ : ∃ q : Int, (if mo < ro + 1 then ro + 1 else mo) = q := ⟨_, rfl⟩
            have HQ := Aside0.mk (show mx mo (ro + 1) = q from hq)
            go_wp2_with (first
              | (go_at_call 27; refine HST.out.mono ?_; rintro e w' ⟨rfl, hb⟩; have HW := Aside0.mk (HS.out.move hb); clear hb)
              | (at_lookup; refine wpList_look _ rfl _ _ 68 rfl 3 4 keyed3 Try.underlying68 (zero4 _) (Value.int .i64) vint_inj (w.heap.size + 1) _ _ rfl (HMP.out _ HW.out) st _ rfl (key3 HKF.out) ?_; rw [hgq]))
            exact ⟨⟨i + 1, by omega, by rfl, by rw [HRN.out, ← HQ.out]; rfl, by rw [HRN.out]; rfl, HW⟩, by simp [intOf]; omega⟩
        · have hii : i = l0_1.length := by omega
          subst hii
          go_wp2
          go_ret
          exact ⟨rfl, HS.out.below⟩
end Go.Proofs.Ytncdajjmaabcnaa.Own
