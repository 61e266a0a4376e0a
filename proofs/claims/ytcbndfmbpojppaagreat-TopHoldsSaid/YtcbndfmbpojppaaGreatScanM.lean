/- announce.Scan: its first step, and a step at a slot. -/
import Derived.Test.YtcbndfmbpojppaaGreatProc2
import Derived.RegionTactic
import Derived.BigRegion
import Derived.BigQuiet
import Derived.Deep.QuietTactic
import Derived.Deep.RegionHeld3
import Derived.Deep.AppendLies
import Derived.Deep.RegionLaw
import Derived.IntWalk
/- announce.Scan: its first step, and a step at a slot. -/
namespace Go.Proofs.YtcbndfmbpojppaaGreat
open Go.RowKit Go.Proofs.YtcbndfmbpojppaaGreatW.PrintWords Go.Proofs.YtcbndfmbpojppaaGreatW.PrintMore Go.Proofs.YtcbndfmbpojppaaGreat.Math
set_option linter.unusedVariables false
set_option linter.unusedSimpArgs false

/-- Blocks that are neither the memory's, nor the view, nor the proc. -/
def okS (K : Nat → Prop) (bv bs : Nat) (j : Nat) : Prop := K j ∧ j ≠ bv ∧ j ≠ bs
/-- A row of our own has been appended to. -/
theorem row_grew {w0 w wa w2 : World} {K : Nat → Prop} {bm bp bc : Nat} {cs : List Int} {fr n : Nat} {xs : List Value} {bv : Nat} {th md : Int} {bs : Nat} {oc : Array Value} {T : TypeId} {ex : Value} {ev : List Int} {s : Int} {gb cap m : Nat}
    (h : Pw w0 w K bm bp bc cs fr n xs bv th md bs oc T) (hR : RU w w0.heap.size (okS K bv bs) ex ev) (hwa : Below w.heap.size w wa) (hg : wa.grownBy w2 ex.ownBlock) (hm : m = ev.length + 1)
    (ho : w2.ownsRow w0.heap.size 29 1 (.slice (some ⟨gb, 0, none⟩) m cap) m (encs (Value.int .u64) ev ++ [.int .u64 s])) (hat : ex.ownBlock = some gb ∨ gb = wa.heap.size) (hlt : gb < w2.heap.size) :
    ∃ K3 : Nat → Prop, (∀ j, K j → K3 j) ∧ (∀ j, K3 j → K j ∨ w0.heap.size ≤ j) ∧ Pw w0 w2 K3 bm bp bc cs fr n xs bv th md bs oc T ∧ RU w2 w0.heap.size (okS K3 bv bs) (.slice (some ⟨gb, 0, none⟩) m cap) (ev ++ [s]) ∧ Kept (fun j => K j ∧ some j ≠ ex.ownBlock) w w2 ∧ (ex.ownBlock = some gb ∨ w.heap.size ≤ gb) := by
  subst hm
  have ha := h.below hwa
  have hbase := Kd.R_base hR
  have hok := hR.1
  have s0 := h.fr0.size
  have lv := h.mem.kl bv h.kv
  have ls := h.mem.kl bs h.ks
  refine ⟨fun j => K j ∨ (j = gb ∧ wa.heap.size ≤ gb), fun j hj => .inl hj, fun j hj => hj.imp id fun e => ?_, ha.grew hg (fun k hk => ⟨(hok k hk).1, (hok k hk).2.1, (hok k hk).2.2, hbase k hk⟩) _ fun j hj => ⟨hj.1 ▸ hj.2, hj.1 ▸ hlt⟩, ?_, ?_, ?_⟩
  · have := hwa.size
    omega
  · refine Kd.R_of_own (xs := ev ++ [s]) (by rw [encs_append, List.length_append]; exact ho) fun k hk => ?_
    obtain rfl : gb = k := by simpa [Value.ownBlock] using hk
    rcases hat with e | e
    · exact ⟨.inl (hok gb e).1, (hok gb e).2⟩
    · refine ⟨.inr ⟨rfl, Nat.le_of_eq e.symm⟩, ?_, ?_⟩ <;> (have := hwa.size; omega)
  · exact (Kept.of_below hwa).trans ⟨hg.os, hg.tape, hg.output, hg.size, fun j hj hl => hg.block j hl hj.2⟩
  · exact hat.imp id fun e => by have := hwa.size; omega
set_option maxHeartbeats 4000000 in
set_option maxRecDepth 100000 in
theorem scan_begin {w0 w : World} {K : Nat → Prop} {bm bp bc : Nat} {cs : List Int} {fr n : Nat} {xs : List Value} {bv : Nat} {th md : Int} {bs : Nat} {P : SlP} (hP : P.Ok) (h : Pw w0 w K bm bp bc cs fr n xs bv th md bs (scC P false 0 0 (.slice none 0 0) (.slice none 0 0) false) 103) (hd0 : 0 ≤ md) (hd1 : md ≤ 1152921504606846975) (hn : n < 68719476735) :
    Calls Tryz.prog 97 #[.pointer (some ⟨bs, 0, none⟩), .pointer (some ⟨bv, 0, none⟩)] w fun e w' => e = .returned (.bool false) ∧ Pw w0 w' K bm bp bc cs fr (n + 1) (xs ++ acc th 1 P.cam 0 0 (.slice none 0 0) (pk cs P.cam) false) bv th (md + 1) bs (scC P true 0 (pk cs P.cam) (.slice none 0 0) (.slice none 0 0) false) 103 := by
  have q0 := hP.n0
  have q1 := hP.n1
  have q4 := hP.c0
  have c4 : w.cell? ⟨bs, 4, none⟩ = some (.bool false) := h.sb.cell 4 rfl
  have c9 : w.cell? ⟨bs, 9, none⟩ = some (.bool false) := h.sb.cell 9 rfl
  have f4 := h.frozen 4
  have H1 := Aside0.mk (h.put 4 (.bool true))
  have HL := Lib.hid (H1.out.load hd0 (by omega) (by omega) P.cam q4)
  generalize pk cs P.cam = x at HL ⊢
  generalize acc th 1 P.cam 0 0 (.slice none 0 0) x false = tr at HL ⊢
  clear h
  go_enter Tryz.func97, Tryz.ntmps97
  go_upto_region 5 with (fail)
  clear c4 c9 f4
  generalize w.setCell ⟨bs, 4, none⟩ (.bool true) = w1 at H1 HL ⊢
  have c0 : w1.cell? ⟨bs, 0, none⟩ = some (.int .u64 P.cam) := (H1.out.cell 0).trans rfl
  go_upto_region 13 with (go_at_call 84; refine HL.out.mono ?_; rintro e3 w3 ⟨rfl, h3⟩; have H3 := Aside0.mk h3; have c6 : w3.cell? ⟨bs, 6, none⟩ = some (.int .u64 0) := (h3.cell 6).trans rfl; have f6 := h3.frozen 6; clear h3)
  have HW : Aside0 (Pw w0 (w3.setCell ⟨bs, 6, none⟩ (.int .u64 x)) K bm bp bc cs fr (n + 1) (xs ++ tr) bv th (md + 1) bs (scC P true 0 x (.slice none 0 0) (.slice none 0 0) false) 103) := ⟨H3.out.put 6 _⟩
  clear c0 c6 f6 HL H1 H3
  generalize w3.setCell ⟨bs, 6, none⟩ (.int .u64 x) = w5 at HW ⊢
  have hlt : (0 : Int) < P.cnt := by omega
  have HC := Lib.hid (fun wx => count_calls wx P.cam P.first P.cnt P.most (by omega) q1)
  have z0 : ∀ wx, SB bs (scC P true 0 x (.slice none 0 0) (.slice none 0 0) false) 103 wx → wx.cell? ⟨bs, 0, none⟩ = some (.int .u64 P.cam) := fun wx h => h.cell 0 rfl
  have z1 : ∀ wx, SB bs (scC P true 0 x (.slice none 0 0) (.slice none 0 0) false) 103 wx → wx.cell? ⟨bs, 1, none⟩ = some (.int .u64 P.first) := fun wx h => h.cell 1 rfl
  have z2 : ∀ wx, SB bs (scC P true 0 x (.slice none 0 0) (.slice none 0 0) false) 103 wx → wx.cell? ⟨bs, 2, none⟩ = some (.int .i64 P.cnt) := fun wx h => h.cell 2 rfl
  have z3 : ∀ wx, SB bs (scC P true 0 x (.slice none 0 0) (.slice none 0 0) false) 103 wx → wx.cell? ⟨bs, 3, none⟩ = some (.int .u64 P.most) := fun wx h => h.cell 3 rfl
  have z5 : ∀ wx, SB bs (scC P true 0 x (.slice none 0 0) (.slice none 0 0) false) 103 wx → wx.cell? ⟨bs, 5, none⟩ = some (.int .i64 0) := fun wx h => h.cell 5 rfl
  have hr : Below w5.heap.size w5 w5 := Below.refl _ _
  have hr2 : Below w5.heap.size w5 w5.drew := hr.drew
  have hs : SB bs (scC P true 0 x (.slice none 0 0) (.slice none 0 0) false) 103 w5 := HW.out.sb
  have hs2 : SB bs (scC P true 0 x (.slice none 0 0) (.slice none 0 0) false) 103 w5.drew := hs
  go_region_held3 (fun w' => SB bs (scC P true 0 x (.slice none 0 0) (.slice none 0 0) false) 103 w') (assumption) (first
    | (go_at_call 34; with_reducible refine (HC.out _).mono ?_; rintro e w' ⟨rfl, hb⟩; have hs_ : Below w5.heap.size w5 w' := below_step (by assumption) hb; have hs3 : SB bs (scC P true 0 x (.slice none 0 0) (.slice none 0 0) false) 103 w' := SB.below (by assumption) hb; clear hb))
  have HF : Aside0 (Pw w0 _ K bm bp bc cs fr (n + 1) (xs ++ tr) bv th (md + 1) bs (scC P true 0 x (.slice none 0 0) (.slice none 0 0) false) 103) := ⟨HW.out.below (show Below w5.heap.size w5 _ by assumption)⟩
  go_wp2
  go_ret
  exact ⟨rfl, HF.out⟩
end Go.Proofs.YtcbndfmbpojppaaGreat

/- announce.Scan: what a step at a slot knows on its way. -/
namespace Go.Proofs.YtcbndfmbpojppaaGreat
open Go.RowKit Go.Proofs.YtcbndfmbpojppaaGreatW.PrintWords Go.Proofs.YtcbndfmbpojppaaGreatW.PrintMore Go.Proofs.YtcbndfmbpojppaaGreat.Math
set_option linter.unusedVariables false
set_option linter.unusedSimpArgs false
theorem SB.alloc {bs : Nat} {oc : Array Value} {T : TypeId} {w : World} (h : SB bs oc T w) (o : Obj) : SB bs oc T (w.alloc o) := h.below ((Below.refl _ w).alloc (Nat.le_refl _) o)
/-- An empty slot lies at b. -/
def SlB (b : Nat) (w : World) : Prop := w.heap[b]? = some (.cells #[.int .u8 0, .int .u64 0, .int .u64 0] 86 (0, 0))
theorem SlB.new (w : World) : SlB w.heap.size (w.alloc (.cells #[.int .u8 0, .int .u64 0, .int .u64 0] 86)) := heap_alloc_new w _
theorem SlB.below {b : Nat} {w w' : World} (h : SlB b w) (hb : Below w.heap.size w w') : SlB b w' := (hb.block b (Array.getElem?_eq_some_iff.1 h).1).trans h
theorem SlB.kept {b : Nat} {w w' : World} {K : Nat → Prop} (h : SlB b w) (hb : Kept K w w') (hk : K b) : SlB b w' := (hb.block b hk (Array.getElem?_eq_some_iff.1 h).1).trans h
theorem SlB.lt {b : Nat} {w : World} (h : SlB b w) : b < w.heap.size := (Array.getElem?_eq_some_iff.1 h).1
theorem Pw.setK {w0 w : World} {K : Nat → Prop} {bm bp bc : Nat} {cs : List Int} {fr n : Nat} {xs : List Value} {bv : Nat} {th md : Int} {bs : Nat} {oc : Array Value} {T : TypeId} (h : Pw w0 w K bm bp bc cs fr n xs bv th md bs oc T) {b : Nat} (hb : K b) (h1 : b ≠ bv) (h2 : b ≠ bs) (h3 : w0.heap.size ≤ b) (j : Nat) (v : Value) : Pw w0 (w.setCell ⟨b, j, none⟩ v) K bm bp bc cs fr n xs bv th md bs oc T := by
  have hw := (Below.refl 0 w).setCell (p := ⟨b, j, none⟩) (Nat.zero_le _) v
  refine ⟨h.mem.set hb v, (Below.heap_setCell _ _ _ _ (fun e => h1 e.symm)).trans h.vw, (Below.heap_setCell _ _ _ _ (fun e => h2 e.symm)).trans h.ob, h.kv, h.ks, h.ne, ⟨hw.os.trans h.fr0.os, hw.tape.trans h.fr0.tape, hw.output.trans h.fr0.output, Nat.le_trans h.fr0.size hw.size, fun i hi hl => ?_⟩⟩
  have hne : i ≠ b := by omega
  exact (Below.heap_setCell w ⟨b, j, none⟩ v i hne).trans (h.fr0.block i hi hl)
/-- Behind the slot's word: the slot lies at b. -/
def ScMid (w0 w1 wc : World) (K : Nat → Prop) (bm bp bc : Nat) (cs : List Int) (fr n : Nat) (xs : List Value) (bv : Nat) (th md : Int) (bs : Nat) (oc : Array Value) (ex : Value) (ev : List Int) (x : Int) (b : Nat) : Prop :=
  ∃ K8 : Nat → Prop, (∀ j, K j → K8 j) ∧ (∀ j, K8 j → K j ∨ w0.heap.size ≤ j) ∧ Pw w0 wc K8 bm bp bc cs fr n xs bv th md bs oc 103 ∧ RU wc w0.heap.size (okS K bv bs) ex ev ∧ wc.heap[b]? = some (.cells #[.int .u8 (x % 4), .int .u64 (x / 4 % 1048576), .int .u64 (x / 4194304)] 86 (0, 0)) ∧ w1.heap.size ≤ b
section
variable {w0 w1 w wx w9 w8 : World} {K : Nat → Prop} {bm bp bc : Nat} {cs : List Int} {fr n : Nat} {xs : List Value} {bv : Nat} {th md : Int} {bs : Nat} {oc : Array Value} {ex : Value} {ev : List Int} {x : Int}
/-- What is known behind Load (w9) and behind Unpack (w8). -/
def ScL (w0 w1 wx w9 : World) (K : Nat → Prop) (bm bp bc : Nat) (cs : List Int) (fr n : Nat) (xs : List Value) (bv : Nat) (th md : Int) (bs : Nat) (oc : Array Value) (ex : Value) (ev : List Int) : Prop :=
  Pw w0 w9 (fun j => K j ∨ (w1.heap.size ≤ j ∧ j < wx.heap.size)) bm bp bc cs fr n xs bv th md bs oc 103 ∧ RU w9 w0.heap.size (okS K bv bs) ex ev ∧ Kept (fun j => w1.heap.size ≤ j ∧ j < wx.heap.size) wx w9 ∧ w1.heap.size ≤ wx.heap.size
def ScU (w0 w1 wx w9 w8 : World) (K : Nat → Prop) (bm bp bc : Nat) (cs : List Int) (fr n : Nat) (xs : List Value) (bv : Nat) (th md : Int) (bs : Nat) (oc : Array Value) (ex : Value) (ev : List Int) : Prop :=
  Pw w0 w8 (fun j => (K j ∨ (w1.heap.size ≤ j ∧ j < wx.heap.size)) ∨ (w9.heap.size ≤ j ∧ j < w8.heap.size)) bm bp bc cs fr n xs bv th md bs oc 103 ∧ RU w8 w0.heap.size (okS K bv bs) ex ev ∧ w1.heap.size ≤ w9.heap.size ∧ w0.heap.size ≤ w1.heap.size ∧ (∀ j, K j → j < w1.heap.size) ∧ w9.heap.size ≤ w8.heap.size ∧ bv < w1.heap.size ∧ bs < w1.heap.size
theorem scL_of (h : Pw w0 w1 K bm bp bc cs fr n xs bv th md bs oc 103) (hR : RU w1 w0.heap.size (okS K bv bs) ex ev) {ad : Int} (hd0 : 0 ≤ md) (hd1 : md ≤ 1152921504606846975) (hn : n < 68719476735) (ha : 0 ≤ ad) (wx : World) (hb : Below w1.heap.size w1 wx) :
    Calls Tryz.prog 84 #[.pointer (some ⟨bv, 0, none⟩), .int .u64 ad] wx fun e w9 => e = .returned (.int .u64 (pk cs ad)) ∧ ScL w0 w1 wx w9 K bm bp bc cs fr (n + 1) (xs ++ acc th 1 ad 0 0 (.slice none 0 0) (pk cs ad) false) bv th (md + 1) bs oc ex ev := by
  have lv := h.mem.kl bv h.kv
  have ls := h.mem.kl bs h.ks
  have hg : w1.grownBy wx none := ⟨hb.os, hb.tape, hb.output, hb.size, fun j hj _ => hb.block j hj⟩
  have h2 := h.grew hg (fun k hk => by cases hk) (fun j => w1.heap.size ≤ j ∧ j < wx.heap.size) fun j hj => hj
  refine (h2.self.load hd0 (by omega) (by omega) ad ha).mono fun _ _ ⟨a, b⟩ => ⟨a, h2.trans b, (hR.below hb).kept (b.fr0.mono fun j _ hj => ⟨.inl hj.1, hj.2⟩), b.fr0.mono fun j _ hj => ⟨.inr hj, by omega, by omega⟩, hb.size⟩
theorem scU_of (h : Pw w0 w1 K bm bp bc cs fr n xs bv th md bs oc 103) {n1 : Nat} {xs1 : List Value} {md1 : Int} (hL : ScL w0 w1 wx w9 K bm bp bc cs fr n1 xs1 bv th md1 bs oc ex ev) (hb : Below w9.heap.size w9 w8) : ScU w0 w1 wx w9 w8 K bm bp bc cs fr n1 xs1 bv th md1 bs oc ex ev := by
  have hg : w9.grownBy w8 none := ⟨hb.os, hb.tape, hb.output, hb.size, fun j hj _ => hb.block j hj⟩
  exact ⟨hL.1.grew hg (fun k hk => by cases hk) (fun j => w9.heap.size ≤ j ∧ j < w8.heap.size) fun j hj => hj, hL.2.1.below hb, Nat.le_trans hL.2.2.2 hL.2.2.1.size, h.fr0.size, h.mem.kl, hb.size, h.mem.kl bv h.kv, h.mem.kl bs h.ks⟩
theorem ScU.late (h : ScU w0 w1 wx w9 w8 K bm bp bc cs fr n xs bv th md bs oc ex ev) : ScMid w0 w1 (w8.alloc (.cells #[.int .u8 (x % 4), .int .u64 (x / 4 % 1048576), .int .u64 (x / 4194304)] 86)) K bm bp bc cs fr n xs bv th md bs oc ex ev x w8.heap.size := by
  obtain ⟨h1, h2, h3, h4, h5, h6, h7, h8⟩ := h
  exact ⟨_, fun j hj => .inl (.inl hj), fun j hj => hj.elim (fun h => h.imp id fun h => by omega) fun h => .inr (by omega), h1.alloc _, Kd.R_alloc h2 _, heap_alloc_new _ _, by omega⟩
theorem ScU.early {b : Nat} (h : ScU w0 w1 wx w9 w8 K bm bp bc cs fr n xs bv th md bs oc ex ev) (hb : SlB b w8) (hin : (w1.heap.size ≤ b ∧ b < wx.heap.size) ∨ (w9.heap.size ≤ b ∧ b < w8.heap.size)) :
    ScMid w0 w1 (((w8.setCell ⟨b, 0, none⟩ (.int .u8 (x % 4))).setCell ⟨b, 1, none⟩ (.int .u64 (x / 4 % 1048576))).setCell ⟨b, 2, none⟩ (.int .u64 (x / 4194304))) K bm bp bc cs fr n xs bv th md bs oc ex ev x b := by
  obtain ⟨h1, h2, h3, h4, h5, h6, h7, h8⟩ := h
  have hge : w1.heap.size ≤ b := by omega
  have hK : ((K b ∨ (w1.heap.size ≤ b ∧ b < wx.heap.size)) ∨ (w9.heap.size ≤ b ∧ b < w8.heap.size)) := by
    rcases hin with h | h
    · exact .inl (.inr h)
    · exact .inr h
  have n1 : b ≠ bv := by omega
  have n2 : b ≠ bs := by omega
  have n3 : w0.heap.size ≤ b := by omega
  have s0 := heap_setCell_same w8 b 0 _ _ (.int .u8 (x % 4)) hb
  have s1 := heap_setCell_same _ b 1 _ _ (.int .u64 (x / 4 % 1048576)) s0
  have s2 := heap_setCell_same _ b 2 _ _ (.int .u64 (x / 4194304)) s1
  have nk : ¬ okS K bv bs b := fun h => by have := h5 b h.1; omega
  exact ⟨_, fun j hj => .inl (.inl hj), fun j hj => hj.elim (fun h => h.imp id fun h => by omega) fun h => .inr (by omega), ((h1.setK hK n1 n2 n3 0 _).setK hK n1 n2 n3 1 _).setK hK n1 n2 n3 2 _,
    h2.kept ((((Kept.refl _ w8).setCell (p := ⟨b, 0, none⟩) nk _).setCell (p := ⟨b, 1, none⟩) nk _).setCell (p := ⟨b, 2, none⟩) nk _), s2, hge⟩
end
end Go.Proofs.YtcbndfmbpojppaaGreat

/- announce.Scan: its row is sorted, the rest stays. -/
namespace Go.Proofs.YtcbndfmbpojppaaGreat
open Go.RowKit Go.Proofs.YtcbndfmbpojppaaGreatW.PrintWords Go.Proofs.YtcbndfmbpojppaaGreatW.PrintMore Go.Proofs.YtcbndfmbpojppaaGreat.Math
set_option linter.unusedVariables false
set_option linter.unusedSimpArgs false
/-- No two alike, all below the floor. -/
def Apart (fl : Int) (l : List Int) : Prop := (∀ a b, a < b → b < l.length → SortM.g l a ≠ SortM.g l b) ∧ ∀ a, a < l.length → SortM.g l a < fl
theorem Apart.swp {fl : Int} {y : List Int} {j : Nat} (hj : j + 1 < y.length) (h : Apart fl y) : Apart fl (SortM.swp y j) := by
  refine ⟨fun a b hab hb => ?_, fun a ha => ?_⟩
  · rw [SortM.swp_len] at hb
    rw [SortM.swp_g y j a hj, SortM.swp_g y j b hj]
    by_cases a1 : a = j
    · rw [if_pos a1]
      by_cases b1 : b = j
      · omega
      · rw [if_neg b1]
        by_cases b2 : b = j + 1
        · rw [if_pos b2]
          exact fun e => h.1 j (j + 1) (by omega) hj e.symm
        · rw [if_neg b2]
          exact h.1 (j + 1) b (by omega) hb
    · rw [if_neg a1]
      by_cases a2 : a = j + 1
      · rw [if_pos a2, if_neg (by omega), if_neg (by omega)]
        exact h.1 j b (by omega) hb
      · rw [if_neg a2]
        by_cases b1 : b = j
        · rw [if_pos b1]
          exact h.1 a (j + 1) (by omega) hj
        · rw [if_neg b1]
          by_cases b2 : b = j + 1
          · rw [if_pos b2]
            exact h.1 a j (by omega) (by omega)
          · rw [if_neg b2]
            exact h.1 a b hab hb
  · rw [SortM.swp_len] at ha
    rw [SortM.swp_g y j a hj]
    by_cases a1 : a = j
    · rw [if_pos a1]; exact h.2 _ hj
    · rw [if_neg a1]
      by_cases a2 : a = j + 1
      · rw [if_pos a2]; exact h.2 _ (by omega)
      · rw [if_neg a2]; exact h.2 _ ha
theorem sort_proc {w0 w : World} {K : Nat → Prop} {bm bp bc : Nat} {cs : List Int} {fr n : Nat} {xs : List Value} {bv : Nat} {th md : Int} {bs : Nat} {oc : Array Value} {T : TypeId} {ex : Value} {ev : List Int} {fl : Int}
    (h : Pw w0 w K bm bp bc cs fr n xs bv th md bs oc T) (hR : RU w w0.heap.size (okS K bv bs) ex ev) (hl : ev.length ≤ 12) (hA : Apart fl ev) :
    Calls Tryz.prog 32 #[ex] w fun e w' => e = .returned (.tuple #[]) ∧ Pw w0 w' K bm bp bc cs fr n xs bv th md bs oc T ∧ ∃ r, RU w' w0.heap.size (okS K bv bs) ex r ∧ r.length = ev.length ∧ Apart fl r ∧ ∀ a b, a < b → b < ev.length → SortM.g r a ≤ SortM.g r b := by
  obtain ⟨wc, hs, hb⟩ := below_cut w w0.heap.size h.fr0.size
  have hR2 : RU w wc.heap.size (fun k => some k = ex.ownBlock ∧ okS K bv bs k) ex ev := by rw [hs]; exact Kd.R_tight2 rfl hR
  refine (sort_calls (fun k => some k = ex.ownBlock ∧ okS K bv bs k) ex ev wc w (by rw [hs]; exact hb) hR2 hl (Apart fl) (fun y j hy hj hI => hI.swp (by omega)) hA).mono fun e w' ⟨e1, h1, h2, r, h3, h4, h5, h6⟩ => ?_
  rw [hs] at h1 h3
  have hg : w.grownBy w' ex.ownBlock := ⟨h1.os.trans hb.os.symm, h1.tape.trans hb.tape.symm, h1.output.trans hb.output.symm, h2.1, fun j hj hne => h2.2 j hj fun hp => hne hp.1⟩
  have hp := h.grew hg (fun k hk => ⟨(hR.1 k hk).1, (hR.1 k hk).2.1, (hR.1 k hk).2.2, Kd.R_base hR k hk⟩) (fun _ => False) (fun j hj => hj.elim)
  refine ⟨e1, hp.less (fun j hj => .inl hj) h.kv h.ks, r, Kd.R_reok rfl h3 fun k hk => hR.1 k hk, h4, h5, h6⟩
end Go.Proofs.YtcbndfmbpojppaaGreat

/- announce.Scan: a step at a slot. -/
namespace Go.Proofs.YtcbndfmbpojppaaGreat
open Go.RowKit Go.Proofs.YtcbndfmbpojppaaGreatW.PrintWords Go.Proofs.YtcbndfmbpojppaaGreatW.PrintMore Go.Proofs.YtcbndfmbpojppaaGreat.Math
set_option linter.unusedVariables false
set_option linter.unusedSimpArgs false
/-- The stamps that a slot's word adds. -/
def scV (ev : List Int) (x : Int) : List Int := if x % 4 = 3 then ev ++ [x / 4194304] else ev
/-- Behind a slot: the Scan, its row of exact stamps. -/
def ScAt (w0 w : World) (K : Nat → Prop) (bm bp bc : Nat) (cs : List Int) (fr n : Nat) (xs : List Value) (bv : Nat) (th md : Int) (bs : Nat) (P : SlP) (i fl : Int) (ev : List Int) : Prop :=
  ∃ (K3 : Nat → Prop) (ex : Value), (∀ j, K j → K3 j) ∧ (∀ j, K3 j → K j ∨ w0.heap.size ≤ j) ∧ Pw w0 w K3 bm bp bc cs fr n xs bv th md bs (scC P true i fl (.slice none 0 0) ex false) 103 ∧ RU w w0.heap.size (okS K3 bv bs) ex ev
theorem SlB.newd (w : World) : SlB w.heap.size (w.alloc (.cells #[.int .u8 0, .int .u64 0, .int .u64 0] 86)).drew := SlB.new w
theorem SlB.c0 {b : Nat} {w : World} (h : SlB b w) : w.cell? ⟨b, 0, none⟩ = some (.int .u8 0) := (blk_cell h 0).trans rfl
theorem SlB.c1 {b : Nat} {w : World} (h : SlB b w) : w.cell? ⟨b, 1, none⟩ = some (.int .u64 0) := (blk_cell h 1).trans rfl
theorem SlB.c2 {b : Nat} {w : World} (h : SlB b w) : w.cell? ⟨b, 2, none⟩ = some (.int .u64 0) := (blk_cell h 2).trans rfl
theorem SlB.fz {b : Nat} {w : World} (h : SlB b w) (i : Nat) : w.frozen? ⟨b, i, none⟩ = false := blk_frozen h i
theorem scL_keep {w0 w1 wx w9 : World} {K : Nat → Prop} {bm bp bc : Nat} {cs : List Int} {fr n : Nat} {xs : List Value} {bv : Nat} {th md : Int} {bs : Nat} {oc : Array Value} {ex : Value} {ev : List Int} {b : Nat} (h : ScL w0 w1 wx w9 K bm bp bc cs fr n xs bv th md bs oc ex ev) (k : SlB b wx) (hb : w1.heap.size ≤ b) : SlB b w9 := k.kept h.2.2.1 ⟨hb, k.lt⟩
theorem scMid_sb {w0 w1 wc : World} {K : Nat → Prop} {bm bp bc : Nat} {cs : List Int} {fr n : Nat} {xs : List Value} {bv : Nat} {th md : Int} {bs : Nat} {oc : Array Value} {ex : Value} {ev : List Int} {x : Int} {b : Nat} (h : ScMid w0 w1 wc K bm bp bc cs fr n xs bv th md bs oc ex ev x b) : SB bs oc 103 wc := by
  obtain ⟨K8, _, _, h, _⟩ := h
  exact h.sb
theorem scL_sb {w0 w1 wx w9 : World} {K : Nat → Prop} {bm bp bc : Nat} {cs : List Int} {fr n : Nat} {xs : List Value} {bv : Nat} {th md : Int} {bs : Nat} {oc : Array Value} {ex : Value} {ev : List Int} (h : ScL w0 w1 wx w9 K bm bp bc cs fr n xs bv th md bs oc ex ev) : SB bs oc 103 w9 := h.1.sb
/-- The Scan is over: what it tells. -/
def ScEnd (w0 w : World) (K : Nat → Prop) (bm bp bc : Nat) (cs : List Int) (fr n : Nat) (xs : List Value) (bv : Nat) (th md : Int) (bs : Nat) (P : SlP) (i fl : Int) (ev : List Int) : Prop :=
  ∃ (K3 : Nat → Prop) (need ex : Value) (r : List Int), (∀ j, K j → K3 j) ∧ (∀ j, K3 j → K j ∨ w0.heap.size ≤ j) ∧ Pw w0 w K3 bm bp bc cs fr n xs bv th md bs (scC P true i fl need ex true) 103 ∧ RU w w0.heap.size (okS K3 bv bs) need r ∧ r.length = ev.length
def ScLp (w0 w : World) (K3 K4 : Nat → Prop) (bm bp bc : Nat) (cs : List Int) (fr n : Nat) (xs : List Value) (bv : Nat) (th md : Int) (bs : Nat) (P : SlP) (i fl : Int) (need ex : Value) (r : List Int) (k : Nat) : Prop :=
  (∀ j, K3 j → K4 j) ∧ (∀ j, K4 j → K3 j ∨ w0.heap.size ≤ j) ∧ Pw w0 w K4 bm bp bc cs fr n xs bv th md bs (scC P true i fl need ex true) 103 ∧ RU w w0.heap.size (okS K4 bv bs) ex r ∧ RU w w0.heap.size (okS K4 bv bs) need (r.take k) ∧ ∀ j, need.ownBlock = some j → ex.ownBlock ≠ some j
theorem scLp_next {w0 w w2 : World} {K3 K4 : Nat → Prop} {bm bp bc : Nat} {cs : List Int} {fr n : Nat} {xs : List Value} {bv : Nat} {th md : Int} {bs : Nat} {P : SlP} {i fl : Int} {need ex : Value} {r : List Int} {k m gg cp : Nat} {ss : Int} {o : Obj}
    (h : ScLp w0 w K3 K4 bm bp bc cs fr n xs bv th md bs P i fl need ex r k) (hk : k < m) (hr : r.length = m) (hs : SortM.g r k = ss) (hg : (w.alloc o).grownBy w2 need.ownBlock)
    (ho : w2.ownsRow w0.heap.size 29 1 (.slice (some ⟨gg, 0, none⟩) (k + 1) cp) (k + 1) (encs (Value.int .u64) (r.take k) ++ [.int .u64 ss])) (hat : need.ownBlock = some gg ∨ gg = w.heap.size + 1) (hlt : gg < w2.heap.size) :
    ∃ K5, ScLp w0 (w2.setCell ⟨bs, 7, none⟩ (.slice (some ⟨gg, 0, none⟩) (k + 1) cp)) K3 K5 bm bp bc cs fr n xs bv th md bs P i fl (.slice (some ⟨gg, 0, none⟩) (k + 1) cp) ex r (k + 1) := by
  obtain ⟨b1, b2, b3, b4, b5, b6⟩ := h
  have hnl : (r.take k).length = k := by rw [List.length_take]; omega
  obtain ⟨K5, a1, a2, p3, r3, kp, hgg⟩ := row_grew (m := k + 1) b3 b5 (below_alloc (Below.refl _ _) o) hg (by rw [hnl]) ho (hat.imp id fun e => by rw [e, World.size_alloc]) hlt
  have hx : RU w2 w0.heap.size (okS K5 bv bs) ex r := by
    have ht := Kd.R_tight2 rfl b4
    have h1 : RU w2 w0.heap.size (fun j => some j = ex.ownBlock ∧ okS K4 bv bs j) ex r := Kd.R_step ht fun j hj hl => kp.block j ⟨hj.2.1, fun e => b6 j e.symm hj.1.symm⟩ hl
    exact Kd.R_mono h1 fun j hj => ⟨a1 j hj.2.1, hj.2.2⟩
  have ht : r.take (k + 1) = r.take k ++ [ss] := by
    rw [List.take_add_one, ← hs, List.getElem?_eq_getElem (by omega)]
    simp [SortM.g, List.getD_eq_getElem?_getD, List.getElem?_eq_getElem (show k < r.length by omega)]
  have nb : ¬ okS K5 bv bs bs := fun h => h.2.2 rfl
  refine ⟨K5, fun j hj => a1 j (b1 j hj), fun j hj => (a2 j hj).elim (b2 j) .inr, p3.put 7 _, hx.kept ((Kept.refl _ _).setCell (p := ⟨bs, 7, none⟩) nb _), by rw [ht]; exact r3.kept ((Kept.refl _ _).setCell (p := ⟨bs, 7, none⟩) nb _), fun j hj => ?_⟩
  obtain rfl : gg = j := by simpa [Value.ownBlock] using hj
  rcases hgg with e | e
  · exact b6 gg e
  · exact fun e2 => by have := Kd.R_lt b4 gg e2; omega
set_option maxHeartbeats 8000000 in
set_option maxRecDepth 100000 in
theorem scan_step {w0 w : World} {K : Nat → Prop} {bm bp bc : Nat} {cs : List Int} {fr n : Nat} {xs : List Value} {bv : Nat} {th md : Int} {bs : Nat} {P : SlP} {ex : Value} {ev : List Int} {i fl : Int} (hP : P.Ok) (h : Pw w0 w K bm bp bc cs fr n xs bv th md bs (scC P true i fl (.slice none 0 0) (ex) false) 103) (hd0 : 0 ≤ md) (hd1 : md ≤ 1152921504606846975) (hn : n < 68719476735) (hcs : CsOk cs) (i0 : 0 ≤ i) (i1 : i < P.cnt) (hk : (pk cs (P.first + i)) % 4 = 0 ∨ (pk cs (P.first + i)) % 4 = 3) (hR : RU w w0.heap.size (okS K bv bs) ex ev) (hev : ev.length < 12) (hnd : Apart fl (scV ev (pk cs (P.first + i)))) :
    Calls Tryz.prog 97 #[.pointer (some ⟨bs, 0, none⟩), .pointer (some ⟨bv, 0, none⟩)] w fun e w' => e = .returned (.bool (decide (i + 1 = P.cnt))) ∧ (i + 1 < P.cnt → ScAt w0 w' K bm bp bc cs fr (n + 1) (xs ++ acc th 1 (P.first + i) 0 0 (.slice none 0 0) (pk cs (P.first + i)) false) bv th (md + 1) bs P (i + 1) fl (scV ev (pk cs (P.first + i)))) ∧ (i + 1 = P.cnt → ScEnd w0 w' K bm bp bc cs fr (n + 1) (xs ++ acc th 1 (P.first + i) 0 0 (.slice none 0 0) (pk cs (P.first + i)) false) bv th (md + 1) bs P (i + 1) fl (scV ev (pk cs (P.first + i)))) := by
  obtain ⟨w1, rfl⟩ : ∃ wx : World, wx = w := ⟨w, rfl⟩
  have q0 := hP.n0
  have q1 := hP.n1
  have q2 := hP.f0
  have q3 := hP.f1
  obtain ⟨u0, u1⟩ := hcs (P.first + i)
  have H1 := Aside0.mk h
  have c4 : w1.cell? ⟨bs, 4, none⟩ = some (.bool true) := h.sb.cell 4 rfl
  have c9 : w1.cell? ⟨bs, 9, none⟩ = some (.bool false) := h.sb.cell 9 rfl
  have HC := Lib.hid (fun wx => cell_calls wx P.cam P.first P.cnt P.most i q2 i0 (by omega))
  have HQ : Hid (∀ (wx : World) (hb : Below w1.heap.size w1 wx), _) := Lib.hid (fun wx hb => scL_of h hR hd0 hd1 hn (ad := P.first + i) (by omega) wx hb)
  generalize (pk cs (P.first + i)) = x at HQ hk u0 u1 hnd ⊢
  generalize xs ++ acc th 1 (P.first + i) 0 0 (.slice none 0 0) x false = ys at HQ ⊢
  have HU := Lib.hid (fun wx => unpack_calls wx x u0 u1)
  have z0 : ∀ wx, SB bs (scC P true i fl (.slice none 0 0) (ex) false) 103 wx → wx.cell? ⟨bs, 0, none⟩ = some (.int .u64 P.cam) := fun wx h => h.cell 0 rfl
  have z1 : ∀ wx, SB bs (scC P true i fl (.slice none 0 0) (ex) false) 103 wx → wx.cell? ⟨bs, 1, none⟩ = some (.int .u64 P.first) := fun wx h => h.cell 1 rfl
  have z2 : ∀ wx, SB bs (scC P true i fl (.slice none 0 0) (ex) false) 103 wx → wx.cell? ⟨bs, 2, none⟩ = some (.int .i64 P.cnt) := fun wx h => h.cell 2 rfl
  have z3 : ∀ wx, SB bs (scC P true i fl (.slice none 0 0) (ex) false) 103 wx → wx.cell? ⟨bs, 3, none⟩ = some (.int .u64 P.most) := fun wx h => h.cell 3 rfl
  have z5 : ∀ wx, SB bs (scC P true i fl (.slice none 0 0) (ex) false) 103 wx → wx.cell? ⟨bs, 5, none⟩ = some (.int .i64 i) := fun wx h => h.cell 5 rfl
  clear h hR hcs
  have hel : (scV ev x).length ≤ 12 := by unfold scV; split <;> (try simp only [List.length_append, List.length_singleton]) <;> omega
  go_enter Tryz.func97, Tryz.ntmps97
  go_upto_if 20 with (fail)
  go_cut [] (fun wc => Aside0 (ScAt w0 wc K bm bp bc cs fr (n + 1) ys bv th (md + 1) bs P (i + 1) fl (scV ev x)))
  case first =>
    go_wp2_with fail
    go_cut [5] (fun v5 wc => ∃ b, v5 = .pointer (some ⟨b, 0, none⟩) ∧ Aside0 (ScMid w0 w1 wc K bm bp bc cs fr (n + 1) ys bv th (md + 1) bs (scC P true i fl (.slice none 0 0) (ex) false) ex ev x b))
    case first =>
      have hr : Below w1.heap.size w1 w1 := Below.refl _ _
      have hr2 : Below w1.heap.size w1 w1.drew := hr.drew
      have hs : SB bs (scC P true i fl (.slice none 0 0) (ex) false) 103 w1 := H1.out.sb
      have hs2 : SB bs (scC P true i fl (.slice none 0 0) (ex) false) 103 w1.drew := hs
      go_region_held3 (fun w' => SB bs (scC P true i fl (.slice none 0 0) (ex) false) 103 w') (first | assumption | exact SB.alloc (by assumption) _ | exact scMid_sb (H8.out.early k8 (.inr ⟨Nat.le_refl _, k8.lt⟩)) | exact scMid_sb (H8.out.early k8 (.inl ⟨Nat.le_refl _, k2.lt⟩)) | exact scMid_sb (H8.out.early k8 (.inl ⟨hs_.size, (SlB.new w2).lt⟩))) (first
        | (go_at_call 36; with_reducible refine (HC.out _).mono ?_; rintro e w2 ⟨rfl, hb⟩; have hs_ : Below w1.heap.size w1 w2 := below_step (by first | assumption | exact below_alloc (by assumption) _ | exact below_drew (below_alloc (Below.refl _ _) _)) hb; have hs3 : SB bs (scC P true i fl (.slice none 0 0) (ex) false) 103 w2 := SB.below (by assumption) hb; (first | (have k2 : SlB w1.heap.size w2 := SlB.below (SlB.newd _) hb) | (have k2 : SlB w1.heap.size w2 := SlB.below (SlB.new _) hb) | skip); clear hb)
        | (go_at_call 84; with_reducible refine (HQ.out _ (by first | assumption | exact below_alloc (by assumption) _)).mono ?_; rintro e w9 ⟨rfl, h9⟩; have hs4 : SB bs (scC P true i fl (.slice none 0 0) (ex) false) 103 w9 := scL_sb h9; (first | (have k9 : SlB w1.heap.size w9 := scL_keep h9 k2 (Nat.le_refl _)) | (have k9 : SlB w2.heap.size w9 := scL_keep h9 (SlB.new w2) hs_.size) | skip); have H9 := Aside0.mk h9; clear h9)
        | (go_at_call 35; with_reducible refine (HU.out _).mono ?_; rintro e w8 ⟨rfl, hb⟩; have h98 : Below w9.heap.size w9 w8 := below_step (by first | exact Below.refl _ _ | exact below_alloc (Below.refl _ _) _) hb; have H8 := Aside0.mk (scU_of H1.out H9.out h98); have hs5 : SB bs (scC P true i fl (.slice none 0 0) (ex) false) 103 w8 := SB.below (by assumption) h98; (first | (have k8 := SlB.below k9 hb; have e0 := k8.c0; have e1 := k8.c1; have e2 := k8.c2; have e3 := k8.fz 0; have e4 := k8.fz 1; have e5 := k8.fz 2) | (have k8 : SlB w9.heap.size w8 := SlB.below (SlB.new w9) hb; have e0 := k8.c0; have e1 := k8.c1; have e2 := k8.c2; have e3 := k8.fz 0; have e4 := k8.fz 1; have e5 := k8.fz 2) | skip); clear hb))
      all_goals (
        go_wp2
        go_meet
        case rel => first
          | exact ⟨_, rfl, ⟨H8.out.late⟩⟩
          | exact ⟨_, rfl, ⟨H8.out.early k8 (.inr ⟨Nat.le_refl _, k8.lt⟩)⟩⟩
          | exact ⟨_, rfl, ⟨H8.out.early k8 (.inl ⟨Nat.le_refl _, k2.lt⟩)⟩⟩
          | exact ⟨_, rfl, ⟨H8.out.early k8 (.inl ⟨hs_.size, (SlB.new w2).lt⟩)⟩⟩)
    case rest =>
      obtain ⟨b, rfl, HM⟩ := hcut
      obtain ⟨K8, k81, k82, h8, r8, b8, hb8⟩ := HM.out
      have r8 : RU wc w0.heap.size (okS K8 bv bs) ex ev := Kd.R_mono r8 fun k hk => ⟨k81 k hk.1, hk.2⟩
      obtain ⟨A, cp, rfl⟩ := RU.slice r8
      have d0 : wc.cell? ⟨b, 0, none⟩ = some (.int .u8 (x % 4)) := (blk_cell b8 0).trans rfl
      have d2 : wc.cell? ⟨b, 2, none⟩ = some (.int .u64 (x / 4194304)) := (blk_cell b8 2).trans rfl
      have KK := Aside0.mk (And.intro k81 k82)
      have H8 := Aside0.mk (And.intro h8 r8)
      clear k81 k82 h8 r8 b8 hb8 HM HC HQ HU H1 z0 z1 z2 z3 z5 c4 c9 hnd
      rcases hk with hk | hk
      · rw [hk] at d0
        have E1 : Aside0 (scV ev x = ev) := ⟨by unfold scV; rw [if_neg (by omega)]⟩
        have HI := Aside0.mk H8.out.1
        have HR := Aside0.mk H8.out.2
        have c5 : wc.cell? ⟨bs, 5, none⟩ = some (.int .i64 i) := (H8.out.1.cell 5).trans rfl
        have f5 := H8.out.1.frozen 5
        clear hk H8
        have e1 : IntKind.i64.wrap (i + 1) = i + 1 := IntWalk.i64_in _ (by omega)
        have HW := Aside0.mk (HI.out.put 5 (.int .i64 (i + 1)))
        have HR5 := Aside0.mk (HR.out.kept ((Kept.refl _ _).setCell (p := ⟨bs, 5, none⟩) (fun h => h.2.2 rfl) (.int .i64 (i + 1))))
        clear HI
        go_wp2
        go_meet
        case rel => exact ⟨⟨K8, _, KK.out.1, KK.out.2, HW.out, by rw [E1.out]; exact HR5.out⟩⟩
      · rw [hk] at d0
        have E1 : Aside0 (scV ev x = ev ++ [x / 4194304]) := ⟨by unfold scV; rw [if_pos hk]⟩
        generalize x / 4194304 = ss at d2 E1
        have c8 : wc.cell? ⟨bs, 8, none⟩ = some (.slice A ev.length cp) := (H8.out.1.cell 8).trans rfl
        have f8 := H8.out.1.frozen 8
        have lb := H8.out.1.mem.kl bs H8.out.1.ks
        have lb2 : b < wc.heap.size := World.block_lt_of_cell? _ _ d2
        have hs0 : w0.heap.size ≤ wc.heap.size := H8.out.1.fr0.size
        have H2 := Aside0.mk (Kd.own_of_R H8.out.2)
        have eb : (Value.slice A ev.length cp).ownBlock ≠ some bs := fun e => (H8.out.2.1 bs e).2.2 rfl
        obtain ⟨j0, hi0, hz0, hz1, hz2⟩ := info_parts infoU64
        clear hk
        go_upto_region 11 with (fail)
        go_region_law ((refine step_append_lies _ (by rfl) _ _ _ (by rfl) w0.heap.size 29 j0 _ 1 8 Tryz.underlying31 hi0 hz0 hz1 hz2 rfl (by omega) (.slice A ev.length cp) ev.length _ (by rfl) ((H2.out.alloc _).drew) ⟨wc.heap.size, 0, none⟩ 1 1 [.int .u64 ss] (by rfl) (by rfl) (World.news_of_block (cs := #[.int .u64 ss]) (t := 29) (fr := (0, 0)) (heap_alloc_new wc _)) (by simp [Value.oneCell']) (by omega) (by unfold maxLen; omega) (by omega) (by simp; omega) (wc.heap.size + 1) (by simp) ?_; intro gg cp2 w2 hown1 hgrow hat hlt; have fm2 : w2.frozen? ⟨bs, 8, none⟩ = false := (hgrow.frozen_far _ (by simp; omega) (Ne.symm eb)).trans ((World.frozen?_alloc_past _ _ _ lb).trans f8); have cm2 : w2.cell? ⟨bs, 8, none⟩ = some (.slice A ev.length cp) := (hgrow.cell_far _ (by simp; omega) (Ne.symm eb)).trans ((World.cell?_alloc_past _ _ _ lb).trans c8)))
        all_goals (
          obtain ⟨K3, a1, a2, p3, r3, _, _⟩ := row_grew H8.out.1 H8.out.2 (below_drew (below_alloc (Below.refl _ _) _)) hgrow rfl hown1 (hat.imp id fun e => by rw [e]; simp) hlt
          have p4 := p3.put 8 (.slice (some ⟨gg, 0, none⟩) (ev.length + 1) cp2)
          have HI := Aside0.mk p4
          have HR := Aside0.mk (r3.kept ((Kept.refl _ _).setCell (p := ⟨bs, 8, none⟩) (fun h => h.2.2 rfl) (.slice (some ⟨gg, 0, none⟩) (ev.length + 1) cp2)))
          have KL := Aside0.mk (And.intro a1 a2)
          clear a1 a2 p3 p4 r3 hgrow hown1 hat hlt fm2 cm2 c8 f8 lb lb2 hs0 H2 eb d0 d2 H8
          generalize World.setCell _ ⟨bs, 8, none⟩ (.slice (some ⟨gg, 0, none⟩) (ev.length + 1) cp2) = w6 at HI HR ⊢
          have c5 : w6.cell? ⟨bs, 5, none⟩ = some (.int .i64 i) := (HI.out.cell 5).trans rfl
          have f5 := HI.out.frozen 5
          have e1 : IntKind.i64.wrap (i + 1) = i + 1 := IntWalk.i64_in _ (by omega)
          have HW := Aside0.mk (HI.out.put 5 (.int .i64 (i + 1)))
          have HR5 := Aside0.mk (HR.out.kept ((Kept.refl _ _).setCell (p := ⟨bs, 5, none⟩) (fun h => h.2.2 rfl) (.int .i64 (i + 1))))
          clear HI
          go_wp2
          go_meet
          case rel => exact ⟨⟨K3, _, fun j hj => KL.out.1 j (KK.out.1 j hj), fun j hj => (KL.out.2 j hj).elim (KK.out.2 j) .inr, HW.out, by rw [E1.out]; exact HR5.out⟩⟩)
  case rest =>
    obtain ⟨K3, ex2, a1, a2, p3, r3⟩ := hcut.out
    have HW := Aside0.mk p3
    have HR := Aside0.mk r3
    have KK := Aside0.mk (And.intro a1 a2)
    clear a1 a2 p3 r3 HQ HU H1 z0 z1 z2 z3 z5 c4 c9 hcut hk HC
    generalize hev2 : scV ev x = ev2 at HR hnd hel
    have HE2 := Aside0.mk hev2
    clear hev2
    have HND := Aside0.mk hnd
    clear hnd
    go_upto_region 13 with (fail)
    by_cases hl : i + 1 < P.cnt
    · have E1 : Aside0 (decide (i + 1 = P.cnt) = false) := ⟨decide_eq_false (by omega)⟩
      have HC := Lib.hid (fun wx => count_calls wx P.cam P.first P.cnt P.most (by omega) q1)
      have z0 : ∀ wx, SB bs (scC P true (i + 1) fl (.slice none 0 0) (ex2) false) 103 wx → wx.cell? ⟨bs, 0, none⟩ = some (.int .u64 P.cam) := fun wx h => h.cell 0 rfl
      have z1 : ∀ wx, SB bs (scC P true (i + 1) fl (.slice none 0 0) (ex2) false) 103 wx → wx.cell? ⟨bs, 1, none⟩ = some (.int .u64 P.first) := fun wx h => h.cell 1 rfl
      have z2 : ∀ wx, SB bs (scC P true (i + 1) fl (.slice none 0 0) (ex2) false) 103 wx → wx.cell? ⟨bs, 2, none⟩ = some (.int .i64 P.cnt) := fun wx h => h.cell 2 rfl
      have z3 : ∀ wx, SB bs (scC P true (i + 1) fl (.slice none 0 0) (ex2) false) 103 wx → wx.cell? ⟨bs, 3, none⟩ = some (.int .u64 P.most) := fun wx h => h.cell 3 rfl
      have z5 : ∀ wx, SB bs (scC P true (i + 1) fl (.slice none 0 0) (ex2) false) 103 wx → wx.cell? ⟨bs, 5, none⟩ = some (.int .i64 (i + 1)) := fun wx h => h.cell 5 rfl
      have hr : Below wc.heap.size wc wc := Below.refl _ _
      have hr2 : Below wc.heap.size wc wc.drew := hr.drew
      have hs : SB bs (scC P true (i + 1) fl (.slice none 0 0) (ex2) false) 103 wc := HW.out.sb
      have hs2 : SB bs (scC P true (i + 1) fl (.slice none 0 0) (ex2) false) 103 wc.drew := hs
      go_region_held3 (fun w' => SB bs (scC P true (i + 1) fl (.slice none 0 0) (ex2) false) 103 w') (assumption) (first
        | (go_at_call 34; with_reducible refine (HC.out _).mono ?_; rintro e w' ⟨rfl, hb⟩; have hs_ : Below wc.heap.size wc w' := below_step (by assumption) hb; have hs3 : SB bs (scC P true (i + 1) fl (.slice none 0 0) (ex2) false) 103 w' := SB.below (by assumption) hb; clear hb))
      have HF := Aside0.mk (And.intro (HW.out.below (show Below wc.heap.size wc _ by assumption)) (HR.out.below (show Below wc.heap.size wc _ by assumption)))
      have HL := Aside0.mk hl
      go_wp2
      go_ret
      exact ⟨by rw [E1.out]; rfl, fun _ => ⟨K3, ex2, KK.out.1, KK.out.2, HF.out.1, by rw [HE2.out]; exact HF.out.2⟩, fun h => absurd HL.out (by omega)⟩
    · have E1 : Aside0 (decide (i + 1 = P.cnt) = true) := ⟨decide_eq_true (by omega)⟩
      have HL := Aside0.mk hl
      have HC := Lib.hid (fun wx => count_calls wx P.cam P.first P.cnt P.most (by omega) q1)
      have z0 : ∀ wx, SB bs (scC P true (i + 1) fl (.slice none 0 0) (ex2) false) 103 wx → wx.cell? ⟨bs, 0, none⟩ = some (.int .u64 P.cam) := fun wx h => h.cell 0 rfl
      have z1 : ∀ wx, SB bs (scC P true (i + 1) fl (.slice none 0 0) (ex2) false) 103 wx → wx.cell? ⟨bs, 1, none⟩ = some (.int .u64 P.first) := fun wx h => h.cell 1 rfl
      have z2 : ∀ wx, SB bs (scC P true (i + 1) fl (.slice none 0 0) (ex2) false) 103 wx → wx.cell? ⟨bs, 2, none⟩ = some (.int .i64 P.cnt) := fun wx h => h.cell 2 rfl
      have z3 : ∀ wx, SB bs (scC P true (i + 1) fl (.slice none 0 0) (ex2) false) 103 wx → wx.cell? ⟨bs, 3, none⟩ = some (.int .u64 P.most) := fun wx h => h.cell 3 rfl
      have z5 : ∀ wx, SB bs (scC P true (i + 1) fl (.slice none 0 0) (ex2) false) 103 wx → wx.cell? ⟨bs, 5, none⟩ = some (.int .i64 (i + 1)) := fun wx h => h.cell 5 rfl
      have hr : Below wc.heap.size wc wc := Below.refl _ _
      have hr2 : Below wc.heap.size wc wc.drew := hr.drew
      have hs : SB bs (scC P true (i + 1) fl (.slice none 0 0) (ex2) false) 103 wc := HW.out.sb
      have hs2 : SB bs (scC P true (i + 1) fl (.slice none 0 0) (ex2) false) 103 wc.drew := hs
      go_region_held3 (fun w' => SB bs (scC P true (i + 1) fl (.slice none 0 0) (ex2) false) 103 w') (assumption) (first
        | (go_at_call 34; with_reducible refine (HC.out _).mono ?_; rintro e w' ⟨rfl, hb⟩; have hs_ : Below wc.heap.size wc w' := below_step (by assumption) hb; have hs3 : SB bs (scC P true (i + 1) fl (.slice none 0 0) (ex2) false) 103 w' := SB.below (by assumption) hb; clear hb))
      have HF := Aside0.mk (And.intro (HW.out.below (show Below wc.heap.size wc _ by assumption)) (HR.out.below (show Below wc.heap.size wc _ by assumption)))
      have c9 := (HF.out.1.cell 9).trans (show _ = some (.bool false) from rfl)
      have f9 := HF.out.1.frozen 9
      clear z0 z1 z2 z3 z5 hr hr2 hs hs2 HC
      go_upto_region 16 with (fail)
      have HO := Aside0.mk (And.intro (HF.out.1.put 9 (.bool true)) (HF.out.2.kept ((Kept.refl _ _).setCell (p := ⟨bs, 9, none⟩) (fun h => h.2.2 rfl) (.bool true))))
      clear c9 f9 HF
      generalize World.setCell _ ⟨bs, 9, none⟩ (.bool true) = w6 at HO ⊢
      have c8 : w6.cell? ⟨bs, 8, none⟩ = some ex2 := (HO.out.1.cell 8).trans rfl
      have HS := Lib.hid (sort_proc HO.out.1 HO.out.2 hel HND.out)
      obtain ⟨A2, cp2, rfl⟩ := RU.slice HO.out.2
      go_upto_region 17 with (go_at_call 32; refine HS.out.mono ?_; rintro e7 w7 ⟨rfl, h7⟩; have H7 := Aside0.mk h7; clear h7)
      clear c8 HS HO
      obtain ⟨h7, r, hr7, hr1, hr2, hr3⟩ := H7.out
      have c8 : w7.cell? ⟨bs, 8, none⟩ = some (.slice A2 ev2.length cp2) := (h7.cell 8).trans rfl
      have HC := Lib.hid (compact_calls (.slice A2 ev2.length cp2) r w0.heap.size (okS K3 bv bs) w7 hr7 (by omega) (fun a ha e => hr2.1 a (a + 1) (by omega) (by omega) e.symm))
      have H8 := Aside0.mk (And.intro h7 (And.intro hr7 (And.intro hr1 hr2)))
      clear h7 hr7 hr3 H7
      go_upto_block 18 with (go_at_call 98; refine HC.out.mono ?_; rintro e9 w9 ⟨rfl, h9⟩; have H9 := Aside0.mk (And.intro (H8.out.1.below h9.below) (H8.out.2.1.below h9.below)); clear h9)
      have HR1 := Aside0.mk (And.intro hr1 hr2)
      clear H8 HC c8 hr2
      go_loopw [107] (fun v107 wr => ∃ (k : Nat) (K4 : Nat → Prop) (need : Value), k ≤ ev2.length ∧ v107 = .int .i64 k ∧ Aside0 (ScLp w0 wr K3 K4 bm bp bc cs fr (n + 1) ys bv th (md + 1) bs P (i + 1) fl need (.slice A2 ev2.length cp2) r k)) (fun q _ => ev2.length - (intOf q).toNat)
      case atStart => exact ⟨0, K3, _, Nat.zero_le _, rfl, ⟨fun _ h => h, fun _ h => .inl h, H9.out.1, H9.out.2, Kd.R_nil _ _ _ _ _, fun j hj => by cases hj⟩⟩
      case round =>
        obtain ⟨k, K4, need, hk, rfl, HP⟩ := hrel
        obtain ⟨b1, b2, b3, b4, b5, b6⟩ := HP.out
        by_cases hlt : k < ev2.length
        · obtain ⟨g2, cpx, hA2, _, _⟩ := Kd.R_form b4 (by omega)
          obtain rfl : A2 = some ⟨g2, 0, none⟩ := by injection hA2
          have x0 := RU.at_ b4 k hlt
          have hfl := HR1.out.2.2 k (by omega)
          obtain ⟨An, cn, hneed⟩ := RU.slice b5
          have hnl : (r.take k).length = k := by rw [List.length_take]; omega
          rw [hnl] at hneed
          subst hneed
          have c6 : wr.cell? ⟨bs, 6, none⟩ = some (.int .u64 fl) := (b3.cell 6).trans rfl
          have c7 : wr.cell? ⟨bs, 7, none⟩ = some (.slice An k cn) := (b3.cell 7).trans rfl
          have f7 := b3.frozen 7
          have lb := b3.mem.kl bs b3.ks
          have hs0 : w0.heap.size ≤ wr.heap.size := b3.fr0.size
          have eb : (Value.slice An k cn).ownBlock ≠ some bs := fun e => (b5.1 bs e).2.2 rfl
          have hown0 := Kd.own_of_R b5
          rw [hnl] at hown0
          have H2 := Aside0.mk hown0
          have k0 : (0 : Int) ≤ (k : Int) := by omega
          have k1 : (k : Int) < (ev2.length : Int) := by omega
          have k2 : (k : Int).toNat = k := Int.toNat_natCast k
          generalize hss : SortM.g r k = ss at x0 hfl
          have HSS := Aside0.mk hss
          obtain ⟨j0, hi0, hz0, hz1, hz2⟩ := info_parts infoU64
          clear hss hown0 b1 b2 b3 b4 b5 b6 hA2
          go_upto_region 21 with (fail)
          clear x0 c6 hfl
          go_wp2_with (at_builtin; refine wpList_append_lies _ rfl (.tmp 123) (.tmp 125) 31 rfl w0.heap.size 29 j0 _ 1 8 Tryz.underlying31 hi0 hz0 hz1 hz2 rfl (by omega) (.slice An k cn) k _ (by rfl) (H2.out.alloc _) ⟨wr.heap.size, 0, none⟩ 1 1 [.int .u64 ss] (by rfl) (by rfl) (World.news_of_block (cs := #[.int .u64 ss]) (t := 29) (fr := (0, 0)) (heap_alloc_new wr _)) (by simp [Value.oneCell']) (by omega) (by unfold maxLen; omega) (by omega) (by simp; omega) (wr.heap.size + 1) (by simp) ?_; intro gg cp3 w2 hown1 hgrow hat hlt2; have fm2 : w2.frozen? ⟨bs, 7, none⟩ = false := (hgrow.frozen_far _ (by simp; omega) (Ne.symm eb)).trans ((World.frozen?_alloc_past _ _ _ lb).trans f7); have cm2 : w2.cell? ⟨bs, 7, none⟩ = some (.slice An k cn) := (hgrow.cell_far _ (by simp; omega) (Ne.symm eb)).trans ((World.cell?_alloc_past _ _ _ lb).trans c7))
          have hfin := scLp_next HP.out hlt HR1.out.1 HSS.out hgrow hown1 hat hlt2
          obtain ⟨K5, hfin⟩ := hfin
          exact ⟨⟨k + 1, K5, _, hlt, by rfl, ⟨hfin⟩⟩, by simp [intOf]; omega⟩
        · have hk2 : ¬ (k : Int) < (ev2.length : Int) := by omega
          have E3 : Aside0 (r.take k = r) := ⟨List.take_of_length_le (by omega)⟩
          clear b1 b2 b3 b4 b5 b6
          go_wp2
          go_ret
          exact ⟨by rw [E1.out]; rfl, fun h => absurd h (by have := HL.out; omega), fun _ => ⟨K4, need, _, r, fun j hj => HP.out.1 j (KK.out.1 j hj), fun j hj => (HP.out.2.1 j hj).elim (KK.out.2 j) .inr, HP.out.2.2.1, by have := HP.out.2.2.2.2.1; rw [E3.out] at this; exact this, by rw [HE2.out]; exact HR1.out.1⟩⟩
end Go.Proofs.YtcbndfmbpojppaaGreat

/- announce.Scan: what it tells. -/
namespace Go.Proofs.YtcbndfmbpojppaaGreat
open Go.RowKit Go.Proofs.YtcbndfmbpojppaaGreatW.PrintWords Go.Proofs.YtcbndfmbpojppaaGreatW.PrintMore Go.Proofs.YtcbndfmbpojppaaGreat.Math
set_option linter.unusedVariables false
set_option linter.unusedSimpArgs false
set_option maxRecDepth 100000 in
theorem clone_nil (w : World) : Calls Tryz.prog 28 #[.slice none 0 0] w fun e w' => e = .returned (.slice none 0 0) ∧ Below w.heap.size w w' := by
  have HB := Aside0.mk (Below.refl w.heap.size w)
  have hnil := fun wx a n c n' c' => Lib.run_eql_slice_nil (P := Tryz.prog) wx 31 29 a n c n' c' Tryz.underlying31
  go_enter Tryz.func28, Tryz.ntmps28
  go_wp2
  go_ret
  exact ⟨rfl, HB.out⟩
set_option maxRecDepth 100000 in
theorem clone_empty (w : World) (gb cp : Nat) : Calls Tryz.prog 28 #[.slice (some ⟨gb, 0, none⟩) 0 cp] w fun e w' => (∃ A c, e = .returned (.slice A 0 c)) ∧ Below w.heap.size w w' := by
  have HB := Aside0.mk (Below.refl w.heap.size w)
  have hnil := fun wx a n c n' c' => Lib.run_eql_slice_nil (P := Tryz.prog) wx 31 29 a n c n' c' Tryz.underlying31
  go_enter Tryz.func28, Tryz.ntmps28
  go_wp2
  go_ret
  exact ⟨⟨_, _, rfl⟩, HB.out.alloc (Nat.le_refl _) _⟩
theorem clone_row (w : World) (base : Nat) (ok : Nat → Prop) (u : Value) (l : List Int) (hR : RU w base ok u l) (hl : l.length ≤ 4194304) :
    Calls Tryz.prog 28 #[u] w fun e w' => (∃ A c, e = .returned (.slice A l.length c)) ∧ Below w.heap.size w w' := by
  by_cases h0 : 0 < l.length
  · obtain ⟨gb, cap, rfl, _⟩ := Kd.R_form hR h0
    exact (clone_calls w ⟨gb, 0, none⟩ l.length cap l rfl h0 hl fun j hj => by rw [add_plain]; exact RU.at_ hR j hj).mono fun e w' ⟨g, c, h1, _, h3⟩ => ⟨⟨_, _, h1⟩, h3⟩
  · have hz : l = [] := List.length_eq_zero_iff.1 (by omega)
    subst hz
    obtain ⟨A, c, rfl⟩ := RU.slice hR
    have ho := Kd.own_of_R hR
    rcases ho.2 with ⟨e, _⟩ | ⟨gb, cap, cur, e, _⟩
    · rw [e]
      exact (clone_nil w).mono fun e w' ⟨h1, h2⟩ => ⟨⟨none, 0, h1⟩, h2⟩
    · rw [e]
      exact clone_empty w gb cap
theorem SB.far {bs : Nat} {oc : Array Value} {T : TypeId} {w : World} (h : SB bs oc T w) {b : Nat} (hb : bs < b) (j : Nat) (v : Value) : SB bs oc T (w.setCell ⟨b, j, none⟩ v) := (Below.heap_setCell _ _ _ _ (fun e => by simp at e; omega)).trans h
set_option maxHeartbeats 4000000 in
set_option maxRecDepth 100000 in
theorem need_calls (w : World) (bs : Nat) (P : SlP) (i fl : Int) (need ex : Value) (r : List Int) (base : Nat) (ok : Nat → Prop) (hs : SB bs (scC P true i fl need ex true) 103 w) (hR : RU w base ok need r) (hl : r.length ≤ 4194304) :
    Calls Tryz.prog 23 #[.pointer (some ⟨bs, 0, none⟩)] w fun e w' => (∃ A c, e = .returned (.agg #[.int .u64 fl, .slice A r.length c])) ∧ Below w.heap.size w w' := by
  have lb := (Array.getElem?_eq_some_iff.1 hs).1
  have c9 : w.cell? ⟨bs, 9, none⟩ = some (.bool true) := hs.cell 9 rfl
  have z6 : ∀ wx, SB bs (scC P true i fl need ex true) 103 wx → wx.cell? ⟨bs, 6, none⟩ = some (.int .u64 fl) := fun wx h => h.cell 6 rfl
  have z7 : ∀ wx, SB bs (scC P true i fl need ex true) 103 wx → wx.cell? ⟨bs, 7, none⟩ = some need := fun wx h => h.cell 7 rfl
  have HC : Hid (∀ (wx : World) (hb : Below w.heap.size w wx), _) := Lib.hid (fun wx hb => clone_row wx base ok need r (hR.below hb) hl)
  have HS := Aside0.mk hs
  clear hR hs
  go_enter Tryz.func23, Tryz.ntmps23
  go_upto_region 3 with (fail)
  have h1 : SB bs (scC P true i fl need ex true) 103 (w.alloc (.cells #[.int .u64 0, .slice none 0 0] 53)) := HS.out.below ((Below.refl _ _).alloc (Nat.le_refl _) _)
  have h2 : SB bs (scC P true i fl need ex true) 103 (w.alloc (.cells #[.int .u64 0, .slice none 0 0] 53)).drew := h1
  have hb1 : Below w.heap.size w (w.alloc (.cells #[.int .u64 0, .slice none 0 0] 53)) := (Below.refl _ _).alloc (Nat.le_refl _) _
  have hb2 : Below w.heap.size w (w.alloc (.cells #[.int .u64 0, .slice none 0 0] 53)).drew := hb1.drew
  have hN := heap_alloc_new w (.cells #[.int .u64 0, .slice none 0 0] 53)
  have hsz : (w.alloc (.cells #[.int .u64 0, .slice none 0 0] 53)).heap.size = w.heap.size + 1 := World.size_alloc _ _
  generalize w.alloc (.cells #[.int .u64 0, .slice none 0 0] 53) = w1 at h1 h2 hb1 hb2 hN hsz ⊢
  have HX : Aside0 (∀ w3, Below w1.drew.heap.size w1.drew w3 → w3.heap[w.heap.size]? = some (.cells #[.int .u64 0, .slice none 0 0] 53 (0, 0)) ∧ Below w.heap.size w w3) := ⟨fun w3 hb => by
    have hlt : w.heap.size < w1.drew.heap.size := by show _ < w1.heap.size; omega
    exact ⟨(hb.block _ hlt).trans hN, hb2.trans (hb.mono (Nat.le_of_lt hlt))⟩⟩
  clear c9
  go_region_held3 (fun w' => SB bs (scC P true i fl need ex true) 103 w') (first | assumption | exact ((SB.far (by assumption) lb 0 _).far lb 1 _)) (first
    | (go_at_call 28; with_reducible refine (HC.out _ (by assumption)).mono ?_; rintro e w3 ⟨⟨A3, c3, rfl⟩, hb3⟩; have hs3 : SB bs (scC P true i fl need ex true) 103 w3 := SB.below (by assumption) hb3; obtain ⟨hN3, hq3⟩ := HX.out w3 hb3; have hB3 := Aside0.mk hq3; clear hq3; have e0 : w3.cell? ⟨w.heap.size, 0, none⟩ = some (.int .u64 0) := (blk_cell hN3 0).trans rfl; have e1 : w3.cell? ⟨w.heap.size, 1, none⟩ = some (.slice none 0 0) := (blk_cell hN3 1).trans rfl; have g0 := blk_frozen hN3 0; have g1 := blk_frozen hN3 1; clear hb3))
  have s0 := heap_setCell_same w3 w.heap.size 0 _ _ (.int .u64 fl) hN3
  have s1 := heap_setCell_same _ w.heap.size 1 _ _ (.slice A3 r.length c3) s0
  have HG := Aside0.mk s1
  have HE := Aside0.mk ((hB3.out.setCell (p := ⟨w.heap.size, 0, none⟩) (Nat.le_refl _) (.int .u64 fl)).setCell (p := ⟨w.heap.size, 1, none⟩) (Nat.le_refl _) (.slice A3 r.length c3))
  clear s0 s1 hN3 e0 e1 g0 g1 z6 z7 h1 h2 hb1 hb2 hN hsz
  go_wp2
  exact bodyPost_ret (results_cell_row rfl _ _ w.heap.size 53 #[.int .u64 fl, .slice A3 r.length c3] (0, 0) _ rfl HG.out Tryz.underlying53 rfl (by kernel_rfl)) rfl ⟨⟨_, _, rfl⟩, HE.out⟩
end Go.Proofs.YtcbndfmbpojppaaGreat
