/- announce.Snapshot: what each of its steps does to itself and to the memory. -/
import Derived.Test.YtcbndfmbpojppaaGreatProc
import Derived.RegionTactic
import Derived.BigRegion
import Derived.BigQuiet
import Derived.Deep.QuietTactic
import Derived.Laws.EntriesVeiled
/- announce.Snapshot: what each of its steps does to itself and to the memory. -/
namespace Go.Proofs.YtcbndfmbpojppaaGreat
open Go.RowKit Go.Proofs.YtcbndfmbpojppaaGreatW.PrintWords Go.Proofs.YtcbndfmbpojppaaGreat.Math
set_option linter.unusedVariables false
set_option linter.unusedSimpArgs false

/-- Where the slots lie. -/
structure SlP where (cam first cnt most : Int)
structure SlP.Ok (P : SlP) : Prop where
  c0 : 0 ≤ P.cam
  c1 : P.cam < 4611686018427387904
  f0 : 0 ≤ P.first
  f1 : P.first < 4611686018427387904
  n0 : 1 ≤ P.cnt
  n1 : P.cnt ≤ 256
  m0 : 1 ≤ P.most
  m1 : P.most ≤ 1099511627776
/-- A Snapshot. -/
structure SnS where (at_ i pw gen st k g s er : Int)
def snC (P : SlP) (σ : SnS) : Array Value := #[.int .u64 P.cam, .int .u64 P.first, .int .i64 P.cnt, .int .u64 P.most, .int .i64 σ.at_, .int .i64 σ.i, .int .u64 σ.pw, .int .u64 σ.gen, .int .u64 σ.st, .int .u8 σ.k, .int .u64 σ.g, .int .u64 σ.s, .int .i64 σ.er]

set_option maxHeartbeats 2000000 in
set_option maxRecDepth 100000 in
theorem slot_calls {P : SlP} {σ : SnS} (hP : P.Ok) (h0 : 0 ≤ σ.i) (h1 : σ.i ≤ 256) (w : World) (bs : Nat) (hs : SB bs (snC P σ) 88 w) :
    Calls Tryz.prog 85 #[.pointer (some ⟨bs, 0, none⟩)] w fun e w' => e = .returned (.int .u64 (P.first + σ.i)) ∧ Below w.heap.size w w' := by
  have hf := hP.f1
  have hf0 := hP.f0
  have HC := Lib.hid (fun wx => cell_calls wx P.cam P.first P.cnt P.most σ.i hf0 h0 (by omega))
  have z0 : ∀ wx, SB bs (snC P σ) 88 wx → wx.cell? ⟨bs, 0, none⟩ = some (.int .u64 P.cam) := fun wx h => h.cell 0 rfl
  have z1 : ∀ wx, SB bs (snC P σ) 88 wx → wx.cell? ⟨bs, 1, none⟩ = some (.int .u64 P.first) := fun wx h => h.cell 1 rfl
  have z2 : ∀ wx, SB bs (snC P σ) 88 wx → wx.cell? ⟨bs, 2, none⟩ = some (.int .i64 P.cnt) := fun wx h => h.cell 2 rfl
  have z3 : ∀ wx, SB bs (snC P σ) 88 wx → wx.cell? ⟨bs, 3, none⟩ = some (.int .u64 P.most) := fun wx h => h.cell 3 rfl
  have z5 : ∀ wx, SB bs (snC P σ) 88 wx → wx.cell? ⟨bs, 5, none⟩ = some (.int .i64 σ.i) := fun wx h => h.cell 5 rfl
  have hs2 : SB bs (snC P σ) 88 w.drew := hs
  have hr : Below w.heap.size w w := Below.refl _ _
  have hr2 : Below w.heap.size w w.drew := hr.drew
  go_enter Tryz.func85, Tryz.ntmps85
  go_wp2_with fail
  go_region_held3 (fun w' => SB bs (snC P σ) 88 w') (assumption) (first
    | (go_at_call 36; with_reducible refine (HC.out _).mono ?_; rintro e w' ⟨rfl, hb⟩; have hs_ : Below w.heap.size w w' := below_step (by assumption) hb; have hs3 : SB bs (snC P σ) 88 w' := SB.below (by assumption) hb; clear hb))
  have HE := Aside0.mk (show Below w.heap.size w _ by assumption)
  clear z0 z1 z2 z3 z5
  go_wp2
  go_ret
  exact ⟨rfl, HE.out⟩
end Go.Proofs.YtcbndfmbpojppaaGreat

/- announce.Snapshot: its stages, one contract each: what a stage does to the proc, and to the memory. -/
namespace Go.Proofs.YtcbndfmbpojppaaGreat
open Go.RowKit Go.Proofs.YtcbndfmbpojppaaGreatW.PrintWords Go.Proofs.YtcbndfmbpojppaaGreat.Math
set_option linter.unusedVariables false
set_option linter.unusedSimpArgs false

/-- The cells hold words. -/
def CsOk (cs : List Int) : Prop := ∀ ad, 0 ≤ pk cs ad ∧ pk cs ad < 18446744073709551616
/-- Behind a slot that is none: the next one, or the end. -/
def onR (P : SlP) (σ : SnS) : Int × SnS := if σ.i + 1 < P.cnt then (0, { σ with i := σ.i + 1 }) else (8, { σ with i := σ.i + 1, er := 32 })
set_option maxHeartbeats 2000000 in
set_option maxRecDepth 100000 in
theorem on_calls {w0 w : World} {K : Nat → Prop} {bm bp bc : Nat} {cs : List Int} {fr n : Nat} {xs : List Value} {bv : Nat} {th md : Int} {bs : Nat} {P : SlP} {σ : SnS} (hP : P.Ok) (h : Pw w0 w K bm bp bc cs fr n xs bv th md bs (snC P σ) 88) (h0 : 0 ≤ σ.i) (h1 : σ.i ≤ 256) :
    Calls Tryz.prog 86 #[.pointer (some ⟨bs, 0, none⟩)] w fun e w' => e = .returned (.int .i64 (onR P σ).1) ∧ Pw w0 w' K bm bp bc cs fr n xs bv th md bs (snC P (onR P σ).2) 88 := by
  have c5 : w.cell? ⟨bs, 5, none⟩ = some (.int .i64 σ.i) := (h.cell 5).trans rfl
  have f5 := h.frozen 5
  have q0 := hP.n0
  have q1 := hP.n1
  have HP : Aside0 (Pw w0 (w.setCell ⟨bs, 5, none⟩ (.int .i64 (σ.i + 1))) K bm bp bc cs fr n xs bv th md bs (snC P { σ with i := σ.i + 1 }) 88) := ⟨h.put 5 _⟩
  clear h
  go_enter Tryz.func86, Tryz.ntmps86
  go_upto_region 2 with (fail)
  clear c5 f5
  generalize w.setCell ⟨bs, 5, none⟩ (.int .i64 (σ.i + 1)) = w1 at HP ⊢
  have HC := Lib.hid (fun wx => count_calls wx P.cam P.first P.cnt P.most (by omega) q1)
  have hr : Below w1.heap.size w1 w1 := Below.refl _ _
  have hr2 : Below w1.heap.size w1 w1.drew := hr.drew
  have hs : SB bs (snC P { σ with i := σ.i + 1 }) 88 w1 := HP.out.sb
  have hs2 : SB bs (snC P { σ with i := σ.i + 1 }) 88 w1.drew := HP.out.sb
  have z0 : ∀ wx, SB bs (snC P { σ with i := σ.i + 1 }) 88 wx → wx.cell? ⟨bs, 0, none⟩ = some (.int .u64 P.cam) := fun wx h => h.cell 0 rfl
  have z1 : ∀ wx, SB bs (snC P { σ with i := σ.i + 1 }) 88 wx → wx.cell? ⟨bs, 1, none⟩ = some (.int .u64 P.first) := fun wx h => h.cell 1 rfl
  have z2 : ∀ wx, SB bs (snC P { σ with i := σ.i + 1 }) 88 wx → wx.cell? ⟨bs, 2, none⟩ = some (.int .i64 P.cnt) := fun wx h => h.cell 2 rfl
  have z3 : ∀ wx, SB bs (snC P { σ with i := σ.i + 1 }) 88 wx → wx.cell? ⟨bs, 3, none⟩ = some (.int .u64 P.most) := fun wx h => h.cell 3 rfl
  have z5 : ∀ wx, SB bs (snC P { σ with i := σ.i + 1 }) 88 wx → wx.cell? ⟨bs, 5, none⟩ = some (.int .i64 (σ.i + 1)) := fun wx h => h.cell 5 rfl
  go_region_held3 (fun w' => SB bs (snC P { σ with i := σ.i + 1 }) 88 w') (assumption) (first
    | (go_at_call 34; with_reducible refine (HC.out _).mono ?_; rintro e w' ⟨rfl, hb⟩; have hs_ : Below w1.heap.size w1 w' := below_step (by assumption) hb; have hs3 : SB bs (snC P { σ with i := σ.i + 1 }) 88 w' := SB.below (by assumption) hb; clear hb))
  have HE := Aside0.mk (HP.out.below (show Below w1.heap.size w1 _ by assumption))
  clear z0 z1 z2 z3 z5 hs hs2 hr hr2 HC HP
  by_cases hlt : σ.i + 1 < P.cnt
  · have E1 : Aside0 (onR P σ = (0, { σ with i := σ.i + 1 })) := ⟨by unfold onR; rw [if_pos hlt]⟩
    go_wp2
    go_ret
    exact ⟨by rw [E1.out]; rfl, by rw [E1.out]; exact HE.out⟩
  · have E1 : Aside0 (onR P σ = (8, { σ with i := σ.i + 1, er := 32 })) := ⟨by unfold onR; rw [if_neg hlt]⟩
    have f12 := HE.out.frozen 12
    have c12 := (HE.out.cell 12).trans rfl
    have HE2 : Aside0 (∀ wx, Pw w0 wx K bm bp bc cs fr n xs bv th md bs (snC P { σ with i := σ.i + 1 }) 88 → Pw w0 (wx.setCell ⟨bs, 12, none⟩ (.int .i64 32)) K bm bp bc cs fr n xs bv th md bs (snC P { σ with i := σ.i + 1, er := 32 }) 88) := ⟨fun wx hh => hh.put 12 _⟩
    go_wp2
    go_ret
    exact ⟨by rw [E1.out]; rfl, by rw [E1.out]; exact HE2.out _ HE.out⟩

/-- What seek finds. -/
def skR (P : SlP) (σ : SnS) (cs : List Int) : Int × SnS := if pk cs (P.first + σ.i) % 4 = 0 ∧ pk cs (P.first + σ.i) / 4 % 1048576 < 1048575 then (1, { σ with pw := pk cs (P.first + σ.i), gen := pk cs (P.first + σ.i) / 4 % 1048576 }) else onR P { σ with pw := pk cs (P.first + σ.i) }
set_option maxHeartbeats 4000000 in
set_option maxRecDepth 100000 in
theorem seek_calls {w0 w : World} {K : Nat → Prop} {bm bp bc : Nat} {cs : List Int} {fr n : Nat} {xs : List Value} {bv : Nat} {th md : Int} {bs : Nat} {P : SlP} {σ : SnS} (hP : P.Ok) (h : Pw w0 w K bm bp bc cs fr n xs bv th md bs (snC P σ) 88) (hd0 : 0 ≤ md) (hd1 : md ≤ 1152921504606846975) (hn : n < 68719476735) (hc : CsOk cs) (h0 : 0 ≤ σ.i) (h1 : σ.i < P.cnt) :
    Calls Tryz.prog 76 #[.pointer (some ⟨bs, 0, none⟩), .pointer (some ⟨bv, 0, none⟩)] w fun e w' => e = .returned (.int .i64 (skR P σ cs).1) ∧ Pw w0 w' K bm bp bc cs fr (n + 1) (xs ++ acc th 1 (P.first + σ.i) 0 0 (.slice none 0 0) (pk cs (P.first + σ.i)) false) bv th (md + 1) bs (snC P (skR P σ cs).2) 88 := by
  have q0 := hP.n0
  have q1 := hP.n1
  have q2 := hP.f0
  have c0 : w.cell? ⟨bs, 0, none⟩ = some (.int .u64 P.cam) := (h.cell 0).trans rfl
  have c1 : w.cell? ⟨bs, 1, none⟩ = some (.int .u64 P.first) := (h.cell 1).trans rfl
  have c2 : w.cell? ⟨bs, 2, none⟩ = some (.int .i64 P.cnt) := (h.cell 2).trans rfl
  have c3 : w.cell? ⟨bs, 3, none⟩ = some (.int .u64 P.most) := (h.cell 3).trans rfl
  have HC := Lib.hid (count_calls w P.cam P.first P.cnt P.most (by omega) q1)
  have g0 : ¬ P.cnt = 0 := by omega
  have g1 : (P.cnt == 0) = false := by simpa using g0
  have HH := Aside0.mk h
  have HS := Lib.hid (fun wx (hs : SB bs (snC P σ) 88 wx) => slot_calls hP h0 (by omega) wx bs hs)
  have HPP := Aside0.mk hP
  obtain ⟨u0, u1⟩ := hc (P.first + σ.i)
  clear h hP
  go_enter Tryz.func76, Tryz.ntmps76
  go_upto_region 4 with (go_at_call 34; refine HC.out.mono ?_; rintro e1 w1 ⟨rfl, hb1⟩; have H1 := Aside0.mk (HH.out.below hb1); clear hb1)
  have HS1 := Lib.hid (HS.out w1 H1.out.sb)
  have HL : Hid (∀ wx, Below w1.heap.size w1 wx → _) := Lib.hid (fun wx hb => (H1.out.below hb).load hd0 (by omega) (by omega) (P.first + σ.i) (by omega))
  clear c0 c1 c2 c3 HC HS HH g0 g1
  generalize hx : pk cs (P.first + σ.i) = x at HL u0 u1
  have HX := Aside0.mk hx
  clear hx
  go_upto_region 5 with (first
    | (go_at_call 85; refine HS1.out.mono ?_; rintro e2 w2 ⟨rfl, hb2⟩; have HB2 := Aside0.mk hb2; clear hb2)
    | (go_at_call 84; refine (HL.out _ HB2.out).mono ?_; rintro e3 w3 ⟨rfl, h3⟩; have H3 := Aside0.mk h3; have c6 : w3.cell? ⟨bs, 6, none⟩ = some (.int .u64 σ.pw) := (h3.cell 6).trans rfl; have f6 := h3.frozen 6; clear h3))
  have H5 : Aside0 (Pw w0 (w3.setCell ⟨bs, 6, none⟩ (.int .u64 x)) K bm bp bc cs fr (n + 1) (xs ++ acc th 1 (P.first + σ.i) 0 0 (.slice none 0 0) x false) bv th (md + 1) bs (snC P { σ with pw := x }) 88) := ⟨H3.out.put 6 _⟩
  clear c6 f6 HS1 HL HB2 H1 H3
  generalize w3.setCell ⟨bs, 6, none⟩ (.int .u64 x) = w5 at H5 ⊢
  have c6 : w5.cell? ⟨bs, 6, none⟩ = some (.int .u64 x) := (H5.out.cell 6).trans rfl
  have HU := Lib.hid (unpack_calls w5 x u0 u1)
  go_upto_region 6 with (go_at_call 35; refine HU.out.mono ?_; rintro e6 w6 ⟨rfl, hb6⟩; have H6 := Aside0.mk (H5.out.below hb6); clear hb6)
  have H7 := Aside0.mk (H6.out.alloc (.cells #[.int .u8 (x % 4), .int .u64 (x / 4 % 1048576), .int .u64 (x / 4194304)] 86))
  have B7 := Aside0.mk (heap_alloc_new w6 (.cells #[.int .u8 (x % 4), .int .u64 (x / 4 % 1048576), .int .u64 (x / 4194304)] 86))
  clear HU H5 H6 c6
  generalize hkd : x % 4 = kd at H7 B7 ⊢
  generalize hgg : x / 4 % 1048576 = gg at H7 B7 ⊢
  generalize w6.alloc (.cells #[.int .u8 kd, .int .u64 gg, .int .u64 (x / 4194304)] 86) = w7 at H7 B7 ⊢
  generalize w6.heap.size = b at B7 ⊢
  have d0 : w7.cell? ⟨b, 0, none⟩ = some (.int .u8 kd) := (blk_cell B7.out 0).trans rfl
  have d1 : w7.cell? ⟨b, 1, none⟩ = some (.int .u64 gg) := (blk_cell B7.out 1).trans rfl
  have HKD := Aside0.mk hkd
  have HGG := Aside0.mk hgg
  clear hkd hgg
  have HO := Lib.hid (on_calls HPP.out H7.out h0 (by show σ.i ≤ 256; omega))
  by_cases hk : kd = 0
  · by_cases hg : gg < 1048575
    · have E1 : Aside0 (skR P σ cs = (1, { σ with pw := x, gen := gg })) := ⟨by unfold skR; rw [HX.out, HKD.out, HGG.out, if_pos ⟨hk, hg⟩]⟩
      subst hk
      have c7 : w7.cell? ⟨bs, 7, none⟩ = some (.int .u64 σ.gen) := (H7.out.cell 7).trans rfl
      have f7 := H7.out.frozen 7
      have H8 : Aside0 (Pw w0 (w7.setCell ⟨bs, 7, none⟩ (.int .u64 gg)) K bm bp bc cs fr (n + 1) (xs ++ acc th 1 (P.first + σ.i) 0 0 (.slice none 0 0) x false) bv th (md + 1) bs (snC P { σ with pw := x, gen := gg }) 88) := ⟨H7.out.put 7 _⟩
      go_wp2
      go_ret
      exact ⟨by rw [E1.out]; rfl, by rw [E1.out, HX.out]; exact H8.out⟩
    · have E1 : Aside0 (skR P σ cs = onR P { σ with pw := x }) := ⟨by unfold skR; rw [HX.out, HKD.out, HGG.out, if_neg (fun h => hg h.2)]⟩
      subst hk
      have hg2 : (1048575 : Int) ≤ gg := by omega
      clear hg
      go_wp2_with (go_at_call 86; refine HO.out.mono ?_; rintro e9 w9 ⟨rfl, h9⟩; have H9 := Aside0.mk h9; clear h9)
      go_ret
      exact ⟨by rw [E1.out]; rfl, by rw [E1.out, HX.out]; exact H9.out⟩
  · have E1 : Aside0 (skR P σ cs = onR P { σ with pw := x }) := ⟨by unfold skR; rw [HX.out, HKD.out, HGG.out, if_neg (fun h => hk h.1)]⟩
    have hk2 : (kd != 0) = true := by simpa using hk
    clear hk
    go_wp2_with (go_at_call 86; refine HO.out.mono ?_; rintro e9 w9 ⟨rfl, h9⟩; have H9 := Aside0.mk h9; clear h9)
    go_ret
    exact ⟨by rw [E1.out]; rfl, by rw [E1.out, HX.out]; exact H9.out⟩
end Go.Proofs.YtcbndfmbpojppaaGreat

/- announce.Snapshot: its later stages. -/
namespace Go.Proofs.YtcbndfmbpojppaaGreat
open Go.RowKit Go.Proofs.YtcbndfmbpojppaaGreatW.PrintWords Go.Proofs.YtcbndfmbpojppaaGreat.Math
set_option linter.unusedVariables false
set_option linter.unusedSimpArgs false

/-- What claim comes to. -/
def clR (P : SlP) (σ : SnS) (cs : List Int) : Int × SnS := if casB cs (P.first + σ.i) σ.pw = true then (2, σ) else onR P σ
set_option maxHeartbeats 4000000 in
set_option maxRecDepth 100000 in
theorem claim_calls {w0 w : World} {K : Nat → Prop} {bm bp bc : Nat} {cs : List Int} {fr n : Nat} {xs : List Value} {bv : Nat} {th md : Int} {bs : Nat} {P : SlP} {σ : SnS} (hP : P.Ok) (h : Pw w0 w K bm bp bc cs fr n xs bv th md bs (snC P σ) 88) (hd0 : 0 ≤ md) (hd1 : md ≤ 1152921504606846975) (hn : n < 68719476735) (h0 : 0 ≤ σ.i) (h1 : σ.i < P.cnt) (g0 : 0 ≤ σ.gen) (g1 : σ.gen < 1048576) :
    Calls Tryz.prog 77 #[.pointer (some ⟨bs, 0, none⟩), .pointer (some ⟨bv, 0, none⟩)] w fun e w' => e = .returned (.int .i64 (clR P σ cs).1) ∧ Pw w0 w' K bm bp bc (casC cs (P.first + σ.i) σ.pw (wd 1 σ.gen 0)) fr (n + 1) (xs ++ acc th 3 (P.first + σ.i) σ.pw (wd 1 σ.gen 0) (.slice none 0 0) 0 (casB cs (P.first + σ.i) σ.pw)) bv th (md + 1) bs (snC P (clR P σ cs).2) 88 := by
  obtain ⟨w1, rfl⟩ : ∃ wx : World, wx = w := ⟨w, rfl⟩
  have q0 := hP.n0
  have q1 := hP.n1
  have q2 := hP.f0
  have q3 := hP.f1
  have q4 := hP.c0
  have q5 := hP.c1
  have q6 := hP.m0
  have q7 := hP.m1
  have HPP := Aside0.mk hP
  have H1 := Aside0.mk h
  have HS := Lib.hid (fun wx (hs : SB bs (snC P σ) 88 wx) => slot_calls HPP.out h0 (by omega) wx bs hs)
  have HK := Lib.hid (fun wx => pack_calls wx 1 σ.gen 0 (by omega) (by omega) g0 g1 (by omega) (by omega))
  have HQ : Hid (∀ wx, Below w1.heap.size w1 wx → _) := Lib.hid (fun wx hb => (h.below hb).cas hd0 (by omega) (by omega) (P.first + σ.i) σ.pw (wd 1 σ.gen 0) (by omega))
  have z6 : ∀ wx, SB bs (snC P σ) 88 wx → wx.cell? ⟨bs, 6, none⟩ = some (.int .u64 σ.pw) := fun wx h => h.cell 6 rfl
  have z7 : ∀ wx, SB bs (snC P σ) 88 wx → wx.cell? ⟨bs, 7, none⟩ = some (.int .u64 σ.gen) := fun wx h => h.cell 7 rfl
  clear h hP
  go_enter Tryz.func77, Tryz.ntmps77
  go_wp2_with fail
  generalize hx : casB cs (P.first + σ.i) σ.pw = ok at HQ
  have HX := Aside0.mk hx
  clear hx
  have hr : Below w1.heap.size w1 w1 := Below.refl _ _
  have hr2 : Below w1.heap.size w1 w1.drew := hr.drew
  have hs : SB bs (snC P σ) 88 w1 := H1.out.sb
  have hs2 : SB bs (snC P σ) 88 w1.drew := H1.out.sb
  go_region_held3 (fun w' => SB bs (snC P σ) 88 w') (assumption) (first
    | (go_at_call 85; with_reducible refine (HS.out _ (by assumption)).mono ?_; rintro e w' ⟨rfl, hb⟩; have hs_ : Below w1.heap.size w1 w' := below_step (by assumption) hb; have hs3 : SB bs (snC P σ) 88 w' := SB.below (by assumption) hb; clear hb)
    | (go_at_call 88; with_reducible refine (HK.out _).mono ?_; rintro e w' ⟨rfl, hb⟩; have hs_ : Below w1.heap.size w1 w' := below_step (by assumption) hb; have hs3 : SB bs (snC P σ) 88 w' := SB.below (by assumption) hb; clear hb)
    | (go_at_call 87; with_reducible refine (HQ.out _ (by assumption)).mono ?_; rintro e w' ⟨rfl, h9⟩; have hs3 := h9.sb; have H9 := Aside0.mk h9; clear h9)
  )
  clear z6 z7 hs hs2 hr hr2 HS HK HQ
  have HO := Lib.hid (on_calls HPP.out H9.out h0 (by omega))
  cases ok with
  | true =>
    have E1 : Aside0 (clR P σ cs = (2, σ)) := ⟨by unfold clR; rw [if_pos HX.out]⟩
    go_wp2
    go_ret
    exact ⟨by rw [E1.out]; rfl, by rw [E1.out, HX.out]; exact H9.out⟩
  | false =>
    have E1 : Aside0 (clR P σ cs = onR P σ) := ⟨by unfold clR; rw [if_neg (by rw [HX.out]; decide)]⟩
    go_wp2_with (go_at_call 86; refine HO.out.mono ?_; rintro e10 w10 ⟨rfl, h10⟩; have H10 := Aside0.mk h10; clear h10)
    go_ret
    exact ⟨by rw [E1.out]; rfl, by rw [E1.out, HX.out]; exact H10.out⟩
set_option maxHeartbeats 4000000 in
set_option maxRecDepth 100000 in
theorem look_calls {w0 w : World} {K : Nat → Prop} {bm bp bc : Nat} {cs : List Int} {fr n : Nat} {xs : List Value} {bv : Nat} {th md : Int} {bs : Nat} {P : SlP} {σ : SnS} (hP : P.Ok) (h : Pw w0 w K bm bp bc cs fr n xs bv th md bs (snC P σ) 88) (hd0 : 0 ≤ md) (hd1 : md ≤ 1152921504606846975) (hn : n < 68719476735)  :
    Calls Tryz.prog 78 #[.pointer (some ⟨bs, 0, none⟩), .pointer (some ⟨bv, 0, none⟩)] w fun e w' => e = .returned (.int .i64 3) ∧ Pw w0 w' K bm bp bc cs fr (n + 1) (xs ++ acc th 1 P.cam 0 0 (.slice none 0 0) (pk cs P.cam) false) bv th (md + 1) bs (snC P { σ with st := pk cs P.cam }) 88 := by
  have q0 := hP.n0
  have q1 := hP.n1
  have q2 := hP.f0
  have q3 := hP.f1
  have q4 := hP.c0
  have q5 := hP.c1
  have q6 := hP.m0
  have q7 := hP.m1
  have HPP := Aside0.mk hP
  have H1 := Aside0.mk h
  have c0 : w.cell? ⟨bs, 0, none⟩ = some (.int .u64 P.cam) := (h.cell 0).trans rfl
  have HL := Lib.hid (h.load hd0 (by omega) (by omega) P.cam q4)
  clear h hP
  go_enter Tryz.func78, Tryz.ntmps78
  go_wp2_with (go_at_call 84; refine HL.out.mono ?_; rintro e3 w3 ⟨rfl, h3⟩; have H3 := Aside0.mk h3; have c8 : w3.cell? ⟨bs, 8, none⟩ = some (.int .u64 σ.st) := (h3.cell 8).trans rfl; have f8 := h3.frozen 8; clear h3)
  go_ret
  exact ⟨rfl, H3.out.put 8 _⟩
/-- What clock comes to. -/
def ckR (P : SlP) (cs : List Int) : Int := if pk cs P.cam < P.most then 5 else 7
set_option maxHeartbeats 4000000 in
set_option maxRecDepth 100000 in
theorem clock_calls {w0 w : World} {K : Nat → Prop} {bm bp bc : Nat} {cs : List Int} {fr n : Nat} {xs : List Value} {bv : Nat} {th md : Int} {bs : Nat} {P : SlP} {σ : SnS} (hP : P.Ok) (h : Pw w0 w K bm bp bc cs fr n xs bv th md bs (snC P σ) 88) (hd0 : 0 ≤ md) (hd1 : md ≤ 1152921504606846975) (hn : n < 68719476735)  :
    Calls Tryz.prog 80 #[.pointer (some ⟨bs, 0, none⟩), .pointer (some ⟨bv, 0, none⟩)] w fun e w' => e = .returned (.int .i64 (ckR P cs)) ∧ Pw w0 w' K bm bp bc cs fr (n + 1) (xs ++ acc th 1 P.cam 0 0 (.slice none 0 0) (pk cs P.cam) false) bv th (md + 1) bs (snC P { σ with st := pk cs P.cam }) 88 := by
  have q0 := hP.n0
  have q1 := hP.n1
  have q2 := hP.f0
  have q3 := hP.f1
  have q4 := hP.c0
  have q5 := hP.c1
  have q6 := hP.m0
  have q7 := hP.m1
  have HPP := Aside0.mk hP
  have H1 := Aside0.mk h
  have c0 : w.cell? ⟨bs, 0, none⟩ = some (.int .u64 P.cam) := (h.cell 0).trans rfl
  have HL := Lib.hid (h.load hd0 (by omega) (by omega) P.cam q4)
  clear h hP
  generalize hx : pk cs P.cam = x at HL
  have HX := Aside0.mk hx
  clear hx
  go_enter Tryz.func80, Tryz.ntmps80
  go_upto_region 2 with (go_at_call 84; refine HL.out.mono ?_; rintro e3 w3 ⟨rfl, h3⟩; have H3 := Aside0.mk h3; have c8 : w3.cell? ⟨bs, 8, none⟩ = some (.int .u64 σ.st) := (h3.cell 8).trans rfl; have f8 := h3.frozen 8; clear h3)
  have H5 : Aside0 (Pw w0 (w3.setCell ⟨bs, 8, none⟩ (.int .u64 x)) K bm bp bc cs fr (n + 1) (xs ++ acc th 1 P.cam 0 0 (.slice none 0 0) x false) bv th (md + 1) bs (snC P { σ with st := x }) 88) := ⟨H3.out.put 8 _⟩
  clear c0 c8 f8 HL H1 H3
  generalize w3.setCell ⟨bs, 8, none⟩ (.int .u64 x) = w5 at H5 ⊢
  have c8 : w5.cell? ⟨bs, 8, none⟩ = some (.int .u64 x) := (H5.out.cell 8).trans rfl
  have c3 : w5.cell? ⟨bs, 3, none⟩ = some (.int .u64 P.most) := (H5.out.cell 3).trans rfl
  by_cases hlt : x < P.most
  · have E1 : Aside0 (ckR P cs = 5) := ⟨by unfold ckR; rw [HX.out, if_pos hlt]⟩
    go_quiet (fail)
    go_wp2
    go_ret
    exact ⟨by rw [E1.out]; rfl, H5.out.drewN nq⟩
  · have E1 : Aside0 (ckR P cs = 7) := ⟨by unfold ckR; rw [HX.out, if_neg hlt]⟩
    have hge : P.most ≤ x := by omega
    clear hlt
    go_quiet (fail)
    go_wp2
    go_ret
    exact ⟨by rw [E1.out]; rfl, H5.out.drewN nq⟩
set_option maxHeartbeats 4000000 in
set_option maxRecDepth 100000 in
theorem tell_calls {w0 w : World} {K : Nat → Prop} {bm bp bc : Nat} {cs : List Int} {fr n : Nat} {xs : List Value} {bv : Nat} {th md : Int} {bs : Nat} {P : SlP} {σ : SnS} (hP : P.Ok) (h : Pw w0 w K bm bp bc cs fr n xs bv th md bs (snC P σ) 88) (hd0 : 0 ≤ md) (hd1 : md ≤ 1152921504606846975) (hn : n < 68719476735) (h0 : 0 ≤ σ.i) (h1 : σ.i < P.cnt) (g0 : 0 ≤ σ.gen) (g1 : σ.gen < 1048576) (s0 : 0 ≤ σ.st) (s1 : σ.st ≤ 1099511627776) :
    Calls Tryz.prog 79 #[.pointer (some ⟨bs, 0, none⟩), .pointer (some ⟨bv, 0, none⟩)] w fun e w' => e = .returned (.int .i64 4) ∧ Pw w0 w' K bm bp bc (stC cs (P.first + σ.i) (wd 2 σ.gen σ.st)) fr (n + 1) (xs ++ acc th 2 (P.first + σ.i) (wd 2 σ.gen σ.st) 0 (.slice none 0 0) 0 false) bv th (md + 1) bs (snC P σ) 88 := by
  obtain ⟨w1, rfl⟩ : ∃ wx : World, wx = w := ⟨w, rfl⟩
  have q0 := hP.n0
  have q1 := hP.n1
  have q2 := hP.f0
  have q3 := hP.f1
  have q4 := hP.c0
  have q5 := hP.c1
  have q6 := hP.m0
  have q7 := hP.m1
  have HPP := Aside0.mk hP
  have H1 := Aside0.mk h
  have HS := Lib.hid (fun wx (hs : SB bs (snC P σ) 88 wx) => slot_calls HPP.out h0 (by omega) wx bs hs)
  have HK := Lib.hid (fun wx => pack_calls wx 2 σ.gen σ.st (by omega) (by omega) g0 g1 s0 s1)
  have HQ : Hid (∀ wx, Below w1.heap.size w1 wx → _) := Lib.hid (fun wx hb => (h.below hb).store hd0 (by omega) (by omega) (P.first + σ.i) (wd 2 σ.gen σ.st) (by omega))
  have z7 : ∀ wx, SB bs (snC P σ) 88 wx → wx.cell? ⟨bs, 7, none⟩ = some (.int .u64 σ.gen) := fun wx h => h.cell 7 rfl
  have z8 : ∀ wx, SB bs (snC P σ) 88 wx → wx.cell? ⟨bs, 8, none⟩ = some (.int .u64 σ.st) := fun wx h => h.cell 8 rfl
  clear h hP
  go_enter Tryz.func79, Tryz.ntmps79
  go_wp2_with fail
  have hr : Below w1.heap.size w1 w1 := Below.refl _ _
  have hr2 : Below w1.heap.size w1 w1.drew := hr.drew
  have hs : SB bs (snC P σ) 88 w1 := H1.out.sb
  have hs2 : SB bs (snC P σ) 88 w1.drew := H1.out.sb
  go_region_held3 (fun w' => SB bs (snC P σ) 88 w') (assumption) (first
    | (go_at_call 85; with_reducible refine (HS.out _ (by assumption)).mono ?_; rintro e w' ⟨rfl, hb⟩; have hs_ : Below w1.heap.size w1 w' := below_step (by assumption) hb; have hs3 : SB bs (snC P σ) 88 w' := SB.below (by assumption) hb; clear hb)
    | (go_at_call 88; with_reducible refine (HK.out _).mono ?_; rintro e w' ⟨rfl, hb⟩; have hs_ : Below w1.heap.size w1 w' := below_step (by assumption) hb; have hs3 : SB bs (snC P σ) 88 w' := SB.below (by assumption) hb; clear hb)
    | (go_at_call 89; with_reducible refine (HQ.out _ (by assumption)).mono ?_; rintro e w' ⟨rfl, h9⟩; have hs3 := h9.sb; have H9 := Aside0.mk h9; clear h9)
  )
  clear z7 z8 hs hs2 hr hr2 HS HK HQ
  go_wp2
  go_ret
  exact ⟨rfl, H9.out⟩
set_option maxHeartbeats 4000000 in
set_option maxRecDepth 100000 in
theorem turn_calls {w0 w : World} {K : Nat → Prop} {bm bp bc : Nat} {cs : List Int} {fr n : Nat} {xs : List Value} {bv : Nat} {th md : Int} {bs : Nat} {P : SlP} {σ : SnS} (hP : P.Ok) (h : Pw w0 w K bm bp bc cs fr n xs bv th md bs (snC P σ) 88) (hd0 : 0 ≤ md) (hd1 : md ≤ 1152921504606846975) (hn : n < 68719476735) (s0 : 0 ≤ σ.st) (s1 : σ.st ≤ 1099511627776) :
    Calls Tryz.prog 81 #[.pointer (some ⟨bs, 0, none⟩), .pointer (some ⟨bv, 0, none⟩)] w fun e w' => e = .returned (.int .i64 6) ∧ Pw w0 w' K bm bp bc (casC cs P.cam σ.st (σ.st + 1)) fr (n + 1) (xs ++ acc th 3 P.cam σ.st (σ.st + 1) (.slice none 0 0) 0 (casB cs P.cam σ.st)) bv th (md + 1) bs (snC P σ) 88 := by
  obtain ⟨w1, rfl⟩ : ∃ wx : World, wx = w := ⟨w, rfl⟩
  have q0 := hP.n0
  have q1 := hP.n1
  have q2 := hP.f0
  have q3 := hP.f1
  have q4 := hP.c0
  have q5 := hP.c1
  have q6 := hP.m0
  have q7 := hP.m1
  have HPP := Aside0.mk hP
  have H1 := Aside0.mk h
  have HQ : Hid (∀ wx, Below w1.heap.size w1 wx → _) := Lib.hid (fun wx hb => (h.below hb).cas hd0 (by omega) (by omega) P.cam σ.st (σ.st + 1) q4)
  have hw : IntKind.u64.wrap (σ.st + 1) = σ.st + 1 := u64_of (by omega) (by omega)
  have z0 : ∀ wx, SB bs (snC P σ) 88 wx → wx.cell? ⟨bs, 0, none⟩ = some (.int .u64 P.cam) := fun wx h => h.cell 0 rfl
  have z8 : ∀ wx, SB bs (snC P σ) 88 wx → wx.cell? ⟨bs, 8, none⟩ = some (.int .u64 σ.st) := fun wx h => h.cell 8 rfl
  clear h hP
  go_enter Tryz.func81, Tryz.ntmps81
  go_wp2_with fail
  have hr : Below w1.heap.size w1 w1 := Below.refl _ _
  have hr2 : Below w1.heap.size w1 w1.drew := hr.drew
  have hs : SB bs (snC P σ) 88 w1 := H1.out.sb
  have hs2 : SB bs (snC P σ) 88 w1.drew := H1.out.sb
  go_region_held3 (fun w' => SB bs (snC P σ) 88 w') (assumption) (first
    | (go_at_call 87; with_reducible refine (HQ.out _ (by assumption)).mono ?_; rintro e w' ⟨rfl, h9⟩; have hs3 := h9.sb; have H9 := Aside0.mk h9; clear h9)
  )
  clear z0 z8 hs hs2 hr hr2 HQ
  go_wp2
  go_ret
  exact ⟨rfl, H9.out⟩
set_option maxHeartbeats 4000000 in
set_option maxRecDepth 100000 in
theorem hold_calls {w0 w : World} {K : Nat → Prop} {bm bp bc : Nat} {cs : List Int} {fr n : Nat} {xs : List Value} {bv : Nat} {th md : Int} {bs : Nat} {P : SlP} {σ : SnS} (hP : P.Ok) (h : Pw w0 w K bm bp bc cs fr n xs bv th md bs (snC P σ) 88) (hd0 : 0 ≤ md) (hd1 : md ≤ 1152921504606846975) (hn : n < 68719476735) (h0 : 0 ≤ σ.i) (h1 : σ.i < P.cnt) (g0 : 0 ≤ σ.gen) (g1 : σ.gen < 1048576) (s0 : 0 ≤ σ.st) (s1 : σ.st ≤ 1099511627776) :
    Calls Tryz.prog 82 #[.pointer (some ⟨bs, 0, none⟩), .pointer (some ⟨bv, 0, none⟩)] w fun e w' => e = .returned (.int .i64 8) ∧ Pw w0 w' K bm bp bc (stC cs (P.first + σ.i) (wd 3 σ.gen σ.st)) fr (n + 1) (xs ++ acc th 2 (P.first + σ.i) (wd 3 σ.gen σ.st) 0 (.slice none 0 0) 0 false) bv th (md + 1) bs (snC P { σ with k := 3, g := σ.gen, s := σ.st }) 88 := by
  have q0 := hP.n0
  have q1 := hP.n1
  have q2 := hP.f0
  have q3 := hP.f1
  have q4 := hP.c0
  have q5 := hP.c1
  have q6 := hP.m0
  have q7 := hP.m1
  have HPP := Aside0.mk hP
  have H1 := Aside0.mk h
  have c7 : w.cell? ⟨bs, 7, none⟩ = some (.int .u64 σ.gen) := (h.cell 7).trans rfl
  have c8 : w.cell? ⟨bs, 8, none⟩ = some (.int .u64 σ.st) := (h.cell 8).trans rfl
  have c9 : w.cell? ⟨bs, 9, none⟩ = some (.int .u8 σ.k) := (h.cell 9).trans rfl
  have c10 : w.cell? ⟨bs, 10, none⟩ = some (.int .u64 σ.g) := (h.cell 10).trans rfl
  have c11 : w.cell? ⟨bs, 11, none⟩ = some (.int .u64 σ.s) := (h.cell 11).trans rfl
  have f9 := h.frozen 9
  have f10 := h.frozen 10
  have f11 := h.frozen 11
  clear h hP
  go_enter Tryz.func82, Tryz.ntmps82
  go_wp2_with fail
  have H2 : Aside0 (Pw w0 ((((w.setCell ⟨bs, 9, none⟩ (.int .u8 3)).setCell ⟨bs, 10, none⟩ (.int .u64 σ.gen)).setCell ⟨bs, 11, none⟩ (.int .u64 σ.st)).drew) K bm bp bc cs fr n xs bv th md bs (snC P { σ with k := 3, g := σ.gen, s := σ.st }) 88) := ⟨(((H1.out.put 9 _).put 10 _).put 11 _).drew⟩
  go_region
  clear c7 c8 c9 c10 c11 f9 f10 f11 H1
  generalize ((((w.setCell ⟨bs, 9, none⟩ (.int .u8 3)).setCell ⟨bs, 10, none⟩ (.int .u64 σ.gen)).setCell ⟨bs, 11, none⟩ (.int .u64 σ.st)).drew) = w1 at H2 ⊢
  have H1 := H2
  have HS := Lib.hid (fun wx (hs : SB bs (snC P { σ with k := 3, g := σ.gen, s := σ.st }) 88 wx) => slot_calls (σ := { σ with k := 3, g := σ.gen, s := σ.st }) HPP.out h0 (by show σ.i ≤ 256; omega) wx bs hs)
  have HK := Lib.hid (fun wx => pack_calls wx 3 σ.gen σ.st (by omega) (by omega) g0 g1 s0 s1)
  have HQ : Hid (∀ wx, Below w1.heap.size w1 wx → _) := Lib.hid (fun wx hb => (H1.out.below hb).store hd0 (by omega) (by omega) (P.first + σ.i) (wd 3 σ.gen σ.st) (by omega))
  have z9 : ∀ wx, SB bs (snC P { σ with k := 3, g := σ.gen, s := σ.st }) 88 wx → wx.cell? ⟨bs, 9, none⟩ = some (.int .u8 3) := fun wx h => h.cell 9 rfl
  have z10 : ∀ wx, SB bs (snC P { σ with k := 3, g := σ.gen, s := σ.st }) 88 wx → wx.cell? ⟨bs, 10, none⟩ = some (.int .u64 σ.gen) := fun wx h => h.cell 10 rfl
  have z11 : ∀ wx, SB bs (snC P { σ with k := 3, g := σ.gen, s := σ.st }) 88 wx → wx.cell? ⟨bs, 11, none⟩ = some (.int .u64 σ.st) := fun wx h => h.cell 11 rfl
  go_wp2_with fail
  have hr : Below w1.heap.size w1 w1 := Below.refl _ _
  have hr2 : Below w1.heap.size w1 w1.drew := hr.drew
  have hs : SB bs (snC P { σ with k := 3, g := σ.gen, s := σ.st }) 88 w1 := H1.out.sb
  have hs2 : SB bs (snC P { σ with k := 3, g := σ.gen, s := σ.st }) 88 w1.drew := H1.out.sb
  go_region_held3 (fun w' => SB bs (snC P { σ with k := 3, g := σ.gen, s := σ.st }) 88 w') (assumption) (first
    | (go_at_call 85; with_reducible refine (HS.out _ (by assumption)).mono ?_; rintro e w' ⟨rfl, hb⟩; have hs_ : Below w1.heap.size w1 w' := below_step (by assumption) hb; have hs3 : SB bs (snC P { σ with k := 3, g := σ.gen, s := σ.st }) 88 w' := SB.below (by assumption) hb; clear hb)
    | (go_at_call 88; with_reducible refine (HK.out _).mono ?_; rintro e w' ⟨rfl, hb⟩; have hs_ : Below w1.heap.size w1 w' := below_step (by assumption) hb; have hs3 : SB bs (snC P { σ with k := 3, g := σ.gen, s := σ.st }) 88 w' := SB.below (by assumption) hb; clear hb)
    | (go_at_call 89; with_reducible refine (HQ.out _ (by assumption)).mono ?_; rintro e w' ⟨rfl, h9⟩; have hs3 := h9.sb; have H9 := Aside0.mk h9; clear h9)
  )
  clear z9 z10 z11 hs hs2 hr hr2 HS HK HQ
  go_wp2
  go_ret
  exact ⟨rfl, H9.out⟩
end Go.Proofs.YtcbndfmbpojppaaGreat

/- announce.Snapshot: Step, NewSnapshot, and what it tells. -/
namespace Go.Proofs.YtcbndfmbpojppaaGreat
open Go.RowKit Go.Proofs.YtcbndfmbpojppaaGreatW.PrintWords Go.Proofs.YtcbndfmbpojppaaGreat.Math
set_option linter.unusedVariables false
set_option linter.unusedSimpArgs false

set_option maxRecDepth 100000 in
theorem steps_calls (w : World) : Calls Tryz.prog 75 #[] w fun e w' => e = .returned (.agg #[.func (.func 76) #[] #[], .func (.func 77) #[] #[], .func (.func 78) #[] #[], .func (.func 79) #[] #[], .func (.func 80) #[] #[], .func (.func 81) #[] #[], .func (.func 82) #[] #[], .func (.func 83) #[] #[]]) ∧ Below w.heap.size w w' := by
  have HB := Aside0.mk ((Below.refl w.heap.size w).alloc (Nat.le_refl _) (.cells #[.func (.func 76) #[] #[], .func (.func 77) #[] #[], .func (.func 78) #[] #[], .func (.func 79) #[] #[], .func (.func 80) #[] #[], .func (.func 81) #[] #[], .func (.func 82) #[] #[], .func (.func 83) #[] #[]] 153))
  go_enter Tryz.func75, Tryz.ntmps75
  have HG := Aside0.mk (heap_alloc_new w (.cells #[.func (.func 76) #[] #[], .func (.func 77) #[] #[], .func (.func 78) #[] #[], .func (.func 79) #[] #[], .func (.func 80) #[] #[], .func (.func 81) #[] #[], .func (.func 82) #[] #[], .func (.func 83) #[] #[]] 153))
  go_wp2
  exact bodyPost_ret (results_cell_row rfl _ _ w.heap.size 153 #[.func (.func 76) #[] #[], .func (.func 77) #[] #[], .func (.func 78) #[] #[], .func (.func 79) #[] #[], .func (.func 80) #[] #[], .func (.func 81) #[] #[], .func (.func 82) #[] #[], .func (.func 83) #[] #[]] (0, 0) _ rfl HG.out Tryz.underlying153 rfl (by kernel_rfl)) rfl ⟨rfl, HB.out⟩
set_option maxHeartbeats 4000000 in
set_option maxRecDepth 100000 in
theorem step_seek {w0 w : World} {K : Nat → Prop} {bm bp bc : Nat} {cs : List Int} {fr n : Nat} {xs : List Value} {bv : Nat} {th md : Int} {bs : Nat} {P : SlP} {σ : SnS} (hP : P.Ok) (h : Pw w0 w K bm bp bc cs fr n xs bv th md bs (snC P σ) 88) (hd0 : 0 ≤ md) (hd1 : md ≤ 1152921504606846975) (hn : n < 68719476735) (hc : CsOk cs) (h0 : 0 ≤ σ.i) (h1 : σ.i < P.cnt) (hat : σ.at_ = 0) :
    Calls Tryz.prog 74 #[.pointer (some ⟨bs, 0, none⟩), .pointer (some ⟨bv, 0, none⟩)] w fun e w' => e = .returned (.bool (decide ((skR P σ cs).1 = 8))) ∧ Pw w0 w' K bm bp bc cs fr (n + 1) (xs ++ acc th 1 (P.first + σ.i) 0 0 (.slice none 0 0) (pk cs (P.first + σ.i)) false) bv th (md + 1) bs (snC P { ((skR P σ cs).2 : SnS) with at_ := (skR P σ cs).1 }) 88 := by
  obtain ⟨w1, rfl⟩ : ∃ wx : World, wx = w := ⟨w, rfl⟩
  have HPP := Aside0.mk hP
  have H1 := Aside0.mk h
  have HT := Lib.hid steps_calls
  have HQ : Hid (∀ wx, Below w1.heap.size w1 wx → _) := Lib.hid (fun wx hb => seek_calls HPP.out (h.below hb) hd0 hd1 hn hc h0 h1)
  have EAT : Aside0 ((skR P σ cs).2.at_ = 0) := ⟨by rw [← hat]; unfold skR onR; (repeat' split) <;> rfl⟩
  generalize (skR P σ cs).2 = σ2 at HQ EAT ⊢
  generalize (skR P σ cs).1 = r at HQ ⊢
  generalize acc th 1 (P.first + σ.i) 0 0 (.slice none 0 0) (pk cs (P.first + σ.i)) false = tr at HQ ⊢
  have c4 : w1.cell? ⟨bs, 4, none⟩ = some (.int .i64 0) := (h.cell 4).trans (by show some (Value.int .i64 σ.at_) = _; rw [hat])
  have HAT := Aside0.mk hat
  have hidx : ∀ wx : World, (Instr.index 153 (.agg #[.func (.func 76) #[] #[], .func (.func 77) #[] #[], .func (.func 78) #[] #[], .func (.func 79) #[] #[], .func (.func 80) #[] #[], .func (.func 81) #[] #[], .func (.func 82) #[] #[], .func (.func 83) #[] #[]]) (.int .i64 0)).run Tryz.prog wx = .ok (.func (.func 76) #[] #[]) wx := fun wx => by kernel_rfl
  have z4 : ∀ wx, SB bs (snC P σ) 88 wx → wx.cell? ⟨bs, 4, none⟩ = some (.int .i64 0) := fun wx h => (h.cell 4 (v := .int .i64 σ.at_) rfl).trans (by rw [hat])
  have z4c : ∀ wx, SB bs (snC P σ2) 88 wx → wx.cell? ⟨bs, 4, none⟩ = some (.int .i64 0) := fun wx h => (h.cell 4 (v := .int .i64 (σ2 : SnS).at_) rfl).trans (by first | rw [EAT.out] | (show some (Value.int .i64 σ.at_) = _; rw [hat]))
  clear h hP hat
  go_enter Tryz.func74, Tryz.ntmps74
  go_wp2_with fail
  have hr : Below w1.heap.size w1 w1 := Below.refl _ _
  have hr2 : Below w1.heap.size w1 w1.drew := hr.drew
  go_region_with (first
    | (go_at_call 75; with_reducible refine (HT.out _).mono ?_; rintro e2 w2 ⟨rfl, hb⟩; have hs2 : Below w1.heap.size w1 w2 := below_step (by assumption) hb; have c4b : w2.cell? ⟨bs, 4, none⟩ = some (.int .i64 0) := z4 w2 (SB.below H1.out.sb hs2); clear hb)
    | (go_at_call 76; with_reducible refine (HQ.out _ (by assumption)).mono ?_; rintro e3 w3 ⟨rfl, h9⟩; have c4c : w3.cell? ⟨bs, 4, none⟩ = some (.int .i64 0) := z4c w3 h9.sb; have f4c := h9.frozen 4; have H9 := Aside0.mk h9; clear h9))
  all_goals (
    have H10 := Aside0.mk (H9.out.put 4 (.int .i64 r))
    go_wp2
    go_ret
    exact ⟨rfl, H10.out⟩)
set_option maxHeartbeats 4000000 in
set_option maxRecDepth 100000 in
theorem step_claim {w0 w : World} {K : Nat → Prop} {bm bp bc : Nat} {cs : List Int} {fr n : Nat} {xs : List Value} {bv : Nat} {th md : Int} {bs : Nat} {P : SlP} {σ : SnS} (hP : P.Ok) (h : Pw w0 w K bm bp bc cs fr n xs bv th md bs (snC P σ) 88) (hd0 : 0 ≤ md) (hd1 : md ≤ 1152921504606846975) (hn : n < 68719476735) (h0 : 0 ≤ σ.i) (h1 : σ.i < P.cnt) (g0 : 0 ≤ σ.gen) (g1 : σ.gen < 1048576) (hat : σ.at_ = 1) :
    Calls Tryz.prog 74 #[.pointer (some ⟨bs, 0, none⟩), .pointer (some ⟨bv, 0, none⟩)] w fun e w' => e = .returned (.bool (decide ((clR P σ cs).1 = 8))) ∧ Pw w0 w' K bm bp bc (casC cs (P.first + σ.i) σ.pw (wd 1 σ.gen 0)) fr (n + 1) (xs ++ acc th 3 (P.first + σ.i) σ.pw (wd 1 σ.gen 0) (.slice none 0 0) 0 (casB cs (P.first + σ.i) σ.pw)) bv th (md + 1) bs (snC P { ((clR P σ cs).2 : SnS) with at_ := (clR P σ cs).1 }) 88 := by
  obtain ⟨w1, rfl⟩ : ∃ wx : World, wx = w := ⟨w, rfl⟩
  have HPP := Aside0.mk hP
  have H1 := Aside0.mk h
  have HT := Lib.hid steps_calls
  have HQ : Hid (∀ wx, Below w1.heap.size w1 wx → _) := Lib.hid (fun wx hb => claim_calls HPP.out (h.below hb) hd0 hd1 hn h0 h1 g0 g1)
  have EAT : Aside0 ((clR P σ cs).2.at_ = 1) := ⟨by rw [← hat]; unfold clR onR; (repeat' split) <;> rfl⟩
  generalize (clR P σ cs).2 = σ2 at HQ EAT ⊢
  generalize (clR P σ cs).1 = r at HQ ⊢
  generalize (casC cs (P.first + σ.i) σ.pw (wd 1 σ.gen 0)) = cs2 at HQ ⊢
  generalize acc th 3 (P.first + σ.i) σ.pw (wd 1 σ.gen 0) (.slice none 0 0) 0 (casB cs (P.first + σ.i) σ.pw) = tr at HQ ⊢
  have c4 : w1.cell? ⟨bs, 4, none⟩ = some (.int .i64 1) := (h.cell 4).trans (by show some (Value.int .i64 σ.at_) = _; rw [hat])
  have HAT := Aside0.mk hat
  have hidx : ∀ wx : World, (Instr.index 153 (.agg #[.func (.func 76) #[] #[], .func (.func 77) #[] #[], .func (.func 78) #[] #[], .func (.func 79) #[] #[], .func (.func 80) #[] #[], .func (.func 81) #[] #[], .func (.func 82) #[] #[], .func (.func 83) #[] #[]]) (.int .i64 1)).run Tryz.prog wx = .ok (.func (.func 77) #[] #[]) wx := fun wx => by kernel_rfl
  have z4 : ∀ wx, SB bs (snC P σ) 88 wx → wx.cell? ⟨bs, 4, none⟩ = some (.int .i64 1) := fun wx h => (h.cell 4 (v := .int .i64 σ.at_) rfl).trans (by rw [hat])
  have z4c : ∀ wx, SB bs (snC P σ2) 88 wx → wx.cell? ⟨bs, 4, none⟩ = some (.int .i64 1) := fun wx h => (h.cell 4 (v := .int .i64 (σ2 : SnS).at_) rfl).trans (by first | rw [EAT.out] | (show some (Value.int .i64 σ.at_) = _; rw [hat]))
  clear h hP hat
  go_enter Tryz.func74, Tryz.ntmps74
  go_wp2_with fail
  have hr : Below w1.heap.size w1 w1 := Below.refl _ _
  have hr2 : Below w1.heap.size w1 w1.drew := hr.drew
  go_region_with (first
    | (go_at_call 75; with_reducible refine (HT.out _).mono ?_; rintro e2 w2 ⟨rfl, hb⟩; have hs2 : Below w1.heap.size w1 w2 := below_step (by assumption) hb; have c4b : w2.cell? ⟨bs, 4, none⟩ = some (.int .i64 1) := z4 w2 (SB.below H1.out.sb hs2); clear hb)
    | (go_at_call 77; with_reducible refine (HQ.out _ (by assumption)).mono ?_; rintro e3 w3 ⟨rfl, h9⟩; have c4c : w3.cell? ⟨bs, 4, none⟩ = some (.int .i64 1) := z4c w3 h9.sb; have f4c := h9.frozen 4; have H9 := Aside0.mk h9; clear h9))
  all_goals (
    have H10 := Aside0.mk (H9.out.put 4 (.int .i64 r))
    go_wp2
    go_ret
    exact ⟨rfl, H10.out⟩)
set_option maxHeartbeats 4000000 in
set_option maxRecDepth 100000 in
theorem step_look {w0 w : World} {K : Nat → Prop} {bm bp bc : Nat} {cs : List Int} {fr n : Nat} {xs : List Value} {bv : Nat} {th md : Int} {bs : Nat} {P : SlP} {σ : SnS} (hP : P.Ok) (h : Pw w0 w K bm bp bc cs fr n xs bv th md bs (snC P σ) 88) (hd0 : 0 ≤ md) (hd1 : md ≤ 1152921504606846975) (hn : n < 68719476735)  (hat : σ.at_ = 2) :
    Calls Tryz.prog 74 #[.pointer (some ⟨bs, 0, none⟩), .pointer (some ⟨bv, 0, none⟩)] w fun e w' => e = .returned (.bool (decide (3 = 8))) ∧ Pw w0 w' K bm bp bc cs fr (n + 1) (xs ++ acc th 1 P.cam 0 0 (.slice none 0 0) (pk cs P.cam) false) bv th (md + 1) bs (snC P { ({ σ with st := pk cs P.cam } : SnS) with at_ := 3 }) 88 := by
  obtain ⟨w1, rfl⟩ : ∃ wx : World, wx = w := ⟨w, rfl⟩
  have HPP := Aside0.mk hP
  have H1 := Aside0.mk h
  have HT := Lib.hid steps_calls
  have HQ : Hid (∀ wx, Below w1.heap.size w1 wx → _) := Lib.hid (fun wx hb => look_calls HPP.out (h.below hb) hd0 hd1 hn)
  generalize acc th 1 P.cam 0 0 (.slice none 0 0) (pk cs P.cam) false = tr at HQ ⊢
  have c4 : w1.cell? ⟨bs, 4, none⟩ = some (.int .i64 2) := (h.cell 4).trans (by show some (Value.int .i64 σ.at_) = _; rw [hat])
  have HAT := Aside0.mk hat
  have hidx : ∀ wx : World, (Instr.index 153 (.agg #[.func (.func 76) #[] #[], .func (.func 77) #[] #[], .func (.func 78) #[] #[], .func (.func 79) #[] #[], .func (.func 80) #[] #[], .func (.func 81) #[] #[], .func (.func 82) #[] #[], .func (.func 83) #[] #[]]) (.int .i64 2)).run Tryz.prog wx = .ok (.func (.func 78) #[] #[]) wx := fun wx => by kernel_rfl
  have z4 : ∀ wx, SB bs (snC P σ) 88 wx → wx.cell? ⟨bs, 4, none⟩ = some (.int .i64 2) := fun wx h => (h.cell 4 (v := .int .i64 σ.at_) rfl).trans (by rw [hat])
  have z4c : ∀ wx, SB bs (snC P { σ with st := pk cs P.cam }) 88 wx → wx.cell? ⟨bs, 4, none⟩ = some (.int .i64 2) := fun wx h => (h.cell 4 (v := .int .i64 ({ σ with st := pk cs P.cam } : SnS).at_) rfl).trans (by first | rw [EAT.out] | (show some (Value.int .i64 σ.at_) = _; rw [hat]))
  clear h hP hat
  go_enter Tryz.func74, Tryz.ntmps74
  go_wp2_with fail
  have hr : Below w1.heap.size w1 w1 := Below.refl _ _
  have hr2 : Below w1.heap.size w1 w1.drew := hr.drew
  go_region_with (first
    | (go_at_call 75; with_reducible refine (HT.out _).mono ?_; rintro e2 w2 ⟨rfl, hb⟩; have hs2 : Below w1.heap.size w1 w2 := below_step (by assumption) hb; have c4b : w2.cell? ⟨bs, 4, none⟩ = some (.int .i64 2) := z4 w2 (SB.below H1.out.sb hs2); clear hb)
    | (go_at_call 78; with_reducible refine (HQ.out _ (by assumption)).mono ?_; rintro e3 w3 ⟨rfl, h9⟩; have c4c : w3.cell? ⟨bs, 4, none⟩ = some (.int .i64 2) := z4c w3 h9.sb; have f4c := h9.frozen 4; have H9 := Aside0.mk h9; clear h9))
  all_goals (
    have H10 := Aside0.mk (H9.out.put 4 (.int .i64 3))
    go_wp2
    go_ret
    exact ⟨rfl, H10.out⟩)
set_option maxHeartbeats 4000000 in
set_option maxRecDepth 100000 in
theorem step_tell {w0 w : World} {K : Nat → Prop} {bm bp bc : Nat} {cs : List Int} {fr n : Nat} {xs : List Value} {bv : Nat} {th md : Int} {bs : Nat} {P : SlP} {σ : SnS} (hP : P.Ok) (h : Pw w0 w K bm bp bc cs fr n xs bv th md bs (snC P σ) 88) (hd0 : 0 ≤ md) (hd1 : md ≤ 1152921504606846975) (hn : n < 68719476735) (h0 : 0 ≤ σ.i) (h1 : σ.i < P.cnt) (g0 : 0 ≤ σ.gen) (g1 : σ.gen < 1048576) (s0 : 0 ≤ σ.st) (s1 : σ.st ≤ 1099511627776) (hat : σ.at_ = 3) :
    Calls Tryz.prog 74 #[.pointer (some ⟨bs, 0, none⟩), .pointer (some ⟨bv, 0, none⟩)] w fun e w' => e = .returned (.bool (decide (4 = 8))) ∧ Pw w0 w' K bm bp bc (stC cs (P.first + σ.i) (wd 2 σ.gen σ.st)) fr (n + 1) (xs ++ acc th 2 (P.first + σ.i) (wd 2 σ.gen σ.st) 0 (.slice none 0 0) 0 false) bv th (md + 1) bs (snC P { (σ : SnS) with at_ := 4 }) 88 := by
  obtain ⟨w1, rfl⟩ : ∃ wx : World, wx = w := ⟨w, rfl⟩
  have HPP := Aside0.mk hP
  have H1 := Aside0.mk h
  have HT := Lib.hid steps_calls
  have HQ : Hid (∀ wx, Below w1.heap.size w1 wx → _) := Lib.hid (fun wx hb => tell_calls HPP.out (h.below hb) hd0 hd1 hn h0 h1 g0 g1 s0 s1)
  generalize (stC cs (P.first + σ.i) (wd 2 σ.gen σ.st)) = cs2 at HQ ⊢
  generalize acc th 2 (P.first + σ.i) (wd 2 σ.gen σ.st) 0 (.slice none 0 0) 0 false = tr at HQ ⊢
  have c4 : w1.cell? ⟨bs, 4, none⟩ = some (.int .i64 3) := (h.cell 4).trans (by show some (Value.int .i64 σ.at_) = _; rw [hat])
  have HAT := Aside0.mk hat
  have hidx : ∀ wx : World, (Instr.index 153 (.agg #[.func (.func 76) #[] #[], .func (.func 77) #[] #[], .func (.func 78) #[] #[], .func (.func 79) #[] #[], .func (.func 80) #[] #[], .func (.func 81) #[] #[], .func (.func 82) #[] #[], .func (.func 83) #[] #[]]) (.int .i64 3)).run Tryz.prog wx = .ok (.func (.func 79) #[] #[]) wx := fun wx => by kernel_rfl
  have z4 : ∀ wx, SB bs (snC P σ) 88 wx → wx.cell? ⟨bs, 4, none⟩ = some (.int .i64 3) := fun wx h => (h.cell 4 (v := .int .i64 σ.at_) rfl).trans (by rw [hat])
  have z4c : ∀ wx, SB bs (snC P σ) 88 wx → wx.cell? ⟨bs, 4, none⟩ = some (.int .i64 3) := fun wx h => (h.cell 4 (v := .int .i64 (σ : SnS).at_) rfl).trans (by first | rw [EAT.out] | (show some (Value.int .i64 σ.at_) = _; rw [hat]))
  clear h hP hat
  go_enter Tryz.func74, Tryz.ntmps74
  go_wp2_with fail
  have hr : Below w1.heap.size w1 w1 := Below.refl _ _
  have hr2 : Below w1.heap.size w1 w1.drew := hr.drew
  go_region_with (first
    | (go_at_call 75; with_reducible refine (HT.out _).mono ?_; rintro e2 w2 ⟨rfl, hb⟩; have hs2 : Below w1.heap.size w1 w2 := below_step (by assumption) hb; have c4b : w2.cell? ⟨bs, 4, none⟩ = some (.int .i64 3) := z4 w2 (SB.below H1.out.sb hs2); clear hb)
    | (go_at_call 79; with_reducible refine (HQ.out _ (by assumption)).mono ?_; rintro e3 w3 ⟨rfl, h9⟩; have c4c : w3.cell? ⟨bs, 4, none⟩ = some (.int .i64 3) := z4c w3 h9.sb; have f4c := h9.frozen 4; have H9 := Aside0.mk h9; clear h9))
  all_goals (
    have H10 := Aside0.mk (H9.out.put 4 (.int .i64 4))
    go_wp2
    go_ret
    exact ⟨rfl, H10.out⟩)
set_option maxHeartbeats 4000000 in
set_option maxRecDepth 100000 in
theorem step_clock {w0 w : World} {K : Nat → Prop} {bm bp bc : Nat} {cs : List Int} {fr n : Nat} {xs : List Value} {bv : Nat} {th md : Int} {bs : Nat} {P : SlP} {σ : SnS} (hP : P.Ok) (h : Pw w0 w K bm bp bc cs fr n xs bv th md bs (snC P σ) 88) (hd0 : 0 ≤ md) (hd1 : md ≤ 1152921504606846975) (hn : n < 68719476735)  (hat : σ.at_ = 4) :
    Calls Tryz.prog 74 #[.pointer (some ⟨bs, 0, none⟩), .pointer (some ⟨bv, 0, none⟩)] w fun e w' => e = .returned (.bool (decide ((ckR P cs) = 8))) ∧ Pw w0 w' K bm bp bc cs fr (n + 1) (xs ++ acc th 1 P.cam 0 0 (.slice none 0 0) (pk cs P.cam) false) bv th (md + 1) bs (snC P { ({ σ with st := pk cs P.cam } : SnS) with at_ := (ckR P cs) }) 88 := by
  obtain ⟨w1, rfl⟩ : ∃ wx : World, wx = w := ⟨w, rfl⟩
  have HPP := Aside0.mk hP
  have H1 := Aside0.mk h
  have HT := Lib.hid steps_calls
  have HQ : Hid (∀ wx, Below w1.heap.size w1 wx → _) := Lib.hid (fun wx hb => clock_calls HPP.out (h.below hb) hd0 hd1 hn)
  generalize ckR P cs = r at HQ ⊢
  generalize acc th 1 P.cam 0 0 (.slice none 0 0) (pk cs P.cam) false = tr at HQ ⊢
  have c4 : w1.cell? ⟨bs, 4, none⟩ = some (.int .i64 4) := (h.cell 4).trans (by show some (Value.int .i64 σ.at_) = _; rw [hat])
  have HAT := Aside0.mk hat
  have hidx : ∀ wx : World, (Instr.index 153 (.agg #[.func (.func 76) #[] #[], .func (.func 77) #[] #[], .func (.func 78) #[] #[], .func (.func 79) #[] #[], .func (.func 80) #[] #[], .func (.func 81) #[] #[], .func (.func 82) #[] #[], .func (.func 83) #[] #[]]) (.int .i64 4)).run Tryz.prog wx = .ok (.func (.func 80) #[] #[]) wx := fun wx => by kernel_rfl
  have z4 : ∀ wx, SB bs (snC P σ) 88 wx → wx.cell? ⟨bs, 4, none⟩ = some (.int .i64 4) := fun wx h => (h.cell 4 (v := .int .i64 σ.at_) rfl).trans (by rw [hat])
  have z4c : ∀ wx, SB bs (snC P { σ with st := pk cs P.cam }) 88 wx → wx.cell? ⟨bs, 4, none⟩ = some (.int .i64 4) := fun wx h => (h.cell 4 (v := .int .i64 ({ σ with st := pk cs P.cam } : SnS).at_) rfl).trans (by first | rw [EAT.out] | (show some (Value.int .i64 σ.at_) = _; rw [hat]))
  clear h hP hat
  go_enter Tryz.func74, Tryz.ntmps74
  go_wp2_with fail
  have hr : Below w1.heap.size w1 w1 := Below.refl _ _
  have hr2 : Below w1.heap.size w1 w1.drew := hr.drew
  go_region_with (first
    | (go_at_call 75; with_reducible refine (HT.out _).mono ?_; rintro e2 w2 ⟨rfl, hb⟩; have hs2 : Below w1.heap.size w1 w2 := below_step (by assumption) hb; have c4b : w2.cell? ⟨bs, 4, none⟩ = some (.int .i64 4) := z4 w2 (SB.below H1.out.sb hs2); clear hb)
    | (go_at_call 80; with_reducible refine (HQ.out _ (by assumption)).mono ?_; rintro e3 w3 ⟨rfl, h9⟩; have c4c : w3.cell? ⟨bs, 4, none⟩ = some (.int .i64 4) := z4c w3 h9.sb; have f4c := h9.frozen 4; have H9 := Aside0.mk h9; clear h9))
  all_goals (
    have H10 := Aside0.mk (H9.out.put 4 (.int .i64 r))
    go_wp2
    go_ret
    exact ⟨rfl, H10.out⟩)
set_option maxHeartbeats 4000000 in
set_option maxRecDepth 100000 in
theorem step_turn {w0 w : World} {K : Nat → Prop} {bm bp bc : Nat} {cs : List Int} {fr n : Nat} {xs : List Value} {bv : Nat} {th md : Int} {bs : Nat} {P : SlP} {σ : SnS} (hP : P.Ok) (h : Pw w0 w K bm bp bc cs fr n xs bv th md bs (snC P σ) 88) (hd0 : 0 ≤ md) (hd1 : md ≤ 1152921504606846975) (hn : n < 68719476735) (s0 : 0 ≤ σ.st) (s1 : σ.st ≤ 1099511627776) (hat : σ.at_ = 5) :
    Calls Tryz.prog 74 #[.pointer (some ⟨bs, 0, none⟩), .pointer (some ⟨bv, 0, none⟩)] w fun e w' => e = .returned (.bool (decide (6 = 8))) ∧ Pw w0 w' K bm bp bc (casC cs P.cam σ.st (σ.st + 1)) fr (n + 1) (xs ++ acc th 3 P.cam σ.st (σ.st + 1) (.slice none 0 0) 0 (casB cs P.cam σ.st)) bv th (md + 1) bs (snC P { (σ : SnS) with at_ := 6 }) 88 := by
  obtain ⟨w1, rfl⟩ : ∃ wx : World, wx = w := ⟨w, rfl⟩
  have HPP := Aside0.mk hP
  have H1 := Aside0.mk h
  have HT := Lib.hid steps_calls
  have HQ : Hid (∀ wx, Below w1.heap.size w1 wx → _) := Lib.hid (fun wx hb => turn_calls HPP.out (h.below hb) hd0 hd1 hn s0 s1)
  generalize (casC cs P.cam σ.st (σ.st + 1)) = cs2 at HQ ⊢
  generalize acc th 3 P.cam σ.st (σ.st + 1) (.slice none 0 0) 0 (casB cs P.cam σ.st) = tr at HQ ⊢
  have c4 : w1.cell? ⟨bs, 4, none⟩ = some (.int .i64 5) := (h.cell 4).trans (by show some (Value.int .i64 σ.at_) = _; rw [hat])
  have HAT := Aside0.mk hat
  have hidx : ∀ wx : World, (Instr.index 153 (.agg #[.func (.func 76) #[] #[], .func (.func 77) #[] #[], .func (.func 78) #[] #[], .func (.func 79) #[] #[], .func (.func 80) #[] #[], .func (.func 81) #[] #[], .func (.func 82) #[] #[], .func (.func 83) #[] #[]]) (.int .i64 5)).run Tryz.prog wx = .ok (.func (.func 81) #[] #[]) wx := fun wx => by kernel_rfl
  have z4 : ∀ wx, SB bs (snC P σ) 88 wx → wx.cell? ⟨bs, 4, none⟩ = some (.int .i64 5) := fun wx h => (h.cell 4 (v := .int .i64 σ.at_) rfl).trans (by rw [hat])
  have z4c : ∀ wx, SB bs (snC P σ) 88 wx → wx.cell? ⟨bs, 4, none⟩ = some (.int .i64 5) := fun wx h => (h.cell 4 (v := .int .i64 (σ : SnS).at_) rfl).trans (by first | rw [EAT.out] | (show some (Value.int .i64 σ.at_) = _; rw [hat]))
  clear h hP hat
  go_enter Tryz.func74, Tryz.ntmps74
  go_wp2_with fail
  have hr : Below w1.heap.size w1 w1 := Below.refl _ _
  have hr2 : Below w1.heap.size w1 w1.drew := hr.drew
  go_region_with (first
    | (go_at_call 75; with_reducible refine (HT.out _).mono ?_; rintro e2 w2 ⟨rfl, hb⟩; have hs2 : Below w1.heap.size w1 w2 := below_step (by assumption) hb; have c4b : w2.cell? ⟨bs, 4, none⟩ = some (.int .i64 5) := z4 w2 (SB.below H1.out.sb hs2); clear hb)
    | (go_at_call 81; with_reducible refine (HQ.out _ (by assumption)).mono ?_; rintro e3 w3 ⟨rfl, h9⟩; have c4c : w3.cell? ⟨bs, 4, none⟩ = some (.int .i64 5) := z4c w3 h9.sb; have f4c := h9.frozen 4; have H9 := Aside0.mk h9; clear h9))
  all_goals (
    have H10 := Aside0.mk (H9.out.put 4 (.int .i64 6))
    go_wp2
    go_ret
    exact ⟨rfl, H10.out⟩)
set_option maxHeartbeats 4000000 in
set_option maxRecDepth 100000 in
theorem step_hold {w0 w : World} {K : Nat → Prop} {bm bp bc : Nat} {cs : List Int} {fr n : Nat} {xs : List Value} {bv : Nat} {th md : Int} {bs : Nat} {P : SlP} {σ : SnS} (hP : P.Ok) (h : Pw w0 w K bm bp bc cs fr n xs bv th md bs (snC P σ) 88) (hd0 : 0 ≤ md) (hd1 : md ≤ 1152921504606846975) (hn : n < 68719476735) (h0 : 0 ≤ σ.i) (h1 : σ.i < P.cnt) (g0 : 0 ≤ σ.gen) (g1 : σ.gen < 1048576) (s0 : 0 ≤ σ.st) (s1 : σ.st ≤ 1099511627776) (hat : σ.at_ = 6) :
    Calls Tryz.prog 74 #[.pointer (some ⟨bs, 0, none⟩), .pointer (some ⟨bv, 0, none⟩)] w fun e w' => e = .returned (.bool (decide (8 = 8))) ∧ Pw w0 w' K bm bp bc (stC cs (P.first + σ.i) (wd 3 σ.gen σ.st)) fr (n + 1) (xs ++ acc th 2 (P.first + σ.i) (wd 3 σ.gen σ.st) 0 (.slice none 0 0) 0 false) bv th (md + 1) bs (snC P { ({ σ with k := 3, g := σ.gen, s := σ.st } : SnS) with at_ := 8 }) 88 := by
  obtain ⟨w1, rfl⟩ : ∃ wx : World, wx = w := ⟨w, rfl⟩
  have HPP := Aside0.mk hP
  have H1 := Aside0.mk h
  have HT := Lib.hid steps_calls
  have HQ : Hid (∀ wx, Below w1.heap.size w1 wx → _) := Lib.hid (fun wx hb => hold_calls HPP.out (h.below hb) hd0 hd1 hn h0 h1 g0 g1 s0 s1)
  generalize (stC cs (P.first + σ.i) (wd 3 σ.gen σ.st)) = cs2 at HQ ⊢
  generalize acc th 2 (P.first + σ.i) (wd 3 σ.gen σ.st) 0 (.slice none 0 0) 0 false = tr at HQ ⊢
  have c4 : w1.cell? ⟨bs, 4, none⟩ = some (.int .i64 6) := (h.cell 4).trans (by show some (Value.int .i64 σ.at_) = _; rw [hat])
  have HAT := Aside0.mk hat
  have hidx : ∀ wx : World, (Instr.index 153 (.agg #[.func (.func 76) #[] #[], .func (.func 77) #[] #[], .func (.func 78) #[] #[], .func (.func 79) #[] #[], .func (.func 80) #[] #[], .func (.func 81) #[] #[], .func (.func 82) #[] #[], .func (.func 83) #[] #[]]) (.int .i64 6)).run Tryz.prog wx = .ok (.func (.func 82) #[] #[]) wx := fun wx => by kernel_rfl
  have z4 : ∀ wx, SB bs (snC P σ) 88 wx → wx.cell? ⟨bs, 4, none⟩ = some (.int .i64 6) := fun wx h => (h.cell 4 (v := .int .i64 σ.at_) rfl).trans (by rw [hat])
  have z4c : ∀ wx, SB bs (snC P { σ with k := 3, g := σ.gen, s := σ.st }) 88 wx → wx.cell? ⟨bs, 4, none⟩ = some (.int .i64 6) := fun wx h => (h.cell 4 (v := .int .i64 ({ σ with k := 3, g := σ.gen, s := σ.st } : SnS).at_) rfl).trans (by first | rw [EAT.out] | (show some (Value.int .i64 σ.at_) = _; rw [hat]))
  clear h hP hat
  go_enter Tryz.func74, Tryz.ntmps74
  go_wp2_with fail
  have hr : Below w1.heap.size w1 w1 := Below.refl _ _
  have hr2 : Below w1.heap.size w1 w1.drew := hr.drew
  go_region_with (first
    | (go_at_call 75; with_reducible refine (HT.out _).mono ?_; rintro e2 w2 ⟨rfl, hb⟩; have hs2 : Below w1.heap.size w1 w2 := below_step (by assumption) hb; have c4b : w2.cell? ⟨bs, 4, none⟩ = some (.int .i64 6) := z4 w2 (SB.below H1.out.sb hs2); clear hb)
    | (go_at_call 82; with_reducible refine (HQ.out _ (by assumption)).mono ?_; rintro e3 w3 ⟨rfl, h9⟩; have c4c : w3.cell? ⟨bs, 4, none⟩ = some (.int .i64 6) := z4c w3 h9.sb; have f4c := h9.frozen 4; have H9 := Aside0.mk h9; clear h9))
  all_goals (
    have H10 := Aside0.mk (H9.out.put 4 (.int .i64 8))
    go_wp2
    go_ret
    exact ⟨rfl, H10.out⟩)
end Go.Proofs.YtcbndfmbpojppaaGreat
