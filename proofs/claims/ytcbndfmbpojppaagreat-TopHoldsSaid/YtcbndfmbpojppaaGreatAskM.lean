/- announce.Release: its steps. -/
import Derived.Test.YtcbndfmbpojppaaGreatSmall
import Derived.RegionTactic
import Derived.BigRegion
import Derived.BigQuiet
import Derived.Deep.QuietTactic
/- announce.Release: its steps. -/
namespace Go.Proofs.YtcbndfmbpojppaaGreat
open Go.RowKit Go.Proofs.YtcbndfmbpojppaaGreatW.PrintWords Go.Proofs.YtcbndfmbpojppaaGreatW.PrintMore Go.Proofs.YtcbndfmbpojppaaGreat.Math
set_option linter.unusedVariables false
set_option linter.unusedSimpArgs false
/-- The cells that a step reads, whatever the end has written. -/
def SR (bs : Nat) (P : SlP) (ρ : RlS) (w : World) : Prop := ∃ ov er, SB bs (relC P ⟨ρ.h, ρ.slot, ρ.w, ρ.gen, ρ.seen, ov, er⟩) 95 w
theorem SR.below {bs : Nat} {P : SlP} {ρ : RlS} {w w' : World} (h : SR bs P ρ w) (hb : Below w.heap.size w w') : SR bs P ρ w' := h.imp fun _ h => h.imp fun _ h => SB.below h hb
set_option maxHeartbeats 2000000 in
set_option maxRecDepth 100000 in
theorem end_calls {w0 w : World} {K : Nat → Prop} {bm bp bc : Nat} {cs : List Int} {fr n : Nat} {xs : List Value} {bv : Nat} {th md : Int} {bs : Nat} {P : SlP} {ρ : RlS} (h : Pw w0 w K bm bp bc cs fr n xs bv th md bs (relC P ρ) 95) (ok : Bool) : Calls Tryz.prog 92 #[.pointer (some ⟨bs, 0, none⟩), .bool ok] w fun e w' => e = .returned (.bool true) ∧ Pw w0 w' K bm bp bc cs fr n xs bv th md bs (relC P { ρ with over := true, er := if ok = true then ρ.er else 33 }) 95 := by
  have c9 : w.cell? ⟨bs, 9, none⟩ = some (.bool ρ.over) := (h.cell 9).trans rfl
  have f9 := h.frozen 9
  have c10 : w.cell? ⟨bs, 10, none⟩ = some (.int .i64 ρ.er) := (h.cell 10).trans rfl
  have f10 := h.frozen 10
  have H1 := Aside0.mk h
  clear h
  go_enter Tryz.func92, Tryz.ntmps92
  cases ok with
  | true =>
    have H2 := Aside0.mk (H1.out.put 9 (.bool true))
    go_wp2
    go_ret
    exact ⟨rfl, H2.out⟩
  | false =>
    have H2 := Aside0.mk ((H1.out.put 9 (.bool true)).put 10 (.int .i64 33))
    go_wp2
    go_ret
    exact ⟨rfl, H2.out⟩
set_option maxHeartbeats 4000000 in
set_option maxRecDepth 100000 in
theorem rel_second {w0 w : World} {K : Nat → Prop} {bm bp bc : Nat} {cs : List Int} {fr n : Nat} {xs : List Value} {bv : Nat} {th md : Int} {bs : Nat} {P : SlP} {ρ : RlS} (h : Pw w0 w K bm bp bc cs fr n xs bv th md bs (relC P ρ) 95) (hd0 : 0 ≤ md) (hd1 : md ≤ 1152921504606846975) (hn : n < 68719476735) (hs : ρ.seen = true) (ho : ρ.over = false) (l0 : 0 ≤ ρ.slot) (g0 : 0 ≤ ρ.gen) (g1 : ρ.gen + 1 < 1048576) :
    Calls Tryz.prog 91 #[.pointer (some ⟨bs, 0, none⟩), .pointer (some ⟨bv, 0, none⟩)] w fun e w' => e = .returned (.bool true) ∧
      Pw w0 w' K bm bp bc (casC cs ρ.slot ρ.w (wd 0 (ρ.gen + 1) 0)) fr (n + 1) (xs ++ acc th 3 ρ.slot ρ.w (wd 0 (ρ.gen + 1) 0) (.slice none 0 0) 0 (casB cs ρ.slot ρ.w)) bv th (md + 1) bs (relC P { ρ with over := true, er := if casB cs ρ.slot ρ.w = true then ρ.er else 33 }) 95 := by
  obtain ⟨w1, rfl⟩ : ∃ wx : World, wx = w := ⟨w, rfl⟩
  have H1 := Aside0.mk h
  have HK := Lib.hid (fun wx => pack_calls wx 0 (ρ.gen + 1) 0 (by omega) (by omega) (by omega) g1 (by omega) (by omega))
  have HQ : Hid (∀ wx, Below w1.heap.size w1 wx → _) := Lib.hid (fun wx hb => (h.below hb).cas hd0 (by omega) (by omega) ρ.slot ρ.w (wd 0 (ρ.gen + 1) 0) l0)
  generalize hx : casB cs ρ.slot ρ.w = ok at HQ ⊢
  generalize casC cs ρ.slot ρ.w (wd 0 (ρ.gen + 1) 0) = cs2 at HQ ⊢
  generalize acc th 3 ρ.slot ρ.w (wd 0 (ρ.gen + 1) 0) (.slice none 0 0) 0 ok = tr at HQ ⊢
  have hw : IntKind.u64.wrap (ρ.gen + 1) = ρ.gen + 1 := u64_of (by omega) (by omega)
  have HE := Lib.hid (fun wx (hw : Pw w0 wx K bm bp bc cs2 fr (n + 1) (xs ++ tr) bv th (md + 1) bs (relC P ρ) 95) => end_calls hw ok)
  have c9 : w1.cell? ⟨bs, 9, none⟩ = some (.bool false) := (h.sb.cell 9 (v := .bool ρ.over) rfl).trans (by rw [ho])
  have c8 : w1.cell? ⟨bs, 8, none⟩ = some (.bool true) := (h.sb.cell 8 (v := .bool ρ.seen) rfl).trans (by rw [hs])
  have z5 : ∀ wx, SR bs P ρ wx → wx.cell? ⟨bs, 5, none⟩ = some (.int .u64 ρ.slot) := fun wx ⟨_, _, h⟩ => h.cell 5 rfl
  have z6 : ∀ wx, SR bs P ρ wx → wx.cell? ⟨bs, 6, none⟩ = some (.int .u64 ρ.w) := fun wx ⟨_, _, h⟩ => h.cell 6 rfl
  have z7 : ∀ wx, SR bs P ρ wx → wx.cell? ⟨bs, 7, none⟩ = some (.int .u64 ρ.gen) := fun wx ⟨_, _, h⟩ => h.cell 7 rfl
  generalize (if ok = true then ρ.er else 33) = er2 at HE ⊢
  clear h hx hs ho
  go_enter Tryz.func91, Tryz.ntmps91
  go_wp2_with fail
  have hr : Below w1.heap.size w1 w1 := Below.refl _ _
  have hr2 : Below w1.heap.size w1 w1.drew := hr.drew
  have hs1 : SR bs P ρ w1 := ⟨ρ.over, ρ.er, H1.out.sb⟩
  have hs2 : SR bs P ρ w1.drew := hs1
  have hsb : ∀ wx, SB bs (relC P ρ) 95 wx → SR bs P ρ wx := fun wx h => ⟨ρ.over, ρ.er, h⟩
  have hse : ∀ wx, SB bs (relC P { ρ with over := true, er := er2 }) 95 wx → SR bs P ρ wx := fun wx h => ⟨_, _, h⟩
  go_region_held3 (fun w' => SR bs P ρ w') (assumption) (first
    | (go_at_call 88; with_reducible refine (HK.out _).mono ?_; rintro e w' ⟨rfl, hb⟩; have hs_ : Below w1.heap.size w1 w' := below_step (by assumption) hb; have hs3 : SR bs P ρ w' := SR.below (by assumption) hb; clear hb)
    | (go_at_call 87; with_reducible refine (HQ.out _ (by assumption)).mono ?_; rintro e w9 ⟨rfl, h9⟩; have hs3 := hsb _ h9.sb; have H9 := Aside0.mk h9; clear h9)
    | (go_at_call 92; with_reducible refine (HE.out _ H9.out).mono ?_; rintro e w8 ⟨rfl, h8⟩; have hs4 := hse _ h8.sb; have H8 := Aside0.mk h8; clear h8)
  )
  clear z5 z6 z7 hs1 hs2 hr hr2 HK HQ HE
  go_wp2
  go_ret
  exact ⟨rfl, H8.out⟩
end Go.Proofs.YtcbndfmbpojppaaGreat

/- announce.Release: its first step. -/
namespace Go.Proofs.YtcbndfmbpojppaaGreat
open Go.RowKit Go.Proofs.YtcbndfmbpojppaaGreatW.PrintWords Go.Proofs.YtcbndfmbpojppaaGreatW.PrintMore Go.Proofs.YtcbndfmbpojppaaGreat.Math
set_option linter.unusedVariables false
set_option linter.unusedSimpArgs false
/-- What the first step of a Release comes to: done? and the Release. -/
def rlR (P : SlP) (ρ : RlS) (i g : Int) (cs : List Int) : Bool × RlS := if (pk cs (P.first + i)) % 4 = 3 ∧ (pk cs (P.first + i)) / 4 % 1048576 = g then (false, { ρ with seen := true, gen := g, slot := P.first + i, w := (pk cs (P.first + i)) }) else (true, { ρ with seen := true, gen := g, slot := P.first + i, w := (pk cs (P.first + i)), over := true, er := 33 })
set_option maxHeartbeats 4000000 in
set_option maxRecDepth 100000 in
theorem rel_first {w0 w : World} {K : Nat → Prop} {bm bp bc : Nat} {cs : List Int} {fr n : Nat} {xs : List Value} {bv : Nat} {th md : Int} {bs : Nat} {P : SlP} {ρ : RlS} (hP : P.Ok) (h : Pw w0 w K bm bp bc cs fr n xs bv th md bs (relC P ρ) 95) (hd0 : 0 ≤ md) (hd1 : md ≤ 1152921504606846975) (hn : n < 68719476735) (hcs : CsOk cs) (hs : ρ.seen = false) (ho : ρ.over = false) (i g : Int) (hh : ρ.h = i + 1 + 65536 * g) (i0 : 0 ≤ i) (i1 : i < P.cnt) (g0 : 0 ≤ g) (g1 : g < 1048576) :
    Calls Tryz.prog 91 #[.pointer (some ⟨bs, 0, none⟩), .pointer (some ⟨bv, 0, none⟩)] w fun e w' => e = .returned (.bool (rlR P ρ i g cs).1) ∧
      Pw w0 w' K bm bp bc cs fr (n + 1) (xs ++ acc th 1 (P.first + i) 0 0 (.slice none 0 0) (pk cs (P.first + i)) false) bv th (md + 1) bs (relC P (rlR P ρ i g cs).2) 95 := by
  have q0 := hP.n0
  have q1 := hP.n1
  have q2 := hP.f0
  have q3 := hP.f1
  obtain ⟨u0, u1⟩ := hcs (P.first + i)
  have H1 := Aside0.mk h
  have c0 : w.cell? ⟨bs, 0, none⟩ = some (.int .u64 P.cam) := h.sb.cell 0 rfl
  have c1 : w.cell? ⟨bs, 1, none⟩ = some (.int .u64 P.first) := h.sb.cell 1 rfl
  have c2 : w.cell? ⟨bs, 2, none⟩ = some (.int .i64 P.cnt) := h.sb.cell 2 rfl
  have c3 : w.cell? ⟨bs, 3, none⟩ = some (.int .u64 P.most) := h.sb.cell 3 rfl
  have c4 : w.cell? ⟨bs, 4, none⟩ = some (.int .u64 ρ.h) := h.sb.cell 4 rfl
  have c9 : w.cell? ⟨bs, 9, none⟩ = some (.bool false) := (h.sb.cell 9 (v := .bool ρ.over) rfl).trans (by rw [ho])
  have c8 : w.cell? ⟨bs, 8, none⟩ = some (.bool false) := (h.sb.cell 8 (v := .bool ρ.seen) rfl).trans (by rw [hs])
  have HU := Lib.hid (fun wx => Own.word_Unhandle.calls (i + 1 + 65536 * g) _ _ _ wx (unhandle_p i g i0 (by omega) g0 g1))
  rw [← hh] at HU
  have HC := Lib.hid (fun wx => count_calls wx P.cam P.first P.cnt P.most (by omega) q1)
  have HL := Lib.hid (fun wx => cell_calls wx P.cam P.first P.cnt P.most i q2 i0 (by omega))
  clear hh hs ho hcs
  clear h
  go_enter Tryz.func91, Tryz.ntmps91
  go_upto_region 6 with (go_at_call 93; refine (HU.out _).mono ?_; rintro e1 w1 ⟨rfl, hb1⟩; have H2 := Aside0.mk (H1.out.below hb1.below); clear hb1)
  clear c0 c1 c2 c3 c4 c8 c9 HU H1
  have c0 : w1.cell? ⟨bs, 0, none⟩ = some (.int .u64 P.cam) := H2.out.sb.cell 0 rfl
  have c1 : w1.cell? ⟨bs, 1, none⟩ = some (.int .u64 P.first) := H2.out.sb.cell 1 rfl
  have c2 : w1.cell? ⟨bs, 2, none⟩ = some (.int .i64 P.cnt) := H2.out.sb.cell 2 rfl
  have c3 : w1.cell? ⟨bs, 3, none⟩ = some (.int .u64 P.most) := H2.out.sb.cell 3 rfl
  go_upto_region 8 with (go_at_call 34; refine (HC.out _).mono ?_; rintro e2 w2 ⟨rfl, hb2⟩; have H3 := Aside0.mk (H2.out.below hb2); clear hb2)
  clear c0 c1 c2 c3 HC H2
  have c0 : w2.cell? ⟨bs, 0, none⟩ = some (.int .u64 P.cam) := H3.out.sb.cell 0 rfl
  have c1 : w2.cell? ⟨bs, 1, none⟩ = some (.int .u64 P.first) := H3.out.sb.cell 1 rfl
  have c2 : w2.cell? ⟨bs, 2, none⟩ = some (.int .i64 P.cnt) := H3.out.sb.cell 2 rfl
  have c3 : w2.cell? ⟨bs, 3, none⟩ = some (.int .u64 P.most) := H3.out.sb.cell 3 rfl
  go_upto_region 9 with (go_at_call 36; refine (HL.out _).mono ?_; rintro e3 w3 ⟨rfl, hb3⟩; have H4 := Aside0.mk (H3.out.below hb3); have c8 : w3.cell? ⟨bs, 8, none⟩ = some (.bool ρ.seen) := (H4.out.cell 8).trans rfl; have f8 := H4.out.frozen 8; have c7 : w3.cell? ⟨bs, 7, none⟩ = some (.int .u64 ρ.gen) := (H4.out.cell 7).trans rfl; have f7 := H4.out.frozen 7; have c5 : w3.cell? ⟨bs, 5, none⟩ = some (.int .u64 ρ.slot) := (H4.out.cell 5).trans rfl; have f5 := H4.out.frozen 5; clear hb3)
  have H5 : Aside0 (Pw w0 (((w3.setCell ⟨bs, 8, none⟩ (.bool true)).setCell ⟨bs, 7, none⟩ (.int .u64 g)).setCell ⟨bs, 5, none⟩ (.int .u64 (P.first + i))) K bm bp bc cs fr n xs bv th md bs (relC P { ρ with seen := true, gen := g, slot := P.first + i }) 95) := ⟨((H4.out.put 8 _).put 7 _).put 5 _⟩
  clear c0 c1 c2 c3 c5 c7 c8 f5 f7 f8 HL H3 H4
  generalize ((w3.setCell ⟨bs, 8, none⟩ (.bool true)).setCell ⟨bs, 7, none⟩ (.int .u64 g)).setCell ⟨bs, 5, none⟩ (.int .u64 (P.first + i)) = w5 at H5 ⊢
  have HL := Lib.hid (H5.out.load hd0 (by omega) (by omega) (P.first + i) (by omega))
  have c5 : w5.cell? ⟨bs, 5, none⟩ = some (.int .u64 (P.first + i)) := (H5.out.cell 5).trans rfl
  generalize hx : pk cs (P.first + i) = x at HL u0 u1
  have HX := Aside0.mk hx
  clear hx
  generalize htr : acc th 1 (P.first + i) 0 0 (.slice none 0 0) x false = tr at HL
  have HTR := Aside0.mk htr
  clear htr
  go_upto_region 10 with (go_at_call 84; refine HL.out.mono ?_; rintro e6 w6 ⟨rfl, h6⟩; have H6 := Aside0.mk h6; have c6 : w6.cell? ⟨bs, 6, none⟩ = some (.int .u64 ρ.w) := (h6.cell 6).trans rfl; have f6 := h6.frozen 6; clear h6)
  have H7 : Aside0 (Pw w0 (w6.setCell ⟨bs, 6, none⟩ (.int .u64 x)) K bm bp bc cs fr (n + 1) (xs ++ tr) bv th (md + 1) bs (relC P { ρ with seen := true, gen := g, slot := P.first + i, w := x }) 95) := ⟨H6.out.put 6 _⟩
  clear c5 c6 f6 HL H5 H6
  generalize w6.setCell ⟨bs, 6, none⟩ (.int .u64 x) = w7 at H7 ⊢
  have c6 : w7.cell? ⟨bs, 6, none⟩ = some (.int .u64 x) := (H7.out.cell 6).trans rfl
  have HU := Lib.hid (unpack_calls w7 x u0 u1)
  go_upto_region 11 with (go_at_call 35; refine HU.out.mono ?_; rintro e8 w8 ⟨rfl, hb8⟩; have H8 := Aside0.mk (H7.out.below hb8); clear hb8)
  have H9 := Aside0.mk (H8.out.alloc (.cells #[.int .u8 (x % 4), .int .u64 (x / 4 % 1048576), .int .u64 (x / 4194304)] 86))
  have B9 := Aside0.mk (heap_alloc_new w8 (.cells #[.int .u8 (x % 4), .int .u64 (x / 4 % 1048576), .int .u64 (x / 4194304)] 86))
  clear HU H7 H8 c6
  generalize hkd : x % 4 = kd at H9 B9 ⊢
  generalize hgg : x / 4 % 1048576 = gg at H9 B9 ⊢
  have HKD := Aside0.mk hkd
  have HGG := Aside0.mk hgg
  clear hkd hgg
  generalize x / 4194304 = ss at H9 B9 ⊢
  generalize w8.alloc (.cells #[.int .u8 kd, .int .u64 gg, .int .u64 ss] 86) = w9 at H9 B9 ⊢
  generalize w8.heap.size = b at B9 ⊢
  have d0 : w9.cell? ⟨b, 0, none⟩ = some (.int .u8 kd) := (blk_cell B9.out 0).trans rfl
  have d1 : w9.cell? ⟨b, 1, none⟩ = some (.int .u64 gg) := (blk_cell B9.out 1).trans rfl
  have d2 : w9.cell? ⟨b, 2, none⟩ = some (.int .u64 ss) := (blk_cell B9.out 2).trans rfl
  have HE := Lib.hid (fun wx (hw : Pw w0 wx K bm bp bc cs fr (n + 1) (xs ++ tr) bv th (md + 1) bs (relC P { ρ with seen := true, gen := g, slot := P.first + i, w := x }) 95) => end_calls hw false)
  by_cases hk : kd = 3
  · by_cases hg : gg = g
    · have E1 : Aside0 (rlR P ρ i g cs = (false, { ρ with seen := true, gen := g, slot := P.first + i, w := x })) := ⟨by unfold rlR; rw [HX.out, HKD.out, HGG.out, if_pos ⟨hk, hg⟩]⟩
      subst hk hg
      go_wp2
      go_ret
      exact ⟨by rw [E1.out]; rfl, by rw [E1.out, HX.out, HTR.out]; exact H9.out⟩
    · have E1 : Aside0 (rlR P ρ i g cs = (true, { ρ with seen := true, gen := g, slot := P.first + i, w := x, over := true, er := 33 })) := ⟨by unfold rlR; rw [HX.out, HKD.out, HGG.out, if_neg (fun h => hg h.2)]⟩
      subst hk
      go_wp2_with (go_at_call 92; refine (HE.out _ (by first | exact H9.out | exact H9.out.drew | exact H9.out.drewN _)).mono ?_; rintro e10 w10 ⟨rfl, h10⟩; have H10 := Aside0.mk h10; clear h10)
      go_ret
      exact ⟨by rw [E1.out]; rfl, by rw [E1.out, HX.out, HTR.out]; exact H10.out⟩
  · have E1 : Aside0 (rlR P ρ i g cs = (true, { ρ with seen := true, gen := g, slot := P.first + i, w := x, over := true, er := 33 })) := ⟨by unfold rlR; rw [HX.out, HKD.out, HGG.out, if_neg (fun h => hk h.1)]⟩
    go_wp2_with (go_at_call 92; refine (HE.out _ (by first | exact H9.out | exact H9.out.drew | exact H9.out.drewN _)).mono ?_; rintro e10 w10 ⟨rfl, h10⟩; have H10 := Aside0.mk h10; clear h10)
    go_ret
    exact ⟨by rw [E1.out]; rfl, by rw [E1.out, HX.out, HTR.out]; exact H10.out⟩
end Go.Proofs.YtcbndfmbpojppaaGreat

/- handle.Open and handle.Close: their step. -/
namespace Go.Proofs.YtcbndfmbpojppaaGreat
open Go.RowKit Go.Proofs.YtcbndfmbpojppaaGreatW.PrintWords Go.Proofs.YtcbndfmbpojppaaGreatW.PrintMore Go.Proofs.YtcbndfmbpojppaaGreat.Math
attribute [local go_sem] max2_int min2_int max_two min_two
set_option linter.unusedVariables false
set_option linter.unusedSimpArgs false
/-- What a look comes to. -/
def akR (P : SlP) (α : AkS) (i g : Int) (cs : List Int) : AkS := ⟨α.h, true, pk cs (P.first + i) % 4, pk cs (P.first + i) / 4 % 1048576, pk cs (P.first + i) / 4194304, decide (pk cs (P.first + i) % 4 = 3 ∧ pk cs (P.first + i) / 4 % 1048576 = g)⟩
set_option maxHeartbeats 4000000 in
set_option maxRecDepth 100000 in
theorem op_look {w0 w : World} {K : Nat → Prop} {bm bp bc : Nat} {cs : List Int} {fr n : Nat} {xs : List Value} {bv : Nat} {th md : Int} {bs : Nat} {P : SlP} {α : AkS}  (hP : P.Ok) (h : Pw w0 w K bm bp bc cs fr n xs bv th md bs (opC P α) 99) (hd0 : 0 ≤ md) (hd1 : md ≤ 1152921504606846975) (hn : n < 68719476735) (hcs : CsOk cs) (i g : Int) (hh : α.h = i + 1 + 65536 * g) (i0 : 0 ≤ i) (i1 : i < P.cnt) (g0 : 0 ≤ g) (g1 : g < 1048576) :
    Calls Tryz.prog 95 #[.pointer (some ⟨bs, 0, none⟩), .pointer (some ⟨bv, 0, none⟩)] w fun e w' => e = .returned (.tuple #[]) ∧
      Pw w0 w' K bm bp bc cs fr (n + 1) (xs ++ acc th 1 (P.first + i) 0 0 (.slice none 0 0) (pk cs (P.first + i)) false) bv th (md + 1) bs (opC P (akR P α i g cs)) 99 := by
  have q0 := hP.n0
  have q1 := hP.n1
  have q2 := hP.f0
  have q3 := hP.f1
  obtain ⟨u0, u1⟩ := hcs (P.first + i)
  have H1 := Aside0.mk h
  have c4 : w.cell? ⟨bs, 4, none⟩ = some (.int .u64 α.h) := h.sb.cell 4 rfl
  have c5 : w.cell? ⟨bs, 5, none⟩ = some (.bool α.done) := h.sb.cell 5 rfl
  have f5 := h.frozen 5
  have HU := Lib.hid (fun wx => Own.word_Unhandle.calls (i + 1 + 65536 * g) _ _ _ wx (unhandle_p i g i0 (by omega) g0 g1))
  rw [← hh] at HU
  have H2 := Aside0.mk (h.put 5 (.bool true))
  clear h hh hcs
  go_enter Tryz.func95, Tryz.ntmps95
  go_upto_region 1 with (fail)
  clear c4 c5 f5 H1
  generalize w.setCell ⟨bs, 5, none⟩ (.bool true) = w1 at H2 ⊢
  have c4 : w1.cell? ⟨bs, 4, none⟩ = some (.int .u64 α.h) := (H2.out.cell 4).trans rfl
  go_upto_region 2 with (go_at_call 93; refine (HU.out _).mono ?_; rintro e2 w2 ⟨rfl, hb2⟩; have H3 := Aside0.mk (H2.out.below hb2.below); clear hb2)
  clear c4 HU H2
  have c2 : w2.cell? ⟨bs, 2, none⟩ = some (.int .i64 P.cnt) := (H3.out.cell 2).trans rfl
  have c1 : w2.cell? ⟨bs, 1, none⟩ = some (.int .u64 P.first) := (H3.out.cell 1).trans rfl
  have hmn : ¬ P.cnt ≤ i := by omega
  have e1 : IntKind.u64.wrap i = i := u64_of i0 (by omega)
  have e2 : IntKind.u64.wrap (P.first + i) = P.first + i := u64_of (by omega) (by omega)
  go_upto_region 3 with (fail)
  have HL := Lib.hid (H3.out.load hd0 (by omega) (by omega) (P.first + i) (by omega))
  generalize hx : pk cs (P.first + i) = x at HL u0 u1
  have HX := Aside0.mk hx
  clear hx
  have HU := Lib.hid (fun wx => unpack_calls wx x u0 u1)
  generalize htr : acc th 1 (P.first + i) 0 0 (.slice none 0 0) x false = tr at HL
  have HTR := Aside0.mk htr
  clear htr
  go_upto_region 4 with (first
    | (go_at_call 84; refine HL.out.mono ?_; rintro e6 w6 ⟨rfl, h6⟩; have H6 := Aside0.mk h6; clear h6)
    | (go_at_call 35; refine (HU.out _).mono ?_; rintro e8 w8 ⟨rfl, hb8⟩; have H8 := Aside0.mk (H6.out.below hb8); have c6 : w8.cell? ⟨bs, 6, none⟩ = some (.int .u8 α.k) := (H8.out.cell 6).trans rfl; have f6 := H8.out.frozen 6; have c7 : w8.cell? ⟨bs, 7, none⟩ = some (.int .u64 α.g) := (H8.out.cell 7).trans rfl; have f7 := H8.out.frozen 7; have c8 : w8.cell? ⟨bs, 8, none⟩ = some (.int .u64 α.s) := (H8.out.cell 8).trans rfl; have f8 := H8.out.frozen 8; clear hb8))
  have H9 := Aside0.mk (((H8.out.put 6 (.int .u8 (x % 4))).put 7 (.int .u64 (x / 4 % 1048576))).put 8 (.int .u64 (x / 4194304)))
  clear c1 c2 c6 c7 c8 f6 f7 f8 HL HU H3 H6 H8 hmn e1 e2
  generalize hkd : x % 4 = kd at H9 ⊢
  generalize hgg : x / 4 % 1048576 = gg at H9 ⊢
  generalize hss : x / 4194304 = ss at H9 ⊢
  have HKD := Aside0.mk hkd
  have HGG := Aside0.mk hgg
  have HSS := Aside0.mk hss
  clear hkd hgg hss
  generalize (((w8.setCell ⟨bs, 6, none⟩ (.int .u8 kd)).setCell ⟨bs, 7, none⟩ (.int .u64 gg)).setCell ⟨bs, 8, none⟩ (.int .u64 ss)) = w9 at H9 ⊢
  have d0 : w9.cell? ⟨bs, 6, none⟩ = some (.int .u8 kd) := (H9.out.cell 6).trans rfl
  have d1 : w9.cell? ⟨bs, 7, none⟩ = some (.int .u64 gg) := (H9.out.cell 7).trans rfl
  have d2 : w9.cell? ⟨bs, 8, none⟩ = some (.int .u64 ss) := (H9.out.cell 8).trans rfl
  have d9 : w9.cell? ⟨bs, 9, none⟩ = some (.bool α.holds) := (H9.out.cell 9).trans rfl
  have f9 := H9.out.frozen 9
  by_cases hk : kd = 3
  · by_cases hg : gg = g
    · have E1 : Aside0 (akR P α i g cs = ⟨α.h, true, kd, gg, ss, true⟩) := ⟨by unfold akR; rw [HX.out, HKD.out, HGG.out, HSS.out, decide_eq_true ⟨hk, hg⟩]⟩
      subst hk hg
      have H10 : Aside0 (Pw w0 ((w9.drew).setCell ⟨bs, 9, none⟩ (.bool true)) K bm bp bc cs fr (n + 1) (xs ++ tr) bv th (md + 1) bs (opC P ⟨α.h, true, 3, gg, ss, true⟩) 99) := ⟨H9.out.drew.put 9 _⟩
      go_region
      go_end0
      exact ⟨rfl, by rw [E1.out, HX.out, HTR.out]; exact H10.out⟩
    · have E1 : Aside0 (akR P α i g cs = ⟨α.h, true, kd, gg, ss, false⟩) := ⟨by unfold akR; rw [HX.out, HKD.out, HGG.out, HSS.out, decide_eq_false (fun h => hg h.2)]⟩
      subst hk
      have H10 : Aside0 (Pw w0 ((w9.drew).setCell ⟨bs, 9, none⟩ (.bool false)) K bm bp bc cs fr (n + 1) (xs ++ tr) bv th (md + 1) bs (opC P ⟨α.h, true, 3, gg, ss, false⟩) 99) := ⟨H9.out.drew.put 9 _⟩
      go_region
      go_end0
      exact ⟨rfl, by rw [E1.out, HX.out, HTR.out]; exact H10.out⟩
  · have E1 : Aside0 (akR P α i g cs = ⟨α.h, true, kd, gg, ss, false⟩) := ⟨by unfold akR; rw [HX.out, HKD.out, HGG.out, HSS.out, decide_eq_false (fun h => hk h.1)]⟩
    have H10 : Aside0 (Pw w0 ((w9.drew).setCell ⟨bs, 9, none⟩ (.bool false)) K bm bp bc cs fr (n + 1) (xs ++ tr) bv th (md + 1) bs (opC P ⟨α.h, true, kd, gg, ss, false⟩) 99) := ⟨H9.out.drew.put 9 _⟩
    go_region
    go_end0
    exact ⟨rfl, by rw [E1.out, HX.out, HTR.out]; exact H10.out⟩
set_option maxHeartbeats 4000000 in
set_option maxRecDepth 100000 in
theorem op_step {w0 w : World} {K : Nat → Prop} {bm bp bc : Nat} {cs : List Int} {fr n : Nat} {xs : List Value} {bv : Nat} {th md : Int} {bs : Nat} {P : SlP} {α : AkS}  (hP : P.Ok) (h : Pw w0 w K bm bp bc cs fr n xs bv th md bs (opC P α) 99) (hd0 : 0 ≤ md) (hd1 : md ≤ 1152921504606846975) (hn : n < 68719476735) (hcs : CsOk cs) (hd : α.done = false) (i g : Int) (hh : α.h = i + 1 + 65536 * g) (i0 : 0 ≤ i) (i1 : i < P.cnt) (g0 : 0 ≤ g) (g1 : g < 1048576) :
    Calls Tryz.prog 94 #[.pointer (some ⟨bs, 0, none⟩), .pointer (some ⟨bv, 0, none⟩)] w fun e w' => e = .returned (.bool true) ∧
      Pw w0 w' K bm bp bc cs fr (n + 1) (xs ++ acc th 1 (P.first + i) 0 0 (.slice none 0 0) (pk cs (P.first + i)) false) bv th (md + 1) bs (opC P (akR P α i g cs)) 99 := by
  have c5 : w.cell? ⟨bs, 5, none⟩ = some (.bool false) := (h.sb.cell 5 (v := .bool α.done) rfl).trans (by rw [hd])
  have HL := Lib.hid (op_look hP h hd0 hd1 hn hcs i g hh i0 i1 g0 g1)
  clear h hh hd hP hcs i0 i1 g0 g1
  go_enter Tryz.func94, Tryz.ntmps94
  go_wp2_with (go_at_call 95; refine HL.out.mono ?_; rintro e2 w2 ⟨rfl, h2⟩; have H2 := Aside0.mk h2; clear h2)
  go_ret
  exact ⟨rfl, H2.out⟩
set_option maxHeartbeats 4000000 in
set_option maxRecDepth 100000 in
theorem cl_look {w0 w : World} {K : Nat → Prop} {bm bp bc : Nat} {cs : List Int} {fr n : Nat} {xs : List Value} {bv : Nat} {th md : Int} {bs : Nat} {P : SlP} {α : AkS} {st : Int} (hP : P.Ok) (h : Pw w0 w K bm bp bc cs fr n xs bv th md bs (clC st P α) 101) (hd0 : 0 ≤ md) (hd1 : md ≤ 1152921504606846975) (hn : n < 68719476735) (hcs : CsOk cs) (i g : Int) (hh : α.h = i + 1 + 65536 * g) (i0 : 0 ≤ i) (i1 : i < P.cnt) (g0 : 0 ≤ g) (g1 : g < 1048576) :
    Calls Tryz.prog 95 #[.pointer (some ⟨bs, 0, none⟩), .pointer (some ⟨bv, 0, none⟩)] w fun e w' => e = .returned (.tuple #[]) ∧
      Pw w0 w' K bm bp bc cs fr (n + 1) (xs ++ acc th 1 (P.first + i) 0 0 (.slice none 0 0) (pk cs (P.first + i)) false) bv th (md + 1) bs (clC st P (akR P α i g cs)) 101 := by
  have q0 := hP.n0
  have q1 := hP.n1
  have q2 := hP.f0
  have q3 := hP.f1
  obtain ⟨u0, u1⟩ := hcs (P.first + i)
  have H1 := Aside0.mk h
  have c4 : w.cell? ⟨bs, 4, none⟩ = some (.int .u64 α.h) := h.sb.cell 4 rfl
  have c5 : w.cell? ⟨bs, 5, none⟩ = some (.bool α.done) := h.sb.cell 5 rfl
  have f5 := h.frozen 5
  have HU := Lib.hid (fun wx => Own.word_Unhandle.calls (i + 1 + 65536 * g) _ _ _ wx (unhandle_p i g i0 (by omega) g0 g1))
  rw [← hh] at HU
  have H2 := Aside0.mk (h.put 5 (.bool true))
  clear h hh hcs
  go_enter Tryz.func95, Tryz.ntmps95
  go_upto_region 1 with (fail)
  clear c4 c5 f5 H1
  generalize w.setCell ⟨bs, 5, none⟩ (.bool true) = w1 at H2 ⊢
  have c4 : w1.cell? ⟨bs, 4, none⟩ = some (.int .u64 α.h) := (H2.out.cell 4).trans rfl
  go_upto_region 2 with (go_at_call 93; refine (HU.out _).mono ?_; rintro e2 w2 ⟨rfl, hb2⟩; have H3 := Aside0.mk (H2.out.below hb2.below); clear hb2)
  clear c4 HU H2
  have c2 : w2.cell? ⟨bs, 2, none⟩ = some (.int .i64 P.cnt) := (H3.out.cell 2).trans rfl
  have c1 : w2.cell? ⟨bs, 1, none⟩ = some (.int .u64 P.first) := (H3.out.cell 1).trans rfl
  have hmn : ¬ P.cnt ≤ i := by omega
  have e1 : IntKind.u64.wrap i = i := u64_of i0 (by omega)
  have e2 : IntKind.u64.wrap (P.first + i) = P.first + i := u64_of (by omega) (by omega)
  go_upto_region 3 with (fail)
  have HL := Lib.hid (H3.out.load hd0 (by omega) (by omega) (P.first + i) (by omega))
  generalize hx : pk cs (P.first + i) = x at HL u0 u1
  have HX := Aside0.mk hx
  clear hx
  have HU := Lib.hid (fun wx => unpack_calls wx x u0 u1)
  generalize htr : acc th 1 (P.first + i) 0 0 (.slice none 0 0) x false = tr at HL
  have HTR := Aside0.mk htr
  clear htr
  go_upto_region 4 with (first
    | (go_at_call 84; refine HL.out.mono ?_; rintro e6 w6 ⟨rfl, h6⟩; have H6 := Aside0.mk h6; clear h6)
    | (go_at_call 35; refine (HU.out _).mono ?_; rintro e8 w8 ⟨rfl, hb8⟩; have H8 := Aside0.mk (H6.out.below hb8); have c6 : w8.cell? ⟨bs, 6, none⟩ = some (.int .u8 α.k) := (H8.out.cell 6).trans rfl; have f6 := H8.out.frozen 6; have c7 : w8.cell? ⟨bs, 7, none⟩ = some (.int .u64 α.g) := (H8.out.cell 7).trans rfl; have f7 := H8.out.frozen 7; have c8 : w8.cell? ⟨bs, 8, none⟩ = some (.int .u64 α.s) := (H8.out.cell 8).trans rfl; have f8 := H8.out.frozen 8; clear hb8))
  have H9 := Aside0.mk (((H8.out.put 6 (.int .u8 (x % 4))).put 7 (.int .u64 (x / 4 % 1048576))).put 8 (.int .u64 (x / 4194304)))
  clear c1 c2 c6 c7 c8 f6 f7 f8 HL HU H3 H6 H8 hmn e1 e2
  generalize hkd : x % 4 = kd at H9 ⊢
  generalize hgg : x / 4 % 1048576 = gg at H9 ⊢
  generalize hss : x / 4194304 = ss at H9 ⊢
  have HKD := Aside0.mk hkd
  have HGG := Aside0.mk hgg
  have HSS := Aside0.mk hss
  clear hkd hgg hss
  generalize (((w8.setCell ⟨bs, 6, none⟩ (.int .u8 kd)).setCell ⟨bs, 7, none⟩ (.int .u64 gg)).setCell ⟨bs, 8, none⟩ (.int .u64 ss)) = w9 at H9 ⊢
  have d0 : w9.cell? ⟨bs, 6, none⟩ = some (.int .u8 kd) := (H9.out.cell 6).trans rfl
  have d1 : w9.cell? ⟨bs, 7, none⟩ = some (.int .u64 gg) := (H9.out.cell 7).trans rfl
  have d2 : w9.cell? ⟨bs, 8, none⟩ = some (.int .u64 ss) := (H9.out.cell 8).trans rfl
  have d9 : w9.cell? ⟨bs, 9, none⟩ = some (.bool α.holds) := (H9.out.cell 9).trans rfl
  have f9 := H9.out.frozen 9
  by_cases hk : kd = 3
  · by_cases hg : gg = g
    · have E1 : Aside0 (akR P α i g cs = ⟨α.h, true, kd, gg, ss, true⟩) := ⟨by unfold akR; rw [HX.out, HKD.out, HGG.out, HSS.out, decide_eq_true ⟨hk, hg⟩]⟩
      subst hk hg
      have H10 : Aside0 (Pw w0 ((w9.drew).setCell ⟨bs, 9, none⟩ (.bool true)) K bm bp bc cs fr (n + 1) (xs ++ tr) bv th (md + 1) bs (clC st P ⟨α.h, true, 3, gg, ss, true⟩) 101) := ⟨H9.out.drew.put 9 _⟩
      go_region
      go_end0
      exact ⟨rfl, by rw [E1.out, HX.out, HTR.out]; exact H10.out⟩
    · have E1 : Aside0 (akR P α i g cs = ⟨α.h, true, kd, gg, ss, false⟩) := ⟨by unfold akR; rw [HX.out, HKD.out, HGG.out, HSS.out, decide_eq_false (fun h => hg h.2)]⟩
      subst hk
      have H10 : Aside0 (Pw w0 ((w9.drew).setCell ⟨bs, 9, none⟩ (.bool false)) K bm bp bc cs fr (n + 1) (xs ++ tr) bv th (md + 1) bs (clC st P ⟨α.h, true, 3, gg, ss, false⟩) 101) := ⟨H9.out.drew.put 9 _⟩
      go_region
      go_end0
      exact ⟨rfl, by rw [E1.out, HX.out, HTR.out]; exact H10.out⟩
  · have E1 : Aside0 (akR P α i g cs = ⟨α.h, true, kd, gg, ss, false⟩) := ⟨by unfold akR; rw [HX.out, HKD.out, HGG.out, HSS.out, decide_eq_false (fun h => hk h.1)]⟩
    have H10 : Aside0 (Pw w0 ((w9.drew).setCell ⟨bs, 9, none⟩ (.bool false)) K bm bp bc cs fr (n + 1) (xs ++ tr) bv th (md + 1) bs (clC st P ⟨α.h, true, kd, gg, ss, false⟩) 101) := ⟨H9.out.drew.put 9 _⟩
    go_region
    go_end0
    exact ⟨rfl, by rw [E1.out, HX.out, HTR.out]; exact H10.out⟩
set_option maxHeartbeats 4000000 in
set_option maxRecDepth 100000 in
theorem cl_step {w0 w : World} {K : Nat → Prop} {bm bp bc : Nat} {cs : List Int} {fr n : Nat} {xs : List Value} {bv : Nat} {th md : Int} {bs : Nat} {P : SlP} {α : AkS} {st : Int} (hP : P.Ok) (h : Pw w0 w K bm bp bc cs fr n xs bv th md bs (clC st P α) 101) (hd0 : 0 ≤ md) (hd1 : md ≤ 1152921504606846975) (hn : n < 68719476735) (hcs : CsOk cs) (hd : α.done = false) (i g : Int) (hh : α.h = i + 1 + 65536 * g) (i0 : 0 ≤ i) (i1 : i < P.cnt) (g0 : 0 ≤ g) (g1 : g < 1048576) :
    Calls Tryz.prog 96 #[.pointer (some ⟨bs, 0, none⟩), .pointer (some ⟨bv, 0, none⟩)] w fun e w' => e = .returned (.bool true) ∧
      Pw w0 w' K bm bp bc cs fr (n + 1) (xs ++ acc th 1 (P.first + i) 0 0 (.slice none 0 0) (pk cs (P.first + i)) false) bv th (md + 1) bs (clC st P (akR P α i g cs)) 101 := by
  have c5 : w.cell? ⟨bs, 5, none⟩ = some (.bool false) := (h.sb.cell 5 (v := .bool α.done) rfl).trans (by rw [hd])
  have HL := Lib.hid (cl_look hP h hd0 hd1 hn hcs i g hh i0 i1 g0 g1)
  clear h hh hd hP hcs i0 i1 g0 g1
  go_enter Tryz.func96, Tryz.ntmps96
  go_wp2_with (go_at_call 95; refine HL.out.mono ?_; rintro e2 w2 ⟨rfl, h2⟩; have H2 := Aside0.mk h2; clear h2)
  go_ret
  exact ⟨rfl, H2.out⟩
end Go.Proofs.YtcbndfmbpojppaaGreat
