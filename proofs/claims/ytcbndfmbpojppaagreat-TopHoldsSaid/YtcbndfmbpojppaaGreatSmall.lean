/- NewSnapshot, NewRelease, NewOpen, NewClose, and what each proc tells. -/
import Derived.Test.YtcbndfmbpojppaaGreatSnapM
import Derived.RegionTactic
import Derived.BigRegion
import Derived.BigQuiet
import Derived.Deep.QuietTactic
namespace Go.Proofs.YtcbndfmbpojppaaGreat
open Go.RowKit Go.Proofs.YtcbndfmbpojppaaGreatW.PrintWords Go.Proofs.YtcbndfmbpojppaaGreatW.PrintMore Go.Proofs.YtcbndfmbpojppaaGreat.Math
set_option linter.unusedVariables false
set_option linter.unusedSimpArgs false

/-- A Release. -/
structure RlS where
  (h slot w gen : Int)
  (seen over : Bool)
  (er : Int)
def relC (P : SlP) (ρ : RlS) : Array Value := #[.int .u64 P.cam, .int .u64 P.first, .int .i64 P.cnt, .int .u64 P.most, .int .u64 ρ.h, .int .u64 ρ.slot, .int .u64 ρ.w, .int .u64 ρ.gen, .bool ρ.seen, .bool ρ.over, .int .i64 ρ.er]
/-- One that looks at a handle's slot. -/
structure AkS where
  h : Int
  done : Bool
  (k g s : Int)
  holds : Bool
def opC (P : SlP) (α : AkS) : Array Value := #[.int .u64 P.cam, .int .u64 P.first, .int .i64 P.cnt, .int .u64 P.most, .int .u64 α.h, .bool α.done, .int .u8 α.k, .int .u64 α.g, .int .u64 α.s, .bool α.holds]
def clC (st : Int) (P : SlP) (α : AkS) : Array Value := #[.int .u64 P.cam, .int .u64 P.first, .int .i64 P.cnt, .int .u64 P.most, .int .u64 α.h, .bool α.done, .int .u8 α.k, .int .u64 α.g, .int .u64 α.s, .bool α.holds, .int .u64 st]
def scC (P : SlP) (bg : Bool) (i fl : Int) (need ex : Value) (ov : Bool) : Array Value := #[.int .u64 P.cam, .int .u64 P.first, .int .i64 P.cnt, .int .u64 P.most, .bool bg, .int .i64 i, .int .u64 fl, need, ex, .bool ov]
/-- Two new blocks: the slots, and the proc. -/
def laidProc (w : World) (P : SlP) (oc : Array Value) (T : TypeId) : World := (w.alloc (.cells #[.int .u64 P.cam, .int .u64 P.first, .int .i64 P.cnt, .int .u64 P.most] 34)).alloc (.cells oc T)
theorem laid_at (w : World) (P : SlP) (oc : Array Value) (T : TypeId) : (laidProc w P oc T).heap[w.heap.size + 1]? = some (.cells oc T (0, 0)) := by
  have := heap_alloc_new (w.alloc (.cells #[.int .u64 P.cam, .int .u64 P.first, .int .i64 P.cnt, .int .u64 P.most] 34)) (.cells oc T)
  rwa [World.size_alloc] at this
set_option maxRecDepth 100000 in
theorem newsnap_calls (w : World) (P : SlP)  : Calls Tryz.prog 9 #[slots P.cam P.first P.cnt P.most] w fun e w' => e = .returned (.pointer (some ⟨w.heap.size + 1, 0, none⟩)) ∧ w' = laidProc w P (snC P ⟨0, 0, 0, 0, 0, 0, 0, 0, 0⟩) 88 := by
  have hb := heap_alloc_new w (.cells #[.int .u64 P.cam, .int .u64 P.first, .int .i64 P.cnt, .int .u64 P.most] 34)
  unfold slots
  go_enter Tryz.func9, Tryz.ntmps9
  go_wp2
  go_ret
  exact ⟨rfl, rfl⟩
set_option maxRecDepth 100000 in
theorem newrel_calls (w : World) (P : SlP) (h : Int) : Calls Tryz.prog 15 #[slots P.cam P.first P.cnt P.most, .int .u64 h] w fun e w' => e = .returned (.pointer (some ⟨w.heap.size + 1, 0, none⟩)) ∧ w' = laidProc w P (relC P ⟨h, 0, 0, 0, false, false, 0⟩) 95 := by
  have hb := heap_alloc_new w (.cells #[.int .u64 P.cam, .int .u64 P.first, .int .i64 P.cnt, .int .u64 P.most] 34)
  unfold slots
  go_enter Tryz.func15, Tryz.ntmps15
  go_wp2
  go_ret
  exact ⟨rfl, rfl⟩
set_option maxRecDepth 100000 in
theorem newopen_calls (w : World) (P : SlP) (h : Int) : Calls Tryz.prog 17 #[slots P.cam P.first P.cnt P.most, .int .u64 h] w fun e w' => e = .returned (.pointer (some ⟨w.heap.size + 1, 0, none⟩)) ∧ w' = laidProc w P (opC P ⟨h, false, 0, 0, 0, false⟩) 99 := by
  have hb := heap_alloc_new w (.cells #[.int .u64 P.cam, .int .u64 P.first, .int .i64 P.cnt, .int .u64 P.most] 34)
  unfold slots
  go_enter Tryz.func17, Tryz.ntmps17
  go_wp2
  go_ret
  exact ⟨rfl, rfl⟩
set_option maxRecDepth 100000 in
theorem newclose_calls (w : World) (P : SlP) (h st : Int) : Calls Tryz.prog 18 #[slots P.cam P.first P.cnt P.most, .int .u64 h, .int .u64 st] w fun e w' => e = .returned (.pointer (some ⟨w.heap.size + 1, 0, none⟩)) ∧ w' = laidProc w P (clC st P ⟨h, false, 0, 0, 0, false⟩) 101 := by
  have hb := heap_alloc_new w (.cells #[.int .u64 P.cam, .int .u64 P.first, .int .i64 P.cnt, .int .u64 P.most] 34)
  unfold slots
  go_enter Tryz.func18, Tryz.ntmps18
  go_wp2
  go_ret
  exact ⟨rfl, rfl⟩
set_option maxRecDepth 100000 in
theorem newscan_calls (w : World) (P : SlP)  : Calls Tryz.prog 22 #[slots P.cam P.first P.cnt P.most] w fun e w' => e = .returned (.pointer (some ⟨w.heap.size + 1, 0, none⟩)) ∧ w' = laidProc w P (scC P false 0 0 (.slice none 0 0) (.slice none 0 0) false) 103 := by
  have hb := heap_alloc_new w (.cells #[.int .u64 P.cam, .int .u64 P.first, .int .i64 P.cnt, .int .u64 P.most] 34)
  unfold slots
  go_enter Tryz.func22, Tryz.ntmps22
  go_wp2
  go_ret
  exact ⟨rfl, rfl⟩
set_option maxRecDepth 100000 in
theorem snerr_calls (w : World) (bs : Nat) (P : SlP) (σ : SnS) (hs : SB bs (snC P σ) 88 w) : Calls Tryz.prog 11 #[.pointer (some ⟨bs, 0, none⟩)] w fun e w' => e = .returned (.int .i64 σ.er) ∧ Below w.heap.size w w' := by
  have c12 : w.cell? ⟨bs, 12, none⟩ = some (.int .i64 σ.er) := hs.cell 12 rfl
  have HB := Aside0.mk (Below.refl w.heap.size w)
  clear hs
  go_enter Tryz.func11, Tryz.ntmps11
  go_wp2
  go_ret
  exact ⟨rfl, HB.out⟩
set_option maxRecDepth 100000 in
theorem snstamp_calls (w : World) (bs : Nat) (P : SlP) (σ : SnS) (hs : SB bs (snC P σ) 88 w) : Calls Tryz.prog 14 #[.pointer (some ⟨bs, 0, none⟩)] w fun e w' => e = .returned (.int .u64 σ.s) ∧ Below w.heap.size w w' := by
  have c9 : w.cell? ⟨bs, 9, none⟩ = some (.int .u8 σ.k) := hs.cell 9 rfl
  have c10 : w.cell? ⟨bs, 10, none⟩ = some (.int .u64 σ.g) := hs.cell 10 rfl
  have c11 : w.cell? ⟨bs, 11, none⟩ = some (.int .u64 σ.s) := hs.cell 11 rfl
  have HB := Aside0.mk (Below.refl w.heap.size w)
  clear hs
  go_enter Tryz.func14, Tryz.ntmps14
  go_wp2
  go_ret
  exact ⟨rfl, HB.out⟩
set_option maxRecDepth 100000 in
theorem relerr_calls (w : World) (bs : Nat) (P : SlP) (ρ : RlS) (hs : SB bs (relC P ρ) 95 w) : Calls Tryz.prog 16 #[.pointer (some ⟨bs, 0, none⟩)] w fun e w' => e = .returned (.int .i64 ρ.er) ∧ Below w.heap.size w w' := by
  have c10 : w.cell? ⟨bs, 10, none⟩ = some (.int .i64 ρ.er) := hs.cell 10 rfl
  have HB := Aside0.mk (Below.refl w.heap.size w)
  clear hs
  go_enter Tryz.func16, Tryz.ntmps16
  go_wp2
  go_ret
  exact ⟨rfl, HB.out⟩
set_option maxRecDepth 100000 in
theorem operr_true (w : World) (bs : Nat) (P : SlP) (α : AkS) (hs : SB bs (opC P ⟨α.h, true, α.k, α.g, α.s, true⟩) 99 w) : Calls Tryz.prog 19 #[.pointer (some ⟨bs, 0, none⟩)] w fun e w' => e = .returned (.int .i64 0) ∧ Below w.heap.size w w' := by
  have c5 : w.cell? ⟨bs, 5, none⟩ = some (.bool true) := hs.cell 5 rfl
  have c8 : w.cell? ⟨bs, 8, none⟩ = some (.int .u64 α.s) := hs.cell 8 rfl
  have c9 : w.cell? ⟨bs, 9, none⟩ = some (.bool true) := hs.cell 9 rfl
  have HB := Aside0.mk (Below.refl w.heap.size w)
  clear hs
  go_enter Tryz.func19, Tryz.ntmps19
  go_wp2
  go_ret
  exact ⟨rfl, HB.out⟩
set_option maxRecDepth 100000 in
theorem opstamp_true (w : World) (bs : Nat) (P : SlP) (α : AkS) (hs : SB bs (opC P ⟨α.h, true, α.k, α.g, α.s, true⟩) 99 w) : Calls Tryz.prog 20 #[.pointer (some ⟨bs, 0, none⟩)] w fun e w' => e = .returned (.int .u64 α.s) ∧ Below w.heap.size w w' := by
  have c5 : w.cell? ⟨bs, 5, none⟩ = some (.bool true) := hs.cell 5 rfl
  have c8 : w.cell? ⟨bs, 8, none⟩ = some (.int .u64 α.s) := hs.cell 8 rfl
  have c9 : w.cell? ⟨bs, 9, none⟩ = some (.bool true) := hs.cell 9 rfl
  have HB := Aside0.mk (Below.refl w.heap.size w)
  clear hs
  go_enter Tryz.func20, Tryz.ntmps20
  go_wp2
  go_ret
  exact ⟨rfl, HB.out⟩
set_option maxRecDepth 100000 in
theorem operr_false (w : World) (bs : Nat) (P : SlP) (α : AkS) (hs : SB bs (opC P ⟨α.h, true, α.k, α.g, α.s, false⟩) 99 w) : Calls Tryz.prog 19 #[.pointer (some ⟨bs, 0, none⟩)] w fun e w' => e = .returned (.int .i64 33) ∧ Below w.heap.size w w' := by
  have c5 : w.cell? ⟨bs, 5, none⟩ = some (.bool true) := hs.cell 5 rfl
  have c8 : w.cell? ⟨bs, 8, none⟩ = some (.int .u64 α.s) := hs.cell 8 rfl
  have c9 : w.cell? ⟨bs, 9, none⟩ = some (.bool false) := hs.cell 9 rfl
  have HB := Aside0.mk (Below.refl w.heap.size w)
  clear hs
  go_enter Tryz.func19, Tryz.ntmps19
  go_wp2
  go_ret
  exact ⟨rfl, HB.out⟩
set_option maxRecDepth 100000 in
theorem clerr_no (w : World) (bs : Nat) (P : SlP) (st : Int) (α : AkS) (hs : SB bs (clC st P ⟨α.h, true, α.k, α.g, α.s, false⟩) 101 w) : Calls Tryz.prog 21 #[.pointer (some ⟨bs, 0, none⟩)] w fun e w' => e = .returned (.int .i64 34) ∧ Below w.heap.size w w' := by
  have c5 : w.cell? ⟨bs, 5, none⟩ = some (.bool true) := hs.cell 5 rfl
  have c8 : w.cell? ⟨bs, 8, none⟩ = some (.int .u64 α.s) := hs.cell 8 rfl
  have c9 : w.cell? ⟨bs, 9, none⟩ = some (.bool false) := hs.cell 9 rfl
  have c10 : w.cell? ⟨bs, 10, none⟩ = some (.int .u64 st) := hs.cell 10 rfl
  have HB := Aside0.mk (Below.refl w.heap.size w)
  clear hs
  go_enter Tryz.func21, Tryz.ntmps21
  go_upto_region 3 with (fail)
  go_quiet (fail)
  go_wp2
  go_ret
  exact ⟨rfl, pw_below_drewN HB.out nq⟩
set_option maxRecDepth 100000 in
theorem clerr_yes (w : World) (bs : Nat) (P : SlP) (st : Int) (α : AkS) (hs : SB bs (clC st P ⟨α.h, true, α.k, α.g, st, true⟩) 101 w) : Calls Tryz.prog 21 #[.pointer (some ⟨bs, 0, none⟩)] w fun e w' => e = .returned (.int .i64 0) ∧ Below w.heap.size w w' := by
  have c5 : w.cell? ⟨bs, 5, none⟩ = some (.bool true) := hs.cell 5 rfl
  have c8 : w.cell? ⟨bs, 8, none⟩ = some (.int .u64 st) := hs.cell 8 rfl
  have c9 : w.cell? ⟨bs, 9, none⟩ = some (.bool true) := hs.cell 9 rfl
  have c10 : w.cell? ⟨bs, 10, none⟩ = some (.int .u64 st) := hs.cell 10 rfl
  have HB := Aside0.mk (Below.refl w.heap.size w)
  clear hs
  go_enter Tryz.func21, Tryz.ntmps21
  go_upto_region 3 with (fail)
  go_quiet (fail)
  go_wp2
  go_ret
  exact ⟨rfl, pw_below_drewN HB.out nq⟩
set_option maxRecDepth 100000 in
theorem snhandle_calls (w : World) (bs : Nat) (P : SlP) (σ : SnS) (hs : SB bs (snC P σ) 88 w) (hk : σ.k = 3) (i0 : 0 ≤ σ.i) (i1 : σ.i < 256) (g0 : 0 ≤ σ.gen) (g1 : σ.gen < 1048576) : Calls Tryz.prog 13 #[.pointer (some ⟨bs, 0, none⟩)] w fun e w' => e = .returned (.int .u64 (σ.i + 1 + 65536 * σ.gen)) ∧ Below w.heap.size w w' := by
  have c5 : w.cell? ⟨bs, 5, none⟩ = some (.int .i64 σ.i) := hs.cell 5 rfl
  have c7 : w.cell? ⟨bs, 7, none⟩ = some (.int .u64 σ.gen) := hs.cell 7 rfl
  have c9 : w.cell? ⟨bs, 9, none⟩ = some (.int .u8 3) := (hs.cell 9 (v := .int .u8 σ.k) rfl).trans (by rw [hk])
  have c10 : w.cell? ⟨bs, 10, none⟩ = some (.int .u64 σ.g) := hs.cell 10 rfl
  have c11 : w.cell? ⟨bs, 11, none⟩ = some (.int .u64 σ.s) := hs.cell 11 rfl
  have HB := Aside0.mk (Below.refl w.heap.size w)
  have HH := Lib.hid (fun wx => Own.word_Handle.calls σ.i σ.gen _ _ wx (handle_p σ.i σ.gen i0 i1 g0 g1))
  clear hs hk
  go_enter Tryz.func13, Tryz.ntmps13
  go_upto_region 3 with (fail)
  go_quiet ((go_at_call 29; exact Calls.quiet_of ((HH.out _).mono fun _ _ h => ⟨h.1, h.2.out⟩)))
  go_wp2
  go_ret
  exact ⟨rfl, pw_below_drewN HB.out nq⟩
end Go.Proofs.YtcbndfmbpojppaaGreat
