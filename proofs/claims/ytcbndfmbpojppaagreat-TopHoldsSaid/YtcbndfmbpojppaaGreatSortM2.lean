/- The library's insertion sort, as the printer gives it: at few elements it ends, sorted, and what each swap of neighbours keeps is kept. -/
import Derived.Test.YtcbndfmbpojppaaGreatPTopHoldsx2
import Derived.Test.YtcbndfmbpojppaaGreatShelf
import Derived.RegionTactic
import Derived.BigQuiet
import Derived.Deep.QuietTactic
import Derived.Outline
import Derived.Lib.Hide
import Derived.WalkKit
import Derived.IntWalk
/- The library's insertion sort, as the printer gives it: at few elements it ends, sorted, and what each swap of neighbours keeps is kept. -/
set_option linter.unusedVariables false
set_option linter.unusedSimpArgs false
namespace Go.Proofs.YtcbndfmbpojppaaGreat.SortM
open Go.RowKit Go.Proofs.YtcbndfmbpojppaaGreatW.PrintWords Go.Proofs.YtcbndfmbpojppaaGreat.PTopHolds
theorem less_is (a b : Int) : cmp_Less_uint64.f a b = some (decide (a < b)) := by
  unfold cmp_Less_uint64.f cmp_isNaN_uint64.f
  simp
def g (x : List Int) (a : Nat) : Int := x.getD a 0
theorem rd_g (x : List Int) (a : Nat) : rd x (a : Int) = g x a := by unfold rd g; rw [Int.toNat_natCast]
/-- Two neighbours change places. -/
def swp (x : List Int) (j : Nat) : List Int := (x.set (j + 1) (g x j)).set j (g x (j + 1))
theorem swp_len (x : List Int) (j : Nat) : (swp x j).length = x.length := by unfold swp; simp
theorem swp_g (x : List Int) (j a : Nat) (h : j + 1 < x.length) : g (swp x j) a = if a = j then g x (j + 1) else if a = j + 1 then g x j else g x a := by
  unfold swp g
  by_cases h1 : a = j
  · subst h1
    simp [List.getD_eq_getElem?_getD, List.getElem?_set, show a < x.length from by omega]
  · by_cases h2 : a = j + 1
    · subst h2
      rw [if_neg h1, if_pos rfl]
      simp [List.getD_eq_getElem?_getD, List.getElem?_set, h]
    · rw [if_neg h1, if_neg h2]
      simp [List.getD_eq_getElem?_getD, List.getElem?_set, show ¬ j = a from fun e => h1 e.symm, show ¬ j + 1 = a from fun e => h2 e.symm]
theorem w64 (n : Int) (h0 : -9223372036854775808 ≤ n) (h1 : n < 9223372036854775808) : wrap64 n = n := by unfold wrap64; omega
section
variable {n : Nat} (hn : n < 4611686018427387904)
include hn
theorem at_0 (k : Nat) (x : List Int) (i : Nat) (hi : i < n) : slices_insertionSortOrdered_uint64.l1 (k + 1) x 0 n i 0 = slices_insertionSortOrdered_uint64.l0 k x 0 n ((i + 1 : Nat) : Int) := by
  conv => lhs; unfold slices_insertionSortOrdered_uint64.l1
  rw [if_neg (by omega), w64 _ (by omega) (by omega)]
  rfl
theorem at_j (k : Nat) (x : List Int) (i j : Nat) (hl : x.length = n) (hj : j + 1 ≤ i) (hi : i < n) : slices_insertionSortOrdered_uint64.l1 (k + 1) x 0 n i ((j + 1 : Nat) : Int) =
    if g x (j + 1) < g x j then slices_insertionSortOrdered_uint64.l1 k (swp x j) 0 n i (j : Int) else slices_insertionSortOrdered_uint64.l0 k x 0 n ((i + 1 : Nat) : Int) := by
  conv => lhs; unfold slices_insertionSortOrdered_uint64.l1
  have e1 : wrap64 (((j + 1 : Nat) : Int) - 1) = (j : Int) := by rw [w64 _ (by omega) (by omega)]; omega
  have e2 : wrap64 ((i : Int) + 1) = ((i + 1 : Nat) : Int) := by rw [w64 _ (by omega) (by omega)]; omega
  rw [e1, e2, if_pos (by omega), if_pos (by omega), if_pos (by omega), if_pos (by omega), if_pos (by omega), less_is, rd_g, rd_g, Int.toNat_natCast, Int.toNat_natCast, Option.bind_some]
  by_cases h : g x (j + 1) < g x j
  · rw [if_pos (decide_eq_true h), if_pos h]
    rfl
  · rw [if_neg (by simpa using h), if_neg h]
theorem main (Inv : List Int → Prop) (hInv : ∀ x j, x.length = n → j + 1 < n → Inv x → Inv (swp x j)) : ∀ k,
    (∀ (x : List Int) (i : Nat), x.length = n → Inv x → i ≤ n → (∀ a b, a < b → b < i → g x a ≤ g x b) → (n - i) * (n + 3) + 1 ≤ k →
      ∃ r, slices_insertionSortOrdered_uint64.l0 k x 0 n i = some r ∧ r.length = n ∧ Inv r ∧ ∀ a b, a < b → b < n → g r a ≤ g r b) ∧
    (∀ (x : List Int) (i j : Nat), x.length = n → Inv x → j ≤ i → i < n → (∀ a b, a < b → b ≤ i → a ≠ j → b ≠ j → g x a ≤ g x b) → (∀ b, j < b → b ≤ i → g x j ≤ g x b) → (n - (i + 1)) * (n + 3) + j + 2 ≤ k →
      ∃ r, slices_insertionSortOrdered_uint64.l1 k x 0 n i j = some r ∧ r.length = n ∧ Inv r ∧ ∀ a b, a < b → b < n → g r a ≤ g r b)
  | 0 => ⟨fun x i _ _ _ _ h => by omega, fun x i j _ _ _ _ _ _ h => by omega⟩
  | k + 1 => by
    obtain ⟨ih0, ih1⟩ := main Inv hInv k
    constructor
    · intro x i hl hI hi hs hk
      by_cases hin : i < n
      · have hm : (n - i) * (n + 3) = (n - (i + 1)) * (n + 3) + (n + 3) := by
          rw [show n - i = (n - (i + 1)) + 1 from by omega, Nat.succ_mul]
        obtain ⟨r, hr, hg⟩ := ih1 x i i hl hI (Nat.le_refl _) hin (fun a b hab hb _ hbi => hs a b hab (by omega)) (fun b h1 h2 => by omega) (by omega)
        refine ⟨r, ?_, hg⟩
        unfold slices_insertionSortOrdered_uint64.l0
        rw [if_pos (by omega)]
        exact hr
      · refine ⟨x, ?_, hl, hI, fun a b hab hb => hs a b hab (by omega)⟩
        unfold slices_insertionSortOrdered_uint64.l0
        rw [if_neg (by omega)]
    · intro x i j hl hI hj hi hs hs2 hk
      cases j with
      | zero =>
        obtain ⟨r, hr, hg⟩ := ih0 x (i + 1) hl hI (by omega) (fun a b hab hb => by
          by_cases ha : a = 0
          · subst ha; exact hs2 b hab (by omega)
          · exact hs a b hab (by omega) ha (by omega)) (by omega)
        exact ⟨r, (at_0 hn k x i hi).trans hr, hg⟩
      | succ j =>
        rw [at_j hn k x i j hl hj hi]
        by_cases hlt : g x (j + 1) < g x j
        · rw [if_pos hlt]
          refine ih1 (swp x j) i j ((swp_len x j).trans hl) (hInv x j hl (by omega) hI) (by omega) hi (fun a b hab hb ha hbj => ?_) (fun b hb1 hb2 => ?_) (by omega)
          · rw [swp_g x j a (by omega), swp_g x j b (by omega), if_neg ha, if_neg hbj]
            by_cases ha1 : a = j + 1
            · rw [if_pos ha1, if_neg (by omega)]
              exact hs j b (by omega) hb (by omega) (by omega)
            · rw [if_neg ha1]
              by_cases hb1 : b = j + 1
              · rw [if_pos hb1]
                exact hs a j (by omega) (by omega) ha1 (by omega)
              · rw [if_neg hb1]
                exact hs a b hab hb ha1 hb1
          · rw [swp_g x j j (by omega), swp_g x j b (by omega), if_pos rfl, if_neg (by omega)]
            by_cases hb1' : b = j + 1
            · rw [if_pos hb1']
              omega
            · rw [if_neg hb1']
              exact hs2 b (by omega) hb2
        · rw [if_neg hlt]
          refine ih0 x (i + 1) hl hI (by omega) (fun a b hab hb => ?_) (by omega)
          by_cases hb1 : b = j + 1
          · subst hb1
            by_cases ha1 : a = j
            · subst ha1; omega
            · have := hs a j (by omega) (by omega) (by omega) (by omega)
              omega
          · by_cases ha1 : a = j + 1
            · subst ha1
              exact hs2 b hab (by omega)
            · exact hs a b hab (by omega) ha1 hb1
end
/-- Insertion sort, whole. -/
theorem isort (x : List Int) (hn : x.length < 4611686018427387904) (Inv : List Int → Prop) (hInv : ∀ y j, y.length = x.length → j + 1 < x.length → Inv y → Inv (swp y j)) (hI : Inv x) :
    ∃ k r, slices_insertionSortOrdered_uint64.f k x 0 x.length = some r ∧ r.length = x.length ∧ Inv r ∧ ∀ a b, a < b → b < x.length → g r a ≤ g r b := by
  by_cases h0 : x.length = 0
  · refine ⟨1, x, ?_, rfl, hI, fun a b _ hb => by omega⟩
    unfold slices_insertionSortOrdered_uint64.f slices_insertionSortOrdered_uint64.l0
    rw [w64 _ (by omega) (by omega), if_neg (by omega)]
  · obtain ⟨r, hr, hg⟩ := (main hn Inv hInv ((x.length - 1) * (x.length + 3) + 1)).1 x 1 rfl hI (by omega) (fun a b hab hb => by omega) (Nat.le_refl _)
    refine ⟨(x.length - 1) * (x.length + 3) + 1, r, ?_, hg⟩
    unfold slices_insertionSortOrdered_uint64.f
    rw [w64 _ (by omega) (by omega)]
    exact hr
end Go.Proofs.YtcbndfmbpojppaaGreat.SortM

/- slices.Sort at few elements, slices.Compact at a row that rises: no condition but these. -/
namespace Go.Proofs.YtcbndfmbpojppaaGreat
open Go.RowKit Go.Proofs.YtcbndfmbpojppaaGreatW.PrintWords Go.Proofs.YtcbndfmbpojppaaGreatW.PrintMore Go.Proofs.YtcbndfmbpojppaaGreat.SortM
set_option linter.unusedVariables false
set_option linter.unusedSimpArgs false
/-- A row of uint64s of our own. -/
abbrev RU (w : World) (base : Nat) (ok : Nat → Prop) (u : Value) (l : List Int) : Prop := Kd.R (Kd.int .u64) 29 w base ok u l
theorem RU.slice {w : World} {base : Nat} {ok : Nat → Prop} {u : Value} {l : List Int} (h : RU w base ok u l) : ∃ A c, u = .slice A l.length c := Kd.R_slice h
set_option maxHeartbeats 2000000 in
set_option maxRecDepth 100000 in
theorem pdq_calls (P0 : Nat → Prop) (u : Value) (l : List Int) (lim : Int) (w0 w : World) (hB : Below w0.heap.size w0 w) (hR : RU w w0.heap.size P0 u l) (hl : l.length ≤ 12) (Inv : List Int → Prop) (hInv : ∀ y j, y.length = l.length → j + 1 < l.length → Inv y → Inv (swp y j)) (hI : Inv l) :
    Calls Tryz.prog 37 #[u, .int .i64 0, .int .i64 l.length, .int .i64 lim] w fun e w' => e = .returned (.tuple #[]) ∧ Below w0.heap.size w0 w' ∧ Go.Proofs.YtcbndfmbpojppaaGreatW.PrintWords.Kept w w' P0 ∧ ∃ r, RU w' w0.heap.size (fun k => P0 k ∨ w.heap.size ≤ k) u r ∧ r.length = l.length ∧ Inv r ∧ ∀ a b, a < b → b < l.length → g r a ≤ g r b := by
  obtain ⟨k, r, hf, hr1, hr2, hr3⟩ := isort l (by omega) Inv hInv hI
  have HR := Aside0.mk (show r.length = l.length ∧ Inv r ∧ ∀ a b, a < b → b < l.length → g r a ≤ g r b from ⟨hr1, hr2, hr3⟩)
  obtain ⟨A, c, rfl⟩ := RU.slice hR
  have HC := Lib.hid (PTopHolds.slices_insertionSortOrdered_uint64.calls k P0 _ l 0 l.length r w0 w hB hR hf)
  have hle : (l.length : Int) ≤ 12 := by omega
  clear hB hR hf hr1 hr2 hr3 hInv hI hl
  go_enter Tryz.func37, Tryz.ntmps37
  go_wp2
  go_loopw [1, 2] (fun v1 v2 wr => v1 = .int .i64 0 ∧ v2 = .int .i64 l.length ∧ w = wr) (fun _ _ _ => 0)
  case atStart => exact ⟨rfl, rfl, rfl⟩
  case round =>
    obtain ⟨rfl, rfl, rfl⟩ := hrel
    go_wp2_with (go_at_call 39; refine HC.out.mono ?_; rintro e1 w1 ⟨rfl, h1, h2, h3⟩; have H1 := Aside0.mk h1; have H2 := Aside0.mk h2; have H3 := Aside0.mk h3; clear h1 h2 h3)
    refine bodyPost_ret (results_none rfl _ _ _) rfl ?_
    exact ⟨rfl, H2.out, H3.out, r, H1.out, HR.out⟩
set_option maxRecDepth 100000 in
theorem sort_calls (P0 : Nat → Prop) (u : Value) (l : List Int) (w0 w : World) (hB : Below w0.heap.size w0 w) (hR : RU w w0.heap.size P0 u l) (hl : l.length ≤ 12) (Inv : List Int → Prop) (hInv : ∀ y j, y.length = l.length → j + 1 < l.length → Inv y → Inv (swp y j)) (hI : Inv l) :
    Calls Tryz.prog 32 #[u] w fun e w' => e = .returned (.tuple #[]) ∧ Below w0.heap.size w0 w' ∧ Go.Proofs.YtcbndfmbpojppaaGreatW.PrintWords.Kept w w' P0 ∧ ∃ r, RU w' w0.heap.size (fun k => P0 k ∨ w.heap.size ≤ k) u r ∧ r.length = l.length ∧ Inv r ∧ ∀ a b, a < b → b < l.length → g r a ≤ g r b := by
  obtain ⟨A, c, rfl⟩ := RU.slice hR
  have HC := Lib.hid (fun lim => pdq_calls P0 _ l lim w0 w hB hR hl Inv hInv hI)
  have HL := Lib.hid (Tryz.bits_Len l.length w (by omega) (by omega))
  have hle : (l.length : Int) ≤ 12 := by omega
  have e1 : IntKind.u64.wrap (l.length : Int) = l.length := by simp [IntKind.wrap, IntKind.bits, IntKind.signed]; omega
  clear hB hR hInv hI hl
  go_enter Tryz.func32, Tryz.ntmps32
  go_wp2_with (first
    | (go_at_call 38; refine HL.out.mono ?_; rintro e1 w1 ⟨rfl, rfl⟩)
    | (go_at_call 37; refine (HC.out _).mono ?_; rintro e2 w2 ⟨rfl, h2⟩; have H2 := Aside0.mk h2; clear h2))
  go_end0
  exact ⟨rfl, H2.out⟩
end Go.Proofs.YtcbndfmbpojppaaGreat

/- slices.Compact at a row without equal neighbours: it hands it back. -/
namespace Go.Proofs.YtcbndfmbpojppaaGreat
open Go.RowKit Go.Proofs.YtcbndfmbpojppaaGreatW.PrintWords Go.Proofs.YtcbndfmbpojppaaGreatW.PrintMore Go.Proofs.YtcbndfmbpojppaaGreat.SortM
set_option linter.unusedVariables false
set_option linter.unusedSimpArgs false
theorem RU.at_ {w : World} {base : Nat} {ok : Nat → Prop} {gb cap : Nat} {l : List Int} {n : Nat} (h : RU w base ok (.slice (some ⟨gb, 0, none⟩) n cap) l) (i : Nat) (hi : i < n) : w.cell? ⟨gb, i, none⟩ = some (.int .u64 (g l i)) :=
  (Kd.R_celln (0 : Int) h (i : Int) (by omega) (by omega)).1
set_option maxHeartbeats 2000000 in
set_option maxRecDepth 100000 in
theorem compact_calls (u : Value) (l : List Int) (base : Nat) (ok : Nat → Prop) (w : World) (hR : RU w base ok u l) (hmx : l.length < 4611686018427387904) (hs : ∀ a, a + 1 < l.length → ¬ g l (a + 1) = g l a) :
    Calls Tryz.prog 98 #[u] w fun e w' => e = .returned u ∧ Drawn0 w w' := by
  by_cases h2 : l.length < 2
  · obtain ⟨A, c, rfl⟩ := RU.slice hR
    have h3 : (l.length : Int) < 2 := by omega
    clear hR hs hmx h2
    go_enter Tryz.func98, Tryz.ntmps98
    go_wp2
    go_ret
    exact ⟨rfl, Drawn0.refl _⟩
  · obtain ⟨gb, cap, rfl, _⟩ := Kd.R_form hR (by omega)
    have h3 : ¬ (l.length : Int) < 2 := by omega
    have HR := Aside0.mk hR
    have HS := Aside0.mk hs
    clear hR hs
    go_enter Tryz.func98, Tryz.ntmps98
    go_wp2
    go_loopw [3] (fun v3 wr => ∃ j : Nat, j < l.length ∧ v3 = .int .i64 ((j : Int) + 1) ∧ Aside0 (Drawn0 w wr)) (fun i _ => l.length - (intOf i).toNat)
    case atStart => exact ⟨0, by omega, rfl, ⟨Drawn0.refl _⟩⟩
    case round =>
      obtain ⟨j, hj, rfl, HD⟩ := hrel
      by_cases hk : j + 1 < l.length
      · have hb := HD.out.below
        have x1 := RU.at_ (Kd.R_below HR.out hb) (j + 1) hk
        have x0 := RU.at_ (Kd.R_below HR.out hb) j (by omega)
        have hne := HS.out j hk
        have hne2 : (g l (j + 1) == g l j) = false := by simpa using hne
        generalize g l (j + 1) = v1 at x1 hne hne2
        generalize g l j = v0 at x0 hne hne2
        have e0 : (0 : Int) ≤ (j : Int) + 1 := by omega
        have e1 : (j : Int) + 1 < (l.length : Int) := by omega
        have e2 : ((j : Int) + 1).toNat = j + 1 := by omega
        have e3 : IntKind.i64.wrap ((j : Int) + 1 - 1) = (j : Int) := by rw [show (j : Int) + 1 - 1 = (j : Int) from by omega]; exact IntWalk.i64_in _ (by omega)
        have e4 : (j : Int) < (l.length : Int) := by omega
        clear hb h2 h3
        go_upto_region 6 with (fail)
        go_quiet (fail)
        clear e0 e1 e2 e3 e4 x0 x1
        go_wp2
        exact ⟨⟨j + 1, by omega, by rfl, ⟨HD.out.step nq⟩⟩, by simp [intOf]; omega⟩
      · have hk2 : ¬ (j : Int) + 1 < (l.length : Int) := by omega
        go_wp2
        go_ret
        exact ⟨rfl, HD.out⟩
end Go.Proofs.YtcbndfmbpojppaaGreat
