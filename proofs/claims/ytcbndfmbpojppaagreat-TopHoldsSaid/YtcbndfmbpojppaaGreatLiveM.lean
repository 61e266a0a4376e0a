/- announce.Slots: the slots as they are. -/
import Derived.Test.YtcbndfmbpojppaaGreatScanM
import Derived.Deep.AppendLies
import Derived.IntWalk
/- announce.Slots: the slots as they are. -/
namespace Go.Proofs.YtcbndfmbpojppaaGreat
open Go.RowKit Go.Proofs.YtcbndfmbpojppaaGreatW.PrintWords Go.Proofs.YtcbndfmbpojppaaGreatW.PrintMore Go.Proofs.YtcbndfmbpojppaaGreat.Math
set_option linter.unusedVariables false
set_option linter.unusedSimpArgs false
/-- A slot's cells. -/
def slV (x : Int) : List Value := [.int .u8 (x % 4), .int .u64 (x / 4 % 1048576), .int .u64 (x / 4194304)]
/-- The first n slots' cells. -/
def slX (cs : List Int) (first : Int) : Nat → List Value
  | 0 => []
  | n + 1 => slX cs first n ++ slV (pk cs (first + n))
theorem slX_len (cs : List Int) (first : Int) : ∀ n, (slX cs first n).length = n * 3
  | 0 => rfl
  | n + 1 => by
    have := slX_len cs first n
    simp only [slX, List.length_append, slV, List.length_cons, List.length_nil]
    omega
theorem infoSlot : (Tryz.prog.info? 86).map (fun i => (i.zero, i.size, i.bytes)) = some (some (.agg #[.int .u8 0, .int .u64 0, .int .u64 0]), 3, 24) := by kernel_rfl
theorem slots_next {w wr w6 w7 : World} {b0 k : Nat} {v5 v : Value} {cs : List Int} {first x : Int} {B : Obj} {o : Obj} (hb : Below b0 w wr) (hB : wr.heap[b0]? = some B) (ho : wr.ownsRow (b0 + 1) 86 3 v5 k (slX cs first k)) (h6 : Below wr.heap.size wr w6) (hg : (w6.alloc o).grownBy w7 v5.ownBlock)
    (hown : w7.ownsRow (b0 + 1) 86 3 v (k + 1) (slX cs first k ++ slV x)) (hx : pk cs (first + (k : Int)) = x) : w7.ownsRow (b0 + 1) 86 3 v (k + 1) (slX cs first (k + 1)) ∧ Below b0 w w7 ∧ w7.heap[b0]? = some B := by
  have l0 : b0 < wr.heap.size := (Array.getElem?_eq_some_iff.1 hB).1
  have hne : ∀ j, j ≤ b0 → some j ≠ v5.ownBlock := fun j hj e => by
    rcases ho.2 with ⟨e2, _⟩ | ⟨g, cap, cur, e2, hge, _⟩
    · rw [e2] at e; cases e
    · rw [e2] at e
      have : j = g := by simpa [Value.ownBlock] using e
      omega
  have hk : ∀ j, j ≤ b0 → w7.heap[j]? = wr.heap[j]? := fun j hj => (hg.block j (by rw [World.size_alloc]; have := h6.size; omega) (hne j hj)).trans ((heap_alloc_old _ _ (by have := h6.size; omega)).trans (h6.block j (by omega)))
  refine ⟨by rw [slX, hx]; exact hown, ⟨hg.os.trans (h6.os.trans hb.os), hg.tape.trans (h6.tape.trans hb.tape), hg.output.trans (h6.output.trans hb.output), Nat.le_trans hb.size (Nat.le_trans h6.size (Nat.le_trans (by rw [World.size_alloc]; omega) hg.size)), fun j hj => (hk j (by omega)).trans (hb.block j hj)⟩, (hk b0 (Nat.le_refl _)).trans hB⟩
set_option maxHeartbeats 4000000 in
set_option maxRecDepth 100000 in
theorem slots_calls {w : World} {K : Nat → Prop} {bm bp bc : Nat} {cs : List Int} {fr n : Nat} {xs : List Value} {P : SlP} (hP : P.Ok) (hM : Mem w K bm bp bc cs fr n xs) (hcs : CsOk cs) :
    Calls Tryz.prog 31 #[.pointer (some ⟨bm, 0, none⟩), slots P.cam P.first P.cnt P.most] w fun e w' => ∃ v, e = .returned v ∧ w'.ownsRow w.heap.size 86 3 v P.cnt.toNat (slX cs P.first P.cnt.toNat) ∧ Below w.heap.size w w' := by
  have q0 := hP.n0
  have q1 := hP.n1
  have q2 := hP.f0
  have q3 := hP.f1
  obtain ⟨N, hN⟩ : ∃ N : Nat, (N : Int) = P.cnt := ⟨P.cnt.toNat, by omega⟩
  have hN1 : N ≤ 256 := by omega
  rw [← hN, Int.toNat_natCast]
  have HC := Lib.hid (fun wx => count_calls wx P.cam P.first P.cnt P.most (by omega) q1)
  rw [← hN] at HC
  have HCE := Lib.hid (fun wx (k : Nat) (hk : k < N) => cell_calls wx P.cam P.first P.cnt P.most (k : Int) q2 (by omega) (by omega))
  rw [← hN] at HCE
  have HP := Lib.hid (fun (wx : World) (hb : Below w.heap.size w wx) (k : Nat) => peek_calls (hM.of_below hb) (P.first + k) (by omega))
  have HU := Lib.hid (fun wx (k : Nat) => unpack_calls wx (pk cs (P.first + k)) (hcs _).1 (hcs _).2)
  have HB := Aside0.mk (below_alloc (Below.refl w.heap.size w) (.cells #[.int .u64 P.cam, .int .u64 P.first, .int .i64 N, .int .u64 P.most] 34))
  have HBX := Aside0.mk (heap_alloc_new w (.cells #[.int .u64 P.cam, .int .u64 P.first, .int .i64 N, .int .u64 P.most] 34))
  have hbl := hM.kl
  clear hM hcs hP hbl hN
  unfold slots
  go_enter Tryz.func31, Tryz.ntmps31
  go_upto_region 4 with (fail)
  generalize w.alloc (.cells #[.int .u64 P.cam, .int .u64 P.first, .int .i64 N, .int .u64 P.most] 34) = w1 at HB HBX ⊢
  generalize hb0 : w.heap.size = b0 at HB HBX HP ⊢
  have HB0 := Aside0.mk hb0
  clear hb0
  have c0 : w1.cell? ⟨b0, 0, none⟩ = some (.int .u64 P.cam) := (blk_cell HBX.out 0).trans rfl
  have c1 : w1.cell? ⟨b0, 1, none⟩ = some (.int .u64 P.first) := (blk_cell HBX.out 1).trans rfl
  have c2 : w1.cell? ⟨b0, 2, none⟩ = some (.int .i64 N) := (blk_cell HBX.out 2).trans rfl
  have c3 : w1.cell? ⟨b0, 3, none⟩ = some (.int .u64 P.most) := (blk_cell HBX.out 3).trans rfl
  go_wp2_with (go_at_call 34; refine (HC.out _).mono ?_; rintro e2 w2 ⟨rfl, hb2⟩; have H2 := Aside0.mk hb2; clear hb2)
  clear c0 c1 c2 c3 HC
  go_loopw [5, 11] (fun v5 v11 wr => ∃ (k : Nat) (A5 : Option Addr) (cp5 : Nat), k ≤ N ∧ v5 = .slice A5 k cp5 ∧ v11 = .int .i64 k ∧ Aside0 (wr.ownsRow (b0 + 1) 86 3 (.slice A5 k cp5) k (slX cs P.first k) ∧ Below b0 w wr ∧ wr.heap[b0]? = some (.cells #[.int .u64 P.cam, .int .u64 P.first, .int .i64 N, .int .u64 P.most] 34 (0, 0)))) (fun _ q _ => N - (intOf q).toNat)
  case atStart =>
    have l0 : b0 < w1.heap.size := (Array.getElem?_eq_some_iff.1 HBX.out).1
    exact ⟨0, none, 0, Nat.zero_le _, rfl, rfl, ⟨World.ownsRow_nil _ _ _ _, HB.out.trans (H2.out.mono (by omega)), (H2.out.block _ l0).trans HBX.out⟩⟩
  case round =>
    obtain ⟨k, A5, cp5, hk, rfl, rfl, HR⟩ := hrel
    by_cases hlt : k < N
    · have hltI : (k : Int) < (N : Int) := by omega
      have hsz : b0 < wr.heap.size := (Array.getElem?_eq_some_iff.1 HR.out.2.2).1
      have x0 : wr.cell? ⟨b0, 0, none⟩ = some (.int .u64 P.cam) := (blk_cell HR.out.2.2 0).trans rfl
      have x1 : wr.cell? ⟨b0, 1, none⟩ = some (.int .u64 P.first) := (blk_cell HR.out.2.2 1).trans rfl
      have x2 : wr.cell? ⟨b0, 2, none⟩ = some (.int .i64 N) := (blk_cell HR.out.2.2 2).trans rfl
      have x3 : wr.cell? ⟨b0, 3, none⟩ = some (.int .u64 P.most) := (blk_cell HR.out.2.2 3).trans rfl
      have HE := Lib.hid (fun wx => HCE.out wx k hlt)
      have HPk := Lib.hid (fun wx hb => HP.out wx hb k)
      have HUk := Lib.hid (fun wx => HU.out wx k)
      generalize hx : pk cs (P.first + (k : Int)) = x at HPk HUk
      have HX := Aside0.mk hx
      obtain ⟨j0, hi0, hz0, hz1, hz2⟩ := info_parts infoSlot
      clear hx HCE HP HU H2 HB HBX
      go_wp2_with (first
        | (go_at_call 36; refine (HE.out _).mono ?_; rintro e3 w3 ⟨rfl, hb3⟩; have H3 := Aside0.mk hb3; clear hb3)
        | (go_at_call 24; refine (HPk.out _ (by exact HR.out.2.1.trans (H3.out.mono (by omega)))).mono ?_; rintro e4 w4 ⟨rfl, rfl⟩)
        | (go_at_call 35; refine (HUk.out _).mono ?_; rintro e6 w6 ⟨rfl, hb6⟩; have H6 := Aside0.mk (H3.out.trans (hb6.mono H3.out.size)); have H7 := Aside0.mk (pw_own_below HR.out.1 H6.out); clear hb6)
        | (at_builtin; refine wpList_append_lies _ rfl (.tmp 14) (.tmp 21) 105 rfl (b0 + 1) 86 j0 _ 3 24 Tryz.underlying105 hi0 hz0 hz1 hz2 rfl (by omega) (.slice A5 k cp5) k _ (by rfl) (H7.out.alloc _) ⟨w6.heap.size, 0, none⟩ 1 1 (slV x) (by rfl) (by rfl) (World.news_of_block (cs := (slV x).toArray) (t := 86) (fr := (0, 0)) (heap_alloc_new w6 _)) (by simp [slV, Value.oneCell']) (by omega) (by unfold maxLen; omega) (by omega) (by have := H6.out.size; simp; omega) (w6.heap.size + 1) (by simp) ?_; intro gg cp3 w7 hown1 hgrow hat hlt2))
      have hnext := Aside0.mk (slots_next HR.out.2.1 HR.out.2.2 HR.out.1 H6.out hgrow hown1 HX.out)
      exact ⟨⟨k + 1, _, _, hlt, rfl, by rfl, hnext⟩, by simp [intOf]; omega⟩
    · obtain rfl : k = N := by omega
      have hge : ¬ (k : Int) < (k : Int) := by omega
      go_wp2
      go_ret
      exact ⟨_, rfl, own_less HR.out.1 (by have := HB0.out; omega), by rw [HB0.out]; exact HR.out.2.1⟩
end Go.Proofs.YtcbndfmbpojppaaGreat

/- handle.Live: how many handles hold. -/
namespace Go.Proofs.YtcbndfmbpojppaaGreat
open Go.RowKit Go.Proofs.YtcbndfmbpojppaaGreatW.PrintWords Go.Proofs.YtcbndfmbpojppaaGreatW.PrintMore Go.Proofs.YtcbndfmbpojppaaGreat.Math
set_option linter.unusedVariables false
set_option linter.unusedSimpArgs false
/-- The handles of the first n slots that hold. -/
def lvL (cs : List Int) (first : Int) : Nat → List Int
  | 0 => []
  | n + 1 => if pk cs (first + n) % 4 = 3 then lvL cs first n ++ [(n : Int) + 1 + 65536 * (pk cs (first + n) / 4 % 1048576)] else lvL cs first n
theorem lvL_len (cs : List Int) (first : Int) : ∀ n, (lvL cs first n).length ≤ n
  | 0 => Nat.le_refl _
  | n + 1 => by
    have := lvL_len cs first n
    unfold lvL
    split
    · rw [List.length_append, List.length_singleton]; omega
    · omega
/-- A slot's three cells in the row of slots. -/
theorem slX_get (cs : List Int) (first : Int) : ∀ (n k : Nat), k < n → (slX cs first n)[k * 3]? = some (.int .u8 (pk cs (first + k) % 4)) ∧ (slX cs first n)[k * 3 + 1]? = some (.int .u64 (pk cs (first + k) / 4 % 1048576)) ∧ (slX cs first n)[k * 3 + 2]? = some (.int .u64 (pk cs (first + k) / 4194304))
  | 0, _, h => by omega
  | n + 1, k, h => by
    by_cases hk : k < n
    · obtain ⟨a, b, c⟩ := slX_get cs first n k hk
      have hl := slX_len cs first n
      unfold slX
      rw [List.getElem?_append_left (by omega), List.getElem?_append_left (by omega), List.getElem?_append_left (by omega)]
      exact ⟨a, b, c⟩
    · obtain rfl : k = n := by omega
      have hl := slX_len cs first k
      unfold slX
      rw [List.getElem?_append_right (by omega), List.getElem?_append_right (by omega), List.getElem?_append_right (by omega)]
      have e0 : k * 3 - (slX cs first k).length = 0 := by omega
      have e1 : k * 3 + 1 - (slX cs first k).length = 1 := by omega
      have e2 : k * 3 + 2 - (slX cs first k).length = 2 := by omega
      rw [e0, e1, e2]
      exact ⟨rfl, rfl, rfl⟩
theorem own_at3 {w : World} {base n size : Nat} {e : TypeId} {v : Value} {xs : List Value} (h : w.ownsRow base e size v n xs) (hn : 0 < n) :
    ∃ g cap, v = .slice (some ⟨g, 0, none⟩) n cap ∧ g < w.heap.size ∧ ∀ i u, xs[i]? = some u → w.cell? ⟨g, i, none⟩ = some u := by
  rcases h.2 with ⟨_, h0⟩ | ⟨g, cap, cur, hv, hb, hg, h1, h2, h3, h4⟩
  · omega
  · refine ⟨g, cap, hv, (Array.getElem?_eq_some_iff.1 hg).1, fun i u hu => (blk_cell hg i).trans ?_⟩
    rw [← h4, List.getElem?_take] at hu
    split at hu
    · simpa using hu
    · cases hu
set_option maxHeartbeats 4000000 in
set_option maxRecDepth 100000 in
theorem live_calls {w : World} {K : Nat → Prop} {bm bp bc : Nat} {cs : List Int} {fr n : Nat} {xs : List Value} {P : SlP} (hP : P.Ok) (hM : Mem w K bm bp bc cs fr n xs) (hcs : CsOk cs) (hN2 : P.cnt ≤ 12) :
    Calls Tryz.prog 25 #[.pointer (some ⟨bm, 0, none⟩), slots P.cam P.first P.cnt P.most] w fun e w' => (∃ A c, e = .returned (.slice A (lvL cs P.first P.cnt.toNat).length c)) ∧ Below w.heap.size w w' := by
  have q0 := hP.n0
  obtain ⟨N, hN⟩ : ∃ N : Nat, (N : Int) = P.cnt := ⟨P.cnt.toNat, by omega⟩
  have hN1 : N ≤ 12 := by omega
  have hN0 : 0 < N := by omega
  have HB := Aside0.mk (below_alloc (Below.refl w.heap.size w) (.cells #[.int .u64 P.cam, .int .u64 P.first, .int .i64 P.cnt, .int .u64 P.most] 34))
  have HS : Hid (∀ (wx : World) (hb : Below w.heap.size w wx), _) := Lib.hid (fun wx hb => slots_calls hP (hM.of_below hb) hcs)
  rw [← hN, Int.toNat_natCast]
  rw [← hN] at HS HB
  rw [Int.toNat_natCast] at HS
  have hcs2 := Aside0.mk hcs
  clear hM hcs hP hN hN2 q0
  unfold slots at HS ⊢
  go_enter Tryz.func25, Tryz.ntmps25
  go_wp2_with (go_at_call 31; refine (HS.out _ (by first | exact HB.out | exact Below.refl _ _)).mono ?_; rintro e2 w2 ⟨v2, rfl, h2, hb2⟩; obtain ⟨gs, cps, rfl, hgl, hgc⟩ := own_at3 h2 hN0; have H2 := Aside0.mk (And.intro (HB.out.trans (hb2.mono HB.out.size)) hgc); clear h2 hb2 hgc)
  go_loopw [5, 14] (fun v5 v14 wr => ∃ (k : Nat) (A5 : Option Addr) (c5 : Nat), k ≤ N ∧ v5 = .slice A5 (lvL cs P.first k).length c5 ∧ v14 = .int .i64 k ∧ Aside0 (RU wr w2.heap.size (fun _ => True) (.slice A5 (lvL cs P.first k).length c5) (lvL cs P.first k) ∧ Below w2.heap.size w2 wr)) (fun _ q _ => N - (intOf q).toNat)
  case atStart => exact ⟨0, none, 0, Nat.zero_le _, rfl, rfl, ⟨Kd.R_nil _ _ _ _ _, Below.refl _ _⟩⟩
  case round =>
    obtain ⟨k, A5, c5, hk, rfl, rfl, HR⟩ := hrel
    by_cases hlt : k < N
    · have hltI : (k : Int) < (N : Int) := by omega
      obtain ⟨g0, g1, g2⟩ := slX_get cs P.first N k hlt
      have x0 := (HR.out.2.cell hgl).trans (H2.out.2 _ _ g0)
      have x1 := (HR.out.2.cell hgl).trans (H2.out.2 _ _ g1)
      have x2 := (HR.out.2.cell hgl).trans (H2.out.2 _ _ g2)
      obtain ⟨u0, u1⟩ := hcs2.out (P.first + k)
      clear g0 g1 g2
      go_upto_region 5 with (fail)
      have B7 := Aside0.mk (heap_alloc_new wr (.cells #[.int .u8 (pk cs (P.first + k) % 4), .int .u64 (pk cs (P.first + k) / 4 % 1048576), .int .u64 (pk cs (P.first + k) / 4194304)] 86))
      have R7 := Aside0.mk (And.intro (Kd.R_alloc HR.out.1 (.cells #[.int .u8 (pk cs (P.first + k) % 4), .int .u64 (pk cs (P.first + k) / 4 % 1048576), .int .u64 (pk cs (P.first + k) / 4194304)] 86)) (HR.out.2.alloc HR.out.2.size (.cells #[.int .u8 (pk cs (P.first + k) % 4), .int .u64 (pk cs (P.first + k) / 4 % 1048576), .int .u64 (pk cs (P.first + k) / 4194304)] 86)))
      have hstep : Aside0 (lvL cs P.first (k + 1) = if pk cs (P.first + k) % 4 = 3 then lvL cs P.first k ++ [(k : Int) + 1 + 65536 * (pk cs (P.first + k) / 4 % 1048576)] else lvL cs P.first k) := ⟨rfl⟩
      clear x0 x1 x2 HR
      generalize pk cs (P.first + k) = x at B7 R7 hstep u0 u1 ⊢
      generalize wr.alloc (.cells #[.int .u8 (x % 4), .int .u64 (x / 4 % 1048576), .int .u64 (x / 4194304)] 86) = w7 at B7 R7 ⊢
      generalize wr.heap.size = b7 at B7 ⊢
      have y0 : w7.cell? ⟨b7, 0, none⟩ = some (.int .u8 (x % 4)) := (blk_cell B7.out 0).trans rfl
      have y1 : w7.cell? ⟨b7, 1, none⟩ = some (.int .u64 (x / 4 % 1048576)) := (blk_cell B7.out 1).trans rfl
      have hln := lvL_len cs P.first k
      by_cases hk3 : x % 4 = 3
      · rw [hk3] at y0
        rw [if_pos hk3] at hstep
        have gx0 : 0 ≤ x / 4 % 1048576 := by omega
        have gx1 : x / 4 % 1048576 < 1048576 := by omega
        have HH := Lib.hid (fun wx => Own.word_Handle.calls (k : Int) (x / 4 % 1048576) _ _ wx (handle_p k _ (by omega) (by omega) gx0 gx1))
        clear hk3 u0 u1
        generalize x / 4 % 1048576 = gg at y1 HH hstep gx0 gx1
        generalize hhv : (k : Int) + 1 + 65536 * gg = hv at HH hstep
        clear hhv gx0 gx1
        obtain ⟨j0, hi0, hz0, hz1, hz2⟩ := info_parts infoU64
        go_wp2_with (first
          | (go_at_call 29; refine (HH.out _).mono ?_; rintro e8 w8 ⟨rfl, h8⟩; have R8 := Aside0.mk (And.intro (Kd.own_of_R (Kd.R_below R7.out.1 h8.below)) (R7.out.2.trans (h8.below.mono R7.out.2.size))); clear h8)
          | (at_builtin; refine wpList_append_lies _ rfl (.tmp 31) (.tmp 33) 31 rfl w2.heap.size 29 j0 _ 1 8 Tryz.underlying31 hi0 hz0 hz1 hz2 rfl (by omega) (.slice A5 (lvL cs P.first k).length c5) (lvL cs P.first k).length _ (by rfl) (R8.out.1.alloc _) ⟨w8.heap.size, 0, none⟩ 1 1 [.int .u64 hv] (by rfl) (by rfl) (World.news_of_block (cs := #[.int .u64 hv]) (t := 29) (fr := (0, 0)) (heap_alloc_new w8 _)) (by simp [Value.oneCell']) (by omega) (by unfold maxLen; omega) (by omega) (by have := R8.out.2.size; simp; omega) (w8.heap.size + 1) (by simp) ?_; intro gb cp3 w9 hown1 hgrow hat hlt2; have R9 := Aside0.mk (And.intro hown1 (And.intro hgrow hat)); clear hown1 hgrow hat hlt2))
        have hne : ∀ j, j < w2.heap.size → some j ≠ (Value.slice A5 (lvL cs P.first k).length c5).ownBlock := fun j hj e => by
          have := Kd.R_base R7.out.1 j e.symm
          omega
        have hb9 : Below w2.heap.size w2 w9 := by
          obtain ⟨_, hg, _⟩ := R9.out
          exact (below_alloc R8.out.2 _).grown hg (by rw [World.size_alloc]; have := R8.out.2.size; omega) fun j hj => Nat.le_of_not_lt fun hlt => hne j hlt hj.symm
        have hr9 : RU w9 w2.heap.size (fun _ => True) (.slice (some ⟨gb, 0, none⟩) ((lvL cs P.first k).length + 1) cp3) (lvL cs P.first k ++ [hv]) := Kd.R_of_own (by rw [encs_append, List.length_append]; exact R9.out.1) fun _ _ => trivial
        have hlen : (lvL cs P.first (k + 1)).length = (lvL cs P.first k).length + 1 := by rw [hstep.out, List.length_append]; rfl
        exact ⟨⟨k + 1, some ⟨gb, 0, none⟩, cp3, hlt, by rw [hlen], by rfl, ⟨by rw [hlen, hstep.out]; exact hr9, hb9⟩⟩, by simp [intOf]; omega⟩
      · rw [if_neg hk3] at hstep
        have hk4 : (x % 4 != 3) = true := by simpa using hk3
        have R7' := R7
        go_wp2
        exact ⟨⟨k + 1, A5, c5, hlt, by rw [hstep.out], by rfl, ⟨by rw [hstep.out]; exact R7'.out.1, R7'.out.2⟩⟩, by simp [intOf]; omega⟩
    · obtain rfl : k = N := by omega
      have hge : ¬ (k : Int) < (k : Int) := by omega
      have hl12 := lvL_len cs P.first k
      have HSo := Lib.hid (sort_calls (fun _ => True) _ _ w2 wr HR.out.2 HR.out.1 (by omega) (fun _ => True) (fun _ _ _ _ _ => trivial) trivial)
      go_wp2_with (go_at_call 32; refine HSo.out.mono ?_; rintro e9 w9 ⟨rfl, h9, _⟩; have H9 := Aside0.mk h9; clear h9)
      go_ret
      exact ⟨⟨_, _, rfl⟩, H2.out.1.trans (H9.out.mono H2.out.1.size)⟩
end Go.Proofs.YtcbndfmbpojppaaGreat
