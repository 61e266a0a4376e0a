/- step.Runner's Pick, walked. No condition. -/
import Derived.Test.YtndgfpfcdppfgaaGreatDoorRunA
/- step.Runner's Pick, walked. No condition. -/
namespace Go.Proofs.YtndgfpfcdppfgaaGreatDoor
open Go.RowKit Go.Proofs.YtndgfpfcdppfgaaGreatDoorW.PrintWords Go.Proofs.YtndgfpfcdppfgaaGreatDoorW.PrintMore
set_option linter.unusedVariables false
set_option linter.unusedSimpArgs false
theorem infoEv : (Tryz.prog.info? 109).map (fun i => (i.zero, i.size, i.bytes)) = some (some (.agg #[.int .i64 0, .int .i64 0, .int .i64 0, .bool false]), 4, 32) := by kernel_rfl
def evC (st t k : Int) (r : Bool) : List Value := [.int .i64 st, .int .i64 t, .int .i64 k, .bool r]
section
variable {σ : Type} {bm : Nat} {V : PEnv σ bm} {w : World} {br bt T tcap : Nat} {pr : Nat → Option Addr} {cnt pcap vw pb : Nat → Nat} {pa : Nat → Nat → Nat} {s : σ} {X : Nat → Prop} {evv atv : Value} {R : RS}
/-- What a runner's own store keeps. -/
theorem kept_r (w : World) (br bt : Nat) (evv atv : Value) (i : Nat) (v : Value) : Kept (fun j => ¬ RBk br bt evv atv j) w (w.setCell ⟨br, i, none⟩ v) := (Kept.refl _ w).setCell (fun hn => hn (.inl rfl)) v
theorem kept_t (w : World) (br bt : Nat) (evv atv : Value) (i : Nat) (v : Value) : Kept (fun j => ¬ RBk br bt evv atv j) w (w.setCell ⟨bt, i, none⟩ v) := (Kept.refl _ w).setCell (fun hn => hn (.inr (.inl rfl))) v
theorem RE.st (h : RE V w br bt T tcap pr cnt pcap vw pb pa s X evv atv R) (k : Nat) : RE V (w.setCell ⟨br, 66, none⟩ (.int .i64 k)) br bt T tcap pr cnt pcap vw pb pa s X evv atv { R with st := k } :=
  h.own (h.rn.st_put k) (kept_r w br bt evv atv _ _) (fun j hj => .inl (.inr (.inr (.inl hj)))) (fun j hj => .inl (.inr (.inr (.inr hj))))
theorem RE.op (h : RE V w br bt T tcap pr cnt pcap vw pb pa s X evv atv R) {t : Nat} (ht : t < T) (b : Bool) (hb : b = true → R.at_ t < cnt t) : RE V (w.setCell ⟨bt, 3 * t + 2, none⟩ (.bool b)) br bt T tcap pr cnt pcap vw pb pa s X evv atv { R with op := upd R.op t b } :=
  h.own (h.rn.op_put ht b hb) (kept_t w br bt evv atv _ _) (fun j hj => .inl (.inr (.inr (.inl hj)))) (fun j hj => .inl (.inr (.inr (.inr hj))))
theorem RE.at (h : RE V w br bt T tcap pr cnt pcap vw pb pa s X evv atv R) {t : Nat} (ht : t < T) (k : Nat) (hk : k ≤ cnt t) (ho : R.op t = false) : RE V (w.setCell ⟨bt, 3 * t + 1, none⟩ (.int .i64 k)) br bt T tcap pr cnt pcap vw pb pa s X evv atv { R with at_ := upd R.at_ t k } :=
  h.own (h.rn.at_put ht k hk ho) (kept_t w br bt evv atv _ _) (fun j hj => .inl (.inr (.inr (.inl hj)))) (fun j hj => .inl (.inr (.inr (.inr hj))))
theorem RE.ev (h : RE V w br bt T tcap pr cnt pcap vw pb pa s X evv atv R) {W : World} {v1 : Value} {n : Nat} {l : List Value} (hg : w.grownBy W evv.ownBlock) (hown : W.ownsRow 0 109 4 v1 n l) (hat : v1.ownBlock = evv.ownBlock ∨ ∃ b, v1.ownBlock = some b ∧ w.heap.size ≤ b) :
    RE V (W.setCell ⟨br, 67, none⟩ v1) br bt T tcap pr cnt pcap vw pb pa s X v1 atv { R with nev := n, ev := l } ∧ Kept (fun j => ¬ RBk br bt evv atv j) w (W.setCell ⟨br, 67, none⟩ v1) ∧ (∀ j, RBk br bt v1 atv j → RBk br bt evv atv j ∨ w.heap.size ≤ j) := by
  obtain ⟨q1, q2⟩ := h.rn.ev_put hg hown hat
  have q3 : Kept (fun j => ¬ RBk br bt evv atv j) w (W.setCell ⟨br, 67, none⟩ v1) := q2.mono fun j _ hj hn => hj (hn.elim .inl fun e => .inr (.inr (.inl e)))
  have q4 : ∀ j, v1.ownBlock = some j → RBk br bt evv atv j ∨ w.heap.size ≤ j := fun j hj => by
    rcases hat with e | ⟨b, e, hb⟩
    · exact .inl (.inr (.inr (.inl (e ▸ hj))))
    · rw [e] at hj; injection hj with hj; exact .inr (by omega)
  refine ⟨h.own q1 q3 q4 (fun j hj => .inl (.inr (.inr (.inr hj)))), q3, fun j hj => ?_⟩
  rcases hj with e | e | e | e
  · exact .inl (.inl e)
  · exact .inl (.inr (.inl e))
  · exact q4 j e
  · exact .inl (.inr (.inr (.inr e)))
set_option maxHeartbeats 4000000 in
set_option maxRecDepth 100000 in
theorem pick_idle (h : RE V w br bt T tcap pr cnt pcap vw pb pa s X evv atv R) (hst : R.st ≤ 9223372036854775806) (t : Int) (hi : idle T cnt R t = true) :
    Calls Tryz.prog 24 #[.pointer (some ⟨br, 0, none⟩), .int .i64 t] w fun e w' => e = .returned (.bool false) ∧ RE V w' br bt T tcap pr cnt pcap vw pb pa s X evv atv { R with st := R.st + 1 } ∧ Kept (fun j => ¬ RBk br bt evv atv j) w w' := by
  have H1 := Aside0.mk (h.st (R.st + 1))
  have HK := Aside0.mk (kept_r w br bt evv atv 66 (.int .i64 ((R.st + 1 : Nat) : Int)))
  obtain ⟨c66, f66, _⟩ := h.rn.c66
  have HI := Lib.hid (idle_calls H1.out.rn t)
  rw [show idle T cnt ({ R with st := R.st + 1 } : RS) t = true from hi] at HI
  rw [Int.natCast_add, Int.natCast_one] at H1 HK HI
  clear h hi
  go_enter Tryz.func24, Tryz.ntmps24
  go_wp2_with (go_at_call 31; refine HI.out.mono ?_; rintro e2 w2 ⟨rfl, h2⟩; have H2 := Aside0.mk h2; clear h2)
  go_ret
  exact ⟨rfl, H1.out.below H2.out.below, HK.out.trans (Kept.of_below H2.out.below)⟩
end
/-- What a pick of a thread that isn't idle leaves. -/
def pickR (R : RS) (t a b : Nat) (done : Bool) : RS :=
  { at_ := if done = true then upd R.at_ t (R.at_ t + 1) else R.at_, op := upd R.op t (!done), st := R.st + 1,
    nev := R.nev + (if R.op t = true then 0 else 1) + (if done = true then 1 else 0),
    ev := (if R.op t = true then R.ev else R.ev ++ evC R.st t (R.at_ t) false) ++ (if done = true then evC R.st t (R.at_ t) true else []),
    ats := noteA R.ats a b R.st }
/-- From w to w' only what O holds is written; what O' holds was O's or is new. -/
structure Stp (O : Nat → Prop) (w : World) (O' : Nat → Prop) (w' : World) : Prop where
  k : Kept (fun j => ¬ O j) w w'
  o : ∀ j, O' j → O j ∨ w.heap.size ≤ j
theorem Stp.refl (O : Nat → Prop) (w : World) : Stp O w O w := ⟨Kept.refl _ w, fun j hj => .inl hj⟩
theorem Stp.trans {O O' O'' : Nat → Prop} {w w' w'' : World} (h : Stp O w O' w') (k : Stp O' w' O'' w'') : Stp O w O'' w'' := by
  have hs := h.k.size
  refine ⟨⟨k.k.os.trans h.k.os, k.k.tape.trans h.k.tape, k.k.output.trans h.k.output, Nat.le_trans h.k.size k.k.size, fun j hj hl => (k.k.block j (fun e => ?_) (by omega)).trans (h.k.block j hj hl)⟩, fun j hj => ?_⟩
  · rcases h.o j e with e2 | e2
    · exact hj e2
    · omega
  · rcases k.o j hj with e | e
    · exact h.o j e
    · exact .inr (by omega)
theorem Stp.drew {O O' : Nat → Prop} {w w' : World} (h : Stp O w O' w') : Stp O w O' w'.drew := ⟨h.k.drew, h.o⟩
/-- What the runner and the procs' things hold. -/
def OX (X : Nat → Prop) (br bt : Nat) (evv atv : Value) (j : Nat) : Prop := X j ∨ RBk br bt evv atv j
theorem Stp.runs {X : Nat → Prop} {br bt : Nat} {evv atv evv' atv' : Value} {w w' : World} (hk : Kept (fun j => ¬ RBk br bt evv atv j) w w') (ho : ∀ j, RBk br bt evv' atv' j → RBk br bt evv atv j ∨ w.heap.size ≤ j) : Stp (OX X br bt evv atv) w (OX X br bt evv' atv') w' :=
  ⟨hk.mono fun j _ hj hn => hj (.inr hn), fun j hj => hj.elim (fun e => .inl (.inl e)) fun e => (ho j e).imp .inr id⟩
theorem Stp.own {X : Nat → Prop} {br bt : Nat} {evv atv : Value} {w w' : World} (hk : Kept (fun j => ¬ RBk br bt evv atv j) w w') : Stp (OX X br bt evv atv) w (OX X br bt evv atv) w' := Stp.runs hk fun j hj => .inl hj
theorem Stp.procs {X X' : Nat → Prop} {br bt : Nat} {evv atv : Value} {w w' : World} (hk : Kept (fun j => ¬ X j) w w') (ho : ∀ j, X' j → X j ∨ w.heap.size ≤ j) : Stp (OX X br bt evv atv) w (OX X' br bt evv atv) w' :=
  ⟨hk.mono fun j _ hj hn => hj (.inl hn), fun j hj => hj.elim (fun e => (ho j e).imp .inl id) fun e => .inl (.inr e)⟩
theorem gather {α : Type} {P : α → Prop} {G : Prop} {F : α} (h : P F → G) (r : P F) : G := h r
theorem upd_upd {α : Type} (f : Nat → α) (t : Nat) (x y : α) : upd (upd f t x) t y = upd f t y := by
  funext i; unfold upd; split <;> rfl
theorem upd_id {α : Type} (f : Nat → α) (t : Nat) : upd f t (f t) = f := by
  funext i; unfold upd; split
  · rename_i e; rw [e]
  · rfl
section
variable {σ : Type} {bm : Nat} {V : PEnv σ bm} {w : World} {br bt T tcap : Nat} {pr : Nat → Option Addr} {cnt pcap vw pb : Nat → Nat} {pa : Nat → Nat → Nat} {s : σ} {X : Nat → Prop} {evv atv : Value} {R : RS}
theorem RE.note (h : RE V w br bt T tcap pr cnt pcap vw pb pa s X evv atv R) {W : World} {atv' : Value} {R' : RS} (hr : Rn W br bt bm T tcap pr cnt pcap vw evv atv' R') (hk : Kept (NB br atv.ownBlock) w W) (ha : ∀ j, atv'.ownBlock = some j → atv.ownBlock = some j ∨ w.heap.size ≤ j) :
    RE V W br bt T tcap pr cnt pcap vw pb pa s X evv atv' R' ∧ Stp (OX X br bt evv atv) w (OX X br bt evv atv') W := by
  have hk' : Kept (fun j => ¬ RBk br bt evv atv j) w W := hk.mono fun j _ hj hn => hj (hn.elim .inl fun e => .inr (.inr (.inr e)))
  have ha' : ∀ j, atv'.ownBlock = some j → RBk br bt evv atv j ∨ w.heap.size ≤ j := fun j hj => (ha j hj).imp (fun e => .inr (.inr (.inr e))) id
  refine ⟨h.own hr hk' (fun j hj => .inl (.inr (.inr (.inl hj)))) ha', Stp.runs hk' fun j hj => ?_⟩
  rcases hj with e | e | e | e
  · exact .inl (.inl e)
  · exact .inl (.inr (.inl e))
  · exact .inl (.inr (.inr (.inl e)))
  · exact ha' j e
theorem meth_tp (a : Addr) (w : World) : (method 352 37 (.pointer (some a)) "Step").run Tryz.prog w = .ok (127, .pointer (some a)) w := by kernel_rfl
theorem nil_tp (a : Addr) (w : World) : (nilAhead 352 37 (.pointer (some a)) "Step").run Tryz.prog w = .ok (some false) w := by kernel_rfl
set_option maxHeartbeats 8000000 in
set_option maxRecDepth 100000 in
theorem pick_go (h : RE V w br bt T tcap pr cnt pcap vw pb pa s X evv atv R) (hst : R.st ≤ 9223372036854775806) (hnev : R.nev ≤ 68719476736) (hats : R.ats.length ≤ 68719476736) (t : Nat) (ht : t < T) (hc : R.at_ t < cnt t) (St : Bool → σ → Prop)
    (hstep : ∀ wx, V.E s X wx → Calls Tryz.prog 127 #[.pointer (some ⟨pa t (R.at_ t), 0, none⟩), .pointer (some ⟨vw t, 0, none⟩)] wx fun e w' => ∃ done s' X', St done s' ∧ e = .returned (.bool done) ∧ V.E s' X' w' ∧ Kept (fun j => ¬ X j) wx w' ∧ (∀ j, X' j → X j ∨ wx.heap.size ≤ j)) :
    Calls Tryz.prog 24 #[.pointer (some ⟨br, 0, none⟩), .int .i64 t] w fun e w' => ∃ done s' X' evv' atv', St done s' ∧ e = .returned (.bool true) ∧ RE V w' br bt T tcap pr cnt pcap vw pb pa s' X' evv' atv' (pickR R t (V.made s) (V.made s') done) ∧
      Stp (OX X br bt evv atv) w (OX X' br bt evv' atv') w' := by
  have H1 := Aside0.mk (h.st (R.st + 1))
  have HK := Aside0.mk (kept_r w br bt evv atv 66 (.int .i64 ((R.st + 1 : Nat) : Int)))
  obtain ⟨c66, f66, _⟩ := h.rn.c66
  have HI := Lib.hid (idle_calls H1.out.rn (t : Int))
  have hid : idle T cnt ({ R with st := R.st + 1 } : RS) (t : Int) = false := by
    unfold idle
    rw [decide_eq_false (by omega), decide_eq_false (by omega), Int.toNat_natCast, decide_eq_false (show ¬ cnt t ≤ R.at_ t by omega)]
    rfl
  rw [hid] at HI
  rw [Int.natCast_add, Int.natCast_one] at H1 HK HI
  have HST := Lib.hid hstep
  have h64 := h.rn.T64
  have hmeth := meth_tp
  have hnil := nil_tp
  have e3 : t * 3 = 3 * t := by omega
  have htT : (t : Int) < (T : Int) := by omega
  clear h hid hstep
  go_enter Tryz.func24, Tryz.ntmps24
  go_upto_region 7 with (go_at_call 31; refine HI.out.mono ?_; rintro e2 w2 ⟨rfl, h2⟩; have H2 := Aside0.mk (H1.out.below h2.below); have HK2 := Aside0.mk (HK.out.trans (Kept.of_below h2.below)); clear h2)
  clear HI H1 HK c66 f66
  have c1 := H2.out.rn.c1' (by omega)
  obtain ⟨a0, a1, a2⟩ := H2.out.rn.tt ht
  have f2 := H2.out.rn.tfrozen (by omega) (3 * t + 2)
  cases hop : R.op t with
  | false =>
    rw [show ({ R with st := R.st + 1 } : RS).op t = false from hop] at a2
    go_upto_region 10 with fail
    have H3 := Aside0.mk (show RE V _ br bt T tcap pr cnt pcap vw pb pa s X evv atv ⟨R.at_, upd R.op t true, R.st + 1, R.nev, R.ev, R.ats⟩ from H2.out.op ht true (fun _ => hc))
    have HK3 := Aside0.mk (Stp.own (X := X) (HK2.out.trans (kept_t w2 br bt evv atv (3 * t + 2) (.bool true))))
    clear c1 a0 a1 a2 f2 H2 HK2
    generalize w2.setCell ⟨bt, 3 * t + 2, none⟩ (.bool true) = w3 at H3 HK3 ⊢
    rename_i KK hKK
    obtain ⟨A1, c1, hev1⟩ : ∃ A c, evv = .slice A (R.nev) c := own_slice H3.out.rn.e
    subst hev1
    have q1 : w3.cell? ⟨bt, 3 * t + 1, none⟩ = some (.int .i64 (R.at_ t)) := (H3.out.rn.tt ht).2.1
    obtain ⟨q2, q3⟩ := H3.out.rn.c67
    have lb1 := H3.out.rn.brlt
    have em1 := H3.out.rn.br_ev
    have lt1 := H3.out.btl
    have HE1 : Aside0 (w3.ownsRow 0 109 4 (.slice A1 (R.nev) c1) (R.nev) (R.ev)) := ⟨H3.out.rn.e⟩
    obtain ⟨i1, hi1, hx0, hx1, hx2⟩ := info_parts infoEv
    apply gather (P := fun F : Nat → Nat → Act => ∀ gg cap wq, wq.ownsRow 0 109 4 (.slice (some ⟨gg, 0, none⟩) (R.nev + 1) cap) (R.nev + 1) (R.ev ++ evC R.st t (R.at_ t) false) → (w3.alloc (.cells (evC R.st t (R.at_ t) false).toArray 109)).drew.grownBy wq (Value.slice A1 (R.nev) c1).ownBlock → ((Value.slice A1 (R.nev) c1).ownBlock = some gg ∨ gg = w3.heap.size + 1) → KK (F gg cap) (wq.setCell ⟨br, 67, none⟩ (.slice (some ⟨gg, 0, none⟩) (R.nev + 1) cap)))
    · intro REST
      go_region_law ((refine step_append_lies _ (by rfl) _ _ _ (by rfl) 0 109 i1 _ 4 32 Tryz.underlying46 hi1 hx0 hx1 hx2 rfl (by omega) (.slice A1 (R.nev) c1) (R.nev) (R.ev) (by rfl) ((HE1.out.alloc _).drew) ⟨w3.heap.size, 0, none⟩ 1 1 (evC R.st t (R.at_ t) false) (by rfl) (by rfl) (World.news_of_block (cs := (evC R.st t (R.at_ t) false).toArray) (t := 109) (fr := (0, 0)) (heap_alloc_new w3 _)) (by simp [evC, Value.oneCell']) (by omega) (by unfold maxLen; omega) (by omega) (Nat.zero_le _) (w3.heap.size + 1) (by simp) ?_; intro gg cap wq hown1 hgrow hat hlt; have fm2 : wq.frozen? ⟨br, 67, none⟩ = false := (hgrow.frozen_far _ (by simp; omega) (Ne.symm em1)).trans ((World.frozen?_alloc_past _ _ _ lb1).trans q3); have cm2 := (hgrow.cell_far _ (by simp; omega) (Ne.symm em1)).trans ((World.cell?_alloc_past _ _ _ lb1).trans q2)))
      all_goals exact REST _ _ _ hown1 hgrow hat
    intro gg1 cap1 wq hown hgrow hat
    have HG := H3.out.ev (v1 := .slice (some ⟨gg1, 0, none⟩) (R.nev + 1) cap1) ((World.grownBy_alloc w3 _ _).trans (⟨hgrow.os, hgrow.tape, hgrow.output, hgrow.size, hgrow.block⟩ : World.grownBy (w3.alloc (.cells (evC R.st t (R.at_ t) false).toArray 109)) wq _)) hown (hat.imp (fun e => e.symm) fun e => ⟨gg1, rfl, by omega⟩)
    refine hKK _ _ ?_
    clear hKK KK
    have H4 := Aside0.mk (show RE V _ br bt T tcap pr cnt pcap vw pb pa s X (.slice (some ⟨gg1, 0, none⟩) (R.nev + 1) cap1) atv ⟨R.at_, upd R.op t true, R.st + 1, R.nev + 1, R.ev ++ evC R.st t (R.at_ t) false, R.ats⟩ from HG.1)
    have HK4 := Aside0.mk (HK3.out.trans (Stp.runs (X := X) HG.2.1 HG.2.2))
    clear HG hown hgrow hat q1 q2 q3 HE1 hi1 hx0 hx1 hx2
    generalize wq.setCell ⟨br, 67, none⟩ (.slice (some ⟨gg1, 0, none⟩) (R.nev + 1) cap1) = w4 at H4 HK4 ⊢
    generalize hvv1 : (Value.slice (some ⟨gg1, 0, none⟩) (R.nev + 1) cap1) = vv1 at H4 HK4
    clear hvv1
    obtain ⟨_, _, d0⟩ := H4.out.rn.c66
    have HM := Lib.hid (V.made_calls H4.out.e)
    go_upto_region 12 with (go_at_call 32; refine HM.out.mono ?_; rintro e5 w5 ⟨rfl, h5⟩; have h5 := h5)
    subst h5
    clear d0 HM
    have hma := V.made_le H4.out.e
    have hc0 : 0 < cnt t := by omega
    obtain ⟨u0, u1, u2⟩ := H4.out.rn.tt ht
    obtain ⟨p0, p1, pcs, p2, p3⟩ := H4.out.pc t ht hc0
    have p4 := p2.cell (p3 _ hc)
    have p5 : (R.at_ t : Int) < (cnt t : Int) := by omega
    rw [p0] at u0
    
    go_region
    have H5 := Aside0.mk (H4.out.below ((Below.refl _ _).drew))
    have hS : (fun w' : World => w'.cell? ⟨br, 2 + t, none⟩ = some (.pointer (some ⟨vw t, 0, none⟩))) w5.drew := H5.out.rn.cvw ht
    have H6 := Aside0.mk (H5.out.below ((Below.refl _ _).drew))
    have HK6 := Aside0.mk HK4.out.drew.drew
    have HS := Lib.hid (HST.out _ H6.out.e)
    have ht64 : (t : Int) < 64 := by omega
    go_upto_region 13 with fail
    refine wp_region_held_drew (S := fun w' => (fun w' : World => w'.cell? ⟨br, 2 + t, none⟩ = some (.pointer (some ⟨vw t, 0, none⟩))) w') (by kernel_rfl) (by assumption) (fun hHeld => ?_)
    refine wpAnyH_take (i := 0) (v := ?vvr0) rfl (by kernel_rfl) (by kernel_rfl) (by kernel_rfl) (fun _ _ _ h => h) (Or.inl ⟨by rfl, ?hyr0⟩) (by assumption) ?restr0
    case hyr0 =>
      intro wq hSw
      go_simp
      try with_reducible rfl
    simp only [Act.put, List.getElem_toArray, List.getElem_cons_succ, List.getElem_cons_zero, List.setIfInBounds_toArray, List.set_cons_zero, List.set_cons_succ]
    refine wpAnyH_take (i := 1) (v := ?vvr1) rfl (by kernel_rfl) (by kernel_rfl) (by kernel_rfl) (fun _ _ _ h => h) (Or.inl ⟨by rfl, ?hyr1⟩) (by assumption) ?restr1
    case hyr1 =>
      intro wq hSw
      go_simp
      try with_reducible rfl
    simp only [Act.put, List.getElem_toArray, List.getElem_cons_succ, List.getElem_cons_zero, List.setIfInBounds_toArray, List.set_cons_zero, List.set_cons_succ]
    refine wpAnyH_take (i := 2) (v := ?vvr2) rfl (by kernel_rfl) (by kernel_rfl) (by kernel_rfl) (fun _ _ _ h => h) (Or.inl ⟨by rfl, ?hyr2⟩) (by assumption) ?restr2
    case hyr2 =>
      intro wq hSw
      go_simp
      try with_reducible rfl
    simp only [Act.put, List.getElem_toArray, List.getElem_cons_succ, List.getElem_cons_zero, List.setIfInBounds_toArray, List.set_cons_zero, List.set_cons_succ]
    refine wpAnyH_take (i := 3) (v := ?vvr3) rfl (by kernel_rfl) (by kernel_rfl) (by kernel_rfl) (fun _ _ _ h => h) (Or.inl ⟨by rfl, ?hyr3⟩) (by assumption) ?restr3
    case hyr3 =>
      intro wq hSw
      go_simp
      try with_reducible rfl
    simp only [Act.put, List.getElem_toArray, List.getElem_cons_succ, List.getElem_cons_zero, List.setIfInBounds_toArray, List.set_cons_zero, List.set_cons_succ]
    refine wpAnyH_take (i := 4) (v := ?vvr4) rfl (by kernel_rfl) (by kernel_rfl) (by kernel_rfl) (fun _ _ _ h => h) (Or.inl ⟨by rfl, ?hyr4⟩) (by assumption) ?restr4
    case hyr4 =>
      intro wq hSw
      go_simp
      try with_reducible rfl
    simp only [Act.put, List.getElem_toArray, List.getElem_cons_succ, List.getElem_cons_zero, List.setIfInBounds_toArray, List.set_cons_zero, List.set_cons_succ]
    refine wpAnyH_take (i := 5) (v := ?vvr5) rfl (by kernel_rfl) (by kernel_rfl) (by kernel_rfl) (fun _ _ _ h => h) (Or.inl ⟨by rfl, ?hyr5⟩) (by assumption) ?restr5
    case hyr5 =>
      intro wq hSw
      go_simp
      try with_reducible rfl
    simp only [Act.put, List.getElem_toArray, List.getElem_cons_succ, List.getElem_cons_zero, List.setIfInBounds_toArray, List.set_cons_zero, List.set_cons_succ]
    refine wpAnyH_take (i := 6) (v := ?vvr6) rfl (by kernel_rfl) (by kernel_rfl) (by kernel_rfl) (fun _ _ _ h => h) (Or.inl ⟨by rfl, ?hyr6⟩) (by assumption) ?restr6
    case hyr6 =>
      intro wq hSw
      go_simp
      try with_reducible rfl
    simp only [Act.put, List.getElem_toArray, List.getElem_cons_succ, List.getElem_cons_zero, List.setIfInBounds_toArray, List.set_cons_zero, List.set_cons_succ]
    refine wpAnyH_take (i := 7) (v := ?vvr7) rfl (by kernel_rfl) (by kernel_rfl) (by kernel_rfl) (fun _ _ _ h => h) (Or.inl ⟨by rfl, ?hyr7⟩) (by assumption) ?restr7
    case hyr7 =>
      intro wq hSw
      go_simp
      try with_reducible rfl
    simp only [Act.put, List.getElem_toArray, List.getElem_cons_succ, List.getElem_cons_zero, List.setIfInBounds_toArray, List.set_cons_zero, List.set_cons_succ]
    refine wpAnyH_take (i := 8) (v := ?vvr8) rfl (by kernel_rfl) (by kernel_rfl) (by kernel_rfl) (fun _ _ _ h => h) (Or.inl ⟨by rfl, ?hyr8⟩) (by assumption) ?restr8
    case hyr8 =>
      intro wq hSw
      go_simp
      try with_reducible rfl
    simp only [Act.put, List.getElem_toArray, List.getElem_cons_succ, List.getElem_cons_zero, List.setIfInBounds_toArray, List.set_cons_zero, List.set_cons_succ]
    refine wpAnyH_take (i := 9) (v := ?vvr9) rfl (by kernel_rfl) (by kernel_rfl) (by kernel_rfl) (fun _ _ _ h => h) (Or.inl ⟨by rfl, ?hyr9⟩) (by assumption) ?restr9
    case hyr9 =>
      intro wq hSw
      go_simp
      try with_reducible rfl
    simp only [Act.put, List.getElem_toArray, List.getElem_cons_succ, List.getElem_cons_zero, List.setIfInBounds_toArray, List.set_cons_zero, List.set_cons_succ]
    refine wpAnyH_take (i := 10) (v := ?vvr10) rfl (by kernel_rfl) (by kernel_rfl) (by kernel_rfl) (fun _ _ _ h => h) (Or.inl ⟨by rfl, ?hyr10⟩) (by assumption) ?restr10
    case hyr10 =>
      intro wq hSw
      go_simp
      try with_reducible rfl
    simp only [Act.put, List.getElem_toArray, List.getElem_cons_succ, List.getElem_cons_zero, List.setIfInBounds_toArray, List.set_cons_zero, List.set_cons_succ]
    refine wpAnyH_take (i := 11) (v := ?vvr11) rfl (by kernel_rfl) (by kernel_rfl) (by kernel_rfl) (fun _ _ _ h => h) (Or.inl ⟨by rfl, ?hyr11⟩) (by assumption) ?restr11
    case hyr11 =>
      intro wq hSw
      go_simp
      try with_reducible rfl
    simp only [Act.put, List.getElem_toArray, List.getElem_cons_succ, List.getElem_cons_zero, List.setIfInBounds_toArray, List.set_cons_zero, List.set_cons_succ]
    refine wpAnyH_take (i := 12) (v := ?vvr12) rfl (by kernel_rfl) (by kernel_rfl) (by kernel_rfl) (fun _ _ _ h => h) (Or.inl ⟨by rfl, ?hyr12⟩) (by assumption) ?restr12
    case hyr12 =>
      intro wq hSw
      go_simp
      try with_reducible rfl
    simp only [Act.put, List.getElem_toArray, List.getElem_cons_succ, List.getElem_cons_zero, List.setIfInBounds_toArray, List.set_cons_zero, List.set_cons_succ]
    refine wpAnyH_ready (rs := [13]) (by kernel_rfl) (by simp) ?_
    refine AllReadyH.cons rfl (fun K hK => ?_) AllReadyH.nil
    rw [if_pos (by rfl)]
    simp only [List.getElem_toArray, List.getElem_cons_succ, List.getElem_cons_zero]
    go_simp
    refine HS.out.mono ?_
    rintro e6 w6 ⟨done, s', X', hSt, rfl, hE, hk6, hX⟩
    have H7 := Aside0.mk (H6.out.env hE hk6 hX)
    have HK7 := Aside0.mk (HK6.out.trans (Stp.procs hk6 hX))
    have hS7 : (fun w' : World => w'.cell? ⟨br, 2 + t, none⟩ = some (.pointer (some ⟨vw t, 0, none⟩))) w6 := H7.out.rn.cvw ht
    clear hE hk6 hX
    try go_wp2_with fail
    refine hK.out _ _ (by assumption) (fun hHeld => ?_)
    clear hK K
    try simp only [Act.put, List.getElem_toArray, List.getElem_cons_succ, List.getElem_cons_zero, List.setIfInBounds_toArray, List.set_cons_zero, List.set_cons_succ]
    refine wpAnyH_take (i := 14) (v := ?vvr14) rfl (by kernel_rfl) (by kernel_rfl) (by kernel_rfl) (fun _ _ _ h => h) (Or.inl ⟨by rfl, ?hyr14⟩) (by assumption) ?restr14
    case hyr14 =>
      intro wq hSw
      go_simp
      try with_reducible rfl
    simp only [Act.put, List.getElem_toArray, List.getElem_cons_succ, List.getElem_cons_zero, List.setIfInBounds_toArray, List.set_cons_zero, List.set_cons_succ]
    refine wpAnyH_done (by kernel_rfl) ?_ _
    
    clear hHeld hS7 hS H6 HK6 H5 H4 HK4 HS u0 u1 u2 p0 p1 p2 p3 p4 p5
    cases done with
    | false =>
      go_upto_region 17 with fail
      obtain ⟨_, _, d0⟩ := H7.out.rn.c66
      have HM := Lib.hid (V.made_calls H7.out.e)
      have HT := Lib.hid (rnote_calls H7.out.rn (V.made s) (V.made s') R.st hma (V.made_le H7.out.e) hats)
      go_wp2_with (first
        | (go_at_call 32; refine HM.out.mono ?_; rintro e18 w18 ⟨rfl, h18⟩; subst h18)
        | (go_at_call 33; refine HT.out.mono ?_; rintro e19 w19 ⟨rfl, atv', g1, g2, g3⟩; have H19 := Aside0.mk (H7.out.note g1 g2 g3); clear g1 g2 g3))
      go_ret
      refine ⟨false, s', X', _, atv', hSt, rfl, ?_, HK7.out.trans H19.out.2⟩
      rw [show pickR R t (V.made s) (V.made s') false = ⟨R.at_, upd R.op t true, R.st + 1, R.nev + 1, R.ev ++ evC R.st t (R.at_ t) false, noteA R.ats (V.made s) (V.made s') R.st⟩ from by simp [pickR, hop]]
      exact H19.out.1
    | true =>
      go_upto_region 14 with fail
      rename_i KK hKK
      obtain ⟨A2, c2, hev2⟩ : ∃ A c, vv1 = .slice A (R.nev + 1) c := own_slice H7.out.rn.e
      subst hev2
      have q1 : w6.cell? ⟨bt, 3 * t + 1, none⟩ = some (.int .i64 (R.at_ t)) := (H7.out.rn.tt ht).2.1
      obtain ⟨q2, q3⟩ := H7.out.rn.c67
      have lb2 := H7.out.rn.brlt
      have em2 := H7.out.rn.br_ev
      have lt2 := H7.out.btl
      have HE2 : Aside0 (w6.ownsRow 0 109 4 (.slice A2 (R.nev + 1) c2) (R.nev + 1) (R.ev ++ evC R.st t (R.at_ t) false)) := ⟨H7.out.rn.e⟩
      obtain ⟨i2, hi2, hx0, hx1, hx2⟩ := info_parts infoEv
      apply gather (P := fun F : Nat → Nat → Act => ∀ gg cap wq, wq.ownsRow 0 109 4 (.slice (some ⟨gg, 0, none⟩) (R.nev + 1 + 1) cap) (R.nev + 1 + 1) (R.ev ++ evC R.st t (R.at_ t) false ++ evC R.st t (R.at_ t) true) → (w6.alloc (.cells (evC R.st t (R.at_ t) true).toArray 109)).drew.grownBy wq (Value.slice A2 (R.nev + 1) c2).ownBlock → ((Value.slice A2 (R.nev + 1) c2).ownBlock = some gg ∨ gg = w6.heap.size + 1) → KK (F gg cap) (wq.setCell ⟨br, 67, none⟩ (.slice (some ⟨gg, 0, none⟩) (R.nev + 1 + 1) cap)))
      · intro REST
        go_region_law ((refine step_append_lies _ (by rfl) _ _ _ (by rfl) 0 109 i2 _ 4 32 Tryz.underlying46 hi2 hx0 hx1 hx2 rfl (by omega) (.slice A2 (R.nev + 1) c2) (R.nev + 1) (R.ev ++ evC R.st t (R.at_ t) false) (by rfl) ((HE2.out.alloc _).drew) ⟨w6.heap.size, 0, none⟩ 1 1 (evC R.st t (R.at_ t) true) (by rfl) (by rfl) (World.news_of_block (cs := (evC R.st t (R.at_ t) true).toArray) (t := 109) (fr := (0, 0)) (heap_alloc_new w6 _)) (by simp [evC, Value.oneCell']) (by omega) (by unfold maxLen; omega) (by omega) (Nat.zero_le _) (w6.heap.size + 1) (by simp) ?_; intro gg cap wq hown1 hgrow hat hlt; have fm2 : wq.frozen? ⟨br, 67, none⟩ = false := (hgrow.frozen_far _ (by simp; omega) (Ne.symm em2)).trans ((World.frozen?_alloc_past _ _ _ lb2).trans q3); have cm2 := (hgrow.cell_far _ (by simp; omega) (Ne.symm em2)).trans ((World.cell?_alloc_past _ _ _ lb2).trans q2)))
        all_goals exact REST _ _ _ hown1 hgrow hat
      intro gg2 cap2 wq hown hgrow hat
      have HG := H7.out.ev (v1 := .slice (some ⟨gg2, 0, none⟩) (R.nev + 1 + 1) cap2) ((World.grownBy_alloc w6 _ _).trans (⟨hgrow.os, hgrow.tape, hgrow.output, hgrow.size, hgrow.block⟩ : World.grownBy (w6.alloc (.cells (evC R.st t (R.at_ t) true).toArray 109)) wq _)) hown (hat.imp (fun e => e.symm) fun e => ⟨gg2, rfl, by omega⟩)
      refine hKK _ _ ?_
      clear hKK KK
      have H8 := Aside0.mk (show RE V _ br bt T tcap pr cnt pcap vw pb pa s' X' (.slice (some ⟨gg2, 0, none⟩) (R.nev + 1 + 1) cap2) atv ⟨R.at_, upd R.op t true, R.st + 1, R.nev + 1 + 1, R.ev ++ evC R.st t (R.at_ t) false ++ evC R.st t (R.at_ t) true, R.ats⟩ from HG.1)
      have HK8 := Aside0.mk (HK7.out.trans (Stp.runs (X := X') HG.2.1 HG.2.2))
      clear HG hown hgrow hat q1 q2 q3 HE2 hi2 hx0 hx1 hx2
      generalize wq.setCell ⟨br, 67, none⟩ (.slice (some ⟨gg2, 0, none⟩) (R.nev + 1 + 1) cap2) = w8 at H8 HK8 ⊢
      generalize hvv2 : (Value.slice (some ⟨gg2, 0, none⟩) (R.nev + 1 + 1) cap2) = vv2 at H8 HK8
      clear hvv2
      have u1 := (H8.out.rn.tt ht).2.1
      have u2 := (H8.out.rn.tt ht).2.2
      rw [show (⟨R.at_, upd R.op t true, R.st + 1, R.nev + 1 + 1, R.ev ++ evC R.st t (R.at_ t) false ++ evC R.st t (R.at_ t) true, R.ats⟩ : RS).op t = true from upd_same _ _ _] at u2
      have f2 := H8.out.rn.tfrozen (by omega) (3 * t + 2)
      go_upto_region 16 with fail
      have H9 := Aside0.mk (show RE V _ br bt T tcap pr cnt pcap vw pb pa s' X' vv2 atv ⟨R.at_, upd R.op t false, R.st + 1, R.nev + 1 + 1, R.ev ++ evC R.st t (R.at_ t) false ++ evC R.st t (R.at_ t) true, R.ats⟩ from (by rw [show upd R.op t false = upd (upd R.op t true) t false from (upd_upd R.op t true false).symm]; exact H8.out.op ht false (fun e => by cases e)))
      have HK9 := Aside0.mk (HK8.out.trans (Stp.own (X := X') (kept_t w8 br bt vv2 atv (3 * t + 2) (.bool false))))
      clear u1 u2 f2 H8 HK8
      generalize w8.setCell ⟨bt, 3 * t + 2, none⟩ (.bool false) = w9 at H9 HK9 ⊢
      have u1 : w9.cell? ⟨bt, 3 * t + 1, none⟩ = some (.int .i64 (R.at_ t)) := (H9.out.rn.tt ht).2.1
      have f1 := H9.out.rn.tfrozen (by omega) (3 * t + 1)
      have b1 : R.at_ t < 4096 := Nat.lt_of_lt_of_le hc (H9.out.rn.c t ht).2.1
      go_upto_region 17 with fail
      have HA := H9.out.at ht (R.at_ t + 1) hc (upd_same _ _ _)
      have HB := HK9.out.trans (Stp.own (X := X') (kept_t w9 br bt vv2 atv (3 * t + 1) (.int .i64 ((R.at_ t + 1 : Nat) : Int))))
      rw [Int.natCast_add, Int.natCast_one] at HA HB
      have H10 := Aside0.mk (show RE V _ br bt T tcap pr cnt pcap vw pb pa s' X' vv2 atv ⟨upd R.at_ t (R.at_ t + 1), upd R.op t false, R.st + 1, R.nev + 1 + 1, R.ev ++ evC R.st t (R.at_ t) false ++ evC R.st t (R.at_ t) true, R.ats⟩ from HA)
      have HK10 := Aside0.mk HB
      clear HA HB u1 f1 b1 H9 HK9
      generalize w9.setCell ⟨bt, 3 * t + 1, none⟩ (.int .i64 ((R.at_ t : Int) + 1)) = w10 at H10 HK10 ⊢
      obtain ⟨_, _, d0⟩ := H10.out.rn.c66
      have HM := Lib.hid (V.made_calls H10.out.e)
      have HT := Lib.hid (rnote_calls H10.out.rn (V.made s) (V.made s') R.st hma (V.made_le H10.out.e) hats)
      go_wp2_with (first
        | (go_at_call 32; refine HM.out.mono ?_; rintro e18 w18 ⟨rfl, h18⟩; subst h18)
        | (go_at_call 33; refine HT.out.mono ?_; rintro e19 w19 ⟨rfl, atv', g1, g2, g3⟩; have H19 := Aside0.mk (H10.out.note g1 g2 g3); clear g1 g2 g3))
      go_ret
      refine ⟨true, s', X', _, atv', hSt, rfl, ?_, HK10.out.trans H19.out.2⟩
      rw [show pickR R t (V.made s) (V.made s') true = ⟨upd R.at_ t (R.at_ t + 1), upd R.op t false, R.st + 1, R.nev + 1 + 1, R.ev ++ evC R.st t (R.at_ t) false ++ evC R.st t (R.at_ t) true, noteA R.ats (V.made s) (V.made s') R.st⟩ from by simp [pickR, hop]]
      exact H19.out.1
  | true =>
    rw [show ({ R with st := R.st + 1 } : RS).op t = true from hop] at a2
    go_upto_region 11 with fail
    have H4 := Aside0.mk (show RE V w2 br bt T tcap pr cnt pcap vw pb pa s X evv atv ⟨R.at_, upd R.op t true, R.st + 1, R.nev, R.ev, R.ats⟩ from (by rw [show upd R.op t true = R.op from hop ▸ upd_id R.op t]; exact H2.out))
    have HK4 := Aside0.mk (Stp.own (X := X) HK2.out)
    clear c1 a0 a1 a2 f2 H2 HK2
    obtain ⟨_, _, d0⟩ := H4.out.rn.c66
    have HM := Lib.hid (V.made_calls H4.out.e)
    go_upto_region 12 with (go_at_call 32; refine HM.out.mono ?_; rintro e5 w5 ⟨rfl, h5⟩; have h5 := h5)
    subst h5
    clear d0 HM
    have hma := V.made_le H4.out.e
    have hc0 : 0 < cnt t := by omega
    obtain ⟨u0, u1, u2⟩ := H4.out.rn.tt ht
    obtain ⟨p0, p1, pcs, p2, p3⟩ := H4.out.pc t ht hc0
    have p4 := p2.cell (p3 _ hc)
    have p5 : (R.at_ t : Int) < (cnt t : Int) := by omega
    rw [p0] at u0
    
    go_region
    have H5 := Aside0.mk (H4.out.below ((Below.refl _ _).drew))
    have hS : (fun w' : World => w'.cell? ⟨br, 2 + t, none⟩ = some (.pointer (some ⟨vw t, 0, none⟩))) w5.drew := H5.out.rn.cvw ht
    have H6 := Aside0.mk (H5.out.below ((Below.refl _ _).drew))
    have HK6 := Aside0.mk HK4.out.drew.drew
    have HS := Lib.hid (HST.out _ H6.out.e)
    have ht64 : (t : Int) < 64 := by omega
    go_upto_region 13 with fail
    refine wp_region_held_drew (S := fun w' => (fun w' : World => w'.cell? ⟨br, 2 + t, none⟩ = some (.pointer (some ⟨vw t, 0, none⟩))) w') (by kernel_rfl) (by assumption) (fun hHeld => ?_)
    refine wpAnyH_take (i := 0) (v := ?vvs0) rfl (by kernel_rfl) (by kernel_rfl) (by kernel_rfl) (fun _ _ _ h => h) (Or.inl ⟨by rfl, ?hys0⟩) (by assumption) ?rests0
    case hys0 =>
      intro wq hSw
      go_simp
      try with_reducible rfl
    simp only [Act.put, List.getElem_toArray, List.getElem_cons_succ, List.getElem_cons_zero, List.setIfInBounds_toArray, List.set_cons_zero, List.set_cons_succ]
    refine wpAnyH_take (i := 1) (v := ?vvs1) rfl (by kernel_rfl) (by kernel_rfl) (by kernel_rfl) (fun _ _ _ h => h) (Or.inl ⟨by rfl, ?hys1⟩) (by assumption) ?rests1
    case hys1 =>
      intro wq hSw
      go_simp
      try with_reducible rfl
    simp only [Act.put, List.getElem_toArray, List.getElem_cons_succ, List.getElem_cons_zero, List.setIfInBounds_toArray, List.set_cons_zero, List.set_cons_succ]
    refine wpAnyH_take (i := 2) (v := ?vvs2) rfl (by kernel_rfl) (by kernel_rfl) (by kernel_rfl) (fun _ _ _ h => h) (Or.inl ⟨by rfl, ?hys2⟩) (by assumption) ?rests2
    case hys2 =>
      intro wq hSw
      go_simp
      try with_reducible rfl
    simp only [Act.put, List.getElem_toArray, List.getElem_cons_succ, List.getElem_cons_zero, List.setIfInBounds_toArray, List.set_cons_zero, List.set_cons_succ]
    refine wpAnyH_take (i := 3) (v := ?vvs3) rfl (by kernel_rfl) (by kernel_rfl) (by kernel_rfl) (fun _ _ _ h => h) (Or.inl ⟨by rfl, ?hys3⟩) (by assumption) ?rests3
    case hys3 =>
      intro wq hSw
      go_simp
      try with_reducible rfl
    simp only [Act.put, List.getElem_toArray, List.getElem_cons_succ, List.getElem_cons_zero, List.setIfInBounds_toArray, List.set_cons_zero, List.set_cons_succ]
    refine wpAnyH_take (i := 4) (v := ?vvs4) rfl (by kernel_rfl) (by kernel_rfl) (by kernel_rfl) (fun _ _ _ h => h) (Or.inl ⟨by rfl, ?hys4⟩) (by assumption) ?rests4
    case hys4 =>
      intro wq hSw
      go_simp
      try with_reducible rfl
    simp only [Act.put, List.getElem_toArray, List.getElem_cons_succ, List.getElem_cons_zero, List.setIfInBounds_toArray, List.set_cons_zero, List.set_cons_succ]
    refine wpAnyH_take (i := 5) (v := ?vvs5) rfl (by kernel_rfl) (by kernel_rfl) (by kernel_rfl) (fun _ _ _ h => h) (Or.inl ⟨by rfl, ?hys5⟩) (by assumption) ?rests5
    case hys5 =>
      intro wq hSw
      go_simp
      try with_reducible rfl
    simp only [Act.put, List.getElem_toArray, List.getElem_cons_succ, List.getElem_cons_zero, List.setIfInBounds_toArray, List.set_cons_zero, List.set_cons_succ]
    refine wpAnyH_take (i := 6) (v := ?vvs6) rfl (by kernel_rfl) (by kernel_rfl) (by kernel_rfl) (fun _ _ _ h => h) (Or.inl ⟨by rfl, ?hys6⟩) (by assumption) ?rests6
    case hys6 =>
      intro wq hSw
      go_simp
      try with_reducible rfl
    simp only [Act.put, List.getElem_toArray, List.getElem_cons_succ, List.getElem_cons_zero, List.setIfInBounds_toArray, List.set_cons_zero, List.set_cons_succ]
    refine wpAnyH_take (i := 7) (v := ?vvs7) rfl (by kernel_rfl) (by kernel_rfl) (by kernel_rfl) (fun _ _ _ h => h) (Or.inl ⟨by rfl, ?hys7⟩) (by assumption) ?rests7
    case hys7 =>
      intro wq hSw
      go_simp
      try with_reducible rfl
    simp only [Act.put, List.getElem_toArray, List.getElem_cons_succ, List.getElem_cons_zero, List.setIfInBounds_toArray, List.set_cons_zero, List.set_cons_succ]
    refine wpAnyH_take (i := 8) (v := ?vvs8) rfl (by kernel_rfl) (by kernel_rfl) (by kernel_rfl) (fun _ _ _ h => h) (Or.inl ⟨by rfl, ?hys8⟩) (by assumption) ?rests8
    case hys8 =>
      intro wq hSw
      go_simp
      try with_reducible rfl
    simp only [Act.put, List.getElem_toArray, List.getElem_cons_succ, List.getElem_cons_zero, List.setIfInBounds_toArray, List.set_cons_zero, List.set_cons_succ]
    refine wpAnyH_take (i := 9) (v := ?vvs9) rfl (by kernel_rfl) (by kernel_rfl) (by kernel_rfl) (fun _ _ _ h => h) (Or.inl ⟨by rfl, ?hys9⟩) (by assumption) ?rests9
    case hys9 =>
      intro wq hSw
      go_simp
      try with_reducible rfl
    simp only [Act.put, List.getElem_toArray, List.getElem_cons_succ, List.getElem_cons_zero, List.setIfInBounds_toArray, List.set_cons_zero, List.set_cons_succ]
    refine wpAnyH_take (i := 10) (v := ?vvs10) rfl (by kernel_rfl) (by kernel_rfl) (by kernel_rfl) (fun _ _ _ h => h) (Or.inl ⟨by rfl, ?hys10⟩) (by assumption) ?rests10
    case hys10 =>
      intro wq hSw
      go_simp
      try with_reducible rfl
    simp only [Act.put, List.getElem_toArray, List.getElem_cons_succ, List.getElem_cons_zero, List.setIfInBounds_toArray, List.set_cons_zero, List.set_cons_succ]
    refine wpAnyH_take (i := 11) (v := ?vvs11) rfl (by kernel_rfl) (by kernel_rfl) (by kernel_rfl) (fun _ _ _ h => h) (Or.inl ⟨by rfl, ?hys11⟩) (by assumption) ?rests11
    case hys11 =>
      intro wq hSw
      go_simp
      try with_reducible rfl
    simp only [Act.put, List.getElem_toArray, List.getElem_cons_succ, List.getElem_cons_zero, List.setIfInBounds_toArray, List.set_cons_zero, List.set_cons_succ]
    refine wpAnyH_take (i := 12) (v := ?vvs12) rfl (by kernel_rfl) (by kernel_rfl) (by kernel_rfl) (fun _ _ _ h => h) (Or.inl ⟨by rfl, ?hys12⟩) (by assumption) ?rests12
    case hys12 =>
      intro wq hSw
      go_simp
      try with_reducible rfl
    simp only [Act.put, List.getElem_toArray, List.getElem_cons_succ, List.getElem_cons_zero, List.setIfInBounds_toArray, List.set_cons_zero, List.set_cons_succ]
    refine wpAnyH_ready (rs := [13]) (by kernel_rfl) (by simp) ?_
    refine AllReadyH.cons rfl (fun K hK => ?_) AllReadyH.nil
    rw [if_pos (by rfl)]
    simp only [List.getElem_toArray, List.getElem_cons_succ, List.getElem_cons_zero]
    go_simp
    refine HS.out.mono ?_
    rintro e6 w6 ⟨done, s', X', hSt, rfl, hE, hk6, hX⟩
    have H7 := Aside0.mk (H6.out.env hE hk6 hX)
    have HK7 := Aside0.mk (HK6.out.trans (Stp.procs hk6 hX))
    have hS7 : (fun w' : World => w'.cell? ⟨br, 2 + t, none⟩ = some (.pointer (some ⟨vw t, 0, none⟩))) w6 := H7.out.rn.cvw ht
    clear hE hk6 hX
    try go_wp2_with fail
    refine hK.out _ _ (by assumption) (fun hHeld => ?_)
    clear hK K
    try simp only [Act.put, List.getElem_toArray, List.getElem_cons_succ, List.getElem_cons_zero, List.setIfInBounds_toArray, List.set_cons_zero, List.set_cons_succ]
    refine wpAnyH_take (i := 14) (v := ?vvs14) rfl (by kernel_rfl) (by kernel_rfl) (by kernel_rfl) (fun _ _ _ h => h) (Or.inl ⟨by rfl, ?hys14⟩) (by assumption) ?rests14
    case hys14 =>
      intro wq hSw
      go_simp
      try with_reducible rfl
    simp only [Act.put, List.getElem_toArray, List.getElem_cons_succ, List.getElem_cons_zero, List.setIfInBounds_toArray, List.set_cons_zero, List.set_cons_succ]
    refine wpAnyH_done (by kernel_rfl) ?_ _
    
    clear hHeld hS7 hS H6 HK6 H5 H4 HK4 HS u0 u1 u2 p0 p1 p2 p3 p4 p5
    cases done with
    | false =>
      go_upto_region 17 with fail
      obtain ⟨_, _, d0⟩ := H7.out.rn.c66
      have HM := Lib.hid (V.made_calls H7.out.e)
      have HT := Lib.hid (rnote_calls H7.out.rn (V.made s) (V.made s') R.st hma (V.made_le H7.out.e) hats)
      go_wp2_with (first
        | (go_at_call 32; refine HM.out.mono ?_; rintro e18 w18 ⟨rfl, h18⟩; subst h18)
        | (go_at_call 33; refine HT.out.mono ?_; rintro e19 w19 ⟨rfl, atv', g1, g2, g3⟩; have H19 := Aside0.mk (H7.out.note g1 g2 g3); clear g1 g2 g3))
      go_ret
      refine ⟨false, s', X', _, atv', hSt, rfl, ?_, HK7.out.trans H19.out.2⟩
      rw [show pickR R t (V.made s) (V.made s') false = ⟨R.at_, upd R.op t true, R.st + 1, R.nev, R.ev, noteA R.ats (V.made s) (V.made s') R.st⟩ from by simp [pickR, hop]]
      exact H19.out.1
    | true =>
      go_upto_region 14 with fail
      rename_i KK hKK
      obtain ⟨A2, c2, hev2⟩ : ∃ A c, evv = .slice A (R.nev) c := own_slice H7.out.rn.e
      subst hev2
      have q1 : w6.cell? ⟨bt, 3 * t + 1, none⟩ = some (.int .i64 (R.at_ t)) := (H7.out.rn.tt ht).2.1
      obtain ⟨q2, q3⟩ := H7.out.rn.c67
      have lb2 := H7.out.rn.brlt
      have em2 := H7.out.rn.br_ev
      have lt2 := H7.out.btl
      have HE2 : Aside0 (w6.ownsRow 0 109 4 (.slice A2 (R.nev) c2) (R.nev) (R.ev)) := ⟨H7.out.rn.e⟩
      obtain ⟨i2, hi2, hx0, hx1, hx2⟩ := info_parts infoEv
      apply gather (P := fun F : Nat → Nat → Act => ∀ gg cap wq, wq.ownsRow 0 109 4 (.slice (some ⟨gg, 0, none⟩) (R.nev + 1) cap) (R.nev + 1) (R.ev ++ evC R.st t (R.at_ t) true) → (w6.alloc (.cells (evC R.st t (R.at_ t) true).toArray 109)).drew.grownBy wq (Value.slice A2 (R.nev) c2).ownBlock → ((Value.slice A2 (R.nev) c2).ownBlock = some gg ∨ gg = w6.heap.size + 1) → KK (F gg cap) (wq.setCell ⟨br, 67, none⟩ (.slice (some ⟨gg, 0, none⟩) (R.nev + 1) cap)))
      · intro REST
        go_region_law ((refine step_append_lies _ (by rfl) _ _ _ (by rfl) 0 109 i2 _ 4 32 Tryz.underlying46 hi2 hx0 hx1 hx2 rfl (by omega) (.slice A2 (R.nev) c2) (R.nev) (R.ev) (by rfl) ((HE2.out.alloc _).drew) ⟨w6.heap.size, 0, none⟩ 1 1 (evC R.st t (R.at_ t) true) (by rfl) (by rfl) (World.news_of_block (cs := (evC R.st t (R.at_ t) true).toArray) (t := 109) (fr := (0, 0)) (heap_alloc_new w6 _)) (by simp [evC, Value.oneCell']) (by omega) (by unfold maxLen; omega) (by omega) (Nat.zero_le _) (w6.heap.size + 1) (by simp) ?_; intro gg cap wq hown1 hgrow hat hlt; have fm2 : wq.frozen? ⟨br, 67, none⟩ = false := (hgrow.frozen_far _ (by simp; omega) (Ne.symm em2)).trans ((World.frozen?_alloc_past _ _ _ lb2).trans q3); have cm2 := (hgrow.cell_far _ (by simp; omega) (Ne.symm em2)).trans ((World.cell?_alloc_past _ _ _ lb2).trans q2)))
        all_goals exact REST _ _ _ hown1 hgrow hat
      intro gg2 cap2 wq hown hgrow hat
      have HG := H7.out.ev (v1 := .slice (some ⟨gg2, 0, none⟩) (R.nev + 1) cap2) ((World.grownBy_alloc w6 _ _).trans (⟨hgrow.os, hgrow.tape, hgrow.output, hgrow.size, hgrow.block⟩ : World.grownBy (w6.alloc (.cells (evC R.st t (R.at_ t) true).toArray 109)) wq _)) hown (hat.imp (fun e => e.symm) fun e => ⟨gg2, rfl, by omega⟩)
      refine hKK _ _ ?_
      clear hKK KK
      have H8 := Aside0.mk (show RE V _ br bt T tcap pr cnt pcap vw pb pa s' X' (.slice (some ⟨gg2, 0, none⟩) (R.nev + 1) cap2) atv ⟨R.at_, upd R.op t true, R.st + 1, R.nev + 1, R.ev ++ evC R.st t (R.at_ t) true, R.ats⟩ from HG.1)
      have HK8 := Aside0.mk (HK7.out.trans (Stp.runs (X := X') HG.2.1 HG.2.2))
      clear HG hown hgrow hat q1 q2 q3 HE2 hi2 hx0 hx1 hx2
      generalize wq.setCell ⟨br, 67, none⟩ (.slice (some ⟨gg2, 0, none⟩) (R.nev + 1) cap2) = w8 at H8 HK8 ⊢
      generalize hvv2 : (Value.slice (some ⟨gg2, 0, none⟩) (R.nev + 1) cap2) = vv2 at H8 HK8
      clear hvv2
      have u1 := (H8.out.rn.tt ht).2.1
      have u2 := (H8.out.rn.tt ht).2.2
      rw [show (⟨R.at_, upd R.op t true, R.st + 1, R.nev + 1, R.ev ++ evC R.st t (R.at_ t) true, R.ats⟩ : RS).op t = true from upd_same _ _ _] at u2
      have f2 := H8.out.rn.tfrozen (by omega) (3 * t + 2)
      go_upto_region 16 with fail
      have H9 := Aside0.mk (show RE V _ br bt T tcap pr cnt pcap vw pb pa s' X' vv2 atv ⟨R.at_, upd R.op t false, R.st + 1, R.nev + 1, R.ev ++ evC R.st t (R.at_ t) true, R.ats⟩ from (by rw [show upd R.op t false = upd (upd R.op t true) t false from (upd_upd R.op t true false).symm]; exact H8.out.op ht false (fun e => by cases e)))
      have HK9 := Aside0.mk (HK8.out.trans (Stp.own (X := X') (kept_t w8 br bt vv2 atv (3 * t + 2) (.bool false))))
      clear u1 u2 f2 H8 HK8
      generalize w8.setCell ⟨bt, 3 * t + 2, none⟩ (.bool false) = w9 at H9 HK9 ⊢
      have u1 : w9.cell? ⟨bt, 3 * t + 1, none⟩ = some (.int .i64 (R.at_ t)) := (H9.out.rn.tt ht).2.1
      have f1 := H9.out.rn.tfrozen (by omega) (3 * t + 1)
      have b1 : R.at_ t < 4096 := Nat.lt_of_lt_of_le hc (H9.out.rn.c t ht).2.1
      go_upto_region 17 with fail
      have HA := H9.out.at ht (R.at_ t + 1) hc (upd_same _ _ _)
      have HB := HK9.out.trans (Stp.own (X := X') (kept_t w9 br bt vv2 atv (3 * t + 1) (.int .i64 ((R.at_ t + 1 : Nat) : Int))))
      rw [Int.natCast_add, Int.natCast_one] at HA HB
      have H10 := Aside0.mk (show RE V _ br bt T tcap pr cnt pcap vw pb pa s' X' vv2 atv ⟨upd R.at_ t (R.at_ t + 1), upd R.op t false, R.st + 1, R.nev + 1, R.ev ++ evC R.st t (R.at_ t) true, R.ats⟩ from HA)
      have HK10 := Aside0.mk HB
      clear HA HB u1 f1 b1 H9 HK9
      generalize w9.setCell ⟨bt, 3 * t + 1, none⟩ (.int .i64 ((R.at_ t : Int) + 1)) = w10 at H10 HK10 ⊢
      obtain ⟨_, _, d0⟩ := H10.out.rn.c66
      have HM := Lib.hid (V.made_calls H10.out.e)
      have HT := Lib.hid (rnote_calls H10.out.rn (V.made s) (V.made s') R.st hma (V.made_le H10.out.e) hats)
      go_wp2_with (first
        | (go_at_call 32; refine HM.out.mono ?_; rintro e18 w18 ⟨rfl, h18⟩; subst h18)
        | (go_at_call 33; refine HT.out.mono ?_; rintro e19 w19 ⟨rfl, atv', g1, g2, g3⟩; have H19 := Aside0.mk (H10.out.note g1 g2 g3); clear g1 g2 g3))
      go_ret
      refine ⟨true, s', X', _, atv', hSt, rfl, ?_, HK10.out.trans H19.out.2⟩
      rw [show pickR R t (V.made s) (V.made s') true = ⟨upd R.at_ t (R.at_ t + 1), upd R.op t false, R.st + 1, R.nev + 1, R.ev ++ evC R.st t (R.at_ t) true, noteA R.ats (V.made s) (V.made s') R.st⟩ from by simp [pickR, hop]]
      exact H19.out.1
end
end Go.Proofs.YtndgfpfcdppfgaaGreatDoor

/- step.Runner's Run: many picks. No condition. -/
namespace Go.Proofs.YtndgfpfcdppfgaaGreatDoor
open Go.RowKit Go.Proofs.YtndgfpfcdppfgaaGreatDoorW.PrintWords Go.Proofs.YtndgfpfcdppfgaaGreatDoorW.PrintMore
set_option linter.unusedVariables false
set_option linter.unusedSimpArgs false
section
variable {σ : Type} {bm : Nat} {V : PEnv σ bm} {w : World} {br bt T tcap : Nat} {pr : Nat → Option Addr} {cnt pcap vw pb : Nat → Nat} {pa : Nat → Nat → Nat} {s : σ} {X : Nat → Prop} {evv atv : Value} {R : RS}
set_option maxHeartbeats 8000000 in
set_option maxRecDepth 100000 in
theorem run_calls (I : Nat → σ → RS → Prop) (ad : Option Addr) (n cap : Nat) (ps : Nat → Int)
    (hidle : ∀ k s R, k < n → I k s R → idle T cnt R (ps k) = true → I (k + 1) s { R with st := R.st + 1 })
    (hgo : ∀ k s R t, k < n → I k s R → ps k = (t : Nat) → t < T → R.at_ t < cnt t → ∃ St : Bool → σ → Prop,
      (∀ X wx, V.E s X wx → Calls Tryz.prog 127 #[.pointer (some ⟨pa t (R.at_ t), 0, none⟩), .pointer (some ⟨vw t, 0, none⟩)] wx fun e w' => ∃ done s' X', St done s' ∧ e = .returned (.bool done) ∧ V.E s' X' w' ∧ Kept (fun j => ¬ X j) wx w' ∧ (∀ j, X' j → X j ∨ wx.heap.size ≤ j)) ∧
      (∀ done s', St done s' → I (k + 1) s' (pickR R t (V.made s) (V.made s') done)))
    (hb : ∀ k s R, k < n → I k s R → R.st ≤ 9223372036854775806 ∧ R.nev ≤ 68719476736 ∧ R.ats.length ≤ 68719476736)
    (h : RE V w br bt T tcap pr cnt pcap vw pb pa s X evv atv R) (h0 : I 0 s R) (hn : n ≤ 9223372036854775807)
    (hp : ∀ i, i < n → ∃ a, ad = some a ∧ w.cell? (a.add i) = some (.int .i64 (ps i)) ∧ ¬ OX X br bt evv atv (a.add i).block) :
    Calls Tryz.prog 10 #[.pointer (some ⟨br, 0, none⟩), .slice ad n cap] w fun e w' => e = .returned (.tuple #[]) ∧ ∃ s' X' evv' atv' R', I n s' R' ∧ RE V w' br bt T tcap pr cnt pcap vw pb pa s' X' evv' atv' R' ∧ Stp (OX X br bt evv atv) w (OX X' br bt evv' atv') w' := by
  have HI := Lib.hid hidle
  have HG := Lib.hid hgo
  have HB := Lib.hid hb
  have HP := Aside0.mk hp
  have H := Aside0.mk h
  have H0 := Aside0.mk h0
  clear h h0 hidle hgo hb hp
  go_enter Tryz.func10, Tryz.ntmps10
  go_wp2_with fail
  go_loopw [8] (fun v8 wr => ∃ (k : Nat) (s' : σ) (X' : Nat → Prop) (evv' atv' : Value) (R' : RS), k ≤ n ∧ v8 = .int .i64 k ∧ Aside0 (I k s' R' ∧ RE V wr br bt T tcap pr cnt pcap vw pb pa s' X' evv' atv' R' ∧ Stp (OX X br bt evv atv) w (OX X' br bt evv' atv') wr)) (fun v8 _ => n - (intOf v8).toNat)
  case atStart => exact ⟨0, s, X, evv, atv, R, Nat.zero_le _, rfl, H0.out, H.out, Stp.refl _ _⟩
  case round =>
    obtain ⟨k, s', X', evv', atv', R', hk, rfl, HR⟩ := hrel
    by_cases hlt : k < n
    · have hlt' : (k : Int) < (n : Int) := by omega
      obtain ⟨a, rfl, hc, ho⟩ := HP.out k hlt
      have hcr : wr.cell? (a.add k) = some (.int .i64 (ps k)) := (World.cell?_of_block (HR.out.2.2.k.block _ ho (World.block_lt_of_cell? _ _ hc))).trans hc
      obtain ⟨b1, b2, b3⟩ := HB.out k s' R' hlt HR.out.1
      clear H H0 HB HP hc ho
      cases hi : idle T cnt R' (ps k) with
      | true =>
        have HC := Lib.hid (pick_idle HR.out.2.1 b1 (ps k) hi)
        go_wp2_with (go_at_call 24; refine HC.out.mono ?_; rintro e1 w1 ⟨rfl, g1, g2⟩; have H1 := Aside0.mk (And.intro g1 g2); clear g1 g2)
        exact ⟨⟨k + 1, s', X', evv', atv', _, hlt, by rfl, HI.out k s' R' hlt HR.out.1 hi, H1.out.1, HR.out.2.2.trans (Stp.own H1.out.2)⟩, by simp [intOf]; omega⟩
      | false =>
        obtain ⟨t, ht, htT, hat⟩ : ∃ t : Nat, ps k = (t : Nat) ∧ t < T ∧ R'.at_ t < cnt t := by
          unfold idle at hi
          simp only [Bool.or_eq_false_iff, decide_eq_false_iff_not] at hi
          refine ⟨(ps k).toNat, by omega, by omega, by omega⟩
        obtain ⟨St, hst, hinv⟩ := HG.out k s' R' t hlt HR.out.1 ht htT hat
        have HC := Lib.hid (pick_go HR.out.2.1 b1 b2 b3 t htT hat St (fun wx => hst X' wx))
        rw [ht] at hcr
        clear hst
        go_wp2_with (go_at_call 24; refine HC.out.mono ?_; rintro e1 w1 ⟨done, s2, X2, evv2, atv2, hS, rfl, g1, g2⟩; have H1 := Aside0.mk (And.intro g1 g2); clear g1 g2)
        exact ⟨⟨k + 1, s2, X2, evv2, atv2, _, hlt, by rfl, hinv done s2 hS, H1.out.1, HR.out.2.2.trans H1.out.2⟩, by simp [intOf]; omega⟩
    · have hlt' : ¬ (k : Int) < (n : Int) := by omega
      have he : k = n := by omega
      subst he
      go_wp2
      go_end0
      exact ⟨rfl, s', X', evv', atv', R', HR.out⟩
end
end Go.Proofs.YtndgfpfcdppfgaaGreatDoor
