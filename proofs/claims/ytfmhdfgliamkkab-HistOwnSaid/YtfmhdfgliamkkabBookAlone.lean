/- The book's TakeInts and Alone, where it has two rows of ints of its own and nothing else. -/
import Derived.Test.YtfmhdfgliamkkabAloneInts
import Derived.Test.YtfmhdfgliamkkabBookEmpty
import Derived.Deep.MidRow
namespace Go.Proofs.Ytfmhdfgliamkkab.Own
open Go.RowKit Go.Proofs.YtfmhdfgliamkkabW.PrintWords Go.Proofs.YtfmhdfgliamkkabW.PrintLast Go.Proofs.YtfmhdfgliamkkabW.PrintMore
set_option linter.unusedVariables false
set_option linter.unusedSimpArgs false
namespace BK
theorem below_setC {w : World} {n g : Nat} (hg : n ≤ g) : ∀ (vs : List Value) (o : Nat) {w1 : World}, Below n w w1 → Below n w (w1.setCells g o vs)
  | [], _, _, h => h
  | v :: r, o, _, h => below_setC hg r (o + 1) (h.setCell hg _)
theorem there53 {w : World} {g : Nat} {C : Array Value} (h : w.heap[g]? = some (.cells C 53 (0, 0))) (hs : C.size = 20) : w.there g 0 20 := by
  intro j hj
  have hc := blk_cell h (0 + j)
  refine ⟨?_, ?_⟩
  · rw [hc]
    simp [hs]
    omega
  · unfold World.frozen?
    rw [h]
    simp
theorem all53 : ((#[.slice none 0 0, .slice none 0 0, .slice none 0 0, .slice none 0 0, .slice none 0 0, .slice none 0 0, .slice none 0 0, .slice none 0 0, .slice none 0 0, .slice none 0 0, .slice none 0 0, .slice none 0 0, .slice none 0 0, .slice none 0 0, .slice none 0 0, .slice none 0 0, .slice none 0 0, .slice none 0 0, .slice none 0 0, .slice none 0 0] : Array Value).all fun x => x.oneCell') = true := by
  have h : ∀ v ∈ ([.slice none 0 0, .slice none 0 0, .slice none 0 0, .slice none 0 0, .slice none 0 0, .slice none 0 0, .slice none 0 0, .slice none 0 0, .slice none 0 0, .slice none 0 0, .slice none 0 0, .slice none 0 0, .slice none 0 0, .slice none 0 0, .slice none 0 0, .slice none 0 0, .slice none 0 0, .slice none 0 0, .slice none 0 0, .slice none 0 0] : List Value), v.oneCell' = true := by
    intro v hv
    simp only [List.mem_cons, List.not_mem_nil, or_false, or_self] at hv
    rw [hv]
    rfl
  exact all_oneCell_toArray h
theorem info53s : (Try.prog.info? 53).map (·.size) = some 20 := by kernel_rfl
theorem take (B bk : Nat) (C : Array Value) (vI : Value) (hs : List Value) (A : Option Addr) (n c : Nat) (w0 w : World) (hb : w.heap[bk]? = some (.cells C 53 (0, 0))) (hC : C[2]? = some vI) (hI : OI B 27 w vI hs) (hlen : hs.length < 100) (hlb : B ≤ w.heap.size) (hbel : Below B w0 w) (hbB : B ≤ bk) :
    Calls Try.prog 12 #[.pointer (some ⟨bk, 0, none⟩), .slice A n c] w fun e w' => e = .returned (.tuple #[]) ∧ ∃ g' c', w'.heap[bk]? = some (.cells (C.setIfInBounds 2 (.slice (some ⟨g', 0, none⟩) (hs.length + 1) c')) 53 (0, 0)) ∧
      OI B 27 w' (.slice (some ⟨g', 0, none⟩) (hs.length + 1) c') (hs ++ [.slice A n c]) ∧ Below B w0 w' ∧ w.heap.size ≤ w'.heap.size ∧ (∀ (q : Nat) (cs : Array Value) (t : TypeId), w.heap[q]? = some (.cells cs t (0, 0)) → t ≠ 27 → t ≠ 53 → w'.heap[q]? = w.heap[q]?) := by
  have HB := Aside0.mk hb
  have HI := Aside0.mk hI
  have y2 : w.cell? ⟨bk, 2, none⟩ = some vI := (blk_cell hb 2).trans hC
  have HC := Aside0.mk hC
  have HL := Aside0.mk hlb
  have HBE := Aside0.mk hbel
  clear hb hI hC hlb hbel
  go_enter Try.func12, Try.ntmps12
  go_wp2_with (at_builtin; refine wp_app rfl (.tmp 8) (.tmp 10) 34 27 (.slice none 0 0) 24 rfl Try.underlying34 info27' rfl (by decide) B w0 w vI hs (.slice A n c) rfl HI.out (by omega) HL.out HBE.out rfl rfl ?_; intro g' c' w1 hO hk hc ha hb2 hs2; have hbk := (hk bk (lt_blk HB.out) (own_ne HI.out HB.out (by decide))).trans HB.out; have y3 := (blk_cell hbk 2).trans HC.out; have f3 : w1.frozen? ⟨bk, 2, none⟩ = false := (by unfold World.frozen?; rw [hbk]; simp); have HBK := Aside0.mk hbk; have HO := Aside0.mk hO; have HK := Aside0.mk hk; have HB3 := Aside0.mk hb2; have HS3 := Aside0.mk hs2; clear hO hk hc ha hb2 hs2 hbk)
  go_end0
  have hgn : g' ≠ bk := by
    obtain ⟨_, cu, hcu⟩ := HO.out.lt g' rfl
    exact fun e => ne_type hcu HBK.out (by decide) e.symm
  refine ⟨rfl, g', c', blk_put HBK.out 2 _ rfl, HO.out.heap (fun g hg => ?_), HB3.out.setCell hbB _, by simpa using HS3.out, fun q cs t hq h1 h2 => ?_⟩
  · have : g' = g := by simpa [Value.ownBlock] using hg
    subst this
    exact Below.heap_setCell _ _ _ _ (fun e => hgn e)
  · have hqb : q ≠ bk := fun e => h2 (by
      subst e
      rw [HB.out] at hq
      injection hq with hq
      injection hq with e1 e2 e3
      exact e2.symm)
    rw [Below.heap_setCell _ _ _ _ (fun e => hqb e)]
    exact HK.out q (lt_blk hq) (own_ne HI.out hq (fun e => h1 e.symm))
end BK
open BK in
set_option maxHeartbeats 8000000 in
set_option maxRecDepth 100000 in
theorem BK.alone (B bk gi capI : Nat) (C CI : Array Value) (A0 A1 : Option Addr) (n0 n1 c0 c1 : Nat) (w0 : World) (a b : List Value) (w : World) (hC2 : C[2]? = some (.slice (some ⟨gi, 0, none⟩) 2 capI)) (hI0 : CI[0]? = some (.slice A0 n0 c0)) (hI1 : CI[1]? = some (.slice A1 n1 c1))
    (h : St B bk gi C CI A0 A1 n0 n1 c0 c1 w0 a b w) (hap : A0 = none ∨ A1 = none ∨ (Value.slice A0 n0 c0).ownBlock ≠ (Value.slice A1 n1 c1).ownBlock) (hn0 : n0 < 4398046511104) (hn1 : n1 < 4398046511104) (hcap : 2 ≤ capI)
    (hCn : ∀ j, j < 20 → j ≠ 2 → C[j]? = some (.slice none 0 0)) (hCs : C.size = 20) (hbB : B ≤ bk) :
    Calls Try.prog 13 #[.pointer (some ⟨bk, 0, none⟩)] w fun e w' => e = .returned (.bool true) ∧ Below B w0 w' := by
  have HAI := Lib.hid (BK.aloneInts B bk gi capI C CI A0 A1 n0 n1 c0 c1 w0 a b w hC2 hI0 hI1 h hap hn0 hn1 hcap)
  have HB := Aside0.mk h.book
  have HCN := Aside0.mk hCn
  have HCS := Aside0.mk hCs
  clear h hC2 hI0 hI1 hap hCn hCs
  go_enter Try.func13, Try.ntmps13
  go_wp2_with (first | (go_at_call 21; refine (BK.aloneBytes bk _ ((blk_cell HB.out 0).trans (HCN.out 0 (by decide) (by decide)))).mono ?_; rintro e w' ⟨rfl, rfl⟩) | (go_at_call 22; refine (BK.aloneTexts bk _ ((blk_cell HB.out 1).trans (HCN.out 1 (by decide) (by decide)))).mono ?_; rintro e w' ⟨rfl, rfl⟩) | (go_at_call 23; refine HAI.out.mono ?_; rintro e w' ⟨rfl, hb2, hbl⟩; have HB2 := Aside0.mk hb2; have HBL := Aside0.mk hbl; clear hb2 hbl) | (go_at_call 24; refine (BK.aloneUint64s bk _ ((blk_cell HB2.out 3).trans (HCN.out 3 (by decide) (by decide)))).mono ?_; rintro e w' ⟨rfl, rfl⟩) | (go_at_call 25; refine (BK.alonePairs bk _ ((blk_cell HB2.out 4).trans (HCN.out 4 (by decide) (by decide)))).mono ?_; rintro e w' ⟨rfl, rfl⟩) | (go_at_call 26; refine (BK.aloneEvents bk _ ((blk_cell HB2.out 5).trans (HCN.out 5 (by decide) (by decide)))).mono ?_; rintro e w' ⟨rfl, rfl⟩) | (go_at_call 27; refine (BK.aloneSpans bk _ ((blk_cell HB2.out 6).trans (HCN.out 6 (by decide) (by decide)))).mono ?_; rintro e w' ⟨rfl, rfl⟩) | (go_at_call 28; refine (BK.aloneSlots bk _ ((blk_cell HB2.out 7).trans (HCN.out 7 (by decide) (by decide)))).mono ?_; rintro e w' ⟨rfl, rfl⟩) | (go_at_call 29; refine (BK.aloneVersions bk _ ((blk_cell HB2.out 8).trans (HCN.out 8 (by decide) (by decide)))).mono ?_; rintro e w' ⟨rfl, rfl⟩) | (go_at_call 30; refine (BK.aloneBools bk _ ((blk_cell HB2.out 9).trans (HCN.out 9 (by decide) (by decide)))).mono ?_; rintro e w' ⟨rfl, rfl⟩) | (go_at_call 31; refine (BK.aloneAccesses bk _ ((blk_cell HB2.out 10).trans (HCN.out 10 (by decide) (by decide)))).mono ?_; rintro e w' ⟨rfl, rfl⟩) | (go_at_call 32; refine (BK.aloneOps bk _ ((blk_cell HB2.out 11).trans (HCN.out 11 (by decide) (by decide)))).mono ?_; rintro e w' ⟨rfl, rfl⟩) | (go_at_call 33; refine (BK.aloneAnswers bk _ ((blk_cell HB2.out 12).trans (HCN.out 12 (by decide) (by decide)))).mono ?_; rintro e w' ⟨rfl, rfl⟩) | (go_at_call 34; refine (BK.aloneDids bk _ ((blk_cell HB2.out 13).trans (HCN.out 13 (by decide) (by decide)))).mono ?_; rintro e w' ⟨rfl, rfl⟩) | (go_at_call 35; refine (BK.aloneUint64Lists bk _ ((blk_cell HB2.out 14).trans (HCN.out 14 (by decide) (by decide)))).mono ?_; rintro e w' ⟨rfl, rfl⟩) | (go_at_call 36; refine (BK.aloneIntLists bk _ ((blk_cell HB2.out 15).trans (HCN.out 15 (by decide) (by decide)))).mono ?_; rintro e w' ⟨rfl, rfl⟩) | (go_at_call 37; refine (BK.aloneTextLists bk _ ((blk_cell HB2.out 16).trans (HCN.out 16 (by decide) (by decide)))).mono ?_; rintro e w' ⟨rfl, rfl⟩) | (go_at_call 38; refine (BK.aloneBoolLists bk _ ((blk_cell HB2.out 17).trans (HCN.out 17 (by decide) (by decide)))).mono ?_; rintro e w' ⟨rfl, rfl⟩) | (go_at_call 39; refine (BK.aloneOpLists bk _ ((blk_cell HB2.out 18).trans (HCN.out 18 (by decide) (by decide)))).mono ?_; rintro e w' ⟨rfl, rfl⟩) | (go_at_call 40; refine (BK.aloneAnswerLists bk _ ((blk_cell HB2.out 19).trans (HCN.out 19 (by decide) (by decide)))).mono ?_; rintro e w' ⟨rfl, rfl⟩) | ((with_reducible refine gate_store (t := 53) (p := 84) rfl ?_); refine wpList_store_mid rfl 53 (.tmp 84) (.tmp 83) rfl bk 0 #[.slice none 0 0, .slice none 0 0, .slice none 0 0, .slice none 0 0, .slice none 0 0, .slice none 0 0, .slice none 0 0, .slice none 0 0, .slice none 0 0, .slice none 0 0, .slice none 0 0, .slice none 0 0, .slice none 0 0, .slice none 0 0, .slice none 0 0, .slice none 0 0, .slice none 0 0, .slice none 0 0, .slice none 0 0, .slice none 0 0] rfl rfl ?ht53 info53s all53 ?_; (case ht53 => exact there53 HB2.out HCS.out)))
  go_ret
  exact ⟨rfl, below_setC hbB _ _ HBL.out⟩
end Go.Proofs.Ytfmhdfgliamkkab.Own
