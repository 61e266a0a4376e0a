/- TopStamps: lin.Find on its one history: maps that are empty. No condition. -/
import Derived.Test.YtndgfpfcdppfgaaGreatDoorRunA
import Derived.Test.YtndgfpfcdppfgaaGreatDoorMapFun
import Derived.RangeFuncRecord
import Derived.RangeFuncLeaves
import Derived.RangeFuncCalls
import Derived.TacticsInMore
import Derived.BigFrameIn
import Derived.BigGuardPartIn
import Derived.LoopIn
import Derived.LoopNIn
import Derived.OwnWalkIn
import Derived.Laws.Externs
import Derived.Laws.IdiomRangeMap
import Derived.Laws.EntriesVeiled
import Derived.MapKept
import Derived.Maps.Own
import Derived.Shelf.Abstract
import Derived.Test.YtndgfpfcdppfgaaGreatDoorLinx3
import Derived.Test.YtndgfpfcdppfgaaGreatDoorProg
import Derived.Shelf.Strings.Builder1
import Derived.Test.YtndgfpfcdppfgaaGreatDoorLinx5
import Derived.Test.YtndgfpfcdppfgaaGreatDoorHistRightG
import Derived.Test.YtndgfpfcdppfgaaGreatDoorHistFirstG
import Derived.Test.YtndgfpfcdppfgaaGreatDoorShelf
import Derived.Deep.WholeRow
import Derived.Great.BuildSlice
/- TopStamps: lin.Find on its one history: maps that are empty. No condition. -/
namespace Go.Proofs.YtndgfpfcdppfgaaGreatDoor
open Go.RowKit Go.Proofs.YtndgfpfcdppfgaaGreatDoorW.PrintWords Go.Proofs.YtndgfpfcdppfgaaGreatDoorW.PrintMore
set_option linter.unusedVariables false
set_option linter.unusedSimpArgs false
/-- Block b is a map without entries. -/
def Mt (b : Nat) (w : World) : Prop := w.heap[b]? = some (.map #[] 0)
theorem Mt.lt {b : Nat} {w : World} (h : Mt b w) : b < w.heap.size := (Array.getElem?_eq_some_iff.1 h).1
theorem Mt.below {b : Nat} {w w' : World} (h : Mt b w) (hb : Below w.heap.size w w') : Mt b w' := (hb.block b h.lt).trans h
theorem Mt.new (w : World) : Mt w.heap.size (w.alloc (.map #[] 0)) := (MapKept.heap_alloc w _).1
theorem Mt.has {κ : Type} {b : Nat} {w : World} (h : Mt b w) (P : Program) (k : TypeId) (c : κ → Value) : MF.HasMap w P k c b 0 (fun _ => none) :=
  ⟨#[], 0, h, Nat.le_refl _, Go.MapKept.stamped_empty 0, fun x hx => by simp at hx, fun i v h => by cases h⟩
/-- A model that holds nothing. -/
structure EM (w : World) (b mn mh : Nat) : Prop where
  b : Bk b 161 #[.int .i64 1, .map (some mn), .map (some mh)] w
  n : Mt mn w
  h : Mt mh w
theorem EM.below {w w' : World} {b mn mh : Nat} (h : EM w b mn mh) (hb : Below w.heap.size w w') : EM w' b mn mh := ⟨h.b.below hb, h.n.below hb, h.h.below hb⟩
theorem below_al {w w' : World} {B : Nat} (h : Below B w w') (hB : B ≤ w'.heap.size) (o : Obj) : Below B w (w'.alloc o) := h.alloc hB o
theorem mnew_calls (w : World) : Calls Tryz.prog 40 #[.int .i64 1] w fun e w' => ∃ b mn mh, e = .returned (.tuple #[.pointer (some ⟨b, 0, none⟩), .int .i64 0]) ∧ EM w' b mn mh ∧ Below w.heap.size w w' := by
  have hmm := @run_makeMap Tryz.prog
  go_enter Tryz.func40, Tryz.ntmps40
  go_wp2
  go_ret2
  refine ⟨w.heap.size + 1 + 1, w.heap.size, w.heap.size + 1, rfl, ⟨?_, ?_, ?_⟩, below_al (below_al (below_al (Below.refl _ w) (Nat.le_refl _) _) (by rw [World.size_alloc]; omega) _) (by rw [World.size_alloc, World.size_alloc]; omega) _⟩
  · have h := Bk.new ((w.alloc (.map #[] 0)).alloc (.map #[] 0)) #[.int .i64 1, .map (some w.heap.size), .map (some (w.heap.size + 1))] 161
    rwa [World.size_alloc, World.size_alloc] at h
  · exact (Mt.new w).below (((Below.refl _ _).alloc (Nat.le_refl _) _).alloc (by simp only [World.size_alloc]; omega) _)
  · have h1 := Mt.new (w.alloc (.map #[] 0))
    rw [World.size_alloc] at h1
    exact h1.below ((Below.refl _ _).alloc (Nat.le_refl _) _)
/-- A map held against nil. -/
theorem run_equalIn_map_nil_x (d : Nat) (w : World) (t k e : TypeId) (p : Option Nat) (h : Tryz.prog.underlying t = some (.map k e)) :
    (Op.equalIn (d + 1) t (.map p) (.map none)).run Tryz.prog w = .ok p.isNone w := by
  cases p <;> simp [Op.equalIn, run_underlying h]
theorem run_eql_map_nil_x (w : World) (t k e : TypeId) (p : Option Nat) (h : Tryz.prog.underlying t = some (.map k e)) :
    (binOp .eql t (.map p) (.map none)).run Tryz.prog w = .ok (.bool p.isNone) w := by
  simp only [binOp]
  simp [show Op.equal t (.map p) (.map none) = Op.equalIn (9999 + 1) t (.map p) (.map none) from rfl, run_equalIn_map_nil_x 9999 w t k e p h]
theorem run_typeAssert_map_x (w : World) (t xT k e : TypeId) (v : Value) (h : Tryz.prog.underlying t = some (.map k e)) : (Instr.typeAssert (.iface t v) xT t false).run Tryz.prog w = .ok v w := by
  simp [Instr.typeAssert, run_underlying h, go_sem, Result.andThen]
theorem run_maps_clone_x (w : World) {r : Nat} {es : Array MapEntry} {clock : Nat} (t : TypeId) (hb : w.heap[r]? = some (.map es clock)) :
    (Extern.MapsClone.clone #[.iface t (.map (some r))]).run Tryz.prog w = .ok (.iface t (.map (some w.heap.size))) (w.alloc (.map es clock)) := by
  have e : Extern.MapsClone.clone #[.iface t (.map (some r))] = (getObj r >>= fun o => match o with
      | .map entries clock => (newObj (.map entries clock) >>= fun n => pure (.iface t (.map (some n))))
      | _ => stuck "maps.clone: a map expected") := rfl
  rw [e]
  simp [MapKept.run_getObj_map hb, Result.andThen, go_sem]
set_option maxRecDepth 100000 in
theorem mclone_calls (b : Nat) (w : World) (hb : Mt b w) :
    Calls Tryz.prog 60 #[.map (some b)] w fun e w' => e = .returned (.map (some w.heap.size)) ∧ w' = w.alloc (.map #[] 0) := by
  have hq := fun w => run_eql_map_nil_x w 158 _ _ (some b) Tryz.underlying158
  go_enter Tryz.func60, Tryz.ntmps60
  go_wp2
  rw [run_callFunc_extern Tryz.func72 (by kernel_rfl) (by kernel_rfl) (by kernel_rfl) (e := Extern.MapsClone.clone) (by kernel_rfl), run_maps_clone_x w 158 hb]
  simp only [Result.andThen]
  rw [Oper.upon_value]
  go_wp2
  rw [run_typeAssert_map_x _ 158 _ _ _ _ Tryz.underlying158]
  simp only [Result.andThen]
  rw [Oper.upon_value]
  go_wp2
  go_ret
  exact ⟨rfl, rfl⟩
theorem run_range_mt (w : World) (t k e : TypeId) (b : Nat) (ht : Tryz.prog.underlying t = some (.map k e)) (hb : Mt b w) :
    (Instr.range t (.map (some b))).run Tryz.prog w = .ok (.pointer (some ⟨w.heap.size, 0, none⟩)) (w.alloc (.mapIter (some b) 0 #[] 0)) := run_range_map w t k e b #[] 0 ht hb
theorem run_next_mt (w : World) (ty : TypeId) (it b : Nat) (hb : Mt b w) (hi : w.heap[it]? = some (.mapIter (some b) 0 #[] 0)) :
    (Instr.next (.pointer (some ⟨it, 0, none⟩)) false ty).run Tryz.prog w = .ok (.tuple #[.bool false]) w := by
  unfold Mt at hb
  simp [Instr.next, getObj, Sem.run, hi, hb, Result.andThen, choose, show (Question.mapNext 1).forced = true from rfl]
section
variable {fn : FuncId} {tmps : Array Value} {assign body : Code}
/-- The loop's record and the block for its rounds' deferred calls. -/
structure Lq (fn : FuncId) (tmps : Array Value) (assign body : Code) (l D : Nat) (W : World) : Prop where
  L : W.heap[l]? = some (.loop { state := .ready, pending := none, fn, tmps, params := #[7], assign, body, defers := D })
  K : W.heap[D]? = some (.deferred (some []))
end
theorem keysM_calls (b : Nat) (w : World) : Calls Tryz.prog 64 #[.map (some b)] w fun e w' => e = .returned (.func (.func 77) #[] #[.pointer (some ⟨w.heap.size, 0, none⟩)]) ∧ w' = w.alloc (.cells #[.map (some b)] 158) := by
  have hmf : ∀ (fn : Fn) (first cap : Array Value) (w : World), (Instr.makeFunc fn first cap).run Tryz.prog w = .ok (.func fn first cap) w := fun _ _ _ _ => rfl
  go_enter Tryz.func64, Tryz.ntmps64
  go_wp2
  go_ret
  exact ⟨rfl, rfl⟩
theorem keysH_calls (b : Nat) (w : World) : Calls Tryz.prog 57 #[.map (some b)] w fun e w' => e = .returned (.func (.func 67) #[] #[.pointer (some ⟨w.heap.size, 0, none⟩)]) ∧ w' = w.alloc (.cells #[.map (some b)] 159) := by
  have hmf : ∀ (fn : Fn) (first cap : Array Value) (w : World), (Instr.makeFunc fn first cap).run Tryz.prog w = .ok (.func fn first cap) w := fun _ _ _ _ => rfl
  go_enter Tryz.func57, Tryz.ntmps57
  go_wp2
  go_ret
  exact ⟨rfl, rfl⟩
set_option maxRecDepth 100000 in
theorem iterM_in (m l Bs b : Nat) (W : World) (hB : W.cell? ⟨Bs, 0, none⟩ = some (.map (some b))) (hb : Mt b W) :
    CallsIn Fence.wide m Tryz.prog 77 #[.func (.yield l) #[] #[], .pointer (some ⟨Bs, 0, none⟩)] W fun e W' => (∃ v, e = .returned v) ∧ Below W.heap.size W W' := by
  refine callsIn_of_wp Tryz.func77 rfl trivial ?_ rfl
  simp only [Tryz.ntmps77, List.size_toArray, List.length_cons, List.length_nil, Nat.reduceAdd, Nat.reduceSub, Array.replicate_succ, Array.replicate_zero, List.push_toArray, List.append_toArray, List.nil_append, List.cons_append]
  have hrg := run_range_mt W 158 _ _ b Tryz.underlying158 hb
  have hnx : ∀ ty, (Instr.next (.pointer (some ⟨W.heap.size, 0, none⟩)) false ty).run Tryz.prog (W.alloc (.mapIter (some b) 0 #[] 0)) = _ := fun ty => run_next_mt _ ty W.heap.size b (hb.below ((Below.refl _ _).alloc (Nat.le_refl _) _)) (World.alloc_heap_new W _)
  gi_wp2
  refine wpIn_loop_rounds 1 ?_
  rw [roundsIn_succ]
  gi_wp2
  go_end0
  exact ⟨⟨_, rfl⟩, (Below.refl _ _).alloc (Nat.le_refl _) _⟩
set_option maxRecDepth 100000 in
theorem iterH_in (m l Bs b : Nat) (W : World) (hB : W.cell? ⟨Bs, 0, none⟩ = some (.map (some b))) (hb : Mt b W) :
    CallsIn Fence.wide m Tryz.prog 67 #[.func (.yield l) #[] #[], .pointer (some ⟨Bs, 0, none⟩)] W fun e W' => (∃ v, e = .returned v) ∧ Below W.heap.size W W' := by
  refine callsIn_of_wp Tryz.func67 rfl trivial ?_ rfl
  simp only [Tryz.ntmps67, List.size_toArray, List.length_cons, List.length_nil, Nat.reduceAdd, Nat.reduceSub, Array.replicate_succ, Array.replicate_zero, List.push_toArray, List.append_toArray, List.nil_append, List.cons_append]
  have hrg := run_range_mt W 159 _ _ b Tryz.underlying159 hb
  have hnx : ∀ ty, (Instr.next (.pointer (some ⟨W.heap.size, 0, none⟩)) false ty).run Tryz.prog (W.alloc (.mapIter (some b) 0 #[] 0)) = _ := fun ty => run_next_mt _ ty W.heap.size b (hb.below ((Below.refl _ _).alloc (Nat.le_refl _) _)) (World.alloc_heap_new W _)
  gi_wp2
  refine wpIn_loop_rounds 1 ?_
  rw [roundsIn_succ]
  gi_wp2
  go_end0
  exact ⟨⟨_, rfl⟩, (Below.refl _ _).alloc (Nat.le_refl _) _⟩
/-- A range over a function that never yields. -/
theorem range_none {assign body : Code} {Q : Exit → Act → World → Prop} {tmps : Array Value} {W0 : World} (g gf Bs : Nat)
    (hg : ∀ (l : Nat) (w : World), (resolve (Act.mk tmps []).eval (rangeCall (.tmp g) l) 0).run Tryz.prog w = .ok { target := .fn (.func gf) #[.pointer (some ⟨Bs, 0, none⟩)], args := #[.func (.yield l) #[] #[]] } w)
    (he : ∀ args w, (callFunc gf args).run Tryz.prog w = .ok (.enter gf args) w)
    (hc : ∀ W1, Below W0.heap.size W0 W1 → CallsIn Fence.wide 2 Tryz.prog gf #[.func (.yield (W0.heap.size + 1)) #[] #[], .pointer (some ⟨Bs, 0, none⟩)] W1 fun e W' => (∃ v, e = .returned v) ∧ Below W1.heap.size W1 W')
    (hdone : ∀ W3, Below W0.heap.size W0 W3 → W3.heap[W0.heap.size]? = some (.deferred (some [])) → Q .normal { tmps := tmps, defers := [{ target := .collected W0.heap.size, args := #[] }] } W3) :
    (Code.rangeFunc (.tmp g) #[7] assign body).wpIn Fence.wide 3 Tryz.prog Q { tmps := tmps, defers := [] } W0 := by
  refine wpIn_rangeFunc ?_
  intro fn hfn
  obtain ⟨W1, hW1⟩ : ∃ W1, (W0.alloc (.deferred (some []))).alloc (.loop { state := .ready, pending := none, fn, tmps := tmps, params := #[7], assign, body, defers := W0.heap.size }) = W1 := ⟨_, rfl⟩
  have hb1 : Below W0.heap.size W0 W1 := by rw [← hW1]; exact ((Below.refl _ _).alloc (Nat.le_refl _) _).alloc (by simp only [World.size_alloc]; omega) _
  have hz1 : W1.heap.size = W0.heap.size + 2 := by rw [← hW1]; simp
  have hL : Lq fn tmps assign body (W0.heap.size + 1) W0.heap.size W1 :=
    ⟨by rw [← hW1]; have := World.alloc_heap_new (W0.alloc (.deferred (some []))) (.loop { state := .ready, pending := none, fn, tmps := tmps, params := #[7], assign, body, defers := W0.heap.size }); rwa [World.size_alloc] at this,
     by rw [← hW1]; exact (Below.heap_alloc _ _ _ (by simp)).trans (World.alloc_heap_new W0 _)⟩
  refine ⟨W0.heap.size + 1, [{ target := .collected W0.heap.size, args := #[] }], W1, { target := .fn (.func gf) #[.pointer (some ⟨Bs, 0, none⟩)], args := #[.func (.yield (W0.heap.size + 1)) #[] #[]] }, W1, gf,
    #[.func (.yield (W0.heap.size + 1)) #[] #[], .pointer (some ⟨Bs, 0, none⟩)], W1, ?_, hg _ _, fun _ _ => trivial, ?_, fun h => by simp [Fence.wide] at h, ?_⟩
  · rw [← hW1]; exact run_enterLoop_outer _ _ _ _ _
  · simp [invoke, go_sem, he]
  refine (hc W1 hb1).mono ?_
  rintro e W2 ⟨⟨v, rfl⟩, hb2⟩
  have hl : W0.heap.size + 1 < W1.heap.size := by omega
  have hL2 := (hb2.block _ hl).trans hL.L
  have hK2 := (hb2.block _ (by omega)).trans hL.K
  have hs2 := hb2.size
  refine ⟨none, _, run_endLoop hL2 (by simp), hdone _ ?_ ((World.putObj_heap_other (by omega)).trans hK2)⟩
  have hb3 := hb1.trans (hb2.mono hb1.size)
  exact ⟨hb3.os, hb3.tape, hb3.output, Nat.le_trans hb3.size (by simp [World.putObj]), fun j hj => (World.putObj_heap_other (by omega)).trans (hb3.block j hj)⟩
end Go.Proofs.YtndgfpfcdppfgaaGreatDoor

/- TopStamps: lin.Find on its one history: what is told of empty maps; a model's copy. No condition. -/
namespace Go.Proofs.YtndgfpfcdppfgaaGreatDoor
open Go.RowKit Go.Shelf Go.Proofs.YtndgfpfcdppfgaaGreatDoorW.PrintWords Go.Proofs.YtndgfpfcdppfgaaGreatDoorW.PrintMore
set_option linter.unusedVariables false
set_option linter.unusedSimpArgs false
/-- An iterator's value that gives nothing, from the world w on. -/
structure Non (gf Bs : Nat) (w : World) : Prop where
  e : ∀ args w, (callFunc gf args).run Tryz.prog w = .ok (.enter gf args) w
  c : ∀ l W1, Below w.heap.size w W1 → CallsIn Fence.wide 2 Tryz.prog gf #[.func (.yield l) #[] #[], .pointer (some ⟨Bs, 0, none⟩)] W1 fun e W' => (∃ v, e = .returned v) ∧ Below W1.heap.size W1 W'
theorem Non.below {gf Bs : Nat} {w w' : World} (h : Non gf Bs w) (hb : Below w.heap.size w w') : Non gf Bs w' := ⟨h.e, fun l W1 h1 => h.c l W1 (hb.trans (h1.mono hb.size))⟩
theorem nonM {b : Nat} {w : World} (hb : Mt b w) : Non 77 w.heap.size (w.alloc (.cells #[.map (some b)] 158)) :=
  ⟨enters_of Tryz.func77 (by kernel_rfl) rfl, fun l W1 h1 => by
    have hn := Bk.new w #[.map (some b)] 158
    exact iterM_in 2 l w.heap.size b W1 ((hn.below h1).cell rfl) ((hb.below ((Below.refl _ _).alloc (Nat.le_refl _) _)).below h1)⟩
theorem nonH {b : Nat} {w : World} (hb : Mt b w) : Non 67 w.heap.size (w.alloc (.cells #[.map (some b)] 159)) :=
  ⟨enters_of Tryz.func67 (by kernel_rfl) rfl, fun l W1 h1 => by
    have hn := Bk.new w #[.map (some b)] 159
    exact iterH_in 2 l w.heap.size b W1 ((hn.below h1).cell rfl) ((hb.below ((Below.refl _ _).alloc (Nat.le_refl _) _)).below h1)⟩
set_option maxRecDepth 100000 in
theorem appendseq_none (gf Bs : Nat) (w : World) (hn : Non gf Bs w) : Calls Tryz.prog 78 #[.slice none 0 0, .func (.func gf) #[] #[.pointer (some ⟨Bs, 0, none⟩)]] w fun e w' => e = .returned (.slice none 0 0) ∧ Below w.heap.size w w' := by
  refine (callsIn_wide (n := 3)).1 ?_
  have hd1 : (1 : Nat) ≤ 3 := by decide
  refine callsIn_of_wp_marks Tryz.func78 rfl trivial ?_ rfl
  simp only [Tryz.ntmps78, List.size_toArray, List.length_cons, List.length_nil, Nat.reduceAdd, Nat.reduceSub, Array.replicate_succ, Array.replicate_zero, List.push_toArray, List.append_toArray, List.nil_append, List.cons_append]
  gi_wp2
  have hb0 : Below w.heap.size w (w.alloc (.cells #[.slice none 0 0] 31)) := (Below.refl _ _).alloc (Nat.le_refl _) _
  have k0 := Bk.new w #[.slice none 0 0] 31
  have hs0 := World.size_alloc w (.cells #[.slice none 0 0] 31)
  generalize w.alloc (.cells #[.slice none 0 0] 31) = W0 at hb0 k0 hs0 ⊢
  refine range_none 6 gf Bs ?hg hn.e ?hc ?hdone
  case hg => intro l wx; simp [resolve, go_sem]
  case hc => intro W1 h1; exact hn.c _ W1 (hb0.trans (h1.mono hb0.size))
  case hdone =>
    intro W3 h3 hK
    have hc := (k0.below h3).cell (i := 0) rfl
    gi_wp2
    have hne : w.heap.size ≠ W0.heap.size := by omega
    refine ⟨by simp, .inl ⟨_, _, rfl, run_takeDeferred hK, ?_⟩⟩
    have hb3 := hb0.trans (h3.mono hb0.size)
    exact ⟨_, results_tmp rfl _ _ _, rfl, hb3.os, hb3.tape, hb3.output, Nat.le_trans hb3.size (by simp [World.putObj]), fun j hj => (World.putObj_heap_other (by omega)).trans (hb3.block j hj)⟩
theorem collect_none (gf Bs : Nat) (w : World) (hn : Non gf Bs w) : Calls Tryz.prog 65 #[.func (.func gf) #[] #[.pointer (some ⟨Bs, 0, none⟩)]] w fun e w' => e = .returned (.slice none 0 0) ∧ Below w.heap.size w w' := by
  go_enter Tryz.func65, Tryz.ntmps65
  go_wp2_with (go_at_call 78; refine (appendseq_none gf Bs _ hn).mono ?_; rintro e w' ⟨rfl, hb⟩)
  go_ret
  exact ⟨rfl, hb⟩
theorem insert_none (w : World) : Calls Tryz.prog 89 #[.slice none 0 0, .int .i64 0, .int .i64 0] w fun e w' => e = .returned (.tuple #[]) ∧ w = w' := by
  go_enter Tryz.func89, Tryz.ntmps89
  go_wp2
  refine wp_loop_rounds 1 ?_
  rw [rounds_succ]
  go_wp2
  go_end0
  exact ⟨rfl, rfl⟩
set_option maxRecDepth 100000 in
theorem pdq_none (k : Int) (w : World) : Calls Tryz.prog 79 #[.slice none 0 0, .int .i64 0, .int .i64 0, .int .i64 k] w fun e w' => e = .returned (.tuple #[]) ∧ w = w' := by
  go_enter Tryz.func79, Tryz.ntmps79
  go_wp2
  refine wp_loop_rounds 1 ?_
  rw [rounds_succ]
  go_wp2_with (go_at_call 89; refine (insert_none _).mono ?_; rintro e w' ⟨rfl, rfl⟩)
  first | go_end0 | refine bodyPost_ret (results_none rfl _ _ _) rfl ?_
  exact ⟨rfl, rfl⟩
set_option maxRecDepth 100000 in
theorem len_zero (w : World) : Calls Tryz.prog 80 #[.int .u64 0] w fun e w' => ∃ k, e = .returned (.int .i64 k) ∧ w = w' := by
  go_enter Tryz.func80, Tryz.ntmps80
  go_wp2
  go_ret
  exact ⟨_, rfl, rfl⟩
theorem sort_none (w : World) : Calls Tryz.prog 66 #[.slice none 0 0] w fun e w' => e = .returned (.tuple #[]) ∧ w = w' := by
  go_enter Tryz.func66, Tryz.ntmps66
  go_wp2_with (first
    | (go_at_call 80; refine (len_zero _).mono ?_; rintro e w' ⟨k, rfl, rfl⟩)
    | (go_at_call 79; refine (pdq_none _ _).mono ?_; rintro e w' ⟨rfl, rfl⟩))
  go_end0
  exact ⟨rfl, rfl⟩
theorem sorted_none (gf Bs : Nat) (w : World) (hn : Non gf Bs w) : Calls Tryz.prog 56 #[.func (.func gf) #[] #[.pointer (some ⟨Bs, 0, none⟩)]] w fun e w' => e = .returned (.slice none 0 0) ∧ Below w.heap.size w w' := by
  go_enter Tryz.func56, Tryz.ntmps56
  go_wp2_with (first
    | (go_at_call 65; refine (collect_none gf Bs _ hn).mono ?_; rintro e w1 ⟨rfl, hb⟩)
    | (go_at_call 66; refine (sort_none _).mono ?_; rintro e w' ⟨rfl, rfl⟩))
  go_ret
  exact ⟨rfl, hb⟩
theorem msorted_none (b : Nat) (w : World) (hb : Mt b w) : Calls Tryz.prog 55 #[.map (some b)] w fun e w' => e = .returned (.slice none 0 0) ∧ Below w.heap.size w w' := by
  have hn := nonM hb
  go_enter Tryz.func55, Tryz.ntmps55
  go_wp2_with (first
    | (go_at_call 64; refine (keysM_calls b _).mono ?_; rintro e w1 ⟨rfl, rfl⟩)
    | (go_at_call 56; refine (sorted_none _ _ _ hn).mono ?_; rintro e w2 ⟨rfl, hb2⟩))
  refine wp_loop_rounds 1 ?_
  rw [rounds_succ]
  go_wp2
  go_ret
  exact ⟨rfl, ((Below.refl _ _).alloc (Nat.le_refl _) _).trans (hb2.mono (by simp))⟩
theorem content_none {b mn mh : Nat} (w : World) (h : EM w b mn mh) : Calls Tryz.prog 45 #[.pointer (some ⟨b, 0, none⟩)] w fun e w' => e = .returned (.slice none 0 0) ∧ Below w.heap.size w w' := by
  have c1 := h.b.cell (i := 1) rfl
  have hn := h.n
  go_enter Tryz.func45, Tryz.ntmps45
  go_wp2_with (go_at_call 55; refine (msorted_none mn _ hn).mono ?_; rintro e w1 ⟨rfl, hb⟩)
  go_ret
  exact ⟨rfl, hb⟩
theorem handles_none {b mn mh : Nat} (w : World) (h : EM w b mn mh) : Calls Tryz.prog 46 #[.pointer (some ⟨b, 0, none⟩)] w fun e w' => e = .returned (.slice none 0 0) ∧ Below w.heap.size w w' := by
  have c1 := h.b.cell (i := 2) rfl
  have hn := nonH h.h
  go_enter Tryz.func46, Tryz.ntmps46
  go_wp2_with (first
    | (go_at_call 57; refine (keysH_calls mh _).mono ?_; rintro e w1 ⟨rfl, rfl⟩)
    | (go_at_call 56; refine (sorted_none _ _ _ hn).mono ?_; rintro e w2 ⟨rfl, hb2⟩))
  go_ret
  exact ⟨rfl, ((Below.refl _ _).alloc (Nat.le_refl _) _).trans (hb2.mono (by simp))⟩
end Go.Proofs.YtndgfpfcdppfgaaGreatDoor

/- TopStamps: lin.Find on its one history: a model's Fork, Do and Take at a Get of a model that holds nothing. No condition. -/
namespace Go.Proofs.YtndgfpfcdppfgaaGreatDoor
open Go.RowKit Go.Shelf Go.Proofs.YtndgfpfcdppfgaaGreatDoorW.PrintWords Go.Proofs.YtndgfpfcdppfgaaGreatDoorW.PrintMore
set_option linter.unusedVariables false
set_option linter.unusedSimpArgs false
theorem keyedU : Go.Maps.Keyed Tryz.prog 27 := Go.Maps.int_keyed Tryz.underlying27
theorem zeroU (w : World) : (zeroValue 27).run Tryz.prog w = .ok (.int .u64 0) w := Tryz.zeroValue27 w
theorem zeroM (w : World) : (zeroValue 158).run Tryz.prog w = .ok (.map none) w := Tryz.zeroValue158 w
theorem keyU0 : Go.keyOf Tryz.prog 27 (.int .u64 0) = some (.int .u64 0) := Go.Maps.keyOf_int_mk Tryz.underlying27 (by decide)
theorem look_mn {w : World} {b : Nat} (h : Mt b w) : (Instr.lookup 158 (.map (some b)) (.int .u64 0) true).run Tryz.prog w = .ok (.tuple #[.int .u64 0, .bool false]) w :=
  (h.has Tryz.prog 27 (Value.int .u64)).look_ok keyedU MF.vint_inj Tryz.underlying158 (zeroU w) (i := 0) keyU0
theorem look_mh {w : World} {b : Nat} (h : Mt b w) : (Instr.lookup 159 (.map (some b)) (.int .u64 0) true).run Tryz.prog w = .ok (.tuple #[.map none, .bool false]) w :=
  (h.has Tryz.prog 27 (Value.int .u64)).look_ok keyedU MF.vint_inj Tryz.underlying159 (zeroM w) (i := 0) keyU0
theorem Mt.draw {w : World} {b : Nat} (h : Mt b w) (n : Nat) : Mt b (w.drewN n) := h
theorem Mt.alloc {w : World} {b : Nat} (h : Mt b w) (o : Obj) : Mt b (w.alloc o) := h.below ((Below.refl _ _).alloc (Nat.le_refl _) _)
theorem mclone_any (b : Nat) (w : World) (hb : Mt b w) : Calls Tryz.prog 60 #[.map (some b)] w fun e w' => ∃ c, e = .returned (.map (some c)) ∧ Mt c w' ∧ Below w.heap.size w w' :=
  (mclone_calls b w hb).mono fun e w' ⟨h1, h2⟩ => ⟨_, h1, by rw [h2]; exact Mt.new w, by rw [h2]; exact (Below.refl _ _).alloc (Nat.le_refl _) _⟩
theorem below_on {w w1 w2 : World} (h : Below w.heap.size w w1) (h2 : Below w1.heap.size w1 w2) : Below w.heap.size w w2 := h.trans (h2.mono h.size)
/-- What a copy of a model is. -/
def FK (w : World) (e : Ending) (w' : World) : Prop := ∃ b mn mh, e = .returned (.pointer (some ⟨b, 0, none⟩)) ∧ EM w' b mn mh ∧ w.heap.size ≤ b ∧ Below w.heap.size w w'
set_option maxHeartbeats 4000000 in
set_option maxRecDepth 100000 in
theorem fork_calls {b mn mh : Nat} (w : World) (h : EM w b mn mh) : Calls Tryz.prog 51 #[.pointer (some ⟨b, 0, none⟩)] w fun e w' => FK w e w' := by
  have hmm := @run_makeMap Tryz.prog
  have HE := Aside0.mk h
  have z0 : ∀ wx, Below w.heap.size w wx → wx.cell? ⟨b, 0, none⟩ = some (.int .i64 1) := fun wx hb => (h.below hb).b.cell rfl
  have z1 : ∀ wx, Below w.heap.size w wx → wx.cell? ⟨b, 1, none⟩ = some (.map (some mn)) := fun wx hb => (h.below hb).b.cell rfl
  have hr : Below w.heap.size w w := Below.refl _ _
  have hr2 : Below w.heap.size w w.drew := hr.drew
  clear h
  go_enter Tryz.func51, Tryz.ntmps51
  go_wp2_with fail
  go_region_held3 (fun w' => Below w.heap.size w w') (first | assumption | exact Below.alloc (by assumption) (Below.size (by assumption)) _) (first
    | (go_at_call 60; with_reducible refine (mclone_any mn _ (HE.out.below (by assumption)).n).mono ?_; rintro e w' ⟨c, rfl, hm, hb⟩; have hs_ : Below w.heap.size w w' := below_on (by assumption) hb; have HM := Aside0.mk (And.intro hm hb); clear hm hb))
  · have h1 : EM ((w'.alloc (.map #[] 0)).alloc (.cells #[.int .i64 1, .map (some c), .map (some w'.heap.size)] 161)) (w'.heap.size + 1) c w'.heap.size := by
      have hn := Bk.new (w'.alloc (.map #[] 0)) #[.int .i64 1, .map (some c), .map (some w'.heap.size)] 161
      rw [World.size_alloc] at hn
      exact ⟨hn, (HM.out.1.alloc _).alloc _, (Mt.new w').alloc _⟩
    have hk : EM ((w'.alloc (.map #[] 0)).alloc (.cells #[.int .i64 1, .map (some c), .map (some w'.heap.size)] 161)) b mn mh := HE.out.below (by assumption)
    have h3 : Below w.heap.size w ((w'.alloc (.map #[] 0)).alloc (.cells #[.int .i64 1, .map (some c), .map (some w'.heap.size)] 161)) := by assumption
    have hsz : w.heap.size ≤ w'.heap.size + 1 := by have := hs_.size; omega
    generalize (w'.alloc (.map #[] 0)).alloc (.cells #[.int .i64 1, .map (some c), .map (some w'.heap.size)] 161) = W3 at h1 hk h3 ⊢
    generalize w'.heap.size + 1 = b2 at h1 hsz ⊢
    have HF : Aside0 (FK w (.returned (.pointer (some ⟨b2, 0, none⟩))) (W3.alloc (.mapIter (some mh) 0 #[] 0))) := ⟨b2, c, w'.heap.size, rfl, h1.below ((Below.refl _ _).alloc (Nat.le_refl _) _), hsz, h3.alloc h3.size _⟩
    clear h1 h3 HM hsz
    rename_i hh
    clear hh
    have z2 := hk.b.cell (i := 2) rfl
    have hm3 := hk.h
    have hrg := run_range_mt W3 159 _ _ mh Tryz.underlying159 hm3
    have hnx : ∀ ty, (Instr.next (.pointer (some ⟨W3.heap.size, 0, none⟩)) false ty).run Tryz.prog (W3.alloc (.mapIter (some mh) 0 #[] 0)) = _ := fun ty => run_next_mt _ ty W3.heap.size mh (hm3.below ((Below.refl _ _).alloc (Nat.le_refl _) _)) (World.alloc_heap_new W3 _)
    go_wp2
    refine wp_loop_rounds 1 ?_
    rw [rounds_succ]
    go_wp2
    go_ret
    exact HF.out
  · have h1 : EM (w'.alloc (.cells #[.int .i64 1, .map (some c), .map (some w.heap.size)] 161)) w'.heap.size c w.heap.size := by
      have hn := Bk.new w' #[.int .i64 1, .map (some c), .map (some w.heap.size)] 161
      exact ⟨hn, HM.out.1.alloc _, ((show Mt w.heap.size (w.alloc (.map #[] 0)).drew from Mt.new w).below HM.out.2).alloc _⟩
    have hk : EM (w'.alloc (.cells #[.int .i64 1, .map (some c), .map (some w.heap.size)] 161)) b mn mh := HE.out.below (by assumption)
    have h3 : Below w.heap.size w (w'.alloc (.cells #[.int .i64 1, .map (some c), .map (some w.heap.size)] 161)) := by assumption
    have hsz : w.heap.size ≤ w'.heap.size := hs_.size
    generalize w'.alloc (.cells #[.int .i64 1, .map (some c), .map (some w.heap.size)] 161) = W3 at h1 hk h3 ⊢
    generalize w'.heap.size = b2 at h1 hsz ⊢
    have HF : Aside0 (FK w (.returned (.pointer (some ⟨b2, 0, none⟩))) (W3.alloc (.mapIter (some mh) 0 #[] 0))) := ⟨b2, c, w.heap.size, rfl, h1.below ((Below.refl _ _).alloc (Nat.le_refl _) _), hsz, h3.alloc h3.size _⟩
    clear h1 h3 HM hsz
    rename_i hh
    clear hh
    have z2 := hk.b.cell (i := 2) rfl
    have hm3 := hk.h
    have hrg := run_range_mt W3 159 _ _ mh Tryz.underlying159 hm3
    have hnx : ∀ ty, (Instr.next (.pointer (some ⟨W3.heap.size, 0, none⟩)) false ty).run Tryz.prog (W3.alloc (.mapIter (some mh) 0 #[] 0)) = _ := fun ty => run_next_mt _ ty W3.heap.size mh (hm3.below ((Below.refl _ _).alloc (Nat.le_refl _) _)) (World.alloc_heap_new W3 _)
    go_wp2
    refine wp_loop_rounds 1 ?_
    rw [rounds_succ]
    go_wp2
    go_ret
    exact HF.out
set_option maxHeartbeats 4000000 in
set_option maxRecDepth 100000 in
theorem do_calls {b mn mh : Nat} (w : World) (h : EM w b mn mh) : Calls Tryz.prog 61 #[.pointer (some ⟨b, 0, none⟩), .agg #[.int .u8 1, .int .u64 0, .int .u64 0, .int .u64 0, .int .u64 0, .bool false, .int .i64 0, .int .i64 0, .slice none 0 0, .int .u64 0, .int .u64 0], .int .u64 0] w fun e w' => e = .returned (.agg #[.int .i64 0, .bool false, .int .u64 0, .bool false, .int .u64 0, .slice none 0 0, .int .u64 0]) ∧ Below w.heap.size w w' := by
  go_enter Tryz.func61, Tryz.ntmps61
  go_upto_region 3 with fail
  have hb1 : Below w.heap.size w ((w.alloc (.cells #[.int .u8 1, .int .u64 0, .int .u64 0, .int .u64 0, .int .u64 0, .bool false, .int .i64 0, .int .i64 0, .slice none 0 0, .int .u64 0, .int .u64 0] 60)).alloc (.cells #[.int .i64 0, .bool false, .int .u64 0, .bool false, .int .u64 0, .slice none 0 0, .int .u64 0] 63)) := ((Below.refl _ _).alloc (Nat.le_refl _) _).alloc (by simp only [World.size_alloc]; omega) _
  have h1 := h.below hb1
  have k0 : Bk w.heap.size 60 #[.int .u8 1, .int .u64 0, .int .u64 0, .int .u64 0, .int .u64 0, .bool false, .int .i64 0, .int .i64 0, .slice none 0 0, .int .u64 0, .int .u64 0] ((w.alloc (.cells #[.int .u8 1, .int .u64 0, .int .u64 0, .int .u64 0, .int .u64 0, .bool false, .int .i64 0, .int .i64 0, .slice none 0 0, .int .u64 0, .int .u64 0] 60)).alloc (.cells #[.int .i64 0, .bool false, .int .u64 0, .bool false, .int .u64 0, .slice none 0 0, .int .u64 0] 63)) := (Bk.new _ _ _).below ((Below.refl _ _).alloc (Nat.le_refl _) _)
  have k1 : Bk (w.heap.size + 1) 63 #[.int .i64 0, .bool false, .int .u64 0, .bool false, .int .u64 0, .slice none 0 0, .int .u64 0] ((w.alloc (.cells #[.int .u8 1, .int .u64 0, .int .u64 0, .int .u64 0, .int .u64 0, .bool false, .int .i64 0, .int .i64 0, .slice none 0 0, .int .u64 0, .int .u64 0] 60)).alloc (.cells #[.int .i64 0, .bool false, .int .u64 0, .bool false, .int .u64 0, .slice none 0 0, .int .u64 0] 63)) := by
    have := Bk.new (w.alloc (.cells #[.int .u8 1, .int .u64 0, .int .u64 0, .int .u64 0, .int .u64 0, .bool false, .int .i64 0, .int .i64 0, .slice none 0 0, .int .u64 0, .int .u64 0] 60)) #[.int .i64 0, .bool false, .int .u64 0, .bool false, .int .u64 0, .slice none 0 0, .int .u64 0] 63
    rwa [World.size_alloc] at this
  have hs1 : ((w.alloc (.cells #[.int .u8 1, .int .u64 0, .int .u64 0, .int .u64 0, .int .u64 0, .bool false, .int .i64 0, .int .i64 0, .slice none 0 0, .int .u64 0, .int .u64 0] 60)).alloc (.cells #[.int .i64 0, .bool false, .int .u64 0, .bool false, .int .u64 0, .slice none 0 0, .int .u64 0] 63)).heap.size = w.heap.size + 2 := by simp only [World.size_alloc]
  generalize (w.alloc (.cells #[.int .u8 1, .int .u64 0, .int .u64 0, .int .u64 0, .int .u64 0, .bool false, .int .i64 0, .int .i64 0, .slice none 0 0, .int .u64 0, .int .u64 0] 60)).alloc (.cells #[.int .i64 0, .bool false, .int .u64 0, .bool false, .int .u64 0, .slice none 0 0, .int .u64 0] 63) = w1 at hb1 h1 k0 k1 hs1 ⊢
  obtain ⟨q, hq⟩ : ∃ q, w.heap.size = q := ⟨_, rfl⟩
  have HB : Aside0 (Below w.heap.size w w1 ∧ w.heap.size = q) := ⟨hb1, hq⟩
  rw [hq] at k0 k1 hs1 ⊢
  clear hb1 hq
  have c1 := h1.b.cell (i := 1) rfl
  have o1 := k0.cell (i := 1) rfl
  have hl : ∀ j, (Instr.lookup 158 (.map (some mn)) (.int .u64 0) true).run Tryz.prog (w1.drewN j) = .ok (.tuple #[.int .u64 0, .bool false]) (w1.drewN j) := fun j => look_mn h1.n
  have hl0 : (Instr.lookup 158 (.map (some mn)) (.int .u64 0) true).run Tryz.prog w1 = .ok (.tuple #[.int .u64 0, .bool false]) w1 := hl 0
  go_quiet (fail)
  go_upto_region 5 with fail
  have hb2 : Below w1.heap.size w1 ((w1.drewN nq).alloc (.cells #[.int .i64 0, .bool false, .int .u64 0, .bool false, .int .u64 0, .slice none 0 0, .int .u64 0] 63)) := (pw_below_drewN (Below.refl _ _) nq).alloc (Nat.le_refl _) _
  have h2 := h1.below hb2
  have k2 : Bk (q + 2) 63 #[.int .i64 0, .bool false, .int .u64 0, .bool false, .int .u64 0, .slice none 0 0, .int .u64 0] ((w1.drewN nq).alloc (.cells #[.int .i64 0, .bool false, .int .u64 0, .bool false, .int .u64 0, .slice none 0 0, .int .u64 0] 63)) := by
    have := Bk.new (w1.drewN nq) #[.int .i64 0, .bool false, .int .u64 0, .bool false, .int .u64 0, .slice none 0 0, .int .u64 0] 63
    rwa [show (w1.drewN nq).heap.size = q + 2 from hs1] at this
  have k3 := k0.below hb2
  have k4 := k1.below hb2
  clear hl hl0 c1 o1 k0 k1
  generalize (w1.drewN nq).alloc (.cells #[.int .i64 0, .bool false, .int .u64 0, .bool false, .int .u64 0, .slice none 0 0, .int .u64 0] 63) = w2 at hb2 h2 k2 k3 k4 ⊢
  have c1 := h2.b.cell (i := 2) rfl
  have o1 := k3.cell (i := 4) rfl
  have o0 := k3.cell (i := 0) rfl
  have hl : ∀ j, (Instr.lookup 159 (.map (some mh)) (.int .u64 0) true).run Tryz.prog (w2.drewN j) = .ok (.tuple #[.map none, .bool false]) (w2.drewN j) := fun j => look_mh h2.h
  have hl0 : (Instr.lookup 159 (.map (some mh)) (.int .u64 0) true).run Tryz.prog w2 = .ok (.tuple #[.map none, .bool false]) w2 := hl 0
  go_quiet (fail)
  clear hl hl0 c1 o1
  have a0 := k2.cell (i := 0) rfl
  have a1 := k2.cell (i := 1) rfl
  have a2 := k2.cell (i := 2) rfl
  have a3 := k2.cell (i := 3) rfl
  have a4 := k2.cell (i := 4) rfl
  have a5 := k2.cell (i := 5) rfl
  have a6 := k2.cell (i := 6) rfl
  have f0 := k4.frozen 0
  have f1 := k4.frozen 1
  have f2 := k4.frozen 2
  have f3 := k4.frozen 3
  have f4 := k4.frozen 4
  have f5 := k4.frozen 5
  have f6 := k4.frozen 6
  have g0 := k4.cell (i := 0) rfl
  have g1 := k4.cell (i := 1) rfl
  have g2 := k4.cell (i := 2) rfl
  have g3 := k4.cell (i := 3) rfl
  have g4 := k4.cell (i := 4) rfl
  have g5 := k4.cell (i := 5) rfl
  have g6 := k4.cell (i := 6) rfl
  go_wp2
  refine bodyPost_ret (v := .agg #[.int .i64 0, .bool false, .int .u64 0, .bool false, .int .u64 0, .slice none 0 0, .int .u64 0]) ?_ rfl ⟨rfl, ?_⟩
  · simp [results, Tryz.results61, go_sem, a0, a1, a2, a3, a4, a5, a6, g0, g1, g2, g3, g4, g5, g6]
  · have hq : w.heap.size ≤ q + 1 := by have := HB.out.2; omega
    have h2 := pw_below_drewN (HB.out.1.trans (hb2.mono HB.out.1.size)) nq
    exact ((((((h2.setCell (p := ⟨q + 1, 0, none⟩) hq _).setCell (p := ⟨q + 1, 1, none⟩) hq _).setCell (p := ⟨q + 1, 2, none⟩) hq _).setCell (p := ⟨q + 1, 3, none⟩) hq _).setCell (p := ⟨q + 1, 4, none⟩) hq _).setCell (p := ⟨q + 1, 5, none⟩) hq _).setCell (p := ⟨q + 1, 6, none⟩) hq _
/-- Two answers that say nothing. -/
theorem same_zero (w : World) : Calls Tryz.prog 76 #[.agg #[.int .i64 0, .bool false, .int .u64 0, .bool false, .int .u64 0, .slice none 0 0, .int .u64 0], .agg #[.int .i64 0, .bool false, .int .u64 0, .bool false, .int .u64 0, .slice none 0 0, .int .u64 0]] w fun e w' => e = .returned (.bool true) ∧ Below w.heap.size w w' :=
  Lin.model_SameAnswer.calls 3 0 false 0 false 0 none 0 [] 0 0 false 0 false 0 none 0 [] 0 true w (Kd.C_nil _ w) (Nat.le_refl _) (Kd.C_nil _ w) (Nat.le_refl _) rfl
set_option maxHeartbeats 4000000 in
set_option maxRecDepth 100000 in
theorem take_calls {b mn mh : Nat} (w : World) (h : EM w b mn mh) : Calls Tryz.prog 62 #[.pointer (some ⟨b, 0, none⟩), .agg #[.int .u8 1, .int .u64 0, .int .u64 0, .int .u64 0, .int .u64 0, .bool false, .int .i64 0, .int .i64 0, .slice none 0 0, .int .u64 0, .int .u64 0], .agg #[.int .i64 0, .bool false, .int .u64 0, .bool false, .int .u64 0, .slice none 0 0, .int .u64 0]] w fun e w' => e = .returned (.bool true) ∧ Below w.heap.size w w' := by
  have hmf : ∀ (fn : Fn) (first cap : Array Value) (w : World), (Instr.makeFunc fn first cap).run Tryz.prog w = .ok (.func fn first cap) w := fun _ _ _ _ => rfl
  go_enter Tryz.func62, Tryz.ntmps62
  go_upto_region 4 with fail
  have hb1 : Below w.heap.size w ((w.alloc (.cells #[.int .u8 1, .int .u64 0, .int .u64 0, .int .u64 0, .int .u64 0, .bool false, .int .i64 0, .int .i64 0, .slice none 0 0, .int .u64 0, .int .u64 0] 60)).alloc (.cells #[.int .i64 0, .bool false, .int .u64 0, .bool false, .int .u64 0, .slice none 0 0, .int .u64 0] 63)) := ((Below.refl _ _).alloc (Nat.le_refl _) _).alloc (by simp only [World.size_alloc]; omega) _
  have h1 := h.below hb1
  have k0 : Bk w.heap.size 60 #[.int .u8 1, .int .u64 0, .int .u64 0, .int .u64 0, .int .u64 0, .bool false, .int .i64 0, .int .i64 0, .slice none 0 0, .int .u64 0, .int .u64 0] ((w.alloc (.cells #[.int .u8 1, .int .u64 0, .int .u64 0, .int .u64 0, .int .u64 0, .bool false, .int .i64 0, .int .i64 0, .slice none 0 0, .int .u64 0, .int .u64 0] 60)).alloc (.cells #[.int .i64 0, .bool false, .int .u64 0, .bool false, .int .u64 0, .slice none 0 0, .int .u64 0] 63)) := (Bk.new _ _ _).below ((Below.refl _ _).alloc (Nat.le_refl _) _)
  have k1 : Bk (w.heap.size + 1) 63 #[.int .i64 0, .bool false, .int .u64 0, .bool false, .int .u64 0, .slice none 0 0, .int .u64 0] ((w.alloc (.cells #[.int .u8 1, .int .u64 0, .int .u64 0, .int .u64 0, .int .u64 0, .bool false, .int .i64 0, .int .i64 0, .slice none 0 0, .int .u64 0, .int .u64 0] 60)).alloc (.cells #[.int .i64 0, .bool false, .int .u64 0, .bool false, .int .u64 0, .slice none 0 0, .int .u64 0] 63)) := by
    have := Bk.new (w.alloc (.cells #[.int .u8 1, .int .u64 0, .int .u64 0, .int .u64 0, .int .u64 0, .bool false, .int .i64 0, .int .i64 0, .slice none 0 0, .int .u64 0, .int .u64 0] 60)) #[.int .i64 0, .bool false, .int .u64 0, .bool false, .int .u64 0, .slice none 0 0, .int .u64 0] 63
    rwa [World.size_alloc] at this
  generalize (w.alloc (.cells #[.int .u8 1, .int .u64 0, .int .u64 0, .int .u64 0, .int .u64 0, .bool false, .int .i64 0, .int .i64 0, .slice none 0 0, .int .u64 0, .int .u64 0] 60)).alloc (.cells #[.int .i64 0, .bool false, .int .u64 0, .bool false, .int .u64 0, .slice none 0 0, .int .u64 0] 63) = w1 at hb1 h1 k0 k1 ⊢
  obtain ⟨q, hq⟩ : ∃ q, w.heap.size = q := ⟨_, rfl⟩
  have HB : Aside0 (Below w.heap.size w w1) := ⟨hb1⟩
  rw [hq] at k0 k1 ⊢
  clear hb1 hq
  have HE := Aside0.mk h1
  have HK := Aside0.mk (And.intro k0 k1)
  clear h1 k1
  have c0 := k0.cell (i := 0) rfl
  clear k0
  go_upto_region 26 with (go_at_call 51; go_loud (with_reducible refine (fork_calls _ HE.out).mono ?_); rintro e w2 ⟨b2, mn2, mh2, rfl, hE2, _, hb2⟩; have HE2 := Aside0.mk (And.intro hE2 hb2); clear hE2 hb2)
  have o0 : ∀ wx, Below w2.heap.size w2 wx → wx.cell? ⟨q, 0, none⟩ = some (.int .u8 1) := fun wx h => ((HK.out.1.below HE2.out.2).below h).cell rfl
  have o1 : ∀ wx, Below w2.heap.size w2 wx → wx.cell? ⟨q, 1, none⟩ = some (.int .u64 0) := fun wx h => ((HK.out.1.below HE2.out.2).below h).cell rfl
  have o2 : ∀ wx, Below w2.heap.size w2 wx → wx.cell? ⟨q, 2, none⟩ = some (.int .u64 0) := fun wx h => ((HK.out.1.below HE2.out.2).below h).cell rfl
  have o3 : ∀ wx, Below w2.heap.size w2 wx → wx.cell? ⟨q, 3, none⟩ = some (.int .u64 0) := fun wx h => ((HK.out.1.below HE2.out.2).below h).cell rfl
  have o4 : ∀ wx, Below w2.heap.size w2 wx → wx.cell? ⟨q, 4, none⟩ = some (.int .u64 0) := fun wx h => ((HK.out.1.below HE2.out.2).below h).cell rfl
  have o5 : ∀ wx, Below w2.heap.size w2 wx → wx.cell? ⟨q, 5, none⟩ = some (.bool false) := fun wx h => ((HK.out.1.below HE2.out.2).below h).cell rfl
  have o6 : ∀ wx, Below w2.heap.size w2 wx → wx.cell? ⟨q, 6, none⟩ = some (.int .i64 0) := fun wx h => ((HK.out.1.below HE2.out.2).below h).cell rfl
  have o7 : ∀ wx, Below w2.heap.size w2 wx → wx.cell? ⟨q, 7, none⟩ = some (.int .i64 0) := fun wx h => ((HK.out.1.below HE2.out.2).below h).cell rfl
  have o8 : ∀ wx, Below w2.heap.size w2 wx → wx.cell? ⟨q, 8, none⟩ = some (.slice none 0 0) := fun wx h => ((HK.out.1.below HE2.out.2).below h).cell rfl
  have o9 : ∀ wx, Below w2.heap.size w2 wx → wx.cell? ⟨q, 9, none⟩ = some (.int .u64 0) := fun wx h => ((HK.out.1.below HE2.out.2).below h).cell rfl
  have o10 : ∀ wx, Below w2.heap.size w2 wx → wx.cell? ⟨q, 10, none⟩ = some (.int .u64 0) := fun wx h => ((HK.out.1.below HE2.out.2).below h).cell rfl
  have n0 : ∀ wx, Below w2.heap.size w2 wx → wx.cell? ⟨q + 1, 0, none⟩ = some (.int .i64 0) := fun wx h => ((HK.out.2.below HE2.out.2).below h).cell rfl
  have n1 : ∀ wx, Below w2.heap.size w2 wx → wx.cell? ⟨q + 1, 1, none⟩ = some (.bool false) := fun wx h => ((HK.out.2.below HE2.out.2).below h).cell rfl
  have n2 : ∀ wx, Below w2.heap.size w2 wx → wx.cell? ⟨q + 1, 2, none⟩ = some (.int .u64 0) := fun wx h => ((HK.out.2.below HE2.out.2).below h).cell rfl
  have n3 : ∀ wx, Below w2.heap.size w2 wx → wx.cell? ⟨q + 1, 3, none⟩ = some (.bool false) := fun wx h => ((HK.out.2.below HE2.out.2).below h).cell rfl
  have n4 : ∀ wx, Below w2.heap.size w2 wx → wx.cell? ⟨q + 1, 4, none⟩ = some (.int .u64 0) := fun wx h => ((HK.out.2.below HE2.out.2).below h).cell rfl
  have n5 : ∀ wx, Below w2.heap.size w2 wx → wx.cell? ⟨q + 1, 5, none⟩ = some (.slice none 0 0) := fun wx h => ((HK.out.2.below HE2.out.2).below h).cell rfl
  have n6 : ∀ wx, Below w2.heap.size w2 wx → wx.cell? ⟨q + 1, 6, none⟩ = some (.int .u64 0) := fun wx h => ((HK.out.2.below HE2.out.2).below h).cell rfl
  have hr : Below w2.heap.size w2 w2 := Below.refl _ _
  have hr2 : Below w2.heap.size w2 w2.drew := hr.drew
  clear c0 hmf
  go_region_held3 (fun w' => Below w2.heap.size w2 w') (assumption) (first
    | (go_at_call 61; with_reducible refine (do_calls _ (HE2.out.1.below (by assumption))).mono ?_; rintro e w' ⟨rfl, hb⟩; have hs_ : Below w2.heap.size w2 w' := below_on (by assumption) hb; clear hb)
    | (go_at_call 76; with_reducible refine (same_zero _).mono ?_; rintro e w' ⟨rfl, hb⟩; have hs_ : Below w2.heap.size w2 w' := below_on (by assumption) hb; clear hb))
  all_goals (
    have hc := (show Below w2.heap.size w2 _ by assumption)
    have HF := Aside0.mk (And.intro hc (HE.out.below (HE2.out.2.trans (hc.mono HE2.out.2.size))))
    clear hc
    go_wp2_with (go_at_call 61; with_reducible refine (do_calls _ HF.out.2).mono ?_; rintro e w' ⟨rfl, hb⟩)
    go_ret
    exact ⟨rfl, below_on (below_on (below_on HB.out HE2.out.2) HF.out.1) hb⟩)
set_option maxRecDepth 100000 in
theorem done_calls {b mn mh : Nat} (w : World) (h : EM w b mn mh) : Calls Tryz.prog 52 #[.pointer (some ⟨b, 0, none⟩), .agg #[.int .i64 0, .int .i64 0, .int .i64 0, .int .i64 0, .int .u8 1, .int .u64 0, .int .u64 0, .int .u64 0, .int .u64 0, .bool false, .int .i64 0, .int .i64 0, .slice none 0 0, .int .u64 0, .int .u64 0, .int .i64 0, .bool false, .int .u64 0, .bool false, .int .u64 0, .slice none 0 0, .int .u64 0]] w fun e w' => e = .returned (.bool true) ∧ Below w.heap.size w w' := by
  have HE := Aside0.mk (h.below (w' := w.alloc (.cells #[.int .i64 0, .int .i64 0, .int .i64 0, .int .i64 0, .int .u8 1, .int .u64 0, .int .u64 0, .int .u64 0, .int .u64 0, .bool false, .int .i64 0, .int .i64 0, .slice none 0 0, .int .u64 0, .int .u64 0, .int .i64 0, .bool false, .int .u64 0, .bool false, .int .u64 0, .slice none 0 0, .int .u64 0] 65)) ((Below.refl _ _).alloc (Nat.le_refl _) _))
  clear h
  go_enter Tryz.func52, Tryz.ntmps52
  go_wp2_with (go_at_call 62; with_reducible refine (take_calls _ HE.out).mono ?_; rintro e w' ⟨rfl, hb⟩)
  go_ret
  exact ⟨rfl, below_on ((Below.refl _ _).alloc (Nat.le_refl _) _) hb⟩
end Go.Proofs.YtndgfpfcdppfgaaGreatDoor

/- The builder's WriteString at this program: the shelf's contract, laid field by field. -/
namespace Go.Proofs.YtndgfpfcdppfgaaGreatDoor
open Go.RowKit Go.Proofs Go.Shelf
def wsRen : Go.Shelf.Ren := ⟨fun | 166 => 42 | 240 => 53 | 276 => 63 | n => n, fun | 0 => 0 | 3 => 3 | 4 => 4 | 9 => 9 | 20 => 20 | 37 => 140 | 70 => 139 | 72 => 142 | 75 => 144 | 164 => 176 | 5 => 5 | 80 => 154 | n => n, fun | n => n⟩
theorem wsLays : Lays.n166 Tryz.prog wsRen := {
  mixed := by kernel_rfl
  f166 := Tryz.func42.trans (congrArg some (by kernel_rfl))
  f240 := Tryz.func53.trans (congrArg some (by kernel_rfl))
  f276 := Tryz.func63.trans (congrArg some (by kernel_rfl))
  t0 := Tryz.underlying0
  a0 := Tryz.isAgg0
  z0 := Tryz.sizeOf0
  v0 := Tryz.zeroValue0
  t3 := Tryz.underlying3
  a3 := Tryz.isAgg3
  z3 := Tryz.sizeOf3
  v3 := Tryz.zeroValue3
  t4 := Tryz.underlying4
  a4 := Tryz.isAgg4
  z4 := Tryz.sizeOf4
  v4 := Tryz.zeroValue4
  t9 := Tryz.underlying9
  a9 := Tryz.isAgg9
  z9 := Tryz.sizeOf9
  v9 := Tryz.zeroValue9
  t20 := Tryz.underlying20
  a20 := Tryz.isAgg20
  z20 := Tryz.sizeOf20
  v20 := Tryz.zeroValue20
  t37 := Tryz.underlying140
  a37 := Tryz.isAgg140
  z37 := Tryz.sizeOf140
  v37 := Tryz.zeroValue140
  t70 := Tryz.underlying139
  a70 := Tryz.isAgg139
  z70 := Tryz.sizeOf139
  v70 := Tryz.zeroValue139
  t72 := Tryz.underlying142
  a72 := Tryz.isAgg142
  z72 := Tryz.sizeOf142
  v72 := Tryz.zeroValue142
  t75 := Tryz.underlying144
  a75 := Tryz.isAgg144
  z75 := Tryz.sizeOf144
  v75 := Tryz.zeroValue144
  t164 := Tryz.underlying176
  a164 := Tryz.isAgg176
  z164 := Tryz.sizeOf176
  v164 := Tryz.zeroValue176 }
theorem wsExtra : Builder.Extra Tryz.prog wsRen := {
  sizeBuilder := by kernel_rfl
  liesBuilder := by kernel_rfl
  t5 := Tryz.underlying5
  a5 := Tryz.isAgg5
  z5 := Tryz.sizeOf5
  v5 := Tryz.zeroValue5
  infoByte := by kernel_rfl
  cellsByte := by kernel_rfl
  sizeByte := by kernel_rfl
  neB5 := by decide }
theorem writeString_calls (B b : Nat) (bs : List Value) (s : ByteArray) (w : World) (h : Lib.IsBuilder 142 5 B b bs w) (hlen : bs.length + s.size ≤ 140737488355328) (hBw : B ≤ w.heap.size) :
    Calls Tryz.prog 42 #[.pointer (some ⟨b, 0, none⟩), .string s] w fun e w' => e = .returned (.tuple #[.int .i64 s.size, .nilIface]) ∧ (Lib.BuilderAt 142 5 B b (.pointer (some ⟨b, 0, none⟩)) (bs ++ Lib.strCells s) w' ∧ Below B w w') :=
  Any.Builder_WriteString wsLays wsExtra B b bs s w h hlen hBw
end Go.Proofs.YtndgfpfcdppfgaaGreatDoor

/- TopStamps: lin.Find on its one history: the spans, the beginning, the state as a text. No condition. -/
namespace Go.Proofs.YtndgfpfcdppfgaaGreatDoor
open Go.RowKit Go.Shelf Go.Proofs.YtndgfpfcdppfgaaGreatDoorW.PrintWords Go.Proofs.YtndgfpfcdppfgaaGreatDoorW.PrintLast Go.Proofs.YtndgfpfcdppfgaaGreatDoorW.PrintMore
set_option linter.unusedVariables false
set_option linter.unusedSimpArgs false
abbrev zs : Own.S49 := ⟨0, 0, 0, 0⟩
set_option maxHeartbeats 1000000 in
set_option maxRecDepth 100000 in
theorem spans_calls {l : Nat} (w : World) (h : Bk l 65 #[.int .i64 0, .int .i64 0, .int .i64 0, .int .i64 0, .int .u8 1, .int .u64 0, .int .u64 0, .int .u64 0, .int .u64 0, .bool false, .int .i64 0, .int .i64 0, .slice none 0 0, .int .u64 0, .int .u64 0, .int .i64 0, .bool false, .int .u64 0, .bool false, .int .u64 0, .slice none 0 0, .int .u64 0] w) : Calls Tryz.prog 35 #[.slice (some ⟨l, 0, none⟩) 1 1] w fun e w' => ∃ A c, e = .returned (.slice A 1 c) ∧ 1 ≤ c ∧ Kd.C Own.k49 w' A 1 [zs] ∧ Below w.heap.size w w' := by
  go_enter Tryz.func35, Tryz.ntmps35
  go_wp2
  refine wp_loop_rounds 2 ?_
  rw [rounds_succ]
  have hI : (Tryz.prog.info? 65).map (·.size) = some 22 := by kernel_rfl
  have HK := Lib.hid h
  clear h
  go_upto_region 5 with (first
    | (refine wpList_load_row (by rfl) 65 (.tmp 10) (by rfl) l (by rfl) 65 #[.int .i64 0, .int .i64 0, .int .i64 0, .int .i64 0, .int .u8 1, .int .u64 0, .int .u64 0, .int .u64 0, .int .u64 0, .bool false, .int .i64 0, .int .i64 0, .slice none 0 0, .int .u64 0, .int .u64 0, .int .i64 0, .bool false, .int .u64 0, .bool false, .int .u64 0, .slice none 0 0, .int .u64 0] (0, 0) _ HK.out Tryz.underlying65 rfl hI ?_)
    | (refine wpList_store_rowTo (by rfl) 65 (.tmp 5) (.tmp 11) (by rfl) (by rfl) w.heap.size #[.int .i64 0, .int .i64 0, .int .i64 0, .int .i64 0, .int .u8 1, .int .u64 0, .int .u64 0, .int .u64 0, .int .u64 0, .bool false, .int .i64 0, .int .i64 0, .slice none 0 0, .int .u64 0, .int .u64 0, .int .i64 0, .bool false, .int .u64 0, .bool false, .int .u64 0, .slice none 0 0, .int .u64 0] (by rfl) (by rfl) 65 _ (by exact World.alloc_heap_new w _) hI (by rfl) (by simp [Value.oneCell']) ?_; rw [World.setRow_alloc_new]))
  have hb1 : Below w.heap.size w (w.alloc (.cells #[.int .i64 0, .int .i64 0, .int .i64 0, .int .i64 0, .int .u8 1, .int .u64 0, .int .u64 0, .int .u64 0, .int .u64 0, .bool false, .int .i64 0, .int .i64 0, .slice none 0 0, .int .u64 0, .int .u64 0, .int .i64 0, .bool false, .int .u64 0, .bool false, .int .u64 0, .slice none 0 0, .int .u64 0] 65)) := (Below.refl _ _).alloc (Nat.le_refl _) _
  have k1 := Bk.new w #[.int .i64 0, .int .i64 0, .int .i64 0, .int .i64 0, .int .u8 1, .int .u64 0, .int .u64 0, .int .u64 0, .int .u64 0, .bool false, .int .i64 0, .int .i64 0, .slice none 0 0, .int .u64 0, .int .u64 0, .int .i64 0, .bool false, .int .u64 0, .bool false, .int .u64 0, .slice none 0 0, .int .u64 0] 65
  generalize w.alloc (.cells #[.int .i64 0, .int .i64 0, .int .i64 0, .int .i64 0, .int .u8 1, .int .u64 0, .int .u64 0, .int .u64 0, .int .u64 0, .bool false, .int .i64 0, .int .i64 0, .slice none 0 0, .int .u64 0, .int .u64 0, .int .i64 0, .bool false, .int .u64 0, .bool false, .int .u64 0, .slice none 0 0, .int .u64 0] 65) = w1 at hb1 k1 ⊢
  have c0 := k1.cell (i := 0) rfl
  have c1 := k1.cell (i := 1) rfl
  have c2 := k1.cell (i := 2) rfl
  have c3 := k1.cell (i := 3) rfl
  go_wp2_with (at_builtin; go_loud (refine Kd.R_append Own.k49 (w0 := w) w.heap.size rfl (.tmp 12) (.tmp 15) 43 49 (.agg #[(.int .i64 0), (.int .i64 0), (.int .i64 0), (.int .i64 0)]) 32 rfl Tryz.underlying43 Own.info49 rfl (by decide) (by omega) (.slice none 0 0) [] zs [.int .i64 0, .int .i64 0, .int .i64 0, .int .i64 0] (fun _ => True) (fun _ => False) rfl rfl ?aP (fun _ hk => hk.elim) (fun _ _ => trivial) (Kd.R_nil _ _ _ _ _) hb1 ?aS ?aL ?_; (case aP => exact Own.k49_mkM _ _ _ zs); (case aS => exact hb1.size); (case aL => simp); intro v1 w2 HR hb2 hg2 hat2; obtain ⟨A, c, rfl, hc, hC⟩ := Kd.R_reads HR; have HC := Aside0.mk (And.intro hc (And.intro hC hb2)); clear HR hb2 hg2 hat2 hc hC))
  rw [rounds_succ]
  go_wp2
  go_ret
  exact ⟨A, c, rfl, HC.out.1, HC.out.2.1, HC.out.2.2⟩
set_option maxRecDepth 100000 in
theorem begun_calls {l : Nat} (w : World) (h : Bk l 65 #[.int .i64 0, .int .i64 0, .int .i64 0, .int .i64 0, .int .u8 1, .int .u64 0, .int .u64 0, .int .u64 0, .int .u64 0, .bool false, .int .i64 0, .int .i64 0, .slice none 0 0, .int .u64 0, .int .u64 0, .int .i64 0, .bool false, .int .u64 0, .bool false, .int .u64 0, .slice none 0 0, .int .u64 0] w) : Calls Tryz.prog 34 #[.slice (some ⟨l, 0, none⟩) 1 1, .int .i64 1] w fun e w' => ∃ b mn mh, e = .returned (.tuple #[.pointer (some ⟨b, 0, none⟩), .int .i64 0]) ∧ EM w' b mn mh ∧ Below w.heap.size w w' := by
  have HK := Lib.hid h
  clear h
  go_enter Tryz.func34, Tryz.ntmps34
  go_wp2_with (first
    | (go_at_call 40; with_reducible refine (mnew_calls _).mono ?_; rintro e w1 ⟨b, mn, mh, rfl, hE, hb⟩; have HE := Aside0.mk (And.intro hE hb); clear hE hb)
    | (go_at_call 35; with_reducible refine (spans_calls _ (HK.out.below HE.out.2)).mono ?_; rintro e w2 ⟨A, c, rfl, hc, hC, hb⟩; have HC := Aside0.mk (And.intro hc (And.intro hC hb)); clear hc hC hb)
    | (go_at_call 41; refine (Own.hist_Right.calls A c [zs] 0 _ HC.out.2.1 HC.out.1 (by kernel_rfl)).mono ?_; rintro e w3 ⟨rfl, hb⟩; have HB := Aside0.mk hb; clear hb))
  go_ret2
  exact ⟨b, mn, mh, rfl, (HE.out.1.below HC.out.2.2).below HB.out, below_on (below_on HE.out.2 HC.out.2.2) HB.out⟩
/-- The search. -/
structure SQ (w : World) (sb l lf dm : Nat) (A : Option Addr) (c : Nat) (ord : Value) (b : Bool) : Prop where
  s : Bk sb 121 #[.slice (some ⟨l, 0, none⟩) 1 1, .slice A 1 c, .slice (some ⟨lf, 0, none⟩) 1 1, ord, .map (some dm)] w
  l : Bk l 65 #[.int .i64 0, .int .i64 0, .int .i64 0, .int .i64 0, .int .u8 1, .int .u64 0, .int .u64 0, .int .u64 0, .int .u64 0, .bool false, .int .i64 0, .int .i64 0, .slice none 0 0, .int .u64 0, .int .u64 0, .int .i64 0, .bool false, .int .u64 0, .bool false, .int .u64 0, .slice none 0 0, .int .u64 0] w
  f : Bk lf 4 #[.bool b] w
  hc : 1 ≤ c
  c : Kd.C Own.k49 w A 1 [zs]
  d : Mt dm w
theorem SQ.below {w w' : World} {sb l lf dm : Nat} {A : Option Addr} {c : Nat} {ord : Value} {b : Bool} (h : SQ w sb l lf dm A c ord b) (hb : Below w.heap.size w w') : SQ w' sb l lf dm A c ord b :=
  ⟨h.s.below hb, h.l.below hb, h.f.below hb, h.hc, Kd.C_below h.c hb, h.d.below hb⟩
theorem Mt.new' {b : Nat} {w : World} (h : b = w.heap.size) : Mt b (w.alloc (.map #[] 0)) := by subst h; exact Mt.new w
theorem Bk.new' {b : Nat} {w : World} {cs : Array Value} {T : TypeId} (h : b = w.heap.size) : Bk b T cs (w.alloc (.cells cs T)) := by subst h; exact Bk.new w cs T
theorem Bk.alloc' {b : Nat} {w : World} {cs : Array Value} {T : TypeId} (h : Bk b T cs w) (o : Obj) : Bk b T cs (w.alloc o) := h.below ((Below.refl _ _).alloc (Nat.le_refl _) _)
theorem Bk.drew' {b : Nat} {w : World} {cs : Array Value} {T : TypeId} (h : Bk b T cs w) : Bk b T cs w.drew := h
theorem Mt.drew' {b : Nat} {w : World} (h : Mt b w) : Mt b w.drew := h
theorem gath {α : Type} {P : α → Prop} {G : Prop} {F : α} (h : P F → G) (r : P F) : G := h r
/-- A row of spans stays while a block of bools is written. -/
theorem C_set_bool {w : World} {A : Option Addr} {lf i : Nat} {b : Bool} {v : Value} (h : Kd.C Own.k49 w A 1 [zs]) (hf : Bk lf 4 #[.bool b] w) : Kd.C Own.k49 (w.setCell ⟨lf, i, none⟩ v) A 1 [zs] := by
  obtain ⟨h1, h2, h3⟩ := h
  refine ⟨h1, h2, fun h0 => ?_⟩
  obtain ⟨ad, e, hc⟩ := h3 h0
  refine ⟨ad, e, fun j p hp => ?_⟩
  obtain ⟨c, c1, c2, c3⟩ := hc j p hp
  have hk := Own.k49_open c2
  subst hk
  have hne : ad.block ≠ lf := fun e => by
    have h4 := c3 1 _ rfl
    unfold Bk at hf
    have e2 : (ad.add (j * Kd.sz Own.k49 + 1)).block = lf := e
    unfold World.cell? at h4
    rw [e2, hf] at h4
    simp [Addr.add] at h4
  refine ⟨_, c1, Own.k49_mk _ _, fun i2 u hu => ?_⟩
  have hb := Below.heap_setCell w ⟨lf, i, none⟩ v (ad.add (j * Kd.sz Own.k49 + i2)).block (by unfold Addr.add; split <;> exact hne)
  exact (World.cell?_of_block hb).trans (c3 i2 u hu)
def SQ0 (w : World) (e : Ending) (w' : World) : Prop := ∃ sb l lf dm A c b mn mh, e = .returned (.tuple #[.pointer (some ⟨sb, 0, none⟩), .pointer (some ⟨b, 0, none⟩), .int .i64 0]) ∧ SQ w' sb l lf dm A c (.slice none 0 0) true ∧ EM w' b mn mh ∧ Below w.heap.size w w' ∧ w.heap.size ≤ sb ∧ w.heap.size ≤ lf ∧ w.heap.size ≤ dm
set_option maxHeartbeats 2000000 in
set_option maxRecDepth 100000 in
theorem searching_calls {l : Nat} (w : World) (h : Bk l 65 #[.int .i64 0, .int .i64 0, .int .i64 0, .int .i64 0, .int .u8 1, .int .u64 0, .int .u64 0, .int .u64 0, .int .u64 0, .bool false, .int .i64 0, .int .i64 0, .slice none 0 0, .int .u64 0, .int .u64 0, .int .i64 0, .bool false, .int .u64 0, .bool false, .int .u64 0, .slice none 0 0, .int .u64 0] w) : Calls Tryz.prog 27 #[.slice (some ⟨l, 0, none⟩) 1 1, .int .i64 1, .int .i64 16] w fun e w' => SQ0 w e w' := by
  have hmm := @run_makeMap Tryz.prog
  have HK := Lib.hid h
  clear h
  go_enter Tryz.func27, Tryz.ntmps27
  go_upto_region 6 with (go_at_call 34; with_reducible refine (begun_calls _ HK.out).mono ?_; rintro e w1 ⟨b, mn, mh, rfl, hE, hb⟩; have HE := Aside0.mk (And.intro hE hb); clear hE hb)
  rename_i KK hKK
  have hr : Below w1.heap.size w1 w1 := Below.refl _ _
  have hr2 : Below w1.heap.size w1 w1.drew := hr.drew
  have hmk : ∀ wx : World, (Instr.makeSlice 118 (.int .i64 1) (.int .i64 1)).run Tryz.prog wx = .ok (.slice (some ⟨wx.heap.size, 0, none⟩) 1 1) (wx.alloc (.cells #[.bool false] 4)) := fun _ => by kernel_rfl
  suffices REST : (∀ (sb lf dm : Nat) (wq : World) (A : Option Addr) (c : Nat), SQ wq sb l lf dm A c (.slice none 0 0) false → Below w1.heap.size w1 wq → w1.heap.size ≤ sb → w1.heap.size ≤ lf → w1.heap.size ≤ dm → KK { tmps := #[.slice (some ⟨l, 0, none⟩) 1 1, .int .i64 1, .int .i64 16, undef, undef, undef, .pointer none, .pointer none, .int .i64 0, .pointer (some ⟨b, 0, none⟩), .int .i64 0, .pointer (some ⟨sb, 0, none⟩), undef, .tuple #[.pointer (some ⟨b, 0, none⟩), .int .i64 0], .slice (some ⟨l, 0, none⟩) 1 1, .int .i64 1, .tuple #[.pointer (some ⟨b, 0, none⟩), .int .i64 0], .pointer (some ⟨b, 0, none⟩), .int .i64 0, .int .i64 0, .bool false, undef, .slice (some ⟨l, 0, none⟩) 1 1, .int .i64 1, .int .i64 16, .bool false, .slice (some ⟨l, 0, none⟩) 1 1, .slice (some ⟨l, 0, none⟩) 1 1, .slice A 1 c, .slice (some ⟨l, 0, none⟩) 1 1, .int .i64 1, .slice (some ⟨lf, 0, none⟩) 1 1, .map (some dm), .agg #[.slice (some ⟨l, 0, none⟩) 1 1, .slice A 1 c, .slice (some ⟨lf, 0, none⟩) 1 1, .slice none 0 0, .map (some dm)], .pointer (some ⟨sb, 0, none⟩), undef, undef, undef, undef, undef, undef, undef, undef, undef, undef, undef, undef, undef, undef, undef, undef, undef], defers := [] } wq) by
    go_region_held3 (fun w' => Below w1.heap.size w1 w') (first | assumption | exact Below.alloc (by assumption) (Below.size (by assumption)) _) (first
        | (go_at_call 35; with_reducible refine (spans_calls _ ((HK.out.below HE.out.2).below (by assumption))).mono ?_; rintro e w2 ⟨A, c, rfl, hc, hC, hb⟩; have hs_ : Below w1.heap.size w1 w2 := below_on (by assumption) hb; have HC := Aside0.mk (And.intro hc (And.intro hC hb)); clear hc hC hb))
    all_goals (
      have hs2 := hs_.size
      have hs3 := HC.out.2.2.size
      (try simp only [World.size_alloc] at hs3)
      refine REST _ _ _ _ _ _ ⟨Bk.new' (by simp), (HK.out.below HE.out.2).below (by assumption), ?_, HC.out.1, Kd.C_below HC.out.2.1 ?_, ?_⟩ (by assumption) (by omega) (by omega) (by omega)
      · repeat (first | exact Bk.new' (by simp) | refine Bk.alloc' ?_ _ | refine Bk.below ?_ HC.out.2.2 | refine Bk.drew' ?_)
      · repeat (first | exact Below.refl _ _ | refine Below.alloc ?_ (by first | (simp; done) | (simp; omega)) _)
      · repeat (first | exact Mt.new' (by simp) | refine Mt.alloc ?_ _ | refine Mt.below ?_ HC.out.2.2 | refine Mt.drew' ?_))
  intro sb lf dm wq A c hS hbq q1 q2 q3
  refine hKK _ _ ?_
  clear hKK KK hr hr2 hmm
  have s2 := hS.s.cell (i := 2) rfl
  have c0 := hS.f.cell (i := 0) rfl
  have f0 := hS.f.frozen 0
  have HS := Aside0.mk (And.intro hS (And.intro hbq (And.intro q1 (And.intro q2 q3))))
  clear hS hbq q1 q2 q3
  go_wp2
  refine wp_loop_rounds 2 ?_
  rw [rounds_succ]
  go_wp2
  rw [rounds_succ]
  go_wp2
  go_ret3
  obtain ⟨hS, hbq, q1, q2, q3⟩ := HS.out
  have hw := HE.out.2.size
  have n1 : sb ≠ lf := Bk.ne hS.s hS.f (by decide)
  have n2 : l ≠ lf := Bk.ne hS.l hS.f (by decide)
  have hbs : Below w1.heap.size w1 (wq.setCell ⟨lf, 0, none⟩ (.bool true)) := hbq.setCell (p := ⟨lf, 0, none⟩) q2 _
  refine ⟨sb, l, lf, dm, A, c, b, mn, mh, rfl, ⟨hS.s.other n1 _, hS.l.other n2 _, hS.f.put 0 _, hS.hc, ?_, ?_⟩, HE.out.1.below hbs, below_on HE.out.2 hbs, by omega, by omega, by omega⟩
  · exact C_set_bool hS.c hS.f
  · exact (Below.heap_setCell wq ⟨lf, 0, none⟩ (.bool true) dm (fun e => by have h1 := hS.d; have h2 := hS.f; unfold Mt at h1; unfold Bk at h2; rw [show dm = lf from e, h2] at h1; cases h1)).trans hS.d
end Go.Proofs.YtndgfpfcdppfgaaGreatDoor

/- TopStamps: lin.Find on its one history: the search. No condition. -/
namespace Go.Proofs.YtndgfpfcdppfgaaGreatDoor
open Go.RowKit Go.Shelf Go.Proofs.YtndgfpfcdppfgaaGreatDoorW.PrintWords Go.Proofs.YtndgfpfcdppfgaaGreatDoorW.PrintLast Go.Proofs.YtndgfpfcdppfgaaGreatDoorW.PrintMore
set_option linter.unusedVariables false
set_option linter.unusedSimpArgs false
set_option maxRecDepth 100000 in
theorem whole_yes {sb l lf dm : Nat} {A : Option Addr} {c : Nat} {ord : Value} (w : World) (h : SQ w sb l lf dm A c ord true) : Calls Tryz.prog 36 #[.pointer (some ⟨sb, 0, none⟩)] w fun e w' => e = .returned (.bool false) ∧ Below w.heap.size w w' := by
  have c0 := h.s.cell (i := 0) rfl
  have hI : (Tryz.prog.info? 65).map (·.size) = some 22 := by kernel_rfl
  have H1 := Lib.hid h
  have HK := Lib.hid h.l
  clear h
  go_enter Tryz.func36, Tryz.ntmps36
  go_wp2
  refine wp_loop_rounds 2 ?_
  rw [rounds_succ]
  go_upto_region 4 with (first
    | (refine wpList_load_row (by rfl) 65 (.tmp 13) (by rfl) l (by rfl) 65 #[.int .i64 0, .int .i64 0, .int .i64 0, .int .i64 0, .int .u8 1, .int .u64 0, .int .u64 0, .int .u64 0, .int .u64 0, .bool false, .int .i64 0, .int .i64 0, .slice none 0 0, .int .u64 0, .int .u64 0, .int .i64 0, .bool false, .int .u64 0, .bool false, .int .u64 0, .slice none 0 0, .int .u64 0] (0, 0) _ HK.out Tryz.underlying65 rfl hI ?_)
    | (refine wpList_store_rowTo (by rfl) 65 (.tmp 4) (.tmp 14) (by rfl) (by rfl) w.heap.size #[.int .i64 0, .int .i64 0, .int .i64 0, .int .i64 0, .int .u8 1, .int .u64 0, .int .u64 0, .int .u64 0, .int .u64 0, .bool false, .int .i64 0, .int .i64 0, .slice none 0 0, .int .u64 0, .int .u64 0, .int .i64 0, .bool false, .int .u64 0, .bool false, .int .u64 0, .slice none 0 0, .int .u64 0] (by rfl) (by rfl) 65 _ (by exact World.alloc_heap_new w _) hI (by rfl) (by simp [Value.oneCell']) ?_; rw [World.setRow_alloc_new]))
  have hb1 : Below w.heap.size w (w.alloc (.cells #[.int .i64 0, .int .i64 0, .int .i64 0, .int .i64 0, .int .u8 1, .int .u64 0, .int .u64 0, .int .u64 0, .int .u64 0, .bool false, .int .i64 0, .int .i64 0, .slice none 0 0, .int .u64 0, .int .u64 0, .int .i64 0, .bool false, .int .u64 0, .bool false, .int .u64 0, .slice none 0 0, .int .u64 0] 65)) := (Below.refl _ _).alloc (Nat.le_refl _) _
  have k1 := Bk.new w #[.int .i64 0, .int .i64 0, .int .i64 0, .int .i64 0, .int .u8 1, .int .u64 0, .int .u64 0, .int .u64 0, .int .u64 0, .bool false, .int .i64 0, .int .i64 0, .slice none 0 0, .int .u64 0, .int .u64 0, .int .i64 0, .bool false, .int .u64 0, .bool false, .int .u64 0, .slice none 0 0, .int .u64 0] 65
  have H2 := H1.out.below hb1
  generalize w.alloc (.cells #[.int .i64 0, .int .i64 0, .int .i64 0, .int .i64 0, .int .u8 1, .int .u64 0, .int .u64 0, .int .u64 0, .int .u64 0, .bool false, .int .i64 0, .int .i64 0, .slice none 0 0, .int .u64 0, .int .u64 0, .int .i64 0, .bool false, .int .u64 0, .bool false, .int .u64 0, .slice none 0 0, .int .u64 0] 65) = w1 at hb1 k1 H2 ⊢
  have d3 := k1.cell (i := 3) rfl
  have s2 := H2.s.cell (i := 2) rfl
  have b0 := H2.f.cell (i := 0) rfl
  clear c0 hI HK H1
  go_wp2
  go_ret
  exact ⟨rfl, hb1⟩
set_option maxRecDepth 100000 in
theorem whole_no {sb l lf dm : Nat} {A : Option Addr} {c : Nat} {ord : Value} (w : World) (h : SQ w sb l lf dm A c ord false) : Calls Tryz.prog 36 #[.pointer (some ⟨sb, 0, none⟩)] w fun e w' => e = .returned (.bool true) ∧ Below w.heap.size w w' := by
  have c0 := h.s.cell (i := 0) rfl
  have hI : (Tryz.prog.info? 65).map (·.size) = some 22 := by kernel_rfl
  have H1 := Lib.hid h
  have HK := Lib.hid h.l
  clear h
  go_enter Tryz.func36, Tryz.ntmps36
  go_wp2
  refine wp_loop_rounds 2 ?_
  rw [rounds_succ]
  go_upto_region 4 with (first
    | (refine wpList_load_row (by rfl) 65 (.tmp 13) (by rfl) l (by rfl) 65 #[.int .i64 0, .int .i64 0, .int .i64 0, .int .i64 0, .int .u8 1, .int .u64 0, .int .u64 0, .int .u64 0, .int .u64 0, .bool false, .int .i64 0, .int .i64 0, .slice none 0 0, .int .u64 0, .int .u64 0, .int .i64 0, .bool false, .int .u64 0, .bool false, .int .u64 0, .slice none 0 0, .int .u64 0] (0, 0) _ HK.out Tryz.underlying65 rfl hI ?_)
    | (refine wpList_store_rowTo (by rfl) 65 (.tmp 4) (.tmp 14) (by rfl) (by rfl) w.heap.size #[.int .i64 0, .int .i64 0, .int .i64 0, .int .i64 0, .int .u8 1, .int .u64 0, .int .u64 0, .int .u64 0, .int .u64 0, .bool false, .int .i64 0, .int .i64 0, .slice none 0 0, .int .u64 0, .int .u64 0, .int .i64 0, .bool false, .int .u64 0, .bool false, .int .u64 0, .slice none 0 0, .int .u64 0] (by rfl) (by rfl) 65 _ (by exact World.alloc_heap_new w _) hI (by rfl) (by simp [Value.oneCell']) ?_; rw [World.setRow_alloc_new]))
  have hb1 : Below w.heap.size w (w.alloc (.cells #[.int .i64 0, .int .i64 0, .int .i64 0, .int .i64 0, .int .u8 1, .int .u64 0, .int .u64 0, .int .u64 0, .int .u64 0, .bool false, .int .i64 0, .int .i64 0, .slice none 0 0, .int .u64 0, .int .u64 0, .int .i64 0, .bool false, .int .u64 0, .bool false, .int .u64 0, .slice none 0 0, .int .u64 0] 65)) := (Below.refl _ _).alloc (Nat.le_refl _) _
  have k1 := Bk.new w #[.int .i64 0, .int .i64 0, .int .i64 0, .int .i64 0, .int .u8 1, .int .u64 0, .int .u64 0, .int .u64 0, .int .u64 0, .bool false, .int .i64 0, .int .i64 0, .slice none 0 0, .int .u64 0, .int .u64 0, .int .i64 0, .bool false, .int .u64 0, .bool false, .int .u64 0, .slice none 0 0, .int .u64 0] 65
  have H2 := H1.out.below hb1
  generalize w.alloc (.cells #[.int .i64 0, .int .i64 0, .int .i64 0, .int .i64 0, .int .u8 1, .int .u64 0, .int .u64 0, .int .u64 0, .int .u64 0, .bool false, .int .i64 0, .int .i64 0, .slice none 0 0, .int .u64 0, .int .u64 0, .int .i64 0, .bool false, .int .u64 0, .bool false, .int .u64 0, .slice none 0 0, .int .u64 0] 65) = w1 at hb1 k1 H2 ⊢
  have d3 := k1.cell (i := 3) rfl
  have s2 := H2.s.cell (i := 2) rfl
  have b0 := H2.f.cell (i := 0) rfl
  clear c0 hI HK H1
  go_wp2
  rw [rounds_succ]
  go_wp2
  go_ret
  exact ⟨rfl, hb1⟩
theorem put_calls (p : Value) (w : World) : Calls Tryz.prog 44 #[p, .slice none 0 0] w fun e w' => e = .returned (.tuple #[]) ∧ w = w' := by
  go_enter Tryz.func44, Tryz.ntmps44
  go_wp2
  refine wp_loop_rounds 1 ?_
  rw [rounds_succ]
  go_wp2
  go_end0
  exact ⟨rfl, rfl⟩
theorem builder_below {B b : Nat} {p : Value} {bs : List Value} {w w' : World} (h : Lib.BuilderAt 142 5 B b p bs w) (hb : Below w.heap.size w w') : Lib.BuilderAt 142 5 B b p bs w' := by
  have hlt := h.lt
  obtain ⟨h1, v, h2, h3, h4⟩ := h
  refine ⟨h1, v, (hb.block b hlt).trans h2, own_move h3 fun k hk => ?_, h4⟩
  rcases h3.2 with ⟨rfl, _⟩ | ⟨g, cap, cur, rfl, _, hg, _⟩
  · cases hk
  · have : g = k := by simpa [Value.ownBlock] using hk
    subst this
    exact hb.block g (Array.getElem?_eq_some_iff.1 hg).1
theorem isb_below {B b : Nat} {bs : List Value} {w w' : World} (h : Lib.IsBuilder 142 5 B b bs w) (hb : Below w.heap.size w w') : Lib.IsBuilder 142 5 B b bs w' := h.imp (builder_below · hb) (builder_below · hb)
set_option maxHeartbeats 1000000 in
set_option maxRecDepth 100000 in
theorem state_calls {sb l lf dm b mn mh : Nat} {A : Option Addr} {c : Nat} {ord : Value} (w : World) (h : SQ w sb l lf dm A c ord true) (hE : EM w b mn mh) : Calls Tryz.prog 37 #[.pointer (some ⟨sb, 0, none⟩), .pointer (some ⟨b, 0, none⟩)] w fun e w' => e = .returned (.string ⟨#[116]⟩) ∧ Below w.heap.size w w' := by
  have hx : (ByteArray.mk #[116, 114, 117, 101]).extract 0 1 = ⟨#[116]⟩ := by rfl
  go_enter Tryz.func37, Tryz.ntmps37
  go_upto_region 2 with fail
  have hb1 : Below w.heap.size w (w.alloc (.cells #[.pointer none, .slice none 0 0] 142)) := (Below.refl _ _).alloc (Nat.le_refl _) _
  have HB := Lib.hid (Lib.fresh_isBuilder 142 5 w)
  have H2 := h.below hb1
  have H0 := Lib.hid hE
  generalize w.alloc (.cells #[.pointer none, .slice none 0 0] 142) = w1 at hb1 HB H2 ⊢
  have s2 := H2.s.cell (i := 2) rfl
  have b0 := H2.f.cell (i := 0) rfl
  go_wp2
  refine wp_loop_rounds 2 ?_
  rw [rounds_succ]
  go_wp2_with (first
    | (go_at_call 43; refine (Lin.strconv_FormatBool_43.calls true _ _ rfl).mono ?_; rintro e w2 ⟨rfl, hd⟩; have HD := Aside0.mk hd.below; clear hd)
    | (go_at_call 42; refine (writeString_calls w.heap.size w.heap.size [] ⟨#[116]⟩ _ (isb_below HB.out HD.out) (by decide) (Nat.le_trans hb1.size HD.out.size)).mono ?_; rintro e w3 ⟨rfl, hbt, hb⟩; have HW := Aside0.mk (And.intro hbt ((below_on hb1 HD.out).trans hb)); clear hbt hb))
  rw [rounds_succ]
  go_wp2_with (first
    | (go_at_call 45; with_reducible refine (content_none _ (H0.out.below HW.out.2)).mono ?_; rintro e w4 ⟨rfl, hb⟩; have H4 := Aside0.mk hb; clear hb)
    | (go_at_call 44; with_reducible refine (put_calls _ _).mono ?_; rintro e w4 ⟨rfl, rfl⟩)
    | (go_at_call 46; with_reducible refine (handles_none _ ((H0.out.below HW.out.2).below H4.out)).mono ?_; rintro e w5 ⟨rfl, hb⟩; have H5 := Aside0.mk hb; clear hb))
  refine wp_loop_rounds 1 ?_
  rw [rounds_succ]
  go_wp2_with (go_at_call 49; refine (Tryz.Builder_String_any w.heap.size w.heap.size [116] _ (.inr (builder_below (builder_below HW.out.1 H4.out) H5.out)) (Nat.le_trans HW.out.2.size (Nat.le_trans H4.out.size H5.out.size))).mono ?_; rintro e w6 ⟨rfl, hb⟩; have H6 := Aside0.mk hb; clear hb)
  go_ret
  exact ⟨rfl, (below_on (below_on HW.out.2 H4.out) H5.out).trans H6.out⟩
end Go.Proofs.YtndgfpfcdppfgaaGreatDoor

/- TopStamps: lin.Find on its one history: the search found. No condition. -/
namespace Go.Proofs.YtndgfpfcdppfgaaGreatDoor
open Go.RowKit Go.Shelf Go.Proofs.YtndgfpfcdppfgaaGreatDoorW.PrintWords Go.Proofs.YtndgfpfcdppfgaaGreatDoorW.PrintLast Go.Proofs.YtndgfpfcdppfgaaGreatDoorW.PrintMore
set_option linter.unusedVariables false
set_option linter.unusedSimpArgs false
/-- From w to w': but for the blocks of X all is as it was. -/
structure Btw (X : Nat → Prop) (w w' : World) : Prop where
  os : w'.os = w.os
  tape : w'.tape = w.tape
  output : w'.output = w.output
  size : w.heap.size ≤ w'.heap.size
  block : ∀ j, ¬ X j → j < w.heap.size → w'.heap[j]? = w.heap[j]?
theorem Btw.refl (X : Nat → Prop) (w : World) : Btw X w w := ⟨rfl, rfl, rfl, Nat.le_refl _, fun _ _ _ => rfl⟩
theorem Btw.trans {X : Nat → Prop} {a b c : World} (h : Btw X a b) (k : Btw X b c) : Btw X a c :=
  ⟨k.os.trans h.os, k.tape.trans h.tape, k.output.trans h.output, Nat.le_trans h.size k.size, fun j hj hl => (k.block j hj (Nat.lt_of_lt_of_le hl h.size)).trans (h.block j hj hl)⟩
theorem Btw.of_below {X : Nat → Prop} {a b : World} (h : Below a.heap.size a b) : Btw X a b := ⟨h.os, h.tape, h.output, h.size, fun j _ hl => h.block j hl⟩
theorem Btw.below {X : Nat → Prop} {a b : World} (h : Btw X a b) {B : Nat} (hB : B ≤ a.heap.size) (hX : ∀ j, j < B → ¬ X j) : Below B a b := ⟨h.os, h.tape, h.output, h.size, fun j hj => h.block j (hX j hj) (by omega)⟩
theorem Btw.mono {X Y : Nat → Prop} {a b : World} (h : Btw X a b) (hl : ∀ j, X j → Y j) : Btw Y a b := ⟨h.os, h.tape, h.output, h.size, fun j hj hs => h.block j (fun e => hj (hl j e)) hs⟩
theorem Btw.set {X : Nat → Prop} (w : World) (p : Addr) (v : Value) (hp : X p.block) : Btw X w (w.setCell p v) :=
  have hb := (Below.refl 0 w).setCell (p := p) (Nat.zero_le _) v
  ⟨hb.os, hb.tape, hb.output, hb.size, fun j hj _ => Below.heap_setCell _ _ _ _ (fun e => hj (e ▸ hp))⟩
theorem Btw.bk {X : Nat → Prop} {w w' : World} (h : Btw X w w') {q : Nat} {T : TypeId} {cs : Array Value} (hb : Bk q T cs w) (hq : ¬ X q) : Bk q T cs w' := (h.block q hq hb.lt).trans hb
theorem Btw.mt {X : Nat → Prop} {w w' : World} (h : Btw X w w') {q : Nat} (hb : Mt q w) (hq : ¬ X q) : Mt q w' := (h.block q hq hb.lt).trans hb
set_option maxRecDepth 100000 in
theorem find_in {sb l lf dm mb : Nat} {A : Option Addr} {c : Nat} {ord : Value} (w : World) (h : SQ w sb l lf dm A c ord false) : Calls Tryz.prog 28 #[.pointer (some ⟨sb, 0, none⟩), .pointer (some ⟨mb, 0, none⟩)] w fun e w' => e = .returned (.bool true) ∧ Below w.heap.size w w' := by
  have hb1 : Below w.heap.size w (w.alloc (.cells #[.pointer (some ⟨sb, 0, none⟩)] 113)) := (Below.refl _ _).alloc (Nat.le_refl _) _
  have H1 := Lib.hid (h.below hb1)
  clear h
  go_enter Tryz.func28, Tryz.ntmps28
  go_wp2_with (go_at_call 36; with_reducible refine (whole_no _ H1.out).mono ?_; rintro e w2 ⟨rfl, hb⟩; have H2 := Aside0.mk hb; clear hb)
  go_ret
  exact ⟨rfl, below_on hb1 H2.out⟩
theorem visit_calls {sb l lf dm mb bx fb : Nat} {A : Option Addr} {c : Nat} {ord : Value} {x : Bool} (i : Int) (w : World) (h : SQ w sb l lf dm A c ord false) (hx : Bk bx 113 #[.pointer (some ⟨sb, 0, none⟩)] w) (hf : Bk fb 4 #[.bool x] w) :
    Calls Tryz.prog 39 #[.int .i64 i, .pointer (some ⟨mb, 0, none⟩), .pointer (some ⟨bx, 0, none⟩), .pointer (some ⟨fb, 0, none⟩)] w fun e w' => e = .returned (.bool false) ∧ Btw (fun j => j = fb) w w' ∧ Bk fb 4 #[.bool true] w' := by
  have c0 := hx.cell (i := 0) rfl
  have H1 := Lib.hid h
  have HF := Lib.hid hf
  clear h hx hf
  go_enter Tryz.func39, Tryz.ntmps39
  go_wp2_with (go_at_call 28; with_reducible refine (find_in _ H1.out).mono ?_; rintro e w2 ⟨rfl, hb⟩; have H2 := Aside0.mk hb; have hf2 := (HF.out.below hb).cell (i := 0) rfl; have hg2 := (HF.out.below hb).frozen 0; clear hb)
  go_ret
  exact ⟨rfl, (Btw.of_below H2.out).trans (Btw.set _ _ _ rfl), (HF.out.below H2.out).put 0 _⟩
theorem C_other {w : World} {A : Option Addr} {q i : Nat} {T : TypeId} {cs : Array Value} {v : Value} (h : Kd.C Own.k49 w A 1 [zs]) (hf : Bk q T cs w) (hno : ∀ j : Nat, cs[j]? ≠ some (Value.int .i64 0)) : Kd.C Own.k49 (w.setCell ⟨q, i, none⟩ v) A 1 [zs] := by
  obtain ⟨h1, h2, h3⟩ := h
  refine ⟨h1, h2, fun h0 => ?_⟩
  obtain ⟨ad, e, hc⟩ := h3 h0
  refine ⟨ad, e, fun j p hp => ?_⟩
  obtain ⟨c, c1, c2, c3⟩ := hc j p hp
  have hk := Own.k49_open c2
  subst hk
  have hp0 : p = zs := by
    have : j = 0 := by
      have := (List.getElem?_eq_some_iff.1 hp).1
      simp at this
      exact this
    subst this
    exact (Option.some.inj hp).symm
  subst hp0
  have hne : ad.block ≠ q := fun e => by
    have h4 := c3 0 _ rfl
    unfold Bk at hf
    have e2 : (ad.add (j * Kd.sz Own.k49 + 0)).block = q := by unfold Addr.add; split <;> exact e
    unfold World.cell? at h4
    rw [e2, hf] at h4
    simp only at h4
    split at h4
    · cases h4
    · exact hno _ h4
  refine ⟨_, c1, Own.k49_mk _ _, fun i2 u hu => ?_⟩
  have hb := Below.heap_setCell w ⟨q, i, none⟩ v (ad.add (j * Kd.sz Own.k49 + i2)).block (by unfold Addr.add; split <;> exact hne)
  exact (World.cell?_of_block hb).trans (c3 i2 u hu)
theorem Mt.other {q : Nat} {w : World} (h : Mt q w) {p : Addr} {T : TypeId} {cs : Array Value} (hp : Bk p.block T cs w) (v : Value) : Mt q (w.setCell p v) :=
  (Below.heap_setCell w p v q (fun e => by unfold Mt at h; unfold Bk at hp; rw [e, hp] at h; cases h)).trans h
theorem SQ.left {w : World} {sb l lf dm : Nat} {A : Option Addr} {c : Nat} {ord : Value} {b : Bool} (h : SQ w sb l lf dm A c ord b) (b' : Bool) : SQ (w.setCell ⟨lf, 0, none⟩ (.bool b')) sb l lf dm A c ord b' :=
  ⟨h.s.other (Bk.ne h.s h.f (by decide)) _, h.l.other (Bk.ne h.l h.f (by decide)) _, h.f.put 0 _, h.hc, C_other h.c h.f (fun j => by rcases j with _ | j <;> simp), h.d.other h.f _⟩
theorem SQ.ord {w : World} {sb l lf dm : Nat} {A : Option Addr} {c : Nat} {ord : Value} {b : Bool} (h : SQ w sb l lf dm A c ord b) (a : Option Addr) (n k : Nat) (hord : ord ≠ .int .i64 0) : SQ (w.setCell ⟨sb, 3, none⟩ (.slice a n k)) sb l lf dm A c (.slice a n k) b :=
  ⟨h.s.put 3 _, h.l.other (Bk.ne h.l h.s (by decide)) _, h.f.other (Bk.ne h.f h.s (by decide)) _, h.hc, C_other h.c h.s (fun j => by rcases j with _ | _ | _ | _ | _ | j <;> simp [hord]), h.d.other h.s _⟩
theorem boolrow {lf : Nat} {b : Bool} {w : World} (h : Bk lf 4 #[.bool b] w) : Kd.C Kd.bool w (some ⟨lf, 0, none⟩) 1 [b] := by
  refine ⟨rfl, by decide, fun _ => ⟨_, rfl, fun j p hp => ?_⟩⟩
  have hj : j = 0 := by
    have := (List.getElem?_eq_some_iff.1 hp).1
    simp at this
    exact this
  subst hj
  have := Option.some.inj hp
  subst this
  refine ⟨[.bool b], rfl, rfl, fun i u hu => ?_⟩
  have hi : i = 0 := by
    have := (List.getElem?_eq_some_iff.1 hu).1
    simp at this
    exact this
  subst hi
  have := Option.some.inj hu
  subst this
  exact h.cell (i := 0) rfl
def NX (sb l lf dm fb : Nat) (A : Option Addr) (c : Nat) (w : World) (e : Ending) (w' : World) : Prop := e = .returned (.tuple #[]) ∧ ∃ a k, Bk sb 121 #[.slice (some ⟨l, 0, none⟩) 1 1, .slice A 1 c, .slice (some ⟨lf, 0, none⟩) 1 1, .slice a 1 k, .map (some dm)] w' ∧ Mt dm w' ∧ Btw (fun j => j = sb ∨ j = lf ∨ j = fb) w w' ∧ Bk fb 4 #[.bool true] w'
set_option maxHeartbeats 2000000 in
set_option maxRecDepth 100000 in
theorem next_calls {sb l lf dm b mn mh bx fb : Nat} {A : Option Addr} {c : Nat} (w : World) (h : SQ w sb l lf dm A c (.slice none 0 0) true) (hE : EM w b mn mh) (hx : Bk bx 113 #[.pointer (some ⟨sb, 0, none⟩)] w) (hf : Bk fb 4 #[.bool false] w) (hlf : fb ≠ lf) :
    Calls Tryz.prog 38 #[.pointer (some ⟨sb, 0, none⟩), .pointer (some ⟨b, 0, none⟩), .func (.func 39) #[] #[.pointer (some ⟨bx, 0, none⟩), .pointer (some ⟨fb, 0, none⟩)]] w fun e w' => NX sb l lf dm fb A c w e w' := by
  have H1 := Lib.hid h
  have HE := Lib.hid hE
  have HX := Lib.hid (And.intro hx (And.intro hf hlf))
  have z1 : ∀ wx, Below w.heap.size w wx → wx.cell? ⟨sb, 1, none⟩ = some (.slice A 1 c) := fun wx hb => (h.below hb).s.cell rfl
  have z2 : ∀ wx, Below w.heap.size w wx → wx.cell? ⟨sb, 2, none⟩ = some (.slice (some ⟨lf, 0, none⟩) 1 1) := fun wx hb => (h.below hb).s.cell rfl
  have hr : Below w.heap.size w w := Below.refl _ _
  have hr2 : Below w.heap.size w w.drew := hr.drew
  have HI : (Tryz.prog.info? 65).map (·.size) = some 22 := by kernel_rfl
  clear h hE hx hf hlf
  go_enter Tryz.func38, Tryz.ntmps38
  go_wp2_with fail
  go_region_held3 (fun w' => Below w.heap.size w w') (assumption) (first
    | (go_at_call 50; refine (Own.hist_First.calls A c [zs] (some ⟨lf, 0, none⟩) 1 [true] [0] _ (H1.out.below (by assumption)).c H1.out.hc (boolrow (H1.out.below (by assumption)).f) (Nat.le_refl _) (by kernel_rfl)).mono ?_; rintro e w1 ⟨v0, rfl, hR, hb⟩; have hs_ : Below w.heap.size w w1 := below_on (by assumption) hb; obtain ⟨AI, cI, rfl, hcI, hCI⟩ := Kd.R_reads hR; have HCI := Aside0.mk hCI; clear hb hR hcI hCI))
  clear z1 z2 hr hr2
  obtain ⟨ai, rfl, hai⟩ : ∃ a, AI = some a ∧ w1.cell? a = some (.int .i64 0) := by
    obtain ⟨ad, e, hc⟩ := HCI.out.2.2 (by decide)
    obtain ⟨cs, c1, c2, c3⟩ := hc 0 0 rfl
    have hk : cs = [.int .i64 0] := c2
    subst hk
    have := c3 0 _ rfl
    refine ⟨ad, e, ?_⟩
    rw [show ad.add (0 * (Kd.int .i64).sz + 0) = ad from rfl] at this
    exact this
  have hai0 : w1.cell? (ai.add 0) = some (.int .i64 0) := hai
  have HB1 := Aside0.mk (show Below w.heap.size w w1 by assumption)
  have S1 := Lib.hid (H1.out.below HB1.out)
  clear HCI hs_
  go_wp2_with fail
  refine wp_loop_rounds 2 ?_
  rw [rounds_succ]
  go_upto_region 4 with (go_at_call 51; ((with_reducible refine (fork_calls _ (HE.out.below HB1.out)).mono ?_); rintro e w2 ⟨b2, mn2, mh2, rfl, hE2, _, hb2⟩; have HE2 := Aside0.mk (And.intro hE2 hb2); clear hE2 hb2))
  have S2 := Lib.hid (S1.out.below HE2.out.2)
  have s0 := S2.out.s.cell (i := 0) rfl
  go_upto_region 5 with (first
    | (refine wpList_load_row (by rfl) 65 (.tmp 32) (by rfl) l (by rfl) 65 #[.int .i64 0, .int .i64 0, .int .i64 0, .int .i64 0, .int .u8 1, .int .u64 0, .int .u64 0, .int .u64 0, .int .u64 0, .bool false, .int .i64 0, .int .i64 0, .slice none 0 0, .int .u64 0, .int .u64 0, .int .i64 0, .bool false, .int .u64 0, .bool false, .int .u64 0, .slice none 0 0, .int .u64 0] (0, 0) _ S2.out.l Tryz.underlying65 rfl HI ?_)
    | (go_at_call 52; with_reducible refine (done_calls _ HE2.out.1).mono ?_; rintro e w3 ⟨rfl, hb⟩; have HB3 := Aside0.mk hb; clear hb))
  have S3 := Lib.hid (S2.out.below HB3.out)
  have hb03 : Below w.heap.size w w3 := below_on (below_on HB1.out HE2.out.2) HB3.out
  have X3 := Lib.hid (And.intro (HX.out.1.below hb03) (HX.out.2.1.below hb03))
  have HB03 := Aside0.mk hb03
  clear s0 hai hai0 HI hb03
  have s2 := S3.out.s.cell (i := 2) rfl
  have f0 := S3.out.f.frozen 0
  have f00 := S3.out.f.cell (i := 0) rfl
  go_upto_region 6 with fail
  have S4 := Lib.hid (S3.out.left false)
  have X4 := Lib.hid (And.intro (X3.out.1.other (p := ⟨lf, 0, none⟩) (Bk.ne X3.out.1 S3.out.f (by decide)) (.bool false)) (X3.out.2.other (p := ⟨lf, 0, none⟩) HX.out.2.2 (.bool false)))
  have B4 := Aside0.mk (show Btw (fun j => j = sb ∨ j = lf ∨ j = fb) w (w3.setCell ⟨lf, 0, none⟩ (.bool false)) from (Btw.of_below HB03.out).trans (Btw.set _ _ _ (.inr (.inl rfl))))
  clear s2 f0 f00
  generalize w3.setCell ⟨lf, 0, none⟩ (.bool false) = w4 at S4 X4 B4 ⊢
  have s3 := S4.out.s.cell (i := 3) rfl
  go_upto_region 7 with (at_builtin; go_loud (refine Kd.R_append (Kd.int .i64) (w0 := w4) w4.heap.size rfl (.tmp 46) (.tmp 48) 22 3 (.int .i64 0) 8 rfl Tryz.underlying22 Own.info3 rfl (by decide) (by decide) (.slice none 0 0) [] 0 [.int .i64 0] (fun _ => True) (fun _ => False) rfl rfl ?aP (fun _ hk => hk.elim) (fun _ _ => trivial) (Kd.R_nil _ _ _ _ _) (Below.refl _ _) (Nat.le_refl _) ?aL ?_; (case aP => exact rfl); (case aL => simp); intro v1 w5 HR hb2 hg2 hat2; obtain ⟨A5, c5, rfl, hc, hC⟩ := Kd.R_reads HR; have HB5 := Aside0.mk hb2; have s53 := (S4.out.below hb2).s.cell (i := 3) rfl; have f53 := (S4.out.below hb2).s.frozen 3; clear HR hb2 hg2 hat2 hc hC s3))
  have S6 := Lib.hid ((S4.out.below HB5.out).ord A5 1 c5 (fun h => by cases h))
  have X6 := Lib.hid (And.intro ((X4.out.1.below HB5.out).other (p := ⟨sb, 3, none⟩) (Bk.ne (X4.out.1.below HB5.out) (S4.out.below HB5.out).s (by decide)) (.slice A5 1 c5)) ((X4.out.2.below HB5.out).other (p := ⟨sb, 3, none⟩) (Bk.ne (X4.out.2.below HB5.out) (S4.out.below HB5.out).s (by decide)) (.slice A5 1 c5)))
  have B6 := Aside0.mk (show Btw (fun j => j = sb ∨ j = lf ∨ j = fb) w (w5.setCell ⟨sb, 3, none⟩ (.slice A5 1 c5)) from (B4.out.trans (Btw.of_below HB5.out)).trans (Btw.set _ _ _ (.inl rfl)))
  clear s53 f53
  generalize w5.setCell ⟨sb, 3, none⟩ (.slice A5 1 c5) = w6 at S6 X6 B6 ⊢
  go_wp2_with (go_at_call 39; with_reducible refine (visit_calls 0 _ S6.out X6.out.1 X6.out.2).mono ?_; rintro e w7 ⟨rfl, hb, hf7⟩; have HV := Aside0.mk (And.intro hb hf7); clear hb hf7)
  refine bodyPost_ret (results_none rfl _ _ _) rfl ?_
  refine ⟨rfl, A5, c5, HV.out.1.bk S6.out.s (fun e => ?_), HV.out.1.mt S6.out.d (fun e => ?_), B6.out.trans (HV.out.1.mono fun j e => .inr (.inr e)), HV.out.2⟩
  · exact Bk.ne S6.out.s X6.out.2 (by decide) e
  · have h1 := S6.out.d
    have h2 := X6.out.2
    unfold Mt at h1
    unfold Bk at h2
    rw [show dm = fb from e, h2] at h1
    cases h1
theorem keyedS : Go.Maps.Keyed Tryz.prog 9 := Go.Maps.string_keyed Tryz.underlying9
theorem keyS : Go.keyOf Tryz.prog 9 (.string ⟨#[116]⟩) = some (.string [116]) := by kernel_rfl
theorem zeroB (w : World) : (zeroValue 4).run Tryz.prog w = .ok (.bool false) w := Tryz.zeroValue4 w
theorem vstr_inj : ∀ i j : ByteArray, Value.string i = Value.string j → i = j := fun i j h => by injection h
theorem look_dm {w : World} {b : Nat} (h : Mt b w) : (Instr.lookup 119 (.map (some b)) (.string ⟨#[116]⟩) false).run Tryz.prog w = .ok (.bool false) w :=
  (h.has Tryz.prog 9 Value.string).look keyedS vstr_inj Tryz.underlying119 (zeroB w) (i := ⟨#[116]⟩) keyS
def FX (sb l lf dm : Nat) (A : Option Addr) (c : Nat) (w : World) (e : Ending) (w' : World) : Prop := e = .returned (.bool true) ∧ ∃ a k, Bk sb 121 #[.slice (some ⟨l, 0, none⟩) 1 1, .slice A 1 c, .slice (some ⟨lf, 0, none⟩) 1 1, .slice a 1 k, .map (some dm)] w' ∧ Btw (fun j => j = sb ∨ j = lf ∨ j = dm) w w'
set_option maxHeartbeats 2000000 in
set_option maxRecDepth 100000 in
theorem find_calls {sb l lf dm b mn mh : Nat} {A : Option Addr} {c : Nat} (w : World) (h : SQ w sb l lf dm A c (.slice none 0 0) true) (hE : EM w b mn mh) :
    Calls Tryz.prog 28 #[.pointer (some ⟨sb, 0, none⟩), .pointer (some ⟨b, 0, none⟩)] w fun e w' => FX sb l lf dm A c w e w' := by
  have hmf : ∀ (fn : Fn) (first cap : Array Value) (w : World), (Instr.makeFunc fn first cap).run Tryz.prog w = .ok (.func fn first cap) w := fun _ _ _ _ => rfl
  have hlf := h.f.lt
  have hb1 : Below w.heap.size w (w.alloc (.cells #[.pointer (some ⟨sb, 0, none⟩)] 113)) := (Below.refl _ _).alloc (Nat.le_refl _) _
  have S1 := Lib.hid (h.below hb1)
  have E1 := Lib.hid (hE.below hb1)
  have X1 := Bk.new w #[.pointer (some ⟨sb, 0, none⟩)] 113
  have hsb := h.s.lt
  have hdm := h.d.lt
  have HN := Aside0.mk (And.intro hlf (And.intro hsb hdm))
  clear h hE hlf hsb hdm
  go_enter Tryz.func28, Tryz.ntmps28
  go_upto_region 1 with fail
  generalize w.alloc (.cells #[.pointer (some ⟨sb, 0, none⟩)] 113) = w1 at hb1 S1 E1 X1 ⊢
  obtain ⟨bx, hbx⟩ : ∃ bx, w.heap.size = bx := ⟨_, rfl⟩
  rw [hbx] at X1 ⊢
  have c1 := X1.cell (i := 0) rfl
  have HX := Aside0.mk (And.intro hb1 (And.intro X1 hbx))
  clear hb1 X1 hbx
  go_upto_region 3 with (go_at_call 36; with_reducible refine (whole_yes _ S1.out).mono ?_; rintro e w2 ⟨rfl, hb⟩; have H2 := Aside0.mk hb; have c2 := (HX.out.2.1.below hb).cell (i := 0) rfl; clear hb)
  go_upto_region 4 with (go_at_call 37; with_reducible refine (state_calls _ (S1.out.below H2.out) (E1.out.below H2.out)).mono ?_; rintro e w3 ⟨rfl, hb⟩; have H3 := Aside0.mk (below_on H2.out hb); clear hb)
  have S3 := Lib.hid (S1.out.below H3.out)
  have E3 := Lib.hid (E1.out.below H3.out)
  have c3 := (HX.out.2.1.below H3.out).cell (i := 0) rfl
  have s4 := S3.out.s.cell (i := 4) rfl
  have hlk := look_dm S3.out.d
  clear c1 c2
  go_upto_region 7 with fail
  have hb4 : Below w3.heap.size w3 (w3.alloc (.cells #[.bool false] 4)) := (Below.refl _ _).alloc (Nat.le_refl _) _
  have K4 := Bk.new w3 #[.bool false] 4
  have S4 := Lib.hid (S3.out.below hb4)
  have E4 := Lib.hid (E3.out.below hb4)
  have hne : w3.heap.size ≠ lf := fun e => by have := S3.out.f.lt; omega
  have hwf : w.heap.size ≤ w3.heap.size := Nat.le_trans HX.out.1.size H3.out.size
  have X4 := (HX.out.2.1.below H3.out).below hb4
  have B4 := Aside0.mk (show Below w.heap.size w (w3.alloc (.cells #[.bool false] 4)) from below_on (below_on HX.out.1 H3.out) hb4)
  generalize w3.alloc (.cells #[.bool false] 4) = w4 at hb4 K4 S4 E4 X4 B4 ⊢
  generalize w3.heap.size = fb at hb4 K4 hne hwf ⊢
  have c4 := X4.cell (i := 0) rfl
  have HNX := Lib.hid (next_calls w4 S4.out E4.out X4 K4 hne)
  clear c3 s4 hlk
  go_upto_region 8 with (go_at_call 38; ((with_reducible refine HNX.out.mono ?_); rintro e w5 ⟨rfl, a5, k5, hs5, hm5, hb5, hf5⟩; have H5 := Aside0.mk (And.intro hs5 (And.intro hm5 (And.intro hb5 hf5))); clear hs5 hm5 hb5 hf5))
  have n1 : bx ≠ sb := Bk.ne X4 S4.out.s (by decide)
  have n2 : bx ≠ lf := Bk.ne X4 S4.out.f (by decide)
  have n3 : bx ≠ fb := Bk.ne X4 K4 (by decide)
  have X5 := H5.out.2.2.1.bk X4 (fun e => by rcases e with e | e | e <;> contradiction)
  have c5 := X5.cell (i := 0) rfl
  have s5 := H5.out.1.cell (i := 4) rfl
  have f5 := H5.out.2.2.2.cell (i := 0) rfl
  obtain ⟨w6, hrun, _, hg6⟩ := (show MF.HasMap w5.drew Tryz.prog 9 Value.string dm 0 (fun _ => none) from H5.out.2.1.has Tryz.prog 9 Value.string).update keyedS vstr_inj (t := 119) Tryz.underlying119 (i := ⟨#[116]⟩) keyS (.bool false)
  have HG6 := Aside0.mk hg6
  clear hg6 n1 n2 n3 c4 HNX
  go_region
  have nd : fb ≠ dm := fun e => by
    have h1 := H5.out.2.1
    have h2 := H5.out.2.2.2
    unfold Mt at h1
    unfold Bk at h2
    rw [← e, h2] at h1
    cases h1
  have ns : sb ≠ dm := fun e => by
    have h1 := H5.out.2.1
    have h2 := H5.out.1
    unfold Mt at h1
    unfold Bk at h2
    rw [← e, h2] at h1
    cases h1
  have F6 : Bk fb 4 #[.bool true] w6 := (HG6.out.block fb H5.out.2.2.2.lt (fun e => nd (Option.some.inj e))).trans H5.out.2.2.2
  have S6 : Bk sb 121 #[.slice (some ⟨l, 0, none⟩) 1 1, .slice A 1 c, .slice (some ⟨lf, 0, none⟩) 1 1, .slice a5 1 k5, .map (some dm)] w6 := (HG6.out.block sb H5.out.1.lt (fun e => ns (Option.some.inj e))).trans H5.out.1
  have f6 := F6.cell (i := 0) rfl
  have HF : FX sb l lf dm A c w (.returned (.bool true)) w6 := ⟨rfl, a5, k5, S6, ?_⟩
  · have HS6 := Aside0.mk HF
    clear HF S6 F6 c5 s5 f5 hrun X5
    go_wp2
    go_ret
    exact HS6.out
  · have h5 := H5.out.2.2.1
    have h4 := B4.out
    have h6 := HG6.out
    refine ⟨h6.os.trans (h5.os.trans h4.os), h6.tape.trans (h5.tape.trans h4.tape), h6.output.trans (h5.output.trans h4.output), Nat.le_trans h4.size (Nat.le_trans h5.size h6.size), fun j hj hl => ?_⟩
    refine (h6.block j (Nat.lt_of_lt_of_le hl (Nat.le_trans h4.size h5.size)) (fun e => hj (.inr (.inr (Option.some.inj e))))).trans ((h5.block j (fun e => ?_) (Nat.lt_of_lt_of_le hl h4.size)).trans (h4.block j hl))
    rcases e with e | e | e
    · exact hj (.inl e)
    · exact hj (.inr (.inl e))
    · have : w.heap.size ≤ fb := hwf
      omega
/-- **lin.Find at the one history.** -/
theorem lin_find {l : Nat} (w : World) (h : Bk l 65 #[.int .i64 0, .int .i64 0, .int .i64 0, .int .i64 0, .int .u8 1, .int .u64 0, .int .u64 0, .int .u64 0, .int .u64 0, .bool false, .int .i64 0, .int .i64 0, .slice none 0 0, .int .u64 0, .int .u64 0, .int .i64 0, .bool false, .int .u64 0, .bool false, .int .u64 0, .slice none 0 0, .int .u64 0] w) : Calls Tryz.prog 17 #[.slice (some ⟨l, 0, none⟩) 1 1, .int .i64 1] w fun e w' => ∃ a k, e = .returned (.tuple #[.slice a 1 k, .int .i64 0]) ∧ Below w.heap.size w w' := by
  have HK := Lib.hid h
  clear h
  go_enter Tryz.func17, Tryz.ntmps17
  go_upto_region 4 with (go_at_call 27; ((with_reducible refine (searching_calls _ HK.out).mono ?_); rintro e w1 ⟨sb, l', lf, dm, A, c, b, mn, mh, rfl, hS, hE, hb, q1, q2, q3⟩; have H1 := Aside0.mk (And.intro hS (And.intro hE (And.intro hb (And.intro q1 (And.intro q2 q3))))); clear hS hE hb q1 q2 q3))
  go_upto_region 6 with (go_at_call 28; ((with_reducible refine (find_calls _ H1.out.1 H1.out.2.1).mono ?_); rintro e w2 ⟨rfl, a, k, hs, hb⟩; have H2 := Aside0.mk (And.intro hs hb); have c3 := hs.cell (i := 3) rfl; clear hs hb))
  go_wp2
  go_ret2
  obtain ⟨_, _, hb, q1, q2, q3⟩ := H1.out
  have hb2 := H2.out.2.below (B := w.heap.size) hb.size (fun j hj e => by rcases e with e | e | e <;> omega)
  exact ⟨a, k, rfl, hb.trans hb2⟩
end Go.Proofs.YtndgfpfcdppfgaaGreatDoor
