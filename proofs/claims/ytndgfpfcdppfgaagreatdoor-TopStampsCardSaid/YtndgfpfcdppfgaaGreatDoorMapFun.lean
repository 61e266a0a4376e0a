/- A map that the call made, as a function from keys to values: what making, asking and storing do. Plain laws over any program. No condition. -/
import Derived.Maps.Own
import Derived.Maps.OwnOps
import Derived.Laws.OwnMore
import Derived.Below
import Derived.Deep.Draws
namespace Go.Proofs.YtndgfpfcdppfgaaGreatDoor.MF
open Go.MapKept Go.ChangeMaps Go.RowKit
open Go.Maps (Keyed)
section
variable {κ : Type} {P : Program} {k : TypeId} {c : κ → Value} {w : World} {b n : Nat} {g : κ → Option Value}

/-- Block b of w is a map of at most n entries, keys of the kind c, and holds g i at the key c i. -/
def HasMap (w : World) (P : Program) (k : TypeId) (c : κ → Value) (b n : Nat) (g : κ → Option Value) : Prop :=
  ∃ es clock, w.heap[b]? = some (.map es clock) ∧ es.size ≤ n ∧ Stamped es clock ∧ (∀ x ∈ es.toList, ∃ i l, x.key = c i ∧ keyOf P k (c i) = some l ∧ g i = some x.val) ∧ (∀ i v, g i = some v → ∃ x ∈ es.toList, x.key = c i)

theorem HasMap.made (w : World) (P : Program) (k : TypeId) (c : κ → Value) : HasMap (w.alloc (.map #[] 0)) P k c w.heap.size 0 (fun _ => none) :=
  ⟨#[], 0, (MapKept.heap_alloc w _).1, Nat.le_refl _, stamped_empty 0, fun x hx => by simp at hx, fun i v h => by cases h⟩
theorem HasMap.mono {n' : Nat} (h : HasMap w P k c b n g) (hn : n ≤ n') : HasMap w P k c b n' g := by
  obtain ⟨es, clock, h1, h2, h3⟩ := h
  exact ⟨es, clock, h1, Nat.le_trans h2 hn, h3⟩
theorem HasMap.lt (h : HasMap w P k c b n g) : b < w.heap.size := by
  obtain ⟨es, clock, hb, _⟩ := h
  exact (Array.getElem?_eq_some_iff.1 hb).1
theorem HasMap.block {w' : World} (h : HasMap w P k c b n g) (hb : w'.heap[b]? = w.heap[b]?) : HasMap w' P k c b n g := by
  obtain ⟨es, clock, h1, h2⟩ := h
  exact ⟨es, clock, hb.trans h1, h2⟩
theorem HasMap.kept {w' : World} {row : Option Nat} (h : HasMap w P k c b n g) (hg : w.grownBy w' row) (hne : some b ≠ row) : HasMap w' P k c b n g := h.block (hg.block b h.lt hne)
theorem HasMap.below {w' : World} {B : Nat} (h : HasMap w P k c b n g) (hb : Below B w w') (hlt : b < B) : HasMap w' P k c b n g := h.block (hb.block b hlt)
theorem HasMap.alloc (h : HasMap w P k c b n g) (o : Obj) : HasMap (w.alloc o) P k c b n g := h.kept (World.grownBy_alloc w o none) (by simp)
theorem HasMap.drew (h : HasMap w P k c b n g) : HasMap w.drew P k c b n g := h
theorem HasMap.drewN (h : HasMap w P k c b n g) (j : Nat) : HasMap (w.drewN j) P k c b n g := h
theorem HasMap.set (h : HasMap w P k c b n g) {p : Addr} (hp : b ≠ p.block) (u : Value) : HasMap (w.setCell p u) P k c b n g := h.block (Below.heap_setCell w p u b hp)
theorem HasMap.ne_cells {cs : Array Value} {t : TypeId} {fr : Nat × Nat} {x : Nat} (h : HasMap w P k c b n g) (hx : w.heap[x]? = some (.cells cs t fr)) : x ≠ b := by
  rintro rfl
  obtain ⟨es, clock, hb, _⟩ := h
  rw [hb] at hx
  cases hx
theorem HasMap.congr {g' : κ → Option Value} (h : HasMap w P k c b n g) (hg : ∀ i, g i = g' i) : HasMap w P k c b n g' := by
  obtain rfl : g = g' := funext hg
  exact h

theorem HasMap.finds (h : HasMap w P k c b n g) (K : Keyed P k) (hc : ∀ i j, c i = c j → i = j) {i : κ} {l : Lit} (hkey : keyOf P k (c i) = some l) :
    ∃ es clock, w.heap[b]? = some (.map es clock) ∧ es.size ≤ n ∧ Stamped es clock ∧ (∀ x ∈ es.toList, ∃ i l, x.key = c i ∧ keyOf P k (c i) = some l ∧ g i = some x.val) ∧ (∀ i v, g i = some v → ∃ x ∈ es.toList, x.key = c i) ∧
      ((g i = none ∧ (Instr.findKey k (c i) es.toList).run P w = .ok none w ∧ ∀ x ∈ es.toList, x.key ≠ c i) ∨
        ∃ j e, g i = some e.val ∧ (Instr.findKey k (c i) es.toList).run P w = .ok (some (j, e.val)) w ∧ es.toList[j]? = some e ∧ e.key = c i) := by
  obtain ⟨es, clock, hb, hs, hst, hall, hin⟩ := h
  refine ⟨es, clock, hb, hs, hst, hall, hin, ?_⟩
  have hks : ∀ x ∈ es.toList, ∃ l, keyOf P k x.key = some l := fun x hx => by
    obtain ⟨i', l', h1, h2, _⟩ := hall x hx
    exact ⟨l', by rw [h1]; exact h2⟩
  rcases K.find w hkey es.toList hks with ⟨h1, h2⟩ | ⟨j, e0, h1, h2, h3⟩
  · left
    refine ⟨?_, h1, h2⟩
    cases hg : g i with
    | none => rfl
    | some v =>
      obtain ⟨x, hx, hxk⟩ := hin i v hg
      exact absurd hxk (h2 x hx)
  · right
    have hm : e0 ∈ es.toList := List.mem_of_getElem? h2
    obtain ⟨i', l', e1, _, e3⟩ := hall e0 hm
    have : i' = i := hc _ _ (e1.symm.trans h3)
    subst this
    exact ⟨j, e0, e3, h1, h2, h3⟩

/-- 'm[k]'. -/
theorem HasMap.look {t e : TypeId} (h : HasMap w P k c b n g) (K : Keyed P k) (hc : ∀ i j, c i = c j → i = j) (ht : P.underlying t = some (.map k e)) {z : Value} (hz : (zeroValue e).run P w = .ok z w) {i : κ} {l : Lit} (hkey : keyOf P k (c i) = some l) :
    (Instr.lookup t (.map (some b)) (c i) false).run P w = .ok ((g i).getD z) w := by
  obtain ⟨es, clock, hb, _, _, _, _, ⟨hg, h1, _⟩ | ⟨j, e0, hg, h1, _, _⟩⟩ := h.finds K hc hkey
  · simp [Instr.lookup, run_underlying ht, MapKept.run_getObj_map hb, K.check w _ hkey, h1, hz, Result.andThen, hg]
  · simp [Instr.lookup, run_underlying ht, MapKept.run_getObj_map hb, K.check w _ hkey, h1, Result.andThen, hg]
/-- 'v, ok := m[k]'. -/
theorem HasMap.look_ok {t e : TypeId} (h : HasMap w P k c b n g) (K : Keyed P k) (hc : ∀ i j, c i = c j → i = j) (ht : P.underlying t = some (.map k e)) {z : Value} (hz : (zeroValue e).run P w = .ok z w) {i : κ} {l : Lit} (hkey : keyOf P k (c i) = some l) :
    (Instr.lookup t (.map (some b)) (c i) true).run P w = .ok (.tuple #[(g i).getD z, .bool (g i).isSome]) w := by
  obtain ⟨es, clock, hb, _, _, _, _, ⟨hg, h1, _⟩ | ⟨j, e0, hg, h1, _, _⟩⟩ := h.finds K hc hkey
  · simp [Instr.lookup, run_underlying ht, MapKept.run_getObj_map hb, K.check w _ hkey, h1, hz, Result.andThen, hg]
  · simp [Instr.lookup, run_underlying ht, MapKept.run_getObj_map hb, K.check w _ hkey, h1, Result.andThen, hg]

/-- What the map is behind a store. -/
def put [DecidableEq κ] (g : κ → Option Value) (i : κ) (v : Value) : κ → Option Value := fun j => if j = i then some v else g j

/-- 'm[k] = v'. -/
theorem HasMap.update [DecidableEq κ] {t e : TypeId} (h : HasMap w P k c b n g) (K : Keyed P k) (hc : ∀ i j, c i = c j → i = j) (ht : P.underlying t = some (.map k e)) {i : κ} {l : Lit} (hkey : keyOf P k (c i) = some l) (v : Value) :
    ∃ w', (Instr.mapUpdate t (.map (some b)) (c i) v).run P w = .ok () w' ∧ HasMap w' P k c b (n + 1) (put g i v) ∧ w.grownBy w' (some b) := by
  have grown : ∀ {es : Array MapEntry} {clock : Nat}, w.heap[b]? = some (.map es clock) → ∀ o, w.grownBy (setBlock w b o) (some b) := fun hb o =>
    ⟨rfl, rfl, rfl, by simp [setBlock], fun i _ hi => heap_setBlock_other hb _ (fun e => hi (by rw [e]))⟩
  obtain ⟨es, clock, hb, hs, hst, hall, hin, ⟨hg, h1, h2⟩ | ⟨j, e0, hg, h1, h2, h3⟩⟩ := h.finds K hc hkey
  · refine ⟨setBlock w b (.map (es.push ⟨c i, v, clock⟩) (clock + 1)), ?_, ⟨_, _, heap_setBlock_same hb _, by simp; omega, stamped_push hst h2, ?_, ?_⟩, grown hb _⟩
    · simp [Instr.mapUpdate, run_underlying ht, MapKept.run_getObj_map hb, K.check w false hkey, h1, MapKept.run_setObj_map _ hb, Result.andThen, setBlock]
    · intro x hx
      simp only [Array.toList_push, List.mem_append, List.mem_singleton] at hx
      rcases hx with hx | rfl
      · obtain ⟨i', l', e1, e2, e3⟩ := hall x hx
        refine ⟨i', l', e1, e2, ?_⟩
        have : i' ≠ i := fun e => h2 x hx (e ▸ e1)
        simp [put, this, e3]
      · exact ⟨i, l, rfl, hkey, by simp [put]⟩
    · intro i' v' hv'
      by_cases e1 : i' = i
      · subst e1
        exact ⟨⟨c i', v, clock⟩, by simp, rfl⟩
      · simp only [put, if_neg e1] at hv'
        obtain ⟨x, hx, hxk⟩ := hin i' v' hv'
        exact ⟨x, by simp [hx], hxk⟩
  · have hj : es[j]? = some e0 := by simpa using h2
    have hm0 : e0 ∈ es.toList := List.mem_of_getElem? h2
    have hkeyf : ∀ e', es[j]? = some e' → ({ e' with key := c i, val := v } : MapEntry).key = e'.key := fun e' he' => by rw [hj] at he'; cases he'; exact h3.symm
    have hlist : (es.modify j (fun e' => { e' with key := c i, val := v })).toList = es.toList.set j { e0 with key := c i, val := v } := by rw [Array.toList_modify, modify_eq_set _ _ _ _ h2]
    have hjl : j < es.toList.length := (List.getElem?_eq_some_iff.1 h2).1
    have hpw := ((stamped_iff es clock).1 hst).2.2
    have apart : ∀ i', (hi' : i' < es.toList.length) → i' ≠ j → (es.toList[i']).key ≠ c i := by
      intro i' hi' hne hk
      have hej : es.toList[j] = e0 := by
        have := List.getElem?_eq_getElem hjl
        rw [this] at h2
        exact Option.some.inj h2
      rcases Nat.lt_or_gt_of_ne hne with h | h
      · exact (List.pairwise_iff_getElem.1 hpw i' j hi' hjl h) (by rw [hk, hej, h3])
      · exact (List.pairwise_iff_getElem.1 hpw j i' hjl hi' h) (by rw [hk, hej, h3])
    refine ⟨setBlock w b (.map (es.modify j (fun e' => { e' with key := c i, val := v })) clock), ?_, ⟨_, _, heap_setBlock_same hb _, by simp; omega, stamped_modify hst _ _ (fun _ _ => rfl) (fun e' _ he' => hkeyf e' he'), ?_, ?_⟩, grown hb _⟩
    · simp [Instr.mapUpdate, run_underlying ht, MapKept.run_getObj_map hb, K.check w false hkey, h1, hj, h3, K.stays w hkey, MapKept.run_setObj_map _ hb, Result.andThen, setBlock]
    · intro x hx
      rw [hlist] at hx
      obtain ⟨i', hi', ex⟩ := List.getElem_of_mem hx
      rw [List.getElem_set] at ex
      split at ex
      · subst ex
        exact ⟨i, l, rfl, hkey, by simp [put]⟩
      · rename_i hne
        have hi'' : i' < es.toList.length := by simpa using hi'
        have hx' : x ∈ es.toList := ex ▸ List.getElem_mem hi''
        obtain ⟨i2, l2, e1, e2, e3⟩ := hall x hx'
        refine ⟨i2, l2, e1, e2, ?_⟩
        have : i2 ≠ i := fun e => apart i' hi'' (fun q => hne q.symm) (by rw [ex, e1, e])
        simp [put, this, e3]
    · intro i' v' hv'
      rw [hlist]
      by_cases e1 : i' = i
      · subst e1
        exact ⟨{ e0 with key := c i', val := v }, List.mem_iff_getElem.2 ⟨j, by simpa using hjl, by simp⟩, rfl⟩
      · simp only [put, if_neg e1] at hv'
        obtain ⟨x, hx, hxk⟩ := hin i' v' hv'
        obtain ⟨q, hq, ex⟩ := List.getElem_of_mem hx
        have hne : q ≠ j := fun e => e1 (by
          subst e
          have : es.toList[q] = e0 := by
            have := List.getElem?_eq_getElem hjl
            rw [this] at h2
            exact Option.some.inj h2
          exact hc _ _ (by rw [← hxk, ← ex, this, h3]))
        refine ⟨x, List.mem_iff_getElem.2 ⟨q, by simpa using hq, ?_⟩, hxk⟩
        rw [List.getElem_set_ne (fun e => hne e.symm)]
        exact ex
end

/-- 'm[k]' at the operation, for the walk. -/
theorem wpList_look {κ : Type} {P : Program} (w : World) {ops : Array Oper} {rest : List Oper} {o : Oper} {a : Act} {Q : Exit → Act → World → Prop}
    (hgd : o.guard = none) (m x : Operand) (t : TypeId) (hop : o.op = Op.lookup t m x false)
    (k e : TypeId) (K : Keyed P k) (ht : P.underlying t = some (.map k e)) {z : Value} (hz : (zeroValue e).run P w = .ok z w) (c : κ → Value) (hc : ∀ i j, c i = c j → i = j) (b n : Nat) (g : κ → Option Value)
    (hm : a.eval m = .map (some b)) (hown : HasMap w P k c b n g) (i : κ) (l : Lit) (hx : a.eval x = c i) (hkey : keyOf P k (c i) = some l)
    (hK : wpList P ops Q rest (a.put o.dst ((g i).getD z)) w) : wpList P ops Q (o :: rest) a w := by
  refine wpList_plain hgd fun K' hK' => ?_
  have hrun := hown.look K hc ht hz hkey
  unfold Oper.wp
  simp [execOp, hop, hm, hx, hrun, Result.andThen]
  exact hK' _ _ hK
theorem wpList_look_ok {κ : Type} {P : Program} (w : World) {ops : Array Oper} {rest : List Oper} {o : Oper} {a : Act} {Q : Exit → Act → World → Prop}
    (hgd : o.guard = none) (m x : Operand) (t : TypeId) (hop : o.op = Op.lookup t m x true)
    (k e : TypeId) (K : Keyed P k) (ht : P.underlying t = some (.map k e)) {z : Value} (hz : (zeroValue e).run P w = .ok z w) (c : κ → Value) (hc : ∀ i j, c i = c j → i = j) (b n : Nat) (g : κ → Option Value)
    (hm : a.eval m = .map (some b)) (hown : HasMap w P k c b n g) (i : κ) (l : Lit) (hx : a.eval x = c i) (hkey : keyOf P k (c i) = some l)
    (hK : wpList P ops Q rest (a.put o.dst (.tuple #[(g i).getD z, .bool (g i).isSome])) w) : wpList P ops Q (o :: rest) a w := by
  refine wpList_plain hgd fun K' hK' => ?_
  have hrun := hown.look_ok K hc ht hz hkey
  unfold Oper.wp
  simp [execOp, hop, hm, hx, hrun, Result.andThen]
  exact hK' _ _ hK
theorem wpList_update {κ : Type} [DecidableEq κ] {P : Program} (w : World) {ops : Array Oper} {rest : List Oper} {o : Oper} {a : Act} {Q : Exit → Act → World → Prop}
    (hgd : o.guard = none) (m x v : Operand) (t : TypeId) (hop : o.op = Op.mapUpdate t m x v)
    (k e : TypeId) (K : Keyed P k) (ht : P.underlying t = some (.map k e)) (c : κ → Value) (hc : ∀ i j, c i = c j → i = j) (b n : Nat) (g : κ → Option Value)
    (hm : a.eval m = .map (some b)) (hown : HasMap w P k c b n g) (i : κ) (val : Value) (l : Lit) (hx : a.eval x = c i) (hv : a.eval v = val) (hkey : keyOf P k (c i) = some l)
    (hK : ∀ w', HasMap w' P k c b (n + 1) (put g i val) → w.grownBy w' (some b) → wpList P ops Q rest (a.put o.dst undef) w') : wpList P ops Q (o :: rest) a w := by
  refine wpList_plain hgd fun K' hK' => ?_
  obtain ⟨w', hrun, r1, r2⟩ := hown.update K hc ht hkey val
  unfold Oper.wp
  simp [execOp, hop, hm, hx, hv, hrun, Result.andThen]
  exact hK' _ _ (hK w' r1 r2)
theorem vint_inj {q : IntKind} : ∀ i j : Int, Value.int q i = Value.int q j → i = j := fun i j h => by injection h
/-- A block stays while another row is written. -/
theorem blk_grown {w w' : World} {row : Option Nat} {x : Nat} {o : Obj} (hg : w.grownBy w' row) (hx : w.heap[x]? = some o) (hne : some x ≠ row) : w'.heap[x]? = some o :=
  (hg.block x (Array.getElem?_eq_some_iff.1 hx).1 hne).trans hx
end Go.Proofs.YtndgfpfcdppfgaaGreatDoor.MF
