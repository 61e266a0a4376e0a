/- Rows of ints that are the call's own: stores, appends, and what they leave as it was. Plain laws. No condition. -/
import Derived.Test.YtfmhdfgliamkkabOwnx0
import Derived.Maps.AppendAt
import Derived.Laws.OwnMore
import Derived.OwnWalk
namespace Go.Proofs.Ytfmhdfgliamkkab.Own
open Go.RowKit Go.Proofs.YtfmhdfgliamkkabW.PrintWords Go.Proofs.YtfmhdfgliamkkabW.PrintLast Go.Proofs.YtfmhdfgliamkkabW.PrintMore
set_option linter.unusedVariables false
set_option linter.unusedSimpArgs false
namespace BK
section
variable {P : Program} (w : World)
/-- An append leaves the cells that were there as they were. -/
theorem run_append_kept (base : Nat) (t ty e : TypeId) (i : TypeInfo) (z : Value) (size bytes : Nat) (ht : P.underlying t = some (.slice e)) (hi : P.info? e = some i) (hz : i.zero = some z)
    (hsize : i.size = size) (hby : i.bytes = bytes) (hzs : z.cells.size = size) (hsz : 0 < size)
    (v : Value) (n : Nat) (xs : List Value) (hown : w.ownsRow base e size v n xs)
    (a : Addr) (m c : Nat) (news : List Value) (hl : news.length = m * size) (hnews : ∀ j u, news[j]? = some u → w.cell? (a.add j) = some u) (h1 : ∀ u ∈ news, u.oneCell' = true)
    (h63 : n + m ≤ maxLen) (hbytes : (n + m) * bytes ≤ 140737488355328) (hbase : base ≤ w.heap.size) :
    ∃ v' w', (Builtin.append_ #[t, t] ty #[v, .slice (some a) m c]).run P w = .ok v' w' ∧ w'.ownsRow base e size v' (n + m) (xs ++ news) ∧ w.grownBy w' v.ownBlock ∧
      (v'.ownBlock = v.ownBlock ∨ v'.ownBlock = some w.heap.size) ∧ (∀ g j, v.ownBlock = some g → j < n * size → w'.cell? ⟨g, j, none⟩ = w.cell? ⟨g, j, none⟩) := by
  obtain ⟨v', w', hr, h2, h3, _, h5⟩ := run_append_own_at (P := P) w base t ty e i z size bytes ht hi hz hsize hby hzs hsz v n xs hown a m c news hl hnews h1 h63 hbytes hbase
  refine ⟨v', w', hr, h2, h3, h5, ?_⟩
  intro g j hv hj
  rcases hown.2 with ⟨rfl, _⟩ | ⟨g', cap, cur, rfl, hbg, hg, hnc, hcm, hcs, htake⟩
  · cases hv
  · have hgg : g' = g := by simpa [Value.ownBlock] using hv
    subst hgg
    have hxl : xs.length = n * size := hown.1
    have hjx : j < xs.length := by rw [hxl]; exact hj
    have hw : w.cell? ⟨g', j, none⟩ = some xs[j] := by
      have h := hown.cells (g := g') rfl j xs[j] (List.getElem?_eq_getElem hjx)
      rwa [add_plain] at h
    by_cases hroom : n + m ≤ cap
    · obtain ⟨w2, hr2, o2, _⟩ := run_append_fits (P := P) w base t ty e i size ht hi hsize g' n cap xs hown a m c news hl hnews h1 hroom
      rw [hr] at hr2
      injection hr2 with e1 e2
      subst e1 e2
      have h := o2.cells (g := g') rfl j xs[j] (by rw [List.getElem?_append_left hjx]; exact List.getElem?_eq_getElem hjx)
      rw [add_plain] at h
      rw [h, hw]
    · have hmx : n + m ≤ 9223372036854775807 := by simp only [maxLen] at h63; omega
      have hr2 := run_append_grow (P := P) w t ty e i z ht hi hz ⟨g', 0, none⟩ n cap xs (by rw [hsize]; exact hown.1) (hown.cells (g := g') rfl) a m c news (by rw [hsize]; exact hl) hnews (by omega) (by omega) (by rw [hby]; exact growslice_fits (by omega) hbytes)
      rw [hr] at hr2
      injection hr2 with e1 e2
      rw [e2]
      have hlt : g' < w.heap.size := (Array.getElem?_eq_some_iff.1 hg).1
      unfold World.cell?
      have hb : (w.drew.alloc (.cells (xs.toArray ++ news.toArray ++ Builtin.zeroCells z.cells (grownCap w (n + m) cap e - (n + m))) e)).heap[g']? = w.heap[g']? := (Below.heap_alloc w.drew _ g' hlt)
      rw [hb]
theorem wpList_append_kept {ops : Array Oper} {rest : List Oper} {o : Oper} {a : Act} {Q : Exit → Act → World → Prop} (hgd : o.guard = none) (s x : Operand) (t : TypeId)
    (ho : o.op = .call { callee := .builtin .append, args := #[s, x], argTypes := #[t, t] })
    (base : Nat) (e : TypeId) (i : TypeInfo) (z : Value) (size bytes : Nat) (ht : P.underlying t = some (.slice e)) (hi : P.info? e = some i) (hz : i.zero = some z)
    (hsize : i.size = size) (hby : i.bytes = bytes) (hzs : z.cells.size = size) (hsz : 0 < size)
    (v : Value) (n : Nat) (xs : List Value) (hs : a.eval s = v) (hown : w.ownsRow base e size v n xs)
    (ad : Addr) (m c : Nat) (news : List Value) (hx : a.eval x = .slice (some ad) m c) (hl : news.length = m * size) (hnews : ∀ j u, news[j]? = some u → w.cell? (ad.add j) = some u) (h1 : ∀ u ∈ news, u.oneCell' = true)
    (h63 : n + m ≤ maxLen) (hbytes : (n + m) * bytes ≤ 140737488355328) (hbase : base ≤ w.heap.size)
    (h : ∀ v' w', w'.ownsRow base e size v' (n + m) (xs ++ news) → w.grownBy w' v.ownBlock → (v'.ownBlock = v.ownBlock ∨ v'.ownBlock = some w.heap.size) → (∀ g j, v.ownBlock = some g → j < n * size → w'.cell? ⟨g, j, none⟩ = w.cell? ⟨g, j, none⟩) → wpList P ops Q rest (a.put o.dst v') w') :
    wpList P ops Q (o :: rest) a w := by
  refine wpList_plain hgd fun K hK => ?_
  obtain ⟨v', w', hr, h2, h3, h4, h5⟩ := run_append_kept (P := P) w base t o.type e i z size bytes ht hi hz hsize hby hzs hsz v n xs hown ad m c news hl hnews h1 h63 hbytes hbase
  unfold Oper.wp execOp
  simp only [ho, resolve, invoke, builtin, Sem.run_bind, Sem.run_pure, Result.andThen_ok, List.map_toArray, List.map_cons, List.map_nil, hs, hx, hr]
  exact hK _ _ (h v' w' h2 h3 h4 h5)
end
/-- v is the call's own row of cells of type e, and holds xs. -/
def OI (B : Nat) (e : TypeId) (w : World) (v : Value) (xs : List Value) : Prop := w.ownsRow B e 1 v xs.length xs
theorem OI.nil (B e : Nat) (w : World) : OI B e w (.slice none 0 0) [] := own_nil _ _ _ _
theorem OI.other {B e : Nat} {w w1 : World} {v : Value} {xs : List Value} (h : OI B e w v xs) {row : Option Nat} (hg : w.grownBy w1 row) (hne : v.ownBlock = none ∨ v.ownBlock ≠ row) : OI B e w1 v xs := own_other h hg hne
theorem OI.below {B e : Nat} {w w1 : World} {v : Value} {xs : List Value} (h : OI B e w v xs) (hb : Below w.heap.size w w1) : OI B e w1 v xs :=
  own_other h (grown_of_below hb none) (by cases v.ownBlock <;> simp)
theorem OI.form {B e : Nat} {w : World} {v : Value} {xs : List Value} (h : OI B e w v xs) (hp : 0 < xs.length) : ∃ g cap cur, v = .slice (some ⟨g, 0, none⟩) xs.length cap ∧ B ≤ g ∧ g < w.heap.size ∧ w.heap[g]? = some (.cells cur e (0, 0)) ∧ cur.toList.take xs.length = xs := by
  rcases h.2 with ⟨_, h0⟩ | ⟨g, cap, cur, rfl, hbg, hg, hnc, hcm, hcs, htake⟩
  · omega
  · exact ⟨g, cap, cur, rfl, hbg, (Array.getElem?_eq_some_iff.1 hg).1, hg, by simpa using htake⟩
theorem OI.cell {B e : Nat} {w : World} {g : Nat} {n cap : Nat} {xs : List Value} (h : OI B e w (.slice (some ⟨g, 0, none⟩) n cap) xs) (j : Nat) (hj : j < xs.length) : w.cell? ⟨g, j, none⟩ = some xs[j] := by
  have h2 := World.ownsRow.cells h (g := g) rfl j xs[j] (List.getElem?_eq_getElem hj)
  rwa [add_plain] at h2
theorem OI.put {B e : Nat} {w : World} {g n cap : Nat} {xs : List Value} (h : OI B e w (.slice (some ⟨g, 0, none⟩) n cap) xs) (j : Nat) (hj : j < xs.length) (u : Value) : OI B e (w.setCell ⟨g, j, none⟩ u) (.slice (some ⟨g, 0, none⟩) n cap) (xs.set j u) ∧ w.frozen? ⟨g, j, none⟩ = false ∧ w.grownBy (w.setCell ⟨g, j, none⟩ u) (some g) := by
  rcases h.2 with ⟨h0, _⟩ | ⟨g', cap', cur, hv, hbg, hg, hnc, hcm, hcs, htake⟩
  · cases h0
  · injection hv with e1 e2 e3
    injection e1 with e1
    injection e1 with e1
    subst e1 e2 e3
    refine ⟨⟨by simp, Or.inr ⟨g, cap, cur.setIfInBounds j u, by simp, hbg, blk_set hg j u, by simpa using hnc, hcm, by simpa using hcs, ?_⟩⟩, ?_, ?_⟩
    · rw [Nat.mul_one] at htake
      rw [Nat.mul_one, List.length_set, Array.toList_setIfInBounds, List.take_set, htake]
    · unfold World.frozen?
      rw [hg]
      simp
    · exact ⟨rfl, rfl, rfl, by simp, fun k hk hne => Below.heap_setCell w _ u k (fun e => hne (by rw [e]))⟩
end BK
end Go.Proofs.Ytfmhdfgliamkkab.Own
