/- Blocks whose cells are known and can be written. No condition. -/
import Derived.Test.YtfnefkenheglhaaBas
namespace Go.Proofs.Ytfnefkenheglhaa
open Go.RowKit

theorem frozen_new (w : World) (cs : Array Value) (T : TypeId) (k : Nat) (_h : (cs[k]?).isSome = true) : (w.alloc (.cells cs T)).frozen? ⟨w.heap.size, k, none⟩ = false := by
  have := heap_alloc_new w (.cells cs T)
  simp only [World.frozen?]
  rw [this]
  rfl

/-- A box, and what its cells hold; none is frozen. -/
def BoxIs (b : Nat) (vs : Array Value) (W : World) : Prop := b < W.heap.size ∧ ∀ (k : Nat) v, vs[k]? = some v → W.cell? ⟨b, k, none⟩ = some v ∧ W.frozen? ⟨b, k, none⟩ = false

theorem BoxIs.start (w : World) (vs : Array Value) (T : TypeId) : BoxIs w.heap.size vs (w.alloc (.cells vs T)) :=
  ⟨by rw [World.size_alloc]; omega, fun k v hk => ⟨cell_box w vs T k v hk, frozen_new w vs T k (by rw [hk]; rfl)⟩⟩

theorem BoxIs.below {b : Nat} {vs : Array Value} {W W' : World} (h : BoxIs b vs W) (hb : Below W.heap.size W W') : BoxIs b vs W' :=
  ⟨Nat.lt_of_lt_of_le h.1 hb.size, fun k v hk => ⟨(hb.cell (p := ⟨b, k, none⟩) h.1).trans (h.2 k v hk).1, (hb.frozen (p := ⟨b, k, none⟩) h.1).trans (h.2 k v hk).2⟩⟩

theorem BoxIs.other {b : Nat} {vs : Array Value} {W : World} (h : BoxIs b vs W) {b' k' : Nat} (hb : b ≠ b') (v : Value) : BoxIs b vs (W.setCell ⟨b', k', none⟩ v) :=
  ⟨by have := h.1; simpa [World.setCell] using this, fun k u hk => ⟨by rw [World.cell?_setCell_other _ _ _ _ (by intro e; injection e with e1; exact hb (by first | exact e1 | exact e1.symm))]; exact (h.2 k u hk).1, by rw [World.frozen?_setCell]; exact (h.2 k u hk).2⟩⟩

theorem BoxIs.put {b : Nat} {vs : Array Value} {W : World} (h : BoxIs b vs W) {j : Nat} (v : Value) : BoxIs b (vs.setIfInBounds j v) (W.setCell ⟨b, j, none⟩ v) := by
  refine ⟨by have := h.1; simpa [World.setCell] using this, fun k u hk => ⟨?_, ?_⟩⟩
  · rw [Array.getElem?_setIfInBounds] at hk
    by_cases e : j = k
    · subst e
      rw [if_pos rfl] at hk
      split at hk
      · rename_i hj
        cases hk
        refine World.cell?_setCell_same' _ _ _ ?_
        rw [(h.2 j vs[j] (Array.getElem?_eq_getElem hj)).1]; rfl
      · cases hk
    · rw [if_neg e] at hk
      rw [World.cell?_setCell_other _ _ _ _ (by intro e2; injection e2 with e3 e4; first | exact e e4 | exact e e4.symm)]
      exact (h.2 k u hk).1
  · rw [Array.getElem?_setIfInBounds] at hk
    rw [World.frozen?_setCell]
    by_cases e : j = k
    · subst e
      rw [if_pos rfl] at hk
      split at hk
      · rename_i hj
        exact (h.2 j vs[j] (Array.getElem?_eq_getElem hj)).2
      · cases hk
    · rw [if_neg e] at hk
      exact (h.2 k u hk).2

theorem BoxIs.keep {b B : Nat} {vs : Array Value} {W W' : World} (h : BoxIs b vs W) (hb : Below B W W') (hB : b < B) : BoxIs b vs W' :=
  ⟨Nat.lt_of_lt_of_le h.1 hb.size, fun k v hk => ⟨(hb.cell (p := ⟨b, k, none⟩) hB).trans (h.2 k v hk).1, (hb.frozen (p := ⟨b, k, none⟩) hB).trans (h.2 k v hk).2⟩⟩

/-- Numbers as cells. -/
def intsV (l : List Int) : Array Value := (l.map (Value.int .i64)).toArray

theorem BoxIs.ints {g : Nat} {l : List Int} {W : World} (h : BoxIs g (intsV l) W) : IntsAt W (some ⟨g, 0, none⟩) l.length l := by
  refine ⟨rfl, fun i hi => ⟨g, 0, rfl, ?_⟩⟩
  have h1 := (h.2 i (.int .i64 l[i]) (by simp [intsV, hi])).1
  rw [Nat.zero_add, h1]
  simp [hi]

theorem BoxIs.setInt {g j : Nat} {l : List Int} {W : World} (h : BoxIs g (intsV l) W) (z : Int) : BoxIs g (intsV (l.set j z)) (W.setCell ⟨g, j, none⟩ (.int .i64 z)) := by
  have h1 := h.put (j := j) (.int .i64 z)
  have e : (intsV l).setIfInBounds j (.int .i64 z) = intsV (l.set j z) := by simp [intsV, List.map_set]
  rwa [e] at h1

theorem BoxIs.cell {b : Nat} {vs : Array Value} {W : World} (h : BoxIs b vs W) (k : Nat) (v : Value) (hk : vs[k]? = some v) : W.cell? ⟨b, k, none⟩ = some v := (h.2 k v hk).1
theorem BoxIs.fz {b : Nat} {vs : Array Value} {W : World} (h : BoxIs b vs W) (k : Nat) (v : Value) (hk : vs[k]? = some v) : W.frozen? ⟨b, k, none⟩ = false := (h.2 k v hk).2
end Go.Proofs.Ytfnefkenheglhaa
