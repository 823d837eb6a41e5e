/- Boxes and their cells. No condition. -/
import Derived.Test.YtlicijnaacdceaaLawE
namespace Go.Proofs.Ytlicijnaacdceaa
open Go.RowKit

/-- A box, and what its cells hold; none is frozen. -/
def BoxIs (b : Nat) (vs : Array Value) (W : World) : Prop := b < W.heap.size ∧ ∀ (k : Nat) v, vs[k]? = some v → W.cell? ⟨b, k, none⟩ = some v ∧ W.frozen? ⟨b, k, none⟩ = false

theorem BoxIs.start (w : World) (vs : Array Value) (T : TypeId) : BoxIs w.heap.size vs (w.alloc (.cells vs T)) :=
  ⟨by rw [World.size_alloc]; omega, fun k v hk => ⟨cell_box w vs T k v hk, frozen_new w vs T k (by rw [hk]; rfl)⟩⟩

theorem BoxIs.below {b : Nat} {vs : Array Value} {W W' : World} (h : BoxIs b vs W) (hb : Below W.heap.size W W') : BoxIs b vs W' :=
  ⟨Nat.lt_of_lt_of_le h.1 hb.size, fun k v hk => ⟨(hb.cell (p := ⟨b, k, none⟩) h.1).trans (h.2 k v hk).1, (hb.frozen (p := ⟨b, k, none⟩) h.1).trans (h.2 k v hk).2⟩⟩

theorem BoxIs.other {b : Nat} {vs : Array Value} {W : World} (h : BoxIs b vs W) {b' k' : Nat} (hb : b ≠ b') (v : Value) : BoxIs b vs (W.setCell ⟨b', k', none⟩ v) :=
  ⟨by have := h.1; simpa [World.setCell] using this, fun k u hk => ⟨by rw [World.cell?_setCell_other _ _ _ _ (by intro e; injection e with e1; exact hb (by first | exact e1 | exact e1.symm))]; exact (h.2 k u hk).1, by rw [World.frozen?_setCell]; exact (h.2 k u hk).2⟩⟩

theorem BoxIs.put {b : Nat} {vs : Array Value} {W : World} (h : BoxIs b vs W) {j : Nat} (v : Value) : BoxIs b (vs.setIfInBounds j v) (W.setCell ⟨b, j, none⟩ v) := by
  refine ⟨by have := h.1; simpa [World.setCell] using this, fun k u hk => ⟨?_, ?_⟩⟩
  · rw [Array.getElem?_setIfInBounds] at hk
    by_cases e : j = k
    · subst e
      rw [if_pos rfl] at hk
      split at hk
      · rename_i hj
        cases hk
        refine World.cell?_setCell_same' _ _ _ ?_
        rw [(h.2 j vs[j] (Array.getElem?_eq_getElem hj)).1]; rfl
      · cases hk
    · rw [if_neg e] at hk
      rw [World.cell?_setCell_other _ _ _ _ (by intro e2; injection e2 with e3 e4; first | exact e e4 | exact e e4.symm)]
      exact (h.2 k u hk).1
  · rw [Array.getElem?_setIfInBounds] at hk
    rw [World.frozen?_setCell]
    by_cases e : j = k
    · subst e
      rw [if_pos rfl] at hk
      split at hk
      · rename_i hj
        exact (h.2 j vs[j] (Array.getElem?_eq_getElem hj)).2
      · cases hk
    · rw [if_neg e] at hk
      exact (h.2 k u hk).2

theorem BoxIs.sbox {b : Nat} {r cc : Int} {p : Option Addr} {n c : Nat} {l : List Int} {sm : Int} {q : Option Addr} {m d : Nat} {cs : List Cnt} {W : World} (h : BoxIs b #[.int .i64 r, .int .i64 cc, .slice p n c, .int .i64 sm, .slice q m d] W) (hl : IntsAt W p n l) (hcs : CntsAt W q m cs) : SBox b r cc p n c l sm q m d cs W :=
  ⟨h.1, (h.2 0 _ rfl).1, (h.2 1 _ rfl).1, (h.2 2 _ rfl).1, (h.2 3 _ rfl).1, (h.2 4 _ rfl).1, hl, hcs⟩
end Go.Proofs.Ytlicijnaacdceaa
