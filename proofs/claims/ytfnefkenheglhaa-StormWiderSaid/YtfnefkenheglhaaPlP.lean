/- Plain: the verdicts of a rectangle and of its parts. No condition. -/
import Derived.Test.YtfnefkenheglhaaLawC
import Derived.Test.YtfnefkenheglhaaP9
namespace Go.Proofs.Ytfnefkenheglhaa
open Go.RowKit

def AllIn (s : Sto) (L : List Tru) (x y : Rng) : Prop := ∀ t ∈ L, ∀ q ∈ placesL x y, hitB s t q.1 q.2 = true
def AllOut (s : Sto) (L : List Tru) (x y : Rng) : Prop := ∀ t ∈ L, ∀ q ∈ placesL x y, hitB s t q.1 q.2 = false
theorem allIn_iff {s : Sto} {L : List Tru} {x y : Rng} : (L.all fun t => !hitsB s t x y false) = true ↔ AllIn s L x y := by
  simp only [List.all_eq_true, hitsB, Bool.not_eq_true', List.any_eq_false, AllIn]
  constructor
  · intro h t ht q hq
    have := h t ht q hq
    cases hh : hitB s t q.1 q.2
    · simp [hh] at this
    · rfl
  · intro h t ht q hq
    simp [h t ht q hq]
theorem allOut_iff {s : Sto} {L : List Tru} {x y : Rng} : (L.all fun t => !hitsB s t x y true) = true ↔ AllOut s L x y := by
  simp only [List.all_eq_true, hitsB, Bool.not_eq_true', List.any_eq_false, AllOut]
  constructor
  · intro h t ht q hq
    have := h t ht q hq
    cases hh : hitB s t q.1 q.2
    · rfl
    · simp [hh] at this
  · intro h t ht q hq
    simp [h t ht q hq]
theorem verdT_eq (s : Sto) (L : List Tru) (x y : Rng) : (AllIn s L x y ∧ verdT s L x y = 1) ∨ (¬ AllIn s L x y ∧ AllOut s L x y ∧ verdT s L x y = 2) ∨ (¬ AllIn s L x y ∧ ¬ AllOut s L x y ∧ verdT s L x y = 3) := by
  unfold verdT
  by_cases h1 : AllIn s L x y
  · exact .inl ⟨h1, if_pos (allIn_iff.2 h1)⟩
  · rw [if_neg (fun h => h1 (allIn_iff.1 h))]
    by_cases h2 : AllOut s L x y
    · exact .inr (.inl ⟨h1, h2, if_pos (allOut_iff.2 h2)⟩)
    · exact .inr (.inr ⟨h1, h2, if_neg (fun h => h2 (allOut_iff.1 h))⟩)
theorem not_both {s : Sto} {L : List Tru} {x y : Rng} (hL : L ≠ []) (hq : ∃ q, q ∈ placesL x y) (h : AllOut s L x y) : ¬ AllIn s L x y := by
  intro h2
  obtain ⟨q, hq⟩ := hq
  obtain ⟨t, ht⟩ := List.exists_mem_of_ne_nil L hL
  have a := h t ht q hq
  have b := h2 t ht q hq
  rw [a] at b
  cases b
/-- The verdicts of a rectangle, of its parts. -/
def PartsOk (v a b : Int) : Prop := (v = 1 ∧ a = 1 ∧ b = 1) ∨ (v = 2 ∧ a = 2 ∧ b = 2) ∨ (v = 3 ∧ a = 3 ∧ b = 1) ∨ (v = 3 ∧ a = 3 ∧ b = 2) ∨ (v = 3 ∧ a = 3 ∧ b = 3) ∨ (v = 3 ∧ a = 1 ∧ b = 2) ∨ (v = 3 ∧ a = 1 ∧ b = 3) ∨ (v = 3 ∧ a = 2 ∧ b = 1) ∨ (v = 3 ∧ a = 2 ∧ b = 3)
theorem parts_law {s : Sto} {L : List Tru} {x y xa ya xb yb : Rng} (hL : L ≠ []) (hs : ∀ q, q ∈ placesL x y ↔ q ∈ placesL xa ya ∨ q ∈ placesL xb yb) (ha : ∃ q, q ∈ placesL xa ya) (hb : ∃ q, q ∈ placesL xb yb) :
    PartsOk (verdT s L x y) (verdT s L xa ya) (verdT s L xb yb) := by
  have hx : ∃ q, q ∈ placesL x y := by obtain ⟨q, hq⟩ := ha; exact ⟨q, (hs q).2 (.inl hq)⟩
  have hI : AllIn s L x y ↔ AllIn s L xa ya ∧ AllIn s L xb yb :=
    ⟨fun h => ⟨fun t ht q hq => h t ht q ((hs q).2 (.inl hq)), fun t ht q hq => h t ht q ((hs q).2 (.inr hq))⟩, fun h t ht q hq => ((hs q).1 hq).elim (h.1 t ht q) (h.2 t ht q)⟩
  have hO : AllOut s L x y ↔ AllOut s L xa ya ∧ AllOut s L xb yb :=
    ⟨fun h => ⟨fun t ht q hq => h t ht q ((hs q).2 (.inl hq)), fun t ht q hq => h t ht q ((hs q).2 (.inr hq))⟩, fun h t ht q hq => ((hs q).1 hq).elim (h.1 t ht q) (h.2 t ht q)⟩
  have na := not_both (s := s) hL ha
  have nb := not_both (s := s) hL hb
  unfold PartsOk
  rcases verdT_eq s L x y with ⟨h1, e1⟩ | ⟨h1, h2, e1⟩ | ⟨h1, h2, e1⟩ <;> rcases verdT_eq s L xa ya with ⟨h3, e3⟩ | ⟨h3, h4, e3⟩ | ⟨h3, h4, e3⟩ <;> rcases verdT_eq s L xb yb with ⟨h5, e5⟩ | ⟨h5, h6, e5⟩ | ⟨h5, h6, e5⟩ <;>
    first
      | (rw [e1, e3, e5]; decide)
      | (exfalso; simp_all)
theorem places_ne {x y : Rng} (hx : x.lo ≤ x.hi) (hy : y.lo ≤ y.hi) : ∃ q, q ∈ placesL x y := ⟨(x.lo, y.lo), mem_places.2 ⟨Int.le_refl _, hx, Int.le_refl _, hy⟩⟩
/-- A rectangle parted at a column, or at a row. -/
def cutA (r : Rng) (k : Int) : Rng := ⟨r.lo, r.lo + k⟩
def cutB (r : Rng) (k : Int) : Rng := ⟨minI r.hi (r.lo + k + 1), r.hi⟩
theorem cut_mem {r : Rng} {k : Int} (h0 : 0 ≤ k) (h1 : r.lo + k ≤ r.hi) (n : Int) : (r.lo ≤ n ∧ n ≤ r.hi) ↔ ((cutA r k).lo ≤ n ∧ n ≤ (cutA r k).hi) ∨ ((cutB r k).lo ≤ n ∧ n ≤ (cutB r k).hi) := by
  show _ ↔ (r.lo ≤ n ∧ n ≤ r.lo + k) ∨ (minI r.hi (r.lo + k + 1) ≤ n ∧ n ≤ r.hi)
  unfold minI
  split <;> omega
theorem cut_ne {r : Rng} {k : Int} (h0 : 0 ≤ k) : (cutA r k).lo ≤ (cutA r k).hi ∧ (cutB r k).lo ≤ (cutB r k).hi := by
  refine ⟨?_, ?_⟩
  · show r.lo ≤ r.lo + k; omega
  · show minI r.hi (r.lo + k + 1) ≤ r.hi
    unfold minI; split <;> omega
theorem cut_of {r : Rng} {k m : Int} (h0 : 0 ≤ k) (h1 : r.lo + k ≤ r.hi) (hr : r.of 0 m = true) : (cutA r k).of 0 m = true ∧ (cutB r k).of 0 m = true := by
  rw [Rng.of_iff] at hr
  constructor <;> rw [Rng.of_iff]
  · show 0 ≤ r.lo ∧ r.lo ≤ r.lo + k ∧ r.lo + k ≤ m
    omega
  · show 0 ≤ minI r.hi (r.lo + k + 1) ∧ minI r.hi (r.lo + k + 1) ≤ r.hi ∧ r.hi ≤ m
    unfold minI; split <;> omega
theorem partsX {s : Sto} {L : List Tru} {x y : Rng} {k : Int} (hL : L ≠ []) (h0 : 0 ≤ k) (h1 : x.lo + k ≤ x.hi) (hy : y.lo ≤ y.hi) : PartsOk (verdT s L x y) (verdT s L (cutA x k) y) (verdT s L (cutB x k) y) :=
  parts_law hL (fun q => by
    rw [mem_places, mem_places, mem_places]
    have := cut_mem h0 h1 q.1
    constructor
    · rintro ⟨a, b, c, d⟩
      rcases this.1 ⟨a, b⟩ with h | h
      · exact .inl ⟨h.1, h.2, c, d⟩
      · exact .inr ⟨h.1, h.2, c, d⟩
    · rintro (⟨a, b, c, d⟩ | ⟨a, b, c, d⟩)
      · have := this.2 (.inl ⟨a, b⟩); exact ⟨this.1, this.2, c, d⟩
      · have := this.2 (.inr ⟨a, b⟩); exact ⟨this.1, this.2, c, d⟩) (places_ne (cut_ne h0).1 hy) (places_ne (cut_ne h0).2 hy)
theorem partsY {s : Sto} {L : List Tru} {x y : Rng} {k : Int} (hL : L ≠ []) (h0 : 0 ≤ k) (h1 : y.lo + k ≤ y.hi) (hx : x.lo ≤ x.hi) : PartsOk (verdT s L x y) (verdT s L x (cutA y k)) (verdT s L x (cutB y k)) :=
  parts_law hL (fun q => by
    rw [mem_places, mem_places, mem_places]
    have := cut_mem h0 h1 q.2
    constructor
    · rintro ⟨a, b, c, d⟩
      rcases this.1 ⟨c, d⟩ with h | h
      · exact .inl ⟨a, b, h.1, h.2⟩
      · exact .inr ⟨a, b, h.1, h.2⟩
    · rintro (⟨a, b, c, d⟩ | ⟨a, b, c, d⟩)
      · have := this.2 (.inl ⟨c, d⟩); exact ⟨a, b, this.1, this.2⟩
      · have := this.2 (.inr ⟨c, d⟩); exact ⟨a, b, this.1, this.2⟩) (places_ne hx (cut_ne h0).1) (places_ne hx (cut_ne h0).2)
end Go.Proofs.Ytfnefkenheglhaa
