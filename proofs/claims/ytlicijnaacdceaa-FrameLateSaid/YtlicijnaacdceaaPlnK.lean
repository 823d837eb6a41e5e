/- A late count: plain facts. No condition. -/
import Derived.Test.YtlicijnaacdceaaPlnH
import Derived.Test.YtlicijnaacdceaaLawTrt
namespace Go.Proofs.Ytlicijnaacdceaa
open Go.RowKit

theorem fault_cnts {r cc : Int} {l : List Int} {sm : Int} {cs cs' : List Cnt} (hf : faultL r cc l sm cs = 0) (hl : cs'.length ≤ cs.length) (h : ∀ c ∈ cs', ∃ c0 ∈ cs, c.place = c0.place ∧ c.lo = c0.lo ∧ c.hi = c0.hi) : faultL r cc l sm cs' = 0 := by
  obtain ⟨h1, h2, h3, h4, h5⟩ := fault0 hf
  have h6 : cs'.all (cntOkB l.length) = true := by
    rw [List.all_eq_true]
    intro c hc
    obtain ⟨c0, hc0, e1, e2, e3⟩ := h c hc
    have := List.all_eq_true.1 h4 c0 hc0
    unfold cntOkB at this ⊢
    rw [e1, e2, e3]; exact this
  unfold faultL
  rw [if_neg (by omega), if_neg (by rw [h2, h3]; simp), if_neg (by rw [h6]; simp), if_neg (by omega)]

theorem bnd_same {F : List Int → Int} {r cc : Int} {l : List Int} {sm : Int} {cs cs' : List Cnt} (hf : faultL r cc l sm cs = 0) (hf' : faultL r cc l sm cs' = 0) (h : ∀ x, x ∈ genP (okP cs [] cc sm) l 0 [] ↔ x ∈ genP (okP cs' [] cc sm) l 0 []) :
    bndR F r cc l sm cs = bndR F r cc l sm cs' := by
  by_cases hG : genP (okP cs [] cc sm) l 0 [] = []
  · have hG' : genP (okP cs' [] cc sm) l 0 [] = [] := by
      cases e : genP (okP cs' [] cc sm) l 0 [] with
      | nil => rfl
      | cons a b => have := (h a).2 (by rw [e]; simp); rw [hG] at this; cases this
    rw [bnd_none hf hG, bnd_none hf' hG']
  · have hG' : genP (okP cs' [] cc sm) l 0 [] ≠ [] := by
      intro e
      cases e' : genP (okP cs [] cc sm) l 0 [] with
      | nil => exact hG e'
      | cons a b => have := (h a).1 (by rw [e']; simp); rw [e] at this; cases this
    obtain ⟨lo, hi, h1, h2⟩ := bnd_span (F := F) hf hG
    obtain ⟨lo', hi', h1', h2'⟩ := bnd_span (F := F) hf' hG'
    have a1 := Span.sub (fun x hx => (h x).1 hx) h2 h2'
    have a2 := Span.sub (fun x hx => (h x).2 hx) h2' h2
    have e1 : lo = lo' := by omega
    have e2 : hi = hi' := by omega
    rw [h1, h1', e1, e2]

/-- The counts with one that is late, or not. -/
def lateAt (cs : List Cnt) (k : Nat) (b : Bool) : List Cnt := cs.mapIdx fun i c => if i = k then ⟨c.place, c.lo, c.hi, b⟩ else c

def goneAt (cs : List Cnt) (k : Nat) : List Cnt := cs.take k ++ cs.drop (k + 1)

theorem lateAt_get (cs : List Cnt) (k : Nat) (b : Bool) (j : Nat) : (lateAt cs k b)[j]? = (cs[j]?).map fun c => if j = k then ⟨c.place, c.lo, c.hi, b⟩ else c := by
  unfold lateAt
  rw [List.getElem?_mapIdx]

theorem goneAt_get (cs : List Cnt) (k : Nat) (hk : k < cs.length) (j : Nat) : (goneAt cs k)[j]? = if j < k then cs[j]? else cs[j + 1]? := by
  unfold goneAt
  rw [List.getElem?_append, List.length_take, Nat.min_eq_left (by omega)]
  by_cases h : j < k
  · rw [if_pos h, if_pos h, List.getElem?_take, if_pos h]
  · rw [if_neg h, if_neg h, List.getElem?_drop, show k + 1 + (j - k) = j + 1 by omega]

theorem late_gone {cc sm : Int} {l : List Int} {cs : List Cnt} {k : Nat} (hk : k < cs.length) (x : List Int) : x ∈ genP (okP (lateAt cs k true) [] cc sm) l 0 [] ↔ x ∈ genP (okP (goneAt cs k) [] cc sm) l 0 [] := by
  constructor
  · intro hx
    refine gen_sub (fun j c hj hl ho => ?_) hx
    rw [goneAt_get cs k hk] at hj
    by_cases h : j < k
    · rw [if_pos h] at hj
      exact ⟨j, c, by rw [lateAt_get, hj]; simp; omega, rfl, rfl, rfl, hl, ho⟩
    · rw [if_neg h] at hj
      exact ⟨j + 1, c, by rw [lateAt_get, hj]; simp; omega, rfl, rfl, rfl, hl, rfl⟩
  · intro hx
    refine gen_sub (fun j c hj hl ho => ?_) hx
    rw [lateAt_get, Option.map_eq_some_iff] at hj
    obtain ⟨c0, h0, h1⟩ := hj
    by_cases e : j = k
    · rw [if_pos e] at h1; subst h1; cases hl
    · rw [if_neg e] at h1; subst h1
      by_cases h : j < k
      · exact ⟨j, c0, by rw [goneAt_get cs k hk, if_pos h]; exact h0, rfl, rfl, rfl, hl, ho⟩
      · exact ⟨j - 1, c0, by rw [goneAt_get cs k hk, if_neg (by omega), show j - 1 + 1 = j by omega]; exact h0, rfl, rfl, rfl, hl, rfl⟩

theorem asked_late {cc sm : Int} {l : List Int} {cs : List Cnt} {k : Nat} {x : List Int} (hx : x ∈ genP (okP (lateAt cs k false) [] cc sm) l 0 []) : x ∈ genP (okP (lateAt cs k true) [] cc sm) l 0 [] := by
  refine gen_sub (fun j c hj hl ho => ?_) hx
  rw [lateAt_get, Option.map_eq_some_iff] at hj
  obtain ⟨c0, h0, h1⟩ := hj
  by_cases e : j = k
  · rw [if_pos e] at h1; subst h1; cases hl
  · rw [if_neg e] at h1; subst h1
    exact ⟨j, c0, by rw [lateAt_get, h0]; simp [e], rfl, rfl, rfl, hl, ho⟩

theorem fault_late {r cc : Int} {l : List Int} {sm : Int} {cs : List Cnt} (hf : faultL r cc l sm cs = 0) (k : Nat) (b : Bool) : faultL r cc l sm (lateAt cs k b) = 0 := by
  refine fault_cnts hf (by unfold lateAt; simp) fun c hc => ?_
  obtain ⟨j, hj⟩ := List.mem_iff_getElem?.1 hc
  rw [lateAt_get, Option.map_eq_some_iff] at hj
  obtain ⟨c0, h0, h1⟩ := hj
  refine ⟨c0, List.mem_of_getElem? h0, ?_⟩
  split at h1 <;> (subst h1; exact ⟨rfl, rfl, rfl⟩)

theorem fault_gone {r cc : Int} {l : List Int} {sm : Int} {cs : List Cnt} (hf : faultL r cc l sm cs = 0) {k : Nat} (hk : k < cs.length) : faultL r cc l sm (goneAt cs k) = 0 := by
  refine fault_cnts hf (by unfold goneAt; simp; omega) fun c hc => ?_
  obtain ⟨j, hj⟩ := List.mem_iff_getElem?.1 hc
  rw [goneAt_get cs k hk] at hj
  split at hj <;> exact ⟨c, List.mem_of_getElem? hj, rfl, rfl, rfl⟩
end Go.Proofs.Ytlicijnaacdceaa
