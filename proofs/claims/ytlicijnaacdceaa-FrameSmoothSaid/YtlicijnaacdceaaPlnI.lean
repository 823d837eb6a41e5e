/- A greater Smooth: plain facts. No condition. -/
import Derived.Test.YtlicijnaacdceaaPlnH
import Derived.Test.YtlicijnaacdceaaLawTrt
namespace Go.Proofs.Ytlicijnaacdceaa
open Go.RowKit

theorem inB_mono {a s t : Int} (h : s ≤ t) (ha : inB a (-s) s = true) : inB a (-t) t = true := by
  simp only [inB, Bool.and_eq_true, decide_eq_true_eq] at ha ⊢
  omega

theorem pairs_mono {cc s t : Int} (h : s ≤ t) {x : List Int} (hx : pairsG cc s x x.length 0 = true) : pairsG cc t x x.length 0 = true := by
  unfold pairsG at hx ⊢
  rw [allR_iff] at hx ⊢
  intro i h1 h2
  have h3 := hx i h1 h2
  unfold pairsI at h3 ⊢
  rw [allR_iff] at h3 ⊢
  intro j h4 h5
  have h6 := h3 j h4 h5
  unfold nearB at h6 ⊢
  rw [Bool.or_eq_true] at h6 ⊢
  exact h6.imp id (inB_mono h)

theorem truth_mono {cc s t : Int} (h : s ≤ t) {l x : List Int} {cs : List Cnt} (hx : isTruthB cc l s cs x 0 = true) : isTruthB cc l t cs x 0 = true := by
  unfold isTruthB at hx ⊢
  rw [Bool.and_eq_true, Bool.and_eq_true] at hx ⊢
  exact ⟨hx.1, pairs_mono h hx.2.1, hx.2.2⟩

theorem fault_sm {r cc : Int} {l : List Int} {s t : Int} {cs : List Cnt} (hf : faultL r cc l s cs = 0) (h0 : 0 ≤ t) (h9 : t ≤ 9) : faultL r cc l t cs = 0 := by
  obtain ⟨h1, h2, h3, h4, h5⟩ := fault0 hf
  unfold faultL
  rw [if_neg (by omega), if_neg (by rw [h2]; simp [inB, h0, h9]), if_neg (by rw [h4]; simp), if_neg (by omega)]

theorem smooth_sub {r cc : Int} {l : List Int} {s t : Int} {cs : List Cnt} (hf : faultL r cc l s cs = 0) (ht : faultL r cc l t cs = 0) (h : s ≤ t) {x : List Int} (hx : x ∈ genP (okP cs [] cc s) l 0 []) : x ∈ genP (okP cs [] cc t) l 0 [] :=
  (truth_gen ht x).2 (truth_mono h ((truth_gen hf x).1 hx))

/-- The bounds of a place by the counts alone. -/
def dueG (p : Nat) : List Cnt → Int → Int → Int × Int
  | [], a, b => (a, b)
  | c :: r, a, b => if (decide (c.place = (p : Int)) && !c.late) = true then dueG p r (if a < c.lo then c.lo else a) (if c.hi < b then c.hi else b) else dueG p r a b

theorem due_in {p : Nat} {v : Int} : ∀ (cs : List Cnt) (a b : Int), ((dueG p cs a b).1 ≤ v ∧ v ≤ (dueG p cs a b).2) ↔ (a ≤ v ∧ v ≤ b ∧ ∀ c ∈ cs, c.place = (p : Int) → c.late = false → c.lo ≤ v ∧ v ≤ c.hi)
  | [], a, b => by simp [dueG]
  | c :: r, a, b => by
    unfold dueG
    by_cases h : (decide (c.place = (p : Int)) && !c.late) = true
    · rw [if_pos h, due_in r]
      have h' : c.place = (p : Int) ∧ c.late = false := by simpa using h
      constructor
      · rintro ⟨h1, h2, h3⟩
        refine ⟨by split at h1 <;> omega, by split at h2 <;> omega, fun c' hc' hp hl => ?_⟩
        rcases List.mem_cons.1 hc' with rfl | hc'
        · constructor
          · split at h1 <;> omega
          · split at h2 <;> omega
        · exact h3 c' hc' hp hl
      · rintro ⟨h1, h2, h3⟩
        have h4 := h3 c (by simp) h'.1 h'.2
        exact ⟨by split <;> omega, by split <;> omega, fun c' hc' => h3 c' (by simp [hc'])⟩
    · rw [if_neg h, due_in r]
      constructor
      · rintro ⟨h1, h2, h3⟩
        refine ⟨h1, h2, fun c' hc' hp hl => ?_⟩
        rcases List.mem_cons.1 hc' with rfl | hc'
        · exact absurd (by simp [hp, hl]) h
        · exact h3 c' hc' hp hl
      · rintro ⟨h1, h2, h3⟩
        exact ⟨h1, h2, fun c' hc' => h3 c' (by simp [hc'])⟩

theorem pairs_nine {cc : Int} {x : List Int} (hx : ∀ i : Nat, 0 ≤ x[i]?.getD 0 ∧ x[i]?.getD 0 ≤ 9) : pairsG cc 9 x x.length 0 = true := by
  unfold pairsG
  rw [allR_iff]
  intro i _ _
  unfold pairsI
  rw [allR_iff]
  intro j _ _
  unfold nearB
  have h1 := hx i
  have h2 := hx j
  have : inB (x[i]?.getD 0 - x[j]?.getD 0) (-9) 9 = true := by simp only [inB, Bool.and_eq_true, decide_eq_true_eq]; omega
  rw [this, Bool.or_true]

theorem truth9 {cc : Int} {l x : List Int} {cs : List Cnt} (hs : ∀ y ∈ l, 0 ≤ y ∧ y ≤ 9) : isTruthB cc l 9 cs x 0 = true ↔ isListedB l x = true ∧ ∀ c ∈ cs, c.late = false → c.lo ≤ x[c.place.toNat]?.getD 0 ∧ x[c.place.toNat]?.getD 0 ≤ c.hi := by
  unfold isTruthB
  rw [Bool.and_eq_true, Bool.and_eq_true, cntsG_iff]
  have hb : ∀ j c, cntB x 0 (0 + j) c = true ↔ (c.late = false → c.lo ≤ x[c.place.toNat]?.getD 0 ∧ x[c.place.toNat]?.getD 0 ≤ c.hi) := by
    intro j c
    unfold cntB
    cases c.late <;> simp [inB]
  simp only [hb]
  constructor
  · rintro ⟨h1, _, h3⟩
    refine ⟨h1, fun c hc hl => ?_⟩
    obtain ⟨j, hj⟩ := List.mem_iff_getElem?.1 hc
    exact h3 j c hj hl
  · rintro ⟨h1, h3⟩
    exact ⟨h1, pairs_nine (listed_bd9 hs h1), fun j c hj hl => h3 c (List.mem_of_getElem? hj) hl⟩

/-- With the greatest Smooth the bounds of a place are those of its counts, and of its stems. -/
theorem due_span {r cc : Int} {l : List Int} {cs : List Cnt} {p : Nat} (hf : faultL r cc l 9 cs = 0) (hp : p < l.length) (hG : genP (okP cs [] cc 9) l 0 [] ≠ []) :
    Span (fun x => x[p]?.getD 0) (genP (okP cs [] cc 9) l 0 []) (dueG p cs 0 (l[p]?.getD 0)).1 (dueG p cs 0 (l[p]?.getD 0)).2 := by
  have hs := (field_facts (fault0 hf).2.1).2.2.2.2.2.2.2
  have hok := (oks_of hf).cnt
  have hin : ∀ x ∈ genP (okP cs [] cc 9) l 0 [], (dueG p cs 0 (l[p]?.getD 0)).1 ≤ x[p]?.getD 0 ∧ x[p]?.getD 0 ≤ (dueG p cs 0 (l[p]?.getD 0)).2 := by
    intro x hx
    obtain ⟨h1, h2⟩ := (truth9 hs).1 ((truth_gen hf x).1 hx)
    obtain ⟨h3, h4⟩ := listed_iff.1 h1
    rw [due_in]
    have h5 := h4 p (by omega)
    refine ⟨h5.1, h5.2, fun c hc hcp hl => ?_⟩
    have h6 := h2 c hc hl
    rw [hcp, Int.toNat_natCast] at h6
    exact h6
  obtain ⟨x, hx⟩ : ∃ x, x ∈ genP (okP cs [] cc 9) l 0 [] := by
    cases h : genP (okP cs [] cc 9) l 0 [] with
    | nil => exact absurd h hG
    | cons a b => exact ⟨a, by simp⟩
  have hset : ∀ v, (dueG p cs 0 (l[p]?.getD 0)).1 ≤ v → v ≤ (dueG p cs 0 (l[p]?.getD 0)).2 → ∃ z ∈ genP (okP cs [] cc 9) l 0 [], z[p]?.getD 0 = v := by
    intro v h1 h2
    obtain ⟨h3, h4, h5⟩ := (due_in cs 0 (l[p]?.getD 0)).1 ⟨h1, h2⟩
    obtain ⟨t1, t2⟩ := (truth9 hs).1 ((truth_gen hf x).1 hx)
    obtain ⟨t3, t4⟩ := listed_iff.1 t1
    have hget : ∀ i : Nat, (x.set p v)[i]?.getD 0 = if i = p then v else x[i]?.getD 0 := by
      intro i
      rw [List.getElem?_set]
      by_cases e : p = i
      · subst e; rw [if_pos rfl, if_pos (by omega), if_pos rfl]; rfl
      · rw [if_neg e, if_neg (fun h => e h.symm)]
    refine ⟨x.set p v, (truth_gen hf _).2 ((truth9 hs).2 ⟨listed_iff.2 ⟨by rw [List.length_set]; exact t3, fun i hi => ?_⟩, fun c hc hl => ?_⟩), by rw [hget, if_pos rfl]⟩
    · rw [hget]
      rw [List.length_set] at hi
      split
      · rename_i e; subst e; exact ⟨h3, h4⟩
      · exact t4 i hi
    · rw [hget]
      split
      · rename_i e
        have := hok c hc
        exact h5 c hc (by omega) hl
      · exact t2 c hc hl
  have hx2 := hin x hx
  exact ⟨hset _ (Int.le_refl _) (by omega), hset _ (by omega) (Int.le_refl _), hin⟩
end Go.Proofs.Ytlicijnaacdceaa
