/- What Fewest asks in plain words; the examples. -/
import Derived.Test.YtlicijnaacdceaaProZD
import Derived.Test.YtlicijnaacdceaaProV
import Derived.Test.YtlicijnaacdceaaProZC
namespace Go.Proofs.Ytlicijnaacdceaa

theorem hitsV_seen {h h' X : List Int} : hitsV (seenL h X) = hitsV (seenL h' X) ↔ seenL h X = seenL h' X := by
  refine ⟨fun he => ?_, fun he => by rw [he]⟩
  have l1 : (seenL h X).length = 9 := by simp [seenL]
  have l2 : (seenL h' X).length = 9 := by simp [seenL]
  simp only [hitsV, Value.agg.injEq, Array.mk.injEq, List.cons.injEq, Value.int.injEq, true_and, and_true] at he
  refine List.ext_getElem (by omega) fun i h1 h2 => ?_
  have hi9 : i < 9 := by omega
  have : (seenL h X)[i]?.getD 0 = (seenL h' X)[i]?.getD 0 := by
    match i, hi9 with
    | 0, _ => exact he.1
    | 1, _ => exact he.2.1
    | 2, _ => exact he.2.2.1
    | 3, _ => exact he.2.2.2.1
    | 4, _ => exact he.2.2.2.2.1
    | 5, _ => exact he.2.2.2.2.2.1
    | 6, _ => exact he.2.2.2.2.2.2.1
    | 7, _ => exact he.2.2.2.2.2.2.2.1
    | 8, _ => exact he.2.2.2.2.2.2.2.2
  simpa [h1, h2] using this

theorem updM_self (M : Value → Option Bool) (k : Value) (a : Bool) : updM M k a k = some a := by unfold updM; rw [if_pos rfl]
theorem updM_other (M : Value → Option Bool) (k k' : Value) (a : Bool) (h : k' ≠ k) : updM M k a k' = M k' := by unfold updM; rw [if_neg h]

/-- What is asked, in plain words: truths that look alike are both above or both not. -/
theorem decG_iff (X : List Int) : ∀ (L : List (List Int × Bool)) (M : Value → Option Bool), decG X L M = true ↔ (∀ q ∈ L, ∀ v, M (hitsV (seenL q.1 X)) = some v → v = q.2) ∧ L.Pairwise fun p q => seenL p.1 X = seenL q.1 X → p.2 = q.2
  | [], _ => by simp [decG]
  | (h, a) :: r, M => by
    unfold decG
    rw [List.pairwise_cons]
    by_cases hc : ((M (hitsV (seenL h X))).isSome && ((M (hitsV (seenL h X))).getD false != a)) = true
    · rw [if_pos hc]
      refine ⟨fun h => (by cases h), fun ⟨h1, _⟩ => ?_⟩
      simp only [Bool.and_eq_true, bne_iff_ne, ne_eq] at hc
      obtain ⟨v, hv⟩ := Option.isSome_iff_exists.1 hc.1
      have := h1 (h, a) (by simp) v hv
      rw [hv] at hc
      exact absurd this hc.2
    · rw [if_neg hc, decG_iff X r]
      have h0 : ∀ v, M (hitsV (seenL h X)) = some v → v = a := by
        intro v hv
        simp only [hv, Option.isSome_some, Option.getD_some, Bool.true_and, bne_iff_ne, ne_eq, Classical.not_not] at hc
        exact hc
      constructor
      · rintro ⟨h1, h2⟩
        refine ⟨fun q hq v hv => ?_, ⟨fun q hq he => ?_, h2⟩⟩
        · rcases List.mem_cons.1 hq with rfl | hq
          · exact h0 v hv
          · by_cases e : hitsV (seenL q.1 X) = hitsV (seenL h X)
            · have h3 := h1 q hq a (by rw [e]; exact updM_self _ _ _)
              have h4 := h0 v (by rw [← e]; exact hv)
              rw [h4, h3]
            · exact h1 q hq v (by rw [updM_other _ _ _ _ e]; exact hv)
        · exact h1 q hq a (by rw [hitsV_seen.2 he.symm]; exact updM_self _ _ _)
      · rintro ⟨h1, h2, h3⟩
        refine ⟨fun q hq v hv => ?_, h3⟩
        by_cases e : hitsV (seenL q.1 X) = hitsV (seenL h X)
        · rw [e, updM_self] at hv
          cases hv
          exact h2 q hq (hitsV_seen.1 e).symm
        · rw [updM_other _ _ _ _ e] at hv
          exact h1 q (by simp [hq]) v hv

def decC (X : List Int) : List (List Int × Bool) → Bool
  | [] => true
  | (h, a) :: r => r.all (fun q => (!decide (seenL h X = seenL q.1 X)) || (a == q.2)) && decC X r
theorem decC_iff (X : List Int) : ∀ (L : List (List Int × Bool)), decC X L = true ↔ L.Pairwise fun p q => seenL p.1 X = seenL q.1 X → p.2 = q.2
  | [] => by simp [decC]
  | (h, a) :: r => by
    rw [decC, Bool.and_eq_true, decC_iff X r, List.pairwise_cons, List.all_eq_true]
    refine and_congr_left fun _ => forall_congr' fun q => forall_congr' fun _ => ?_
    simp only [Bool.or_eq_true, Bool.not_eq_true', decide_eq_false_iff_not, beq_iff_eq]
    exact ⟨fun h he => h.resolve_left (fun hn => hn he), fun h => Decidable.or_iff_not_imp_left.2 fun hn => h (Decidable.not_not.1 hn)⟩
theorem decG_C (X : List Int) (L : List (List Int × Bool)) : decG X L (fun _ => none) = decC X L := by
  rw [Bool.eq_iff_iff, decG_iff, decC_iff]
  exact ⟨fun h => h.2, fun h => ⟨fun _ _ _ hv => (by cases hv), h⟩⟩

/-- The counts of the examples. -/
def cs2 : List Cnt := [⟨0, 4, 4, false⟩, ⟨3, 0, 1, false⟩]
def cs3 : List Cnt := [⟨0, 4, 4, false⟩, ⟨3, 0, 1, false⟩, ⟨1, 1, 1, false⟩]
def st4 : List Int := [4, 4, 4, 4]
theorem ex_fault2 : faultL 1 4 st4 2 cs2 = 0 := by decide
theorem ex_fault3 : faultL 1 4 st4 2 cs3 = 0 := by decide
theorem ex_bnd : bndR (shareL st4) 1 4 st4 2 cs2 = (37, 75, 0) := by
  rw [bndR, if_pos ex_fault2]
  decide +kernel
theorem ex_draw : drawL 4 5 7 3 = [2, 3, 0] := by decide +kernel
theorem ex_share : shareV 1 4 st4 2 cs2 [4, 3, 2, 1] = 62 ∧ shareE 1 4 st4 2 cs2 [4, 3, 2, 1] = 0 := by decide +kernel
theorem ex_above : aboveR 40 1 4 st4 2 cs2 = (3, 0) := by decide +kernel
theorem ex_part : partE 1 4 st4 2 cs2 40 = 0 := by decide +kernel
theorem ex_some : genP (okP cs2 [] 4 2) st4 0 [] ≠ [] := by decide +kernel

/-- All increasing lists are among these. -/
theorem first_all {f : List Int → Bool} {b : Nat} {x : List Int} (hi : x ∈ combos b x.length 0) (hf : f x = true) (h : ((List.range (b + 1)).all fun m => (combos b m 0).all fun y => !f y || !shorterB y x) = true) : First f b x := by
  refine ⟨((mem_combos b _ 0 x).1 hi).2, hf, fun y hy hfy => ?_⟩
  have hl : y.length ≤ b := by
    by_cases e : y = []
    · simp [e]
    · have := incr_room b y 0 hy e; omega
  have h1 := List.all_eq_true.1 h y.length (by simp; omega)
  have h2 := List.all_eq_true.1 h1 y ((mem_combos b _ 0 y).2 ⟨rfl, hy⟩)
  simpa [hfy] using h2
def fewC (cc sm part : Int) (l : List Int) (cs : List Cnt) (X : List Int) : Bool := decC X ((genP (okP cs [] cc sm) l 0 []).zip ((genP (okP cs [] cc sm) l 0 []).map fun h => decide (part ≤ shareL l h)))
theorem ex_few : First (fewC 4 2 40 st4 cs2) 4 [2, 3] := first_all (by decide) (by decide +kernel) (by decide +kernel)
theorem ex_left : First (leftB 4 st4 2 cs3) 3 [0] := first_all (by decide) (by decide +kernel) (by decide +kernel)
end Go.Proofs.Ytlicijnaacdceaa
