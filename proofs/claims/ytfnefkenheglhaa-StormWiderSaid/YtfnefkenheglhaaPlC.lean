/- Plain: the smallest clash. No condition. -/
import Derived.Test.YtfnefkenheglhaaPlL
namespace Go.Proofs.Ytfnefkenheglhaa
open Go.RowKit

/-- The cards of a list together, by bits. -/
theorem clash_has {s : Sto} (ok : OkS s) {X : List Int} {M : Nat} (hM : ∀ i, i < s.cards.length → (M.testBit i = true ↔ (i : Int) ∈ X)) : clashF s X = !hasT s (M : Int) := by
  have h : togetherB s (fun i => hasB X i) = hasT s (M : Int) := by
    rw [Bool.eq_iff_iff, tog_iff ok, has_bits]
    constructor
    · rintro ⟨t, ht, h⟩
      exact ⟨t, ht, fun i c hi hb => h i c hi ((hasB_mem _ _).2 ((hM i (List.getElem?_eq_some_iff.1 hi).1).1 hb))⟩
    · rintro ⟨t, ht, h⟩
      exact ⟨t, ht, fun i c hi hb => h i c hi ((hM i (List.getElem?_eq_some_iff.1 hi).1).2 ((hasB_mem _ _).1 hb))⟩
  rw [clashF, h]
theorem shorter_nil {X : List Int} (h : shorterB [] X = false) : X = [] := by
  cases X with
  | nil => rfl
  | cons a l => simp [shorterB] at h
theorem clash_law {s : Sto} (ok : OkS s) {X : List Int} (hX : shortL (leaveF s) s.cards.length = some X) :
    (shortL (clashF s) s.cards.length = none ∧ X = []) ∨
    ∃ C, shortL (clashF s) s.cards.length = some C ∧ IncrG s.cards.length 0 C ∧ (setOf C C.length &&& setOf X X.length ≠ 0) ∧ hasT s ((setOf C C.length : Nat) : Int) = false ∧
      (∀ a : Nat, (a : Int) ∈ C → hasT s ((andN (setOf C C.length) (2 ^ a) : Nat) : Int) = true) ∧
      ∀ N : Nat, N < 2 ^ s.cards.length → hasT s (N : Int) = false → shorterB (bitsL (N : Int)) C = false := by
  have h6 := ok.n6
  have hFX := short_first hX
  have hbit : ∀ C : List Int, ∀ i, i < s.cards.length → ((setOf C C.length).testBit i = true ↔ (i : Int) ∈ C) := fun C i hi => by
    rw [setOf_bit]
    have : i < 12 := by omega
    simp [this]
  have hbl : ∀ N : Nat, N < 2 ^ s.cards.length → clashF s (bitsL (N : Int)) = !hasT s (N : Int) := fun N hN => clash_has ok fun i _ => (bitsL_mem hN (by omega) i).symm
  cases hC : shortL (clashF s) s.cards.length with
  | none =>
    refine .inl ⟨rfl, shorter_nil (hFX.2.2 [] trivial ?_)⟩
    have hlt : 2 ^ s.cards.length - 1 < 2 ^ s.cards.length := by have := Nat.two_pow_pos s.cards.length; omega
    have hno : clashF s (bitsL ((2 ^ s.cards.length - 1 : Nat) : Int)) = false := by
      cases hh : clashF s (bitsL ((2 ^ s.cards.length - 1 : Nat) : Int)) with
      | false => rfl
      | true =>
        obtain ⟨Y, hY⟩ := short_some (bitsL_incr hlt (by omega)) hh
        rw [hC] at hY; cases hY
    rw [hbl _ hlt] at hno
    have hh : hasT s ((2 ^ s.cards.length - 1 : Nat) : Int) = true := by simpa using hno
    rw [leave_has ok (M := 2 ^ s.cards.length - 1) (fun i hi => by rw [every_bit]; simp [hi])]
    exact hh
  | some C =>
    have hFC := short_first hC
    have hcl : hasT s ((setOf C C.length : Nat) : Int) = false := by
      have h1 := clash_has ok (hbit C)
      rw [hFC.2.1] at h1
      simpa using h1.symm
    refine .inr ⟨C, rfl, hFC.1, fun h0 => ?_, hcl, fun a ha => ?_, fun N hN hh => ?_⟩
    · have hlv := hFX.2.1
      rw [leaveF, tog_iff ok] at hlv
      obtain ⟨t, ht, h⟩ := hlv
      have hh : hasT s ((setOf C C.length : Nat) : Int) = true := by
        rw [has_bits]
        refine ⟨t, ht, fun i c hi hb => h i c hi (hasB_not.2 fun hx => ?_)⟩
        have hl := (List.getElem?_eq_some_iff.1 hi).1
        have h2 : (setOf C C.length &&& setOf X X.length).testBit i = true := by
          rw [Nat.testBit_and, hb, (hbit X i hl).2 hx]; rfl
        rw [h0, Nat.zero_testBit] at h2
        cases h2
      rw [hcl] at hh; cases hh
    · have hsh : shorterB (C.filter fun x => decide (x ≠ (a : Int))) C = true := by
        have : (C.filter fun x => decide (x ≠ (a : Int))).length < C.length := by
          refine List.length_filter_lt_length_iff_exists.2 ⟨(a : Int), ha, by simp⟩
        unfold shorterB
        rw [decide_eq_true this]; rfl
      cases hf : clashF s (C.filter fun x => decide (x ≠ (a : Int))) with
      | true => rw [hFC.2.2 _ (incr_filter _ hFC.1) hf] at hsh; cases hsh
      | false =>
        rw [clash_has ok (M := andN (setOf C C.length) (2 ^ a)) (fun i hi => ?_)] at hf
        · simpa using hf
        · rw [andN_bit, List.mem_filter, Nat.testBit_two_pow]
          have h12 : i < 12 := by omega
          have hb := hbit C i hi
          simp only [h12, decide_true, Bool.true_and, Bool.and_eq_true, hb, Bool.not_eq_true', decide_eq_false_iff_not, decide_eq_true_eq, ne_eq]
          constructor
          · rintro ⟨h1, h2⟩; exact ⟨h1, fun e => h2 (by omega)⟩
          · rintro ⟨h1, h2⟩; exact ⟨h1, fun e => h2 (by omega)⟩
    · refine hFC.2.2 _ (bitsL_incr hN (by omega)) ?_
      rw [hbl N hN, hh]; rfl
end Go.Proofs.Ytfnefkenheglhaa
