/- Plain: the smallest set. No condition. -/
import Derived.Test.YtfnefkenheglhaaPlF
import Derived.Test.YtfnefkenheglhaaP19
namespace Go.Proofs.Ytfnefkenheglhaa
open Go.RowKit

/-- The bits of a that b lacks. -/
def andN (a b : Nat) : Nat := numOf (fun p => a.testBit p && !b.testBit p) 12
theorem andN_lt (a b : Nat) : andN a b < 4096 := numOf_lt _ 12
theorem andN_bit (a b p : Nat) : (andN a b).testBit p = (decide (p < 12) && (a.testBit p && !b.testBit p)) := numOf_bit _ _ _
theorem i64_andnot_nat (a b : Nat) (ha : a < 4096) : bits .andNot .i64 (a : Int) (b : Int) = ((andN a b : Nat) : Int) := by
  show IntKind.i64.wrap ((BitVec.ofInt 64 (a : Int) &&& ~~~BitVec.ofInt 64 (b : Int)).toNat : Int) = _
  have h : (BitVec.ofInt 64 (a : Int) &&& ~~~BitVec.ofInt 64 (b : Int)).toNat = andN a b := by
    refine Nat.eq_of_testBit_eq fun i => ?_
    rw [BitVec.testBit_toNat, BitVec.getLsbD_and, BitVec.getLsbD_not, BitVec.ofInt_natCast, BitVec.ofInt_natCast, BitVec.getLsbD_ofNat, BitVec.getLsbD_ofNat, andN_bit]
    by_cases hi : i < 12
    · have h64 : i < 64 := by omega
      simp [hi, h64]
    · have : a.testBit i = false := Nat.testBit_lt_two_pow (Nat.lt_of_lt_of_le ha (Nat.pow_le_pow_right (n := 2) (by decide) (show 12 ≤ i by omega)))
      simp [this]
  rw [h, IntWalk.i64_in _ (by have := andN_lt a b; omega)]
theorem some_all {l : List Crd} {M : Nat} {f : Crd → Bool} : (someL l (M : Int)).all f = true ↔ ∀ i c, l[i]? = some c → M.testBit i = true → f c = true := by
  rw [List.all_eq_true]
  unfold someL someTo
  constructor
  · intro h i c hi hb
    refine h c (List.mem_filterMap.2 ⟨i, List.mem_filter.2 ⟨List.mem_range.2 (List.getElem?_eq_some_iff.1 hi).1, ?_⟩, hi⟩)
    rw [bitB_testBit]; exact hb
  · intro h c hc
    obtain ⟨i, hi, hc⟩ := List.mem_filterMap.1 hc
    have := (List.mem_filter.1 hi).2
    rw [bitB_testBit] at this
    exact h i c hc this
theorem has_bits {s : Sto} {M : Nat} : hasT s (M : Int) = true ↔ ∃ t ∈ possL s, ∀ i c, s.cards[i]? = some c → M.testBit i = true → fitsB s t c = true := by
  rw [has_iff]
  constructor
  · rintro ⟨t, ht, h⟩; exact ⟨t, ht, some_all.1 h⟩
  · rintro ⟨t, ht, h⟩; exact ⟨t, ht, some_all.2 h⟩
theorem tog_iff {s : Sto} (ok : OkS s) {g : Nat → Bool} : togetherB s g = true ↔ ∃ t ∈ possL s, ∀ i c, s.cards[i]? = some c → g i = true → fitsB s t c = true := by
  unfold togetherB
  rw [List.any_eq_true]
  constructor
  · rintro ⟨t, ht, h⟩
    refine ⟨t, ht, fun i c hi hg => ?_⟩
    have hl := (List.getElem?_eq_some_iff.1 hi).1
    have := (all6_iff.1 h) i (by have := ok.n6; omega)
    simp only [rightF, hi, hg, Bool.not_true, Bool.or_false] at this
    exact this
  · rintro ⟨t, ht, h⟩
    refine ⟨t, ht, all6_iff.2 fun i _ => ?_⟩
    cases hi : s.cards[i]? with
    | none => simp [rightF, hi]
    | some c =>
      cases hg : g i
      · simp
      · simp [rightF, hi, h i c hi hg]
theorem hasB_not {l : List Int} {x : Int} : (!hasB l x) = true ↔ x ∉ l := by
  cases h : hasB l x
  · simp; intro hm; rw [(hasB_mem l x).2 hm] at h; cases h
  · simp; exact (hasB_mem l x).1 h
/-- Leaving out the cards of a list, or keeping the others: the same. -/
theorem leave_has {s : Sto} (ok : OkS s) {X : List Int} {M : Nat} (hM : ∀ i, i < s.cards.length → (M.testBit i = true ↔ (i : Int) ∉ X)) : leaveF s X = hasT s (M : Int) := by
  rw [Bool.eq_iff_iff, leaveF, tog_iff ok, has_bits]
  constructor
  · rintro ⟨t, ht, h⟩
    exact ⟨t, ht, fun i c hi hb => h i c hi (hasB_not.2 ((hM i (List.getElem?_eq_some_iff.1 hi).1).1 hb))⟩
  · rintro ⟨t, ht, h⟩
    exact ⟨t, ht, fun i c hi hb => h i c hi ((hM i (List.getElem?_eq_some_iff.1 hi).1).2 (hasB_not.1 hb))⟩
theorem short_first {f : List Int → Bool} {n : Nat} {X : List Int} (h : shortL f n = some X) : First f n X := by
  unfold shortL at h
  obtain ⟨l1, m, l2, he, hm, hno⟩ := List.findSome?_eq_some_iff.1 h
  have hmn : m = l1.length := by
    have h1 : (List.range (n + 1))[l1.length]? = some m := by rw [he]; simp
    rw [List.getElem?_range (by have := congrArg List.length he; simp at this; omega)] at h1
    exact (Option.some.inj h1).symm
  refine first_of (n := m) (fun j hj y hy => ?_) hm
  have hj2 : j ∈ l1 := by
    have h1 : (List.range (n + 1))[j]? = some j := List.getElem?_range (by have := congrArg List.length he; simp at this; omega)
    rw [he, List.getElem?_append_left (by omega)] at h1
    exact List.mem_of_getElem? h1
  have := List.find?_eq_none.1 (hno j hj2) y hy
  simpa using this
theorem short_some {f : List Int → Bool} {n : Nat} {X : List Int} (hX : IncrG n 0 X) (hf : f X = true) : ∃ Y, shortL f n = some Y := by
  cases h : shortL f n with
  | some Y => exact ⟨Y, rfl⟩
  | none =>
    unfold shortL at h
    rw [List.findSome?_eq_none_iff] at h
    have hl : X.length ≤ n := by
      by_cases h0 : X = []
      · rw [h0]; simp
      · have := incr_room n X 0 hX h0; omega
    have h1 := h X.length (List.mem_range.2 (by omega))
    have h2 := List.find?_eq_none.1 h1 X ((mem_combos n X.length 0 X).2 ⟨rfl, hX⟩)
    exact absurd hf h2
theorem bitsL_mem {M n : Nat} (hM : M < 2 ^ n) (hn : n ≤ 12) (i : Nat) : (i : Int) ∈ bitsL (M : Int) ↔ M.testBit i = true := by
  show (i : Int) ∈ bitsTo _ 12 ↔ _
  rw [mem_bitsTo]
  constructor
  · rintro ⟨p, hp, hb, e⟩
    have : p = i := by omega
    subst this
    rwa [bitB_testBit] at hb
  · intro hb
    refine ⟨i, ?_, by rw [bitB_testBit]; exact hb, rfl⟩
    refine Classical.byContradiction fun hi => ?_
    have := Nat.testBit_lt_two_pow (x := M) (i := i) (Nat.lt_of_lt_of_le hM (Nat.pow_le_pow_right (by decide) (by omega)))
    rw [this] at hb; cases hb
theorem every_bit (n i : Nat) : (2 ^ n - 1).testBit i = decide (i < n) := Nat.testBit_two_pow_sub_one _ _
theorem setOf_bit {X : List Int} (i : Nat) : (setOf X X.length).testBit i = (decide (i < 12) && decide ((i : Int) ∈ X)) := by
  unfold setOf
  rw [numOf_bit, List.take_length]
/-- The smallest set: without it there is a truth; nothing before it does. -/
theorem left_law {s : Sto} (ok : OkS s) : ∃ X, shortL (leaveF s) s.cards.length = some X ∧ IncrG s.cards.length 0 X ∧
    hasT s ((andN (2 ^ s.cards.length - 1) (setOf X X.length) : Nat) : Int) = true ∧
    ∀ N : Nat, N < 2 ^ s.cards.length → hasT s ((andN (2 ^ s.cards.length - 1) N : Nat) : Int) = true → shorterB (bitsL (N : Int)) X = false := by
  have h6 := ok.n6
  have hb2 : ∀ N : Nat, N < 2 ^ s.cards.length → leaveF s (bitsL (N : Int)) = hasT s ((andN (2 ^ s.cards.length - 1) N : Nat) : Int) := fun N hN =>
    leave_has ok fun i hi => by
      rw [andN_bit, every_bit, bitsL_mem hN (by omega) i]
      have : i < 12 := by omega
      simp [hi, this]
  have hall : leaveF s (bitsL ((2 ^ s.cards.length - 1 : Nat) : Int)) = true := by
    have hlt : 2 ^ s.cards.length - 1 < 2 ^ s.cards.length := by have := Nat.two_pow_pos s.cards.length; omega
    rw [hb2 _ hlt, has_bits]
    obtain ⟨t, ht⟩ := poss_ne ok
    refine ⟨t, ht, fun i c _ hb => ?_⟩
    rw [andN_bit] at hb
    simp at hb
  have hlt : 2 ^ s.cards.length - 1 < 2 ^ s.cards.length := by have := Nat.two_pow_pos s.cards.length; omega
  obtain ⟨X, hX⟩ := short_some (bitsL_incr hlt (by omega)) hall
  have hF := short_first hX
  refine ⟨X, hX, hF.1, ?_, fun N hN hh => ?_⟩
  · rw [← leave_has ok (X := X) fun i hi => ?_]
    · exact hF.2.1
    · rw [andN_bit, every_bit, setOf_bit]
      have : i < 12 := by omega
      simp [hi, this]
  · rw [← hb2 N hN] at hh
    exact hF.2.2 _ (bitsL_incr hN (by omega)) hh
end Go.Proofs.Ytfnefkenheglhaa
