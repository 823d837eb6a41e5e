/- StormTruth: plain facts; the statements' helper Carded; words; verdicts of the reference. No condition but a storm without an error. -/
import Derived.Test.YtfnefkenheglhaaLawD
import Derived.Test.YtfnefkenheglhaaP17
import Derived.Test.YtfnefkenheglhaaP19
import Derived.Test.YtfnefkenheglhaaA11
import Derived.Test.YtfnefkenheglhaaA12
import Derived.Test.YtfnefkenheglhaaP11
import Derived.Test.YtfnefkenheglhaaP12
import Derived.Test.YtfnefkenheglhaaP15
import Derived.Test.YtfnefkenheglhaaLawC
import Derived.Test.YtfnefkenheglhaaP9
import Derived.Test.YtfnefkenheglhaaOpn2
import Derived.Test.YtfnefkenheglhaaA1
import Derived.Test.YtfnefkenheglhaaA7
import Derived.Test.YtfnefkenheglhaaP7
import Derived.Test.YtfnefkenheglhaaP8
namespace Go.Proofs.Ytfnefkenheglhaa
section
open Go.RowKit

theorem low_bit (k i : Nat) : bitB (((2 ^ k - 1 : Nat) : Int)) i = decide (i < k) := by
  rw [bitB_testBit, Nat.testBit_two_pow_sub_one]
theorem some_low {l : List Crd} {k : Nat} : ∀ {j : Nat}, j ≤ l.length → someTo l ((2 ^ k - 1 : Nat) : Int) j = l.take (min j k)
  | 0, _ => by simp [someTo]
  | j + 1, hj => by
    have hx : l[j]? = some l[j] := List.getElem?_eq_getElem hj
    rw [someTo_snoc hx, some_low (by omega), low_bit]
    by_cases h : j < k
    · rw [if_pos (by simpa using h), Nat.min_eq_left (by omega), Nat.min_eq_left (by omega), List.take_add_one, hx]
      rfl
    · rw [if_neg (by simpa using h), Nat.min_eq_right (by omega), Nat.min_eq_right (by omega), List.append_nil]
theorem someL_low {l : List Crd} {k : Nat} (hk : k ≤ l.length) : someL l ((2 ^ k - 1 : Nat) : Int) = l.take k := by
  rw [someL, some_low (Nat.le_refl _), Nat.min_eq_right hk]
theorem mem_truth {s : Sto} {t : Tru} : t ∈ truthL s ↔ t ∈ possL s ∧ s.cards.all (fitsB s t) = true := by
  unfold truthL
  rw [List.mem_filter]
theorem has_iff {s : Sto} {bits : Int} : hasT s bits = true ↔ ∃ t ∈ possL s, (someL s.cards bits).all (fitsB s t) = true := by
  unfold hasT
  rw [decide_eq_true_eq]
  constructor
  · intro h
    obtain ⟨t, ht⟩ := List.exists_mem_of_ne_nil _ h
    have := mem_truth.1 ht
    exact ⟨t, this.1, this.2⟩
  · rintro ⟨t, h1, h2⟩
    exact List.ne_nil_of_mem (mem_truth.2 ⟨h1, h2⟩ : t ∈ truthL (someS s bits))
theorem lead_take {α : Type} {f : α → Bool} : ∀ {l : List α} {k : Nat}, k ≤ l.length → ((l.take k).all f = true ↔ k ≤ (l.takeWhile f).length)
  | [], k, h => by simp at h; subst h; simp
  | a :: l, 0, _ => by simp
  | a :: l, k + 1, h => by
    rw [List.take_succ_cons, List.all_cons, Bool.and_eq_true, List.takeWhile_cons]
    cases ha : f a
    · simp
    · simp only [if_true, List.length_cons, true_and]
      rw [lead_take (by simpa using h)]
      omega
theorem leadM (s : Sto) : ∀ (l : List Tru) (m : Int), 0 ≤ m → (∀ t ∈ l, leadN s t ≤ l.foldl (leadStep s) m) ∧ m ≤ l.foldl (leadStep s) m ∧ (l.foldl (leadStep s) m = m ∨ ∃ t ∈ l, leadN s t = l.foldl (leadStep s) m)
  | [], m, _ => ⟨by simp, Int.le_refl _, .inl rfl⟩
  | a :: l, m, hm => by
    have hs : m ≤ leadStep s m a ∧ leadN s a ≤ leadStep s m a ∧ (leadStep s m a = m ∨ leadStep s m a = leadN s a) := by
      unfold leadStep
      split
      · exact ⟨by omega, Int.le_refl _, .inr rfl⟩
      · exact ⟨Int.le_refl _, by omega, .inl rfl⟩
    obtain ⟨h1, h2, h3⟩ := leadM s l (leadStep s m a) (by omega)
    rw [List.foldl_cons]
    refine ⟨fun t ht => ?_, by omega, ?_⟩
    · rcases List.mem_cons.1 ht with rfl | ht
      · omega
      · exact h1 t ht
    · rcases h3 with h3 | ⟨t, ht, h3⟩
      · rcases hs.2.2 with e | e
        · exact .inl (by rw [h3, e])
        · exact .inr ⟨a, by simp, by rw [h3, e]⟩
      · exact .inr ⟨t, List.mem_cons_of_mem _ ht, h3⟩
theorem poss_ne {s : Sto} (ok : OkS s) : ∃ t, t ∈ possL s := by
  have ha := Rng.of_iff.1 ok.a; have hb := Rng.of_iff.1 ok.b; have hh := Rng.of_iff.1 ok.half; have hp := Rng.of_iff.1 ok.peak
  refine ⟨⟨s.a.lo, s.b.lo, s.half.lo, s.peak.lo⟩, mem_poss.2 ?_⟩
  simp only [truB, inB, Bool.and_eq_true, decide_eq_true_eq]
  omega
/-- How far the first wrong card is. -/
theorem first_law {s : Sto} (ok : OkS s) : ∃ k : Nat, firstM s = k ∧ k ≤ s.cards.length ∧ hasT s ((2 ^ k - 1 : Nat) : Int) = true ∧ (k < s.cards.length → hasT s ((2 ^ (k + 1) - 1 : Nat) : Int) = false) := by
  obtain ⟨h1, h2, h3⟩ := leadM s (possL s) 0 (Int.le_refl 0)
  have hle := firstM_le s (possL s)
  obtain ⟨k, hk⟩ : ∃ k : Nat, firstM s = k := ⟨(firstM s).toNat, (Int.toNat_of_nonneg hle.1).symm⟩
  have hM : (possL s).foldl (leadStep s) 0 = k := hk
  rw [hM] at h1 h2 h3 hle
  refine ⟨k, hk, by omega, ?_, fun hlt => ?_⟩
  · rw [has_iff, someL_low (by omega)]
    rcases h3 with h3 | ⟨t, ht, h3⟩
    · obtain ⟨t, ht⟩ := poss_ne ok
      have : k = 0 := by omega
      subst this
      exact ⟨t, ht, by simp⟩
    · refine ⟨t, ht, (lead_take (by omega)).2 ?_⟩
      unfold leadN at h3
      omega
  · cases hh : hasT s ((2 ^ (k + 1) - 1 : Nat) : Int) with
    | false => rfl
    | true =>
      rw [has_iff, someL_low (by omega)] at hh
      obtain ⟨t, ht, hf⟩ := hh
      have h4 := (lead_take (by omega)).1 hf
      have h5 := h1 t ht
      unfold leadN at h5
      omega
end
section
open Go.RowKit

/-- The bits of a that b lacks. -/
def andN (a b : Nat) : Nat := numOf (fun p => a.testBit p && !b.testBit p) 12
theorem andN_lt (a b : Nat) : andN a b < 4096 := numOf_lt _ 12
theorem andN_bit (a b p : Nat) : (andN a b).testBit p = (decide (p < 12) && (a.testBit p && !b.testBit p)) := numOf_bit _ _ _
theorem i64_andnot_nat (a b : Nat) (ha : a < 4096) : bits .andNot .i64 (a : Int) (b : Int) = ((andN a b : Nat) : Int) := by
  show IntKind.i64.wrap ((BitVec.ofInt 64 (a : Int) &&& ~~~BitVec.ofInt 64 (b : Int)).toNat : Int) = _
  have h : (BitVec.ofInt 64 (a : Int) &&& ~~~BitVec.ofInt 64 (b : Int)).toNat = andN a b := by
    refine Nat.eq_of_testBit_eq fun i => ?_
    rw [BitVec.testBit_toNat, BitVec.getLsbD_and, BitVec.getLsbD_not, BitVec.ofInt_natCast, BitVec.ofInt_natCast, BitVec.getLsbD_ofNat, BitVec.getLsbD_ofNat, andN_bit]
    by_cases hi : i < 12
    · have h64 : i < 64 := by omega
      simp [hi, h64]
    · have : a.testBit i = false := Nat.testBit_lt_two_pow (Nat.lt_of_lt_of_le ha (Nat.pow_le_pow_right (n := 2) (by decide) (show 12 ≤ i by omega)))
      simp [this]
  rw [h, IntWalk.i64_in _ (by have := andN_lt a b; omega)]
theorem some_all {l : List Crd} {M : Nat} {f : Crd → Bool} : (someL l (M : Int)).all f = true ↔ ∀ i c, l[i]? = some c → M.testBit i = true → f c = true := by
  rw [List.all_eq_true]
  unfold someL someTo
  constructor
  · intro h i c hi hb
    refine h c (List.mem_filterMap.2 ⟨i, List.mem_filter.2 ⟨List.mem_range.2 (List.getElem?_eq_some_iff.1 hi).1, ?_⟩, hi⟩)
    rw [bitB_testBit]; exact hb
  · intro h c hc
    obtain ⟨i, hi, hc⟩ := List.mem_filterMap.1 hc
    have := (List.mem_filter.1 hi).2
    rw [bitB_testBit] at this
    exact h i c hc this
theorem has_bits {s : Sto} {M : Nat} : hasT s (M : Int) = true ↔ ∃ t ∈ possL s, ∀ i c, s.cards[i]? = some c → M.testBit i = true → fitsB s t c = true := by
  rw [has_iff]
  constructor
  · rintro ⟨t, ht, h⟩; exact ⟨t, ht, some_all.1 h⟩
  · rintro ⟨t, ht, h⟩; exact ⟨t, ht, some_all.2 h⟩
theorem tog_iff {s : Sto} (ok : OkS s) {g : Nat → Bool} : togetherB s g = true ↔ ∃ t ∈ possL s, ∀ i c, s.cards[i]? = some c → g i = true → fitsB s t c = true := by
  unfold togetherB
  rw [List.any_eq_true]
  constructor
  · rintro ⟨t, ht, h⟩
    refine ⟨t, ht, fun i c hi hg => ?_⟩
    have hl := (List.getElem?_eq_some_iff.1 hi).1
    have := (all6_iff.1 h) i (by have := ok.n6; omega)
    simp only [rightF, hi, hg, Bool.not_true, Bool.or_false] at this
    exact this
  · rintro ⟨t, ht, h⟩
    refine ⟨t, ht, all6_iff.2 fun i _ => ?_⟩
    cases hi : s.cards[i]? with
    | none => simp [rightF, hi]
    | some c =>
      cases hg : g i
      · simp
      · simp [rightF, hi, h i c hi hg]
theorem hasB_not {l : List Int} {x : Int} : (!hasB l x) = true ↔ x ∉ l := by
  cases h : hasB l x
  · simp; intro hm; rw [(hasB_mem l x).2 hm] at h; cases h
  · simp; exact (hasB_mem l x).1 h
/-- Leaving out the cards of a list, or keeping the others: the same. -/
theorem leave_has {s : Sto} (ok : OkS s) {X : List Int} {M : Nat} (hM : ∀ i, i < s.cards.length → (M.testBit i = true ↔ (i : Int) ∉ X)) : leaveF s X = hasT s (M : Int) := by
  rw [Bool.eq_iff_iff, leaveF, tog_iff ok, has_bits]
  constructor
  · rintro ⟨t, ht, h⟩
    exact ⟨t, ht, fun i c hi hb => h i c hi (hasB_not.2 ((hM i (List.getElem?_eq_some_iff.1 hi).1).1 hb))⟩
  · rintro ⟨t, ht, h⟩
    exact ⟨t, ht, fun i c hi hb => h i c hi ((hM i (List.getElem?_eq_some_iff.1 hi).1).2 (hasB_not.1 hb))⟩
theorem short_first {f : List Int → Bool} {n : Nat} {X : List Int} (h : shortL f n = some X) : First f n X := by
  unfold shortL at h
  obtain ⟨l1, m, l2, he, hm, hno⟩ := List.findSome?_eq_some_iff.1 h
  have hmn : m = l1.length := by
    have h1 : (List.range (n + 1))[l1.length]? = some m := by rw [he]; simp
    rw [List.getElem?_range (by have := congrArg List.length he; simp at this; omega)] at h1
    exact (Option.some.inj h1).symm
  refine first_of (n := m) (fun j hj y hy => ?_) hm
  have hj2 : j ∈ l1 := by
    have h1 : (List.range (n + 1))[j]? = some j := List.getElem?_range (by have := congrArg List.length he; simp at this; omega)
    rw [he, List.getElem?_append_left (by omega)] at h1
    exact List.mem_of_getElem? h1
  have := List.find?_eq_none.1 (hno j hj2) y hy
  simpa using this
theorem short_some {f : List Int → Bool} {n : Nat} {X : List Int} (hX : IncrG n 0 X) (hf : f X = true) : ∃ Y, shortL f n = some Y := by
  cases h : shortL f n with
  | some Y => exact ⟨Y, rfl⟩
  | none =>
    unfold shortL at h
    rw [List.findSome?_eq_none_iff] at h
    have hl : X.length ≤ n := by
      by_cases h0 : X = []
      · rw [h0]; simp
      · have := incr_room n X 0 hX h0; omega
    have h1 := h X.length (List.mem_range.2 (by omega))
    have h2 := List.find?_eq_none.1 h1 X ((mem_combos n X.length 0 X).2 ⟨rfl, hX⟩)
    exact absurd hf h2
theorem bitsL_mem {M n : Nat} (hM : M < 2 ^ n) (hn : n ≤ 12) (i : Nat) : (i : Int) ∈ bitsL (M : Int) ↔ M.testBit i = true := by
  show (i : Int) ∈ bitsTo _ 12 ↔ _
  rw [mem_bitsTo]
  constructor
  · rintro ⟨p, hp, hb, e⟩
    have : p = i := by omega
    subst this
    rwa [bitB_testBit] at hb
  · intro hb
    refine ⟨i, ?_, by rw [bitB_testBit]; exact hb, rfl⟩
    refine Classical.byContradiction fun hi => ?_
    have := Nat.testBit_lt_two_pow (x := M) (i := i) (Nat.lt_of_lt_of_le hM (Nat.pow_le_pow_right (by decide) (by omega)))
    rw [this] at hb; cases hb
theorem every_bit (n i : Nat) : (2 ^ n - 1).testBit i = decide (i < n) := Nat.testBit_two_pow_sub_one _ _
theorem setOf_bit {X : List Int} (i : Nat) : (setOf X X.length).testBit i = (decide (i < 12) && decide ((i : Int) ∈ X)) := by
  unfold setOf
  rw [numOf_bit, List.take_length]
/-- The smallest set: without it there is a truth; nothing before it does. -/
theorem left_law {s : Sto} (ok : OkS s) : ∃ X, shortL (leaveF s) s.cards.length = some X ∧ IncrG s.cards.length 0 X ∧
    hasT s ((andN (2 ^ s.cards.length - 1) (setOf X X.length) : Nat) : Int) = true ∧
    ∀ N : Nat, N < 2 ^ s.cards.length → hasT s ((andN (2 ^ s.cards.length - 1) N : Nat) : Int) = true → shorterB (bitsL (N : Int)) X = false := by
  have h6 := ok.n6
  have hb2 : ∀ N : Nat, N < 2 ^ s.cards.length → leaveF s (bitsL (N : Int)) = hasT s ((andN (2 ^ s.cards.length - 1) N : Nat) : Int) := fun N hN =>
    leave_has ok fun i hi => by
      rw [andN_bit, every_bit, bitsL_mem hN (by omega) i]
      have : i < 12 := by omega
      simp [hi, this]
  have hall : leaveF s (bitsL ((2 ^ s.cards.length - 1 : Nat) : Int)) = true := by
    have hlt : 2 ^ s.cards.length - 1 < 2 ^ s.cards.length := by have := Nat.two_pow_pos s.cards.length; omega
    rw [hb2 _ hlt, has_bits]
    obtain ⟨t, ht⟩ := poss_ne ok
    refine ⟨t, ht, fun i c _ hb => ?_⟩
    rw [andN_bit] at hb
    simp at hb
  have hlt : 2 ^ s.cards.length - 1 < 2 ^ s.cards.length := by have := Nat.two_pow_pos s.cards.length; omega
  obtain ⟨X, hX⟩ := short_some (bitsL_incr hlt (by omega)) hall
  have hF := short_first hX
  refine ⟨X, hX, hF.1, ?_, fun N hN hh => ?_⟩
  · rw [← leave_has ok (X := X) fun i hi => ?_]
    · exact hF.2.1
    · rw [andN_bit, every_bit, setOf_bit]
      have : i < 12 := by omega
      simp [hi, this]
  · rw [← hb2 N hN] at hh
    exact hF.2.2 _ (bitsL_incr hN (by omega)) hh
end
section
open Go.RowKit

/-- The cards of a list together, by bits. -/
theorem clash_has {s : Sto} (ok : OkS s) {X : List Int} {M : Nat} (hM : ∀ i, i < s.cards.length → (M.testBit i = true ↔ (i : Int) ∈ X)) : clashF s X = !hasT s (M : Int) := by
  have h : togetherB s (fun i => hasB X i) = hasT s (M : Int) := by
    rw [Bool.eq_iff_iff, tog_iff ok, has_bits]
    constructor
    · rintro ⟨t, ht, h⟩
      exact ⟨t, ht, fun i c hi hb => h i c hi ((hasB_mem _ _).2 ((hM i (List.getElem?_eq_some_iff.1 hi).1).1 hb))⟩
    · rintro ⟨t, ht, h⟩
      exact ⟨t, ht, fun i c hi hb => h i c hi ((hM i (List.getElem?_eq_some_iff.1 hi).1).2 ((hasB_mem _ _).1 hb))⟩
  rw [clashF, h]
theorem shorter_nil {X : List Int} (h : shorterB [] X = false) : X = [] := by
  cases X with
  | nil => rfl
  | cons a l => simp [shorterB] at h
theorem clash_law {s : Sto} (ok : OkS s) {X : List Int} (hX : shortL (leaveF s) s.cards.length = some X) :
    (shortL (clashF s) s.cards.length = none ∧ X = []) ∨
    ∃ C, shortL (clashF s) s.cards.length = some C ∧ IncrG s.cards.length 0 C ∧ (setOf C C.length &&& setOf X X.length ≠ 0) ∧ hasT s ((setOf C C.length : Nat) : Int) = false ∧
      (∀ a : Nat, (a : Int) ∈ C → hasT s ((andN (setOf C C.length) (2 ^ a) : Nat) : Int) = true) ∧
      ∀ N : Nat, N < 2 ^ s.cards.length → hasT s (N : Int) = false → shorterB (bitsL (N : Int)) C = false := by
  have h6 := ok.n6
  have hFX := short_first hX
  have hbit : ∀ C : List Int, ∀ i, i < s.cards.length → ((setOf C C.length).testBit i = true ↔ (i : Int) ∈ C) := fun C i hi => by
    rw [setOf_bit]
    have : i < 12 := by omega
    simp [this]
  have hbl : ∀ N : Nat, N < 2 ^ s.cards.length → clashF s (bitsL (N : Int)) = !hasT s (N : Int) := fun N hN => clash_has ok fun i _ => (bitsL_mem hN (by omega) i).symm
  cases hC : shortL (clashF s) s.cards.length with
  | none =>
    refine .inl ⟨rfl, shorter_nil (hFX.2.2 [] trivial ?_)⟩
    have hlt : 2 ^ s.cards.length - 1 < 2 ^ s.cards.length := by have := Nat.two_pow_pos s.cards.length; omega
    have hno : clashF s (bitsL ((2 ^ s.cards.length - 1 : Nat) : Int)) = false := by
      cases hh : clashF s (bitsL ((2 ^ s.cards.length - 1 : Nat) : Int)) with
      | false => rfl
      | true =>
        obtain ⟨Y, hY⟩ := short_some (bitsL_incr hlt (by omega)) hh
        rw [hC] at hY; cases hY
    rw [hbl _ hlt] at hno
    have hh : hasT s ((2 ^ s.cards.length - 1 : Nat) : Int) = true := by simpa using hno
    rw [leave_has ok (M := 2 ^ s.cards.length - 1) (fun i hi => by rw [every_bit]; simp [hi])]
    exact hh
  | some C =>
    have hFC := short_first hC
    have hcl : hasT s ((setOf C C.length : Nat) : Int) = false := by
      have h1 := clash_has ok (hbit C)
      rw [hFC.2.1] at h1
      simpa using h1.symm
    refine .inr ⟨C, rfl, hFC.1, fun h0 => ?_, hcl, fun a ha => ?_, fun N hN hh => ?_⟩
    · have hlv := hFX.2.1
      rw [leaveF, tog_iff ok] at hlv
      obtain ⟨t, ht, h⟩ := hlv
      have hh : hasT s ((setOf C C.length : Nat) : Int) = true := by
        rw [has_bits]
        refine ⟨t, ht, fun i c hi hb => h i c hi (hasB_not.2 fun hx => ?_)⟩
        have hl := (List.getElem?_eq_some_iff.1 hi).1
        have h2 : (setOf C C.length &&& setOf X X.length).testBit i = true := by
          rw [Nat.testBit_and, hb, (hbit X i hl).2 hx]; rfl
        rw [h0, Nat.zero_testBit] at h2
        cases h2
      rw [hcl] at hh; cases hh
    · have hsh : shorterB (C.filter fun x => decide (x ≠ (a : Int))) C = true := by
        have : (C.filter fun x => decide (x ≠ (a : Int))).length < C.length := by
          refine List.length_filter_lt_length_iff_exists.2 ⟨(a : Int), ha, by simp⟩
        unfold shorterB
        rw [decide_eq_true this]; rfl
      cases hf : clashF s (C.filter fun x => decide (x ≠ (a : Int))) with
      | true => rw [hFC.2.2 _ (incr_filter _ hFC.1) hf] at hsh; cases hsh
      | false =>
        rw [clash_has ok (M := andN (setOf C C.length) (2 ^ a)) (fun i hi => ?_)] at hf
        · simpa using hf
        · rw [andN_bit, List.mem_filter, Nat.testBit_two_pow]
          have h12 : i < 12 := by omega
          have hb := hbit C i hi
          simp only [h12, decide_true, Bool.true_and, Bool.and_eq_true, hb, Bool.not_eq_true', decide_eq_false_iff_not, decide_eq_true_eq, ne_eq]
          constructor
          · rintro ⟨h1, h2⟩; exact ⟨h1, fun e => h2 (by omega)⟩
          · rintro ⟨h1, h2⟩; exact ⟨h1, fun e => h2 (by omega)⟩
    · refine hFC.2.2 _ (bitsL_incr hN (by omega)) ?_
      rw [hbl N hN, hh]; rfl
end
section
open Go.RowKit

theorem and_self_iff {a M : Nat} : a &&& M = M ↔ ∀ i, M.testBit i = true → a.testBit i = true := by
  constructor
  · intro h i hi
    rw [← h, Nat.testBit_and, Bool.and_eq_true] at hi
    exact hi.1
  · intro h
    refine Nat.eq_of_testBit_eq fun i => ?_
    rw [Nat.testBit_and]
    cases hi : M.testBit i
    · simp
    · simp [h i hi]

/-- Whether some cards are right together is what the storm with these cards says. -/
theorem can_has {s : Sto} (ok : OkS s) {M : Nat} (hM : M < 2 ^ s.cards.length) : canN (allR' s) M = hasT s (M : Int) := by
  rw [Bool.eq_iff_iff, has_bits]
  unfold canN
  rw [List.any_eq_true]
  constructor
  · rintro ⟨a, ha, h⟩
    rw [decide_eq_true_eq, and_self_iff] at h
    obtain ⟨m, hm, rfl⟩ := List.mem_map.1 ha
    refine ⟨nthS s m, ((all_perm ok.pos).mem_iff).1 (List.mem_map.2 ⟨m, hm, rfl⟩), fun i c hc hi => ?_⟩
    have hb := h i hi
    rw [rightN, numOf_bit, Bool.and_eq_true, fitN, hc] at hb
    exact hb.2
  · rintro ⟨t, ht, h⟩
    obtain ⟨m, hm, rfl⟩ := List.mem_map.1 (((all_perm ok.pos).mem_iff).2 ht)
    refine ⟨rightN s (nthS s m), List.mem_map.2 ⟨m, hm, rfl⟩, ?_⟩
    rw [decide_eq_true_eq, and_self_iff]
    intro i hi
    have hin : i < s.cards.length := by
      refine Nat.lt_of_not_le fun hge => ?_
      rw [Nat.testBit_lt_two_pow (Nat.lt_of_lt_of_le hM (Nat.pow_le_pow_right (by decide) hge))] at hi
      cases hi
    have hc : s.cards[i]? = some s.cards[i] := List.getElem?_eq_getElem hin
    rw [rightN, numOf_bit, Bool.and_eq_true, fitN, hc]
    exact ⟨by simpa using hin, h i _ hc hi⟩

theorem has_le {s : Sto} {M N : Nat} (h : ∀ i, M.testBit i = true → N.testBit i = true) (hN : hasT s (N : Int) = true) : hasT s (M : Int) = true := by
  rw [has_bits] at hN ⊢
  obtain ⟨t, ht, hf⟩ := hN
  exact ⟨t, ht, fun i c hc hi => hf i c hc (h i hi)⟩
theorem has_zero {s : Sto} (ok : OkS s) : hasT s ((0 : Nat) : Int) = true := by
  rw [has_bits]
  obtain ⟨t, ht⟩ := poss_ne ok
  exact ⟨t, ht, fun i c _ hi => by simp at hi⟩

/-- The first number from k on, of m ones, at which f is false. -/
def firstG (f : Nat → Bool) : Nat → Nat → Int
  | _, 0 => -1
  | k, m + 1 => if f k = true then firstG f (k + 1) m else (k : Int)
theorem firstG_go (f : Nat → Bool) (k n : Nat) (h : k < n) : firstG f k (n - k) = if f k = true then firstG f (k + 1) (n - (k + 1)) else (k : Int) := by
  obtain ⟨m, hm⟩ : ∃ m, n - k = m + 1 := ⟨n - k - 1, by omega⟩
  rw [hm, show n - (k + 1) = m by omega]; rfl
theorem firstG_end (f : Nat → Bool) (k n : Nat) (h : ¬ k < n) : firstG f k (n - k) = -1 := by
  rw [show n - k = 0 by omega]; rfl
theorem firstG_eq (f : Nat → Bool) (n j : Nat) (hj : j ≤ n) (h1 : ∀ i, i < j → f i = true) (h2 : j < n → f j = false) : ∀ (m k : Nat), k + m = n → k ≤ j → firstG f k m = if j = n then -1 else (j : Int)
  | 0, k, hk, hkj => by
    have : j = n := by omega
    rw [if_pos this]; rfl
  | m + 1, k, hk, hkj => by
    unfold firstG
    by_cases e : k = j
    · subst e
      rw [h2 (by omega), if_neg (by simp), if_neg (by omega)]
    · rw [h1 k (by omega), if_pos rfl]
      exact firstG_eq f n j hj h1 h2 m (k + 1) (by omega) (by omega)

def firstR (s : Sto) : Int := firstG (fun j => canN (allR' s) (2 ^ (j + 1) - 1)) 0 s.cards.length
theorem firstR_law {s : Sto} (ok : OkS s) : firstR s = if firstM s = (s.cards.length : Int) then -1 else firstM s := by
  obtain ⟨k, hk, hle, h1, h2⟩ := first_law ok
  have hp : ∀ j, j < s.cards.length → 2 ^ (j + 1) - 1 < 2 ^ s.cards.length := fun j hj => by
    have a := Nat.pow_le_pow_right (n := 2) (by decide) (show j + 1 ≤ s.cards.length by omega)
    have b := Nat.two_pow_pos (j + 1)
    omega
  unfold firstR
  rw [firstG_eq _ s.cards.length k hle (fun i hi => ?_) (fun hlt => ?_) s.cards.length 0 (by omega) (by omega), hk]
  · by_cases e : k = s.cards.length
    · rw [if_pos e, if_pos (by omega)]
    · rw [if_neg e, if_neg (by omega)]
  · rw [can_has ok (hp i (by omega))]
    refine has_le (fun p hq => ?_) h1
    rw [every_bit, decide_eq_true_eq] at hq ⊢
    omega
  · rw [can_has ok (hp k hlt)]
    exact h2 hlt

/-- The reference's smallest set. -/
def leaveR (s : Sto) : List Int := bestL (fun b => canN (allR' s) (andN (2 ^ s.cards.length - 1) b)) s.cards.length
theorem andEvery_lt (n b : Nat) : andN (2 ^ n - 1) b < 2 ^ n := by
  refine Nat.lt_of_le_of_lt ?_ (show 2 ^ n - 1 < 2 ^ n by have := Nat.two_pow_pos n; omega)
  have e : andN (2 ^ n - 1) b &&& (2 ^ n - 1) = andN (2 ^ n - 1) b := by
    refine Nat.eq_of_testBit_eq fun i => ?_
    rw [Nat.testBit_and, andN_bit, every_bit]
    cases decide (i < 12) <;> cases decide (i < n) <;> simp
  rw [← e]; exact Nat.and_le_right
theorem leaveR_law {s : Sto} (ok : OkS s) : shortL (leaveF s) s.cards.length = some (leaveR s) := by
  obtain ⟨X, hX, _⟩ := left_law ok
  have hn := ok.n6
  have h1 := short_first hX
  have h2 : First (leaveF s) s.cards.length (leaveR s) := by
    refine bestL_first (by omega) (fun k hk => ?_) ?_
    · rw [can_has ok (andEvery_lt _ _)]
      refine (leave_has ok fun i hi => ?_).symm
      rw [andN_bit, every_bit, bitsL_mem hk (by omega)]
      have a : i < 12 := by omega
      simp [a, hi]
    · rw [can_has ok (andEvery_lt _ _)]
      refine has_le (fun i hi => ?_) (has_zero ok)
      rw [andN_bit] at hi
      simp at hi
  rw [hX, h1.unique h2]

/-- The reference's smallest clash: what is found, from k on, of m numbers. -/
def clashG (f : Nat → Bool) : Nat → Nat → Option (List Int) → Option (List Int)
  | _, 0, b => b
  | k, m + 1, b => clashG f (k + 1) m (if ((b.isNone || shorterB (bitsL k) (b.getD [])) && !f k) = true then some (bitsL k) else b)
theorem clashG_go (f : Nat → Bool) (k n : Nat) (b : Option (List Int)) (h : k < n) : clashG f k (n - k) b = clashG f (k + 1) (n - (k + 1)) (if ((b.isNone || shorterB (bitsL k) (b.getD [])) && !f k) = true then some (bitsL k) else b) := by
  obtain ⟨m, hm⟩ : ∃ m, n - k = m + 1 := ⟨n - k - 1, by omega⟩
  rw [hm, show n - (k + 1) = m by omega]; rfl
theorem clashG_end (f : Nat → Bool) (k n : Nat) (b : Option (List Int)) (h : ¬ k < n) : clashG f k (n - k) b = b := by
  rw [show n - k = 0 by omega]; rfl
theorem clashG_spec (f : Nat → Bool) : ∀ (m k : Nat) (b : Option (List Int)),
    (clashG f k m b = b ∨ ∃ i, k ≤ i ∧ i < k + m ∧ f i = false ∧ clashG f k m b = some (bitsL (i : Nat))) ∧
      (∀ i, k ≤ i → i < k + m → f i = false → ∃ x, clashG f k m b = some x ∧ shorterB (bitsL (i : Nat)) x = false) ∧
      (∀ y, b = some y → ∃ x, clashG f k m b = some x ∧ (x = y ∨ shorterB x y = true))
  | 0, k, b => ⟨.inl rfl, fun i h1 h2 => by omega, fun y hy => ⟨y, hy, .inl rfl⟩⟩
  | m + 1, k, b => by
    unfold clashG
    by_cases hc : ((b.isNone || shorterB (bitsL k) (b.getD [])) && !f k) = true
    · rw [if_pos hc]
      simp only [Bool.and_eq_true, Bool.or_eq_true, Bool.not_eq_true'] at hc
      obtain ⟨hb, hf⟩ := hc
      obtain ⟨h1, h2, h3⟩ := clashG_spec f m (k + 1) (some (bitsL (k : Nat)))
      obtain ⟨x, hx, hxk⟩ := h3 _ rfl
      refine ⟨.inr ?_, fun i hi1 hi2 hfi => ?_, fun y hy => ?_⟩
      · rcases h1 with h1 | ⟨i, a1, a2, a3, a4⟩
        · exact ⟨k, by omega, by omega, hf, h1⟩
        · exact ⟨i, by omega, by omega, a3, a4⟩
      · by_cases e : i = k
        · subst e
          refine ⟨x, hx, ?_⟩
          rcases hxk with rfl | hxk
          · exact shorter_irr _
          · exact shorter_asym hxk
        · exact h2 i (by omega) (by omega) hfi
      · refine ⟨x, hx, .inr ?_⟩
        subst hy
        simp only [Option.isNone_some, Bool.false_eq_true, false_or, Option.getD_some] at hb
        rcases hxk with rfl | hxk
        · exact hb
        · exact shorter_trans_not hxk hb
    · rw [if_neg hc]
      obtain ⟨h1, h2, h3⟩ := clashG_spec f m (k + 1) b
      refine ⟨?_, fun i hi1 hi2 hfi => ?_, h3⟩
      · rcases h1 with h1 | ⟨i, a1, a2, a3, a4⟩
        · exact .inl h1
        · exact .inr ⟨i, by omega, by omega, a3, a4⟩
      · by_cases e : i = k
        · subst e
          cases b with
          | none => simp [hfi] at hc
          | some y =>
            simp only [Option.isNone_some, Bool.false_or, Option.getD_some, hfi, Bool.not_false, Bool.and_true, Bool.not_eq_true] at hc
            obtain ⟨x, hx, hxy⟩ := h3 y rfl
            refine ⟨x, hx, ?_⟩
            rcases hxy with rfl | hxy
            · exact hc
            · cases hh : shorterB (bitsL (i : Nat)) x with
              | false => rfl
              | true => rw [shorter_trans_not hh hxy] at hc; cases hc
        · exact h2 i (by omega) (by omega) hfi

def clashR (s : Sto) : Option (List Int) := clashG (fun b => canN (allR' s) b) 1 (2 ^ s.cards.length - 1) none
theorem clashR_law {s : Sto} (ok : OkS s) : shortL (clashF s) s.cards.length = clashR s := by
  have hn := ok.n6
  have hpos := Nat.two_pow_pos s.cards.length
  have hcf : ∀ k, k < 2 ^ s.cards.length → clashF s (bitsL (k : Nat)) = !canN (allR' s) k := fun k hk => by
    rw [can_has ok hk]
    exact clash_has ok fun i _ => (bitsL_mem hk (by omega) i).symm
  obtain ⟨h1, h2, _⟩ := clashG_spec (fun b => canN (allR' s) b) (2 ^ s.cards.length - 1) 1 none
  have h2' : ∀ y, IncrG s.cards.length 0 y → clashF s y = true → ∃ x, clashR s = some x ∧ shorterB y x = false := fun y hy hcy => by
    obtain ⟨k, hk, rfl⟩ := bitsL_onto (by omega) hy
    rw [hcf k hk] at hcy
    have hk0 : k ≠ 0 := by
      rintro rfl
      rw [can_has ok hk, has_zero ok] at hcy
      cases hcy
    refine h2 k (by omega) (by omega) ?_
    simpa using hcy
  cases hR : clashR s with
  | none =>
    cases hS : shortL (clashF s) s.cards.length with
    | none => rfl
    | some X =>
      have hX := short_first hS
      obtain ⟨x, hx, _⟩ := h2' X hX.1 hX.2.1
      rw [hR] at hx; cases hx
  | some x =>
    have hx : First (clashF s) s.cards.length x := by
      rcases h1 with h1 | ⟨i, a1, a2, a3, a4⟩
      · have e : clashR s = none := h1
        rw [hR] at e; cases e
      · have e : clashR s = some (bitsL (i : Nat)) := a4
        rw [hR] at e
        cases e
        refine ⟨bitsL_incr (by omega) (by omega), ?_, fun y hy hcy => ?_⟩
        · rw [hcf i (by omega)]; simpa using a3
        · obtain ⟨z, hz, hyz⟩ := h2' y hy hcy
          rw [hR] at hz; cases hz
          exact hyz
    obtain ⟨Y, hY⟩ := short_some hx.1 hx.2.1
    rw [hY, (short_first hY).unique hx]

theorem clash_none {s : Sto} (ok : OkS s) : clashR s = none ↔ firstM s = s.cards.length := by
  obtain ⟨k, hk, hle, h1, h2⟩ := first_law ok
  obtain ⟨c1, c2, _⟩ := clashG_spec (fun b => canN (allR' s) b) (2 ^ s.cards.length - 1) 1 none
  have hp := Nat.two_pow_pos s.cards.length
  constructor
  · intro h
    by_cases e : k = s.cards.length
    · omega
    · have hlt : k < s.cards.length := by omega
      have a := Nat.pow_le_pow_right (n := 2) (by decide) (show k + 1 ≤ s.cards.length by omega)
      have b : 2 ≤ 2 ^ (k + 1) := Nat.pow_le_pow_right (n := 2) (by decide) (show 1 ≤ k + 1 by omega)
      obtain ⟨x, hx, _⟩ := c2 (2 ^ (k + 1) - 1) (by omega) (by omega) (by rw [can_has ok (by omega)]; exact h2 hlt)
      have h' : clashG (fun b => canN (allR' s) b) 1 (2 ^ s.cards.length - 1) none = none := h
      rw [h'] at hx; cases hx
  · intro h
    have e : k = s.cards.length := by omega
    subst e
    rcases c1 with c1 | ⟨i, a1, a2, a3, _⟩
    · exact c1
    · skip
      rw [can_has ok (by omega)] at a3
      have : hasT s (i : Int) = true := has_le (fun p hp => by
        rw [every_bit, decide_eq_true_eq]
        refine Nat.lt_of_not_le fun hge => ?_
        rw [Nat.testBit_lt_two_pow (Nat.lt_of_lt_of_le (show i < 2 ^ s.cards.length by omega) (Nat.pow_le_pow_right (by decide) hge))] at hp
        cases hp) h1
      rw [this] at a3; cases a3
theorem bestG_len (f : Nat → Bool) : ∀ (m k : Nat) (b : List Int), b.length ≤ 12 → (bestG f k m b).length ≤ 12
  | 0, _, _, h => h
  | m + 1, k, b, h => by
    unfold bestG
    refine bestG_len f m _ _ ?_
    split
    · exact bitsTo_len _ _
    · exact h
theorem bestL_len (f : Nat → Bool) (n : Nat) : (bestL f n).length ≤ 12 := bestG_len f _ _ _ (bitsTo_len _ _)
theorem clashR_len {s : Sto} (_ok : OkS s) {C : List Int} (h : clashR s = some C) : C.length ≤ 1000 := by
  obtain ⟨c1, _, _⟩ := clashG_spec (fun b => canN (allR' s) b) (2 ^ s.cards.length - 1) 1 none
  have h' : clashG (fun b => canN (allR' s) b) 1 (2 ^ s.cards.length - 1) none = some C := h
  rw [h'] at c1
  rcases c1 with c1 | ⟨i, _, _, _, c1⟩
  · cases c1
  · cases c1; exact Nat.le_trans (bitsTo_len _ _) (by decide)

end
section
open Go.RowKit

theorem widerR_comm (r : Rng) (a b : Int) : widerR (widerR r a) b = widerR (widerR r b) a := by
  simp only [widerR, minI, Rng.mk.injEq]
  constructor
  · split <;> split <;> (try split) <;> (try split) <;> omega
  · split <;> split <;> (try split) <;> (try split) <;> omega

theorem wide_perm {f : Tru → Int} {L M : List Tru} (h : L.Perm M) (r : Rng) : wideT f r L = wideT f r M :=
  h.foldl_eq' (fun x _ y _ z => widerR_comm z (f x) (f y)) r

theorem wide_empty {n : Int} (h0 : -1000000 ≤ n) (h1 : n ≤ 1000000) : widerR emptyR n = ⟨n, n⟩ := by
  have a : n < 1099511627776 := by omega
  have b : -1099511627776 < n := by omega
  simp [widerR, minI, emptyR, a, b]
theorem wide_self (n : Int) : widerR ⟨n, n⟩ n = ⟨n, n⟩ := by simp [widerR, minI]

theorem wide_first {f : Tru → Int} {L : List Tru} (hL : L ≠ []) (hf : ∀ t ∈ L, -1000000 ≤ f t ∧ f t ≤ 1000000) : wideT f emptyR L = boundR f L := by
  cases L with
  | nil => exact absurd rfl hL
  | cons t l =>
    have h := hf t (by simp)
    show l.foldl _ (widerR emptyR (f t)) = l.foldl _ (widerR ⟨f t, f t⟩ (f t))
    rw [wide_empty h.1 h.2, wide_self]

/-- What the reference finds is what the program finds. -/
theorem wide_law {s : Sto} (ok : OkS s) {f : Tru → Int} (hL : truthL s ≠ []) (hf : ∀ t ∈ truthL s, -1000000 ≤ f t ∧ f t ≤ 1000000) : wideT f emptyR (truR s) = boundR f (truthL s) := by
  rw [wide_perm (truR_perm ok.pos), wide_first hL hf]

theorem size_bound {s : Sto} {t : Tru} {x y : Int} (hf : 0 ≤ s.fall) (hw : 2 ≤ s.wide) (hp : 1 ≤ t.peak) : 0 ≤ sizeS s t x y ∧ sizeS s t x y ≤ t.peak := by
  have hd : 0 ≤ distS s t x y := by unfold distS; split <;> omega
  have h := Int.mul_nonneg hf (Int.ediv_nonneg hd (show 0 ≤ s.wide - 1 by omega))
  unfold sizeS
  split
  · split <;> omega
  · omega

theorem truth_in {s : Sto} {t : Tru} (h : t ∈ truthL s) : truB s t = true := mem_poss.1 (List.mem_filter.1 h).1

theorem sizes_law {s : Sto} (ok : OkS s) (x y : Int) (hL : truthL s ≠ []) : sizesR s x y (truR s) = spanT s x y ⟨firstT s x y (truthL s), firstT s x y (truthL s)⟩ (truthL s) := by
  have h := wide_law ok (f := fun t => sizeS s t x y) hL (fun t ht => by
    have ht := truth_in ht
    simp only [truB, inB, Bool.and_eq_true, decide_eq_true_eq] at ht
    have hp := Rng.of_iff.1 ok.peak
    have := size_bound (s := s) (t := t) (x := x) (y := y) ok.f0 ok.w2 (by omega)
    omega)
  show wideT (fun t => sizeS s t x y) emptyR (truR s) = _
  rw [h]
  cases hl : truthL s with
  | nil => exact absurd hl hL
  | cons t l => rfl

theorem hitN_perm {s : Sto} {L M : List Tru} (h : L.Perm M) (x y : Int) : hitN s L x y = hitN s M x y := by
  unfold hitN; rw [(h.filter _).length_eq]
theorem worst_perm {s : Sto} {L M : List Tru} (h : L.Perm M) (x y : Int) : worstT s L x y = worstT s M x y := by
  unfold worstT; rw [hitN_perm h, h.length_eq]
theorem best_perm {s : Sto} {L M : List Tru} (h : L.Perm M) : bestT s L = bestT s M := by
  have e : bestStep s L = bestStep s M := by
    funext st q; unfold bestStep; rw [worst_perm h]
  unfold bestT; rw [e, h.length_eq]

end
section
open Go.RowKit

def AllIn (s : Sto) (L : List Tru) (x y : Rng) : Prop := ∀ t ∈ L, ∀ q ∈ placesL x y, hitB s t q.1 q.2 = true
def AllOut (s : Sto) (L : List Tru) (x y : Rng) : Prop := ∀ t ∈ L, ∀ q ∈ placesL x y, hitB s t q.1 q.2 = false
theorem allIn_iff {s : Sto} {L : List Tru} {x y : Rng} : (L.all fun t => !hitsB s t x y false) = true ↔ AllIn s L x y := by
  simp only [List.all_eq_true, hitsB, Bool.not_eq_true', List.any_eq_false, AllIn]
  constructor
  · intro h t ht q hq
    have := h t ht q hq
    cases hh : hitB s t q.1 q.2
    · simp [hh] at this
    · rfl
  · intro h t ht q hq
    simp [h t ht q hq]
theorem allOut_iff {s : Sto} {L : List Tru} {x y : Rng} : (L.all fun t => !hitsB s t x y true) = true ↔ AllOut s L x y := by
  simp only [List.all_eq_true, hitsB, Bool.not_eq_true', List.any_eq_false, AllOut]
  constructor
  · intro h t ht q hq
    have := h t ht q hq
    cases hh : hitB s t q.1 q.2
    · rfl
    · simp [hh] at this
  · intro h t ht q hq
    simp [h t ht q hq]
theorem verdT_eq (s : Sto) (L : List Tru) (x y : Rng) : (AllIn s L x y ∧ verdT s L x y = 1) ∨ (¬ AllIn s L x y ∧ AllOut s L x y ∧ verdT s L x y = 2) ∨ (¬ AllIn s L x y ∧ ¬ AllOut s L x y ∧ verdT s L x y = 3) := by
  unfold verdT
  by_cases h1 : AllIn s L x y
  · exact .inl ⟨h1, if_pos (allIn_iff.2 h1)⟩
  · rw [if_neg (fun h => h1 (allIn_iff.1 h))]
    by_cases h2 : AllOut s L x y
    · exact .inr (.inl ⟨h1, h2, if_pos (allOut_iff.2 h2)⟩)
    · exact .inr (.inr ⟨h1, h2, if_neg (fun h => h2 (allOut_iff.1 h))⟩)
theorem not_both {s : Sto} {L : List Tru} {x y : Rng} (hL : L ≠ []) (hq : ∃ q, q ∈ placesL x y) (h : AllOut s L x y) : ¬ AllIn s L x y := by
  intro h2
  obtain ⟨q, hq⟩ := hq
  obtain ⟨t, ht⟩ := List.exists_mem_of_ne_nil L hL
  have a := h t ht q hq
  have b := h2 t ht q hq
  rw [a] at b
  cases b
/-- The verdicts of a rectangle, of its parts. -/
def PartsOk (v a b : Int) : Prop := (v = 1 ∧ a = 1 ∧ b = 1) ∨ (v = 2 ∧ a = 2 ∧ b = 2) ∨ (v = 3 ∧ a = 3 ∧ b = 1) ∨ (v = 3 ∧ a = 3 ∧ b = 2) ∨ (v = 3 ∧ a = 3 ∧ b = 3) ∨ (v = 3 ∧ a = 1 ∧ b = 2) ∨ (v = 3 ∧ a = 1 ∧ b = 3) ∨ (v = 3 ∧ a = 2 ∧ b = 1) ∨ (v = 3 ∧ a = 2 ∧ b = 3)
theorem parts_law {s : Sto} {L : List Tru} {x y xa ya xb yb : Rng} (hL : L ≠ []) (hs : ∀ q, q ∈ placesL x y ↔ q ∈ placesL xa ya ∨ q ∈ placesL xb yb) (ha : ∃ q, q ∈ placesL xa ya) (hb : ∃ q, q ∈ placesL xb yb) :
    PartsOk (verdT s L x y) (verdT s L xa ya) (verdT s L xb yb) := by
  have hx : ∃ q, q ∈ placesL x y := by obtain ⟨q, hq⟩ := ha; exact ⟨q, (hs q).2 (.inl hq)⟩
  have hI : AllIn s L x y ↔ AllIn s L xa ya ∧ AllIn s L xb yb :=
    ⟨fun h => ⟨fun t ht q hq => h t ht q ((hs q).2 (.inl hq)), fun t ht q hq => h t ht q ((hs q).2 (.inr hq))⟩, fun h t ht q hq => ((hs q).1 hq).elim (h.1 t ht q) (h.2 t ht q)⟩
  have hO : AllOut s L x y ↔ AllOut s L xa ya ∧ AllOut s L xb yb :=
    ⟨fun h => ⟨fun t ht q hq => h t ht q ((hs q).2 (.inl hq)), fun t ht q hq => h t ht q ((hs q).2 (.inr hq))⟩, fun h t ht q hq => ((hs q).1 hq).elim (h.1 t ht q) (h.2 t ht q)⟩
  have na := not_both (s := s) hL ha
  have nb := not_both (s := s) hL hb
  unfold PartsOk
  rcases verdT_eq s L x y with ⟨h1, e1⟩ | ⟨h1, h2, e1⟩ | ⟨h1, h2, e1⟩ <;> rcases verdT_eq s L xa ya with ⟨h3, e3⟩ | ⟨h3, h4, e3⟩ | ⟨h3, h4, e3⟩ <;> rcases verdT_eq s L xb yb with ⟨h5, e5⟩ | ⟨h5, h6, e5⟩ | ⟨h5, h6, e5⟩ <;>
    first
      | (rw [e1, e3, e5]; decide)
      | (exfalso; simp_all)
theorem places_ne {x y : Rng} (hx : x.lo ≤ x.hi) (hy : y.lo ≤ y.hi) : ∃ q, q ∈ placesL x y := ⟨(x.lo, y.lo), mem_places.2 ⟨Int.le_refl _, hx, Int.le_refl _, hy⟩⟩
/-- A rectangle parted at a column, or at a row. -/
def cutA (r : Rng) (k : Int) : Rng := ⟨r.lo, r.lo + k⟩
def cutB (r : Rng) (k : Int) : Rng := ⟨minI r.hi (r.lo + k + 1), r.hi⟩
theorem cut_mem {r : Rng} {k : Int} (h0 : 0 ≤ k) (h1 : r.lo + k ≤ r.hi) (n : Int) : (r.lo ≤ n ∧ n ≤ r.hi) ↔ ((cutA r k).lo ≤ n ∧ n ≤ (cutA r k).hi) ∨ ((cutB r k).lo ≤ n ∧ n ≤ (cutB r k).hi) := by
  show _ ↔ (r.lo ≤ n ∧ n ≤ r.lo + k) ∨ (minI r.hi (r.lo + k + 1) ≤ n ∧ n ≤ r.hi)
  unfold minI
  split <;> omega
theorem cut_ne {r : Rng} {k : Int} (h0 : 0 ≤ k) : (cutA r k).lo ≤ (cutA r k).hi ∧ (cutB r k).lo ≤ (cutB r k).hi := by
  refine ⟨?_, ?_⟩
  · show r.lo ≤ r.lo + k; omega
  · show minI r.hi (r.lo + k + 1) ≤ r.hi
    unfold minI; split <;> omega
theorem cut_of {r : Rng} {k m : Int} (h0 : 0 ≤ k) (h1 : r.lo + k ≤ r.hi) (hr : r.of 0 m = true) : (cutA r k).of 0 m = true ∧ (cutB r k).of 0 m = true := by
  rw [Rng.of_iff] at hr
  constructor <;> rw [Rng.of_iff]
  · show 0 ≤ r.lo ∧ r.lo ≤ r.lo + k ∧ r.lo + k ≤ m
    omega
  · show 0 ≤ minI r.hi (r.lo + k + 1) ∧ minI r.hi (r.lo + k + 1) ≤ r.hi ∧ r.hi ≤ m
    unfold minI; split <;> omega
theorem partsX {s : Sto} {L : List Tru} {x y : Rng} {k : Int} (hL : L ≠ []) (h0 : 0 ≤ k) (h1 : x.lo + k ≤ x.hi) (hy : y.lo ≤ y.hi) : PartsOk (verdT s L x y) (verdT s L (cutA x k) y) (verdT s L (cutB x k) y) :=
  parts_law hL (fun q => by
    rw [mem_places, mem_places, mem_places]
    have := cut_mem h0 h1 q.1
    constructor
    · rintro ⟨a, b, c, d⟩
      rcases this.1 ⟨a, b⟩ with h | h
      · exact .inl ⟨h.1, h.2, c, d⟩
      · exact .inr ⟨h.1, h.2, c, d⟩
    · rintro (⟨a, b, c, d⟩ | ⟨a, b, c, d⟩)
      · have := this.2 (.inl ⟨a, b⟩); exact ⟨this.1, this.2, c, d⟩
      · have := this.2 (.inr ⟨a, b⟩); exact ⟨this.1, this.2, c, d⟩) (places_ne (cut_ne h0).1 hy) (places_ne (cut_ne h0).2 hy)
theorem partsY {s : Sto} {L : List Tru} {x y : Rng} {k : Int} (hL : L ≠ []) (h0 : 0 ≤ k) (h1 : y.lo + k ≤ y.hi) (hx : x.lo ≤ x.hi) : PartsOk (verdT s L x y) (verdT s L x (cutA y k)) (verdT s L x (cutB y k)) :=
  parts_law hL (fun q => by
    rw [mem_places, mem_places, mem_places]
    have := cut_mem h0 h1 q.2
    constructor
    · rintro ⟨a, b, c, d⟩
      rcases this.1 ⟨c, d⟩ with h | h
      · exact .inl ⟨a, b, h.1, h.2⟩
      · exact .inr ⟨a, b, h.1, h.2⟩
    · rintro (⟨a, b, c, d⟩ | ⟨a, b, c, d⟩)
      · have := this.2 (.inl ⟨c, d⟩); exact ⟨a, b, this.1, this.2⟩
      · have := this.2 (.inr ⟨c, d⟩); exact ⟨a, b, this.1, this.2⟩) (places_ne hx (cut_ne h0).1) (places_ne hx (cut_ne h0).2)
end
section
open Go.RowKit

/-- One range in another one. -/
def inside (a b : Rng) : Bool := decide (b.lo ≤ a.lo) && decide (a.hi ≤ b.hi)
theorem inside_iff {a b : Rng} : inside a b = true ↔ b.lo ≤ a.lo ∧ a.hi ≤ b.hi := by simp [inside]

/-- A range is the least one that has the numbers of a list. -/
def Span (r : Rng) (f : Tru → Int) (L : List Tru) : Prop := (∃ t ∈ L, f t = r.lo) ∧ (∃ t ∈ L, f t = r.hi) ∧ ∀ t ∈ L, r.lo ≤ f t ∧ f t ≤ r.hi
theorem Span.inside {r q : Rng} {f : Tru → Int} {L M : List Tru} (h : Span r f L) (k : Span q f M) (hs : ∀ t ∈ L, t ∈ M) : inside r q = true := by
  obtain ⟨⟨t, ht, e1⟩, ⟨u, hu, e2⟩, _⟩ := h
  have a := k.2.2 t (hs t ht); have b := k.2.2 u (hs u hu)
  rw [inside_iff]; omega

theorem widerR_hull {r : Rng} {n : Int} : (widerR r n).lo ≤ r.lo ∧ (widerR r n).lo ≤ n ∧ r.hi ≤ (widerR r n).hi ∧ n ≤ (widerR r n).hi ∧ ((widerR r n).lo = r.lo ∨ (widerR r n).lo = n) ∧ ((widerR r n).hi = r.hi ∨ (widerR r n).hi = n) := by
  simp only [widerR, minI]
  refine ⟨?_, ?_, ?_, ?_, ?_, ?_⟩ <;> split <;> omega
theorem wide_hull (f : Tru → Int) : ∀ (L : List Tru) (r : Rng), (wideT f r L).lo ≤ r.lo ∧ r.hi ≤ (wideT f r L).hi ∧ ((wideT f r L).lo = r.lo ∨ ∃ t ∈ L, f t = (wideT f r L).lo) ∧ ((wideT f r L).hi = r.hi ∨ ∃ t ∈ L, f t = (wideT f r L).hi) ∧ ∀ t ∈ L, (wideT f r L).lo ≤ f t ∧ f t ≤ (wideT f r L).hi
  | [], r => ⟨Int.le_refl _, Int.le_refl _, .inl rfl, .inl rfl, fun t ht => by cases ht⟩
  | a :: L, r => by
    have h := wide_hull f L (widerR r (f a))
    have k := widerR_hull (r := r) (n := f a)
    have e : wideT f r (a :: L) = wideT f (widerR r (f a)) L := rfl
    rw [e]
    obtain ⟨h1, h2, h3, h4, h5⟩ := h
    obtain ⟨k1, k2, k3, k4, k5, k6⟩ := k
    refine ⟨by omega, by omega, ?_, ?_, fun t ht => ?_⟩
    · rcases h3 with h3 | ⟨t, ht, h3⟩
      · rcases k5 with k5 | k5
        · exact .inl (by omega)
        · exact .inr ⟨a, by simp, by omega⟩
      · exact .inr ⟨t, by simp [ht], h3⟩
    · rcases h4 with h4 | ⟨t, ht, h4⟩
      · rcases k6 with k6 | k6
        · exact .inl (by omega)
        · exact .inr ⟨a, by simp, by omega⟩
      · exact .inr ⟨t, by simp [ht], h4⟩
    · rcases List.mem_cons.1 ht with rfl | ht
      · omega
      · exact h5 t ht
theorem bound_span {f : Tru → Int} {L : List Tru} (hL : L ≠ []) : Span (boundR f L) f L := by
  cases L with
  | nil => exact absurd rfl hL
  | cons a l =>
    have h := wide_hull f (a :: l) ⟨f a, f a⟩
    obtain ⟨_, _, h3, h4, h5⟩ := h
    refine ⟨?_, ?_, h5⟩
    · rcases h3 with h3 | h3
      · exact ⟨a, by simp, h3.symm⟩
      · exact h3
    · rcases h4 with h4 | h4
      · exact ⟨a, by simp, h4.symm⟩
      · exact h4
theorem span_bound {s : Sto} {x y : Int} {L : List Tru} (hL : L ≠ []) : Span (spanT s x y ⟨firstT s x y L, firstT s x y L⟩ L) (fun t => sizeS s t x y) L := by
  have h := bound_span (f := fun t => sizeS s t x y) hL
  cases L with
  | nil => exact absurd rfl hL
  | cons a l => exact h

/-- Verdicts of fewer truths. -/
theorem verd_less {s : Sto} {L M : List Tru} {x y : Rng} (hL : L ≠ []) (hq : ∃ q, q ∈ placesL x y) (hs : ∀ t ∈ L, t ∈ M) : verdT s M x y = 3 ∨ verdT s L x y = verdT s M x y := by
  rcases verdT_eq s M x y with ⟨h, e⟩ | ⟨h, h', e⟩ | ⟨_, _, e⟩
  · have a : AllIn s L x y := fun t ht => h t (hs t ht)
    rcases verdT_eq s L x y with ⟨_, e'⟩ | ⟨h1, _⟩ | ⟨h1, _⟩
    · exact .inr (by rw [e, e'])
    · exact absurd a h1
    · exact absurd a h1
  · have a : AllOut s L x y := fun t ht => h' t (hs t ht)
    have b : ¬ AllIn s L x y := not_both hL hq a
    rcases verdT_eq s L x y with ⟨h1, _⟩ | ⟨_, _, e'⟩ | ⟨_, h1, _⟩
    · exact absurd h1 b
    · exact .inr (by rw [e, e'])
    · exact absurd a h1
  · exact .inl e

end
section
open Go.RowKit

theorem one_has {x : Sto} {t : Tru} (ht : t ∈ truthL x) (M : Nat) : hasT x (M : Int) = true := by
  rw [has_bits]
  have h := mem_truth.1 ht
  exact ⟨t, h.1, fun i c hc _ => List.all_eq_true.1 h.2 c (List.mem_of_getElem? hc)⟩
theorem one_first {x : Sto} (ok : OkS x) {t : Tru} (ht : t ∈ truthL x) : firstM x = x.cards.length := by
  obtain ⟨k, hk, hle, _, h2⟩ := first_law ok
  by_cases e : k < x.cards.length
  · have := h2 e
    rw [one_has ht] at this
    cases this
  · omega
theorem one_leave {x : Sto} (ok : OkS x) {t : Tru} (ht : t ∈ truthL x) : shortL (leaveF x) x.cards.length = some [] := by
  have h := leaveR_law ok
  have hf := short_first h
  have hnil : leaveF x [] = true := by
    rw [leave_has ok (M := 2 ^ x.cards.length - 1) (fun i hi => by rw [every_bit]; simp [hi])]
    exact one_has ht _
  have := shorter_nil (hf.2.2 [] trivial hnil)
  rw [h, this]
theorem one_clash {x : Sto} (ok : OkS x) {t : Tru} (ht : t ∈ truthL x) : shortL (clashF x) x.cards.length = none := by
  rw [clashR_law ok]
  exact (clash_none ok).2 (one_first ok ht)
theorem one_sure {x : Sto} (ok : OkS x) {t : Tru} (ht : t ∈ truthL x) : sureE x true = 0 := by
  rw [sureE, if_pos (fault_iff.2 ok), if_pos rfl, if_neg (List.ne_nil_of_mem ht)]
theorem one_bound {x : Sto} {t : Tru} (ht : t ∈ truthL x) (f : Tru → Int) : (boundR f (truthL x)).lo ≤ f t ∧ f t ≤ (boundR f (truthL x)).hi :=
  (bound_span (List.ne_nil_of_mem ht)).2.2 t ht
theorem one_size {x : Sto} {t : Tru} (ht : t ∈ truthL x) (a b : Int) : (spanT x a b ⟨firstT x a b (truthL x), firstT x a b (truthL x)⟩ (truthL x)).lo ≤ sizeS x t a b ∧ sizeS x t a b ≤ (spanT x a b ⟨firstT x a b (truthL x), firstT x a b (truthL x)⟩ (truthL x)).hi :=
  (span_bound (List.ne_nil_of_mem ht)).2.2 t ht
theorem one_verd {x : Sto} {t : Tru} (ht : t ∈ truthL x) (a b : Rng) : (verdT x (truthL x) a b = 1 → hitsB x t a b false = false) ∧ (verdT x (truthL x) a b = 2 → hitsB x t a b true = false) := by
  unfold verdT
  constructor
  · intro h
    split at h
    · rename_i h1
      have := List.all_eq_true.1 h1 t ht
      simpa using this
    · split at h <;> cases h
  · intro h
    split at h
    · cases h
    · split at h
      · rename_i h1
        have := List.all_eq_true.1 h1 t ht
        simpa using this
      · cases h

/-- The card that a word makes: it is right in the truth. -/
def wordX (s : Sto) (v : Int) : Int := v % s.wide
def wordY (s : Sto) (v : Int) : Int := v / 16 % s.high
def maxI (x y : Int) : Int := if x < y then y else x
def cardW (s : Sto) (t : Tru) (v : Int) : Crd :=
  ⟨⟨maxI 0 (wordX s v - v / 256 % 2), minI (s.wide - 1) (wordX s v + v / 512 % 2)⟩, ⟨maxI 0 (wordY s v - v / 1024 % 2), minI (s.high - 1) (wordY s v + v / 2048 % 2)⟩,
    decide (0 < sizeS s t (wordX s v) (wordY s v)), if 0 < sizeS s t (wordX s v) (wordY s v) then ⟨maxI 0 (sizeS s t (wordX s v) (wordY s v) - v / 4096 % 2), minI 9 (sizeS s t (wordX s v) (wordY s v) + v / 8192 % 2)⟩ else ⟨0, 0⟩⟩
theorem maxI_spec (x y : Int) : x ≤ maxI x y ∧ y ≤ maxI x y ∧ (maxI x y = x ∨ maxI x y = y) := by
  unfold maxI; split <;> omega
theorem minI_spec (x y : Int) : minI x y ≤ x ∧ minI x y ≤ y ∧ (minI x y = x ∨ minI x y = y) := by
  unfold minI; split <;> omega
theorem cardW_ok {s : Sto} (ok : OkS s) {t : Tru} (ht : truB s t = true) (v : Int) : cardB s (cardW s t v) = true ∧ fitsB s t (cardW s t v) = true := by
  have w2 := ok.w2; have h1 := ok.h1
  have hp := Rng.of_iff.1 ok.peak
  have htt := ht
  simp only [truB, inB, Bool.and_eq_true, decide_eq_true_eq] at htt
  obtain ⟨a, ha⟩ : ∃ a, wordX s v = a := ⟨_, rfl⟩
  obtain ⟨b, hb⟩ : ∃ b, wordY s v = b := ⟨_, rfl⟩
  have ha0 : 0 ≤ a ∧ a < s.wide := by rw [← ha]; exact ⟨Int.emod_nonneg _ (by omega), Int.emod_lt_of_pos _ (by omega)⟩
  have hb0 : 0 ≤ b ∧ b < s.high := by rw [← hb]; exact ⟨Int.emod_nonneg _ (by omega), Int.emod_lt_of_pos _ (by omega)⟩
  have hz := size_bound (s := s) (t := t) (x := a) (y := b) ok.f0 ok.w2 (by omega)
  have d : ∀ z : Int, 0 ≤ z % 2 ∧ z % 2 ≤ 1 := fun z => ⟨Int.emod_nonneg _ (by decide), by have := Int.emod_lt_of_pos z (show (0 : Int) < 2 by decide); omega⟩
  have d1 := d (v / 256); have d2 := d (v / 512); have d3 := d (v / 1024); have d4 := d (v / 2048); have d5 := d (v / 4096); have d6 := d (v / 8192)
  have m1 := maxI_spec 0 (a - v / 256 % 2); have m2 := minI_spec (s.wide - 1) (a + v / 512 % 2); have m3 := maxI_spec 0 (b - v / 1024 % 2); have m4 := minI_spec (s.high - 1) (b + v / 2048 % 2)
  obtain ⟨n, hn⟩ : ∃ n, sizeS s t a b = n := ⟨_, rfl⟩
  rw [hn] at hz
  have m5 := maxI_spec 0 (n - v / 4096 % 2); have m6 := minI_spec 9 (n + v / 8192 % 2)
  have hpl : (a, b) ∈ placesL (cardW s t v).x (cardW s t v).y := by
    rw [mem_places]
    simp only [cardW, ha, hb]
    omega
  have hhit : decide (0 < n) = hitB s t a b := by rw [← hn]; exact size_pos
  constructor
  · unfold cardB rectB
    simp only [Bool.and_eq_true, Rng.of_iff]
    simp only [cardW, ha, hb, hn]
    refine ⟨by omega, ?_, ?_⟩
    · split <;> simp <;> omega
    · by_cases h : 0 < n
      · simp [h]
      · simp [h]
  · unfold fitsB
    rw [List.any_eq_true]
    refine ⟨(a, b), hpl, ?_⟩
    unfold fitsP
    simp only [cardW, ha, hb, hn, hhit]
    by_cases h : 0 < n
    · have hh : hitB s t a b = true := by rw [← hhit]; simpa using h
      have hi : inB n (maxI 0 (n - v / 4096 % 2)) (minI 9 (n + v / 8192 % 2)) = true := inB_iff.2 (by omega)
      simp [hh, h, hi]
    · have hh : hitB s t a b = false := by rw [← hhit]; simpa using h
      simp [hh]

end
section
open Go.RowKit

def wordV (l : List Int) (k : Nat) : Int := if l.length = 0 then 0 else (l[k % l.length]?).getD 0
theorem WordsAt.at {w : World} {p : Option Addr} {n : Nat} {l : List Int} (h : WordsAt w p n l) {i : Nat} (hi : i < n) : ∃ v, l[i]? = some v ∧ (0 ≤ v ∧ v ≤ 65535) ∧ ∃ b off, p = some ⟨b, off, none⟩ ∧ b < w.heap.size ∧ w.cell? ⟨b, off + i, none⟩ = some (.int .u16 v) := by
  have hk : l[i]? = some (l[i]'(by have := h.1; omega)) := List.getElem?_eq_getElem _
  exact ⟨_, hk, h.2 i _ hk⟩
theorem wordV_bd {w : World} {p : Option Addr} {n : Nat} {l : List Int} (h : WordsAt w p n l) (k : Nat) : 0 ≤ wordV l k ∧ wordV l k ≤ 65535 := by
  unfold wordV
  split
  · omega
  · rename_i h0
    obtain ⟨v, hv, hb, _⟩ := h.at (i := k % l.length) (by rw [h.1]; exact Nat.mod_lt _ (by omega))
    rw [hv]
    exact hb

set_option maxRecDepth 20000 in
set_option maxHeartbeats 1000000 in
theorem word_any (p : Option Addr) (n c : Nat) (l : List Int) (k : Nat) (w : World) (hl : WordsAt w p n l) (hk : k ≤ 1000) :
    Calls Try.prog 105 #[.slice p n c, .int .i64 (k : Int)] w fun e w' => e = .returned (.int .i64 (wordV l k)) ∧ w' = w := by
  by_cases h0 : n = 0
  · have HV : Hid (wordV l k = 0) := by show _ = _; rw [wordV, if_pos (by rw [← hl.1]; exact h0)]
    subst h0
    clear hl
    go_enter Try.func105, Try.ntmps105
    go_wp2_with fail
    go_ret
    exact ⟨ret_int HV.out.symm, rfl⟩
  · obtain ⟨i, hi⟩ : ∃ i, k % n = i := ⟨_, rfl⟩
    have hin : i < n := by rw [← hi]; exact Nat.mod_lt _ (by omega)
    obtain ⟨v, hv, hb, b1, o1, rfl, hlt, hc⟩ := hl.at hin
    have HV : Hid (wordV l k = v) := by show _ = _; rw [wordV, if_neg (by rw [← hl.1]; exact h0), ← hl.1, hi, hv]; rfl
    have hmod : (k : Int).tmod (n : Int) = (i : Int) := by rw [Int.tmod_eq_emod_of_nonneg (by omega), ← hi]; omega
    have hw1 : IntKind.i64.wrap (i : Int) = (i : Int) := IntWalk.i64_in _ (by have := Nat.mod_le k n; omega)
    have hw2 : IntKind.i64.wrap v = v := IntWalk.i64_in _ (by omega)
    have hn1 : ¬ (n : Int) = 0 := by omega
    clear hl hi hv h0
    go_enter Try.func105, Try.ntmps105
    go_wp2_with fail
    go_ret
    exact ⟨ret_int HV.out.symm, rfl⟩

end
section
open Go.ChangeShapes Go.WideShapes Go.ChangeAt Go.RowKit

section
variable {H : Type} {enc : TypeId × Value → H} {w : World} {base : Nat} {spare : Nat → Bool} {held : Bool}
theorem read_word {fuel : Nat} {cs : List Value} {x : DataW H × List MemPlace} (h : DataW.trod enc Try.prog w base spare held fuel 62 cs = some x) : ∃ n, cs = [.int .u16 n] ∧ 0 ≤ n ∧ n ≤ 65535 := by
  obtain ⟨n, e, _, hw⟩ := DataW.trod_int Try.underlying62 h
  have hb : 0 ≤ n ∧ n ≤ 65535 := by simpa [Lit.wf, IntKind.min, IntKind.max, IntKind.signed, IntKind.bits] using hw
  exact ⟨n, e, hb⟩
theorem read_words {fuel : Nat} {v : Value} {x : DataW H × List MemPlace} (h : DataW.trod enc Try.prog w base spare held fuel 102 [v] = some x) : ∃ p n c l, v = .slice p n c ∧ WordsAt w p n l := by
  rcases DataW.trod_slice Try.underlying102 h with ⟨hcs, _⟩ | ⟨a, len, cap, elems, rest, n, _, hcs, _, _, _, _, hel, hall, _⟩
  · cases hcs; exact ⟨none, 0, 0, [], rfl, rfl, fun i c hi => by simp at hi⟩
  · cases hcs
    have hx : ∀ i, i < len → ∃ z : Int, (0 ≤ z ∧ z ≤ 65535) ∧ w.cell? ((a.add (i * 1)).add 0) = some (.int .u16 z) := by
      intro i hi
      have h1 := hall i hi
      obtain ⟨y, hy⟩ := Option.isSome_iff_exists.1 (get_some hel hi)
      rw [hy, Try.cl62, Option.bind_eq_some_iff] at h1
      obtain ⟨cs, hcs, ht⟩ := h1
      obtain ⟨z, rfl, hz⟩ := read_word ht
      obtain ⟨_, _, hat⟩ := World.cells?_some hcs
      refine ⟨z, hz, ?_⟩
      rw [hat 0 (by decide)]; rfl
    refine ⟨some a, len, cap, (List.range len).map fun i => if h : i < len then Classical.choose (hx i h) else 0, rfl, by simp, fun i z hi => ?_⟩
    have hil : i < len := by have := (List.getElem?_eq_some_iff.1 hi).1; simpa using this
    have hze : z = Classical.choose (hx i hil) := by
      rw [List.getElem?_map, List.getElem?_range hil] at hi
      simp only [Option.map_some, Option.some.injEq, dif_pos hil] at hi
      exact hi.symm
    have hsp := Classical.choose_spec (hx i hil)
    rw [← hze] at hsp
    obtain ⟨b, off, k⟩ := a
    have hspot : k = none := by
      obtain ⟨z', _, h'⟩ := hx 0 (by omega)
      rw [Nat.zero_mul] at h'
      exact World.cell?_spot h'
    subst hspot
    have e : ∀ (o z : Nat), (⟨b, o, none⟩ : Addr).add z = ⟨b, o + z, none⟩ := fun o z => by unfold Addr.add; split <;> simp_all
    have hcell : w.cell? ⟨b, off + i, none⟩ = some (.int .u16 z) := by
      have := hsp.2
      rw [e, e, Nat.mul_one, Nat.add_zero] at this
      exact this
    exact ⟨hsp.1, b, off, rfl, World.block_lt_of_cell? _ _ hcell, hcell⟩
end
end
section
open Go.RowKit

def cardsW (s : Sto) (t : Tru) (l : List Int) (k : Nat) : List Crd := (List.range k).map fun i => cardW s t (wordV l (i + 1))
theorem cardsW_succ (s : Sto) (t : Tru) (l : List Int) (k : Nat) : cardsW s t l (k + 1) = cardsW s t l k ++ [cardW s t (wordV l (k + 1))] := by
  unfold cardsW; rw [List.range_succ, List.map_append]; rfl
def cardedS (s : Sto) (t : Tru) (l : List Int) : Sto := ⟨s.wide, s.high, s.fall, s.a, s.b, s.half, s.peak, cardsW s t l (wordV l 0 % 7).toNat⟩
def CardedPost (s : Sto) (t : Tru) (l : List Int) (w : World) : Ending → World → Prop := fun e w' =>
  ∃ q m d, e = .returned (.tuple #[.agg #[.int .i64 (cardedS s t l).wide, .int .i64 (cardedS s t l).high, .int .i64 (cardedS s t l).fall, .int .i64 (cardedS s t l).a.lo, .int .i64 (cardedS s t l).a.hi, .int .i64 (cardedS s t l).b.lo, .int .i64 (cardedS s t l).b.hi, .int .i64 (cardedS s t l).half.lo, .int .i64 (cardedS s t l).half.hi, .int .i64 (cardedS s t l).peak.lo, .int .i64 (cardedS s t l).peak.hi, .slice q m d], .agg #[.int .i64 t.a, .int .i64 t.b, .int .i64 t.half, .int .i64 t.peak]]) ∧ CrdsAt w' q m (cardedS s t l).cards ∧ Below w.heap.size w w'

set_option maxRecDepth 40000 in
set_option maxHeartbeats 16000000 in
theorem carded_any (s : Sto) (p : Option Addr) (n c : Nat) (wh : Int) (q0 : Option Addr) (m0 e0 : Nat) (l : List Int) (w : World) (hcs : CrdsAt w p n s.cards) (hl : WordsAt w q0 m0 l) (ok : OkS s) (hwh : 0 ≤ wh ∧ wh ≤ 65535) :
    Calls Try.prog 60 #[.agg #[.int .i64 s.wide, .int .i64 s.high, .int .i64 s.fall, .int .i64 s.a.lo, .int .i64 s.a.hi, .int .i64 s.b.lo, .int .i64 s.b.hi, .int .i64 s.half.lo, .int .i64 s.half.hi, .int .i64 s.peak.lo, .int .i64 s.peak.hi, .slice p n c], .int .u16 wh, .slice q0 m0 e0] w (CardedPost s (nthS s (wh % manyS s)) l w) := by
  have HC := hid hcs; have HWD9 := hid hl; have HOK := hid ok; have HWH := hid hwh
  clear hcs hl ok hwh
  obtain ⟨w0, hw0⟩ : ∃ V, (((w.alloc (.cells #[.int .i64 s.wide, .int .i64 s.high, .int .i64 s.fall, .int .i64 s.a.lo, .int .i64 s.a.hi, .int .i64 s.b.lo, .int .i64 s.b.hi, .int .i64 s.half.lo, .int .i64 s.half.hi, .int .i64 s.peak.lo, .int .i64 s.peak.hi, .slice p n c] 26)).alloc (.cells #[.int .i64 0, .int .i64 0, .int .i64 0, .int .i64 0, .int .i64 0, .int .i64 0, .int .i64 0, .int .i64 0, .int .i64 0, .int .i64 0, .int .i64 0, .slice none 0 0] 26)).alloc (.cells #[.int .i64 0, .int .i64 0, .int .i64 0, .int .i64 0] 92)) = V := ⟨_, rfl⟩
  have H0 : Hid (Boxed1 w #[.int .i64 s.wide, .int .i64 s.high, .int .i64 s.fall, .int .i64 s.a.lo, .int .i64 s.a.hi, .int .i64 s.b.lo, .int .i64 s.b.hi, .int .i64 s.half.lo, .int .i64 s.half.hi, .int .i64 s.peak.lo, .int .i64 s.peak.hi, .slice p n c] 26 w0) := by show Boxed1 _ _ _ _; rw [← hw0]; exact ((Boxed1.start _ _ _).alloc _).alloc _
  have HO6 : Hid (BoxIs (w.heap.size + 1) #[.int .i64 0, .int .i64 0, .int .i64 0, .int .i64 0, .int .i64 0, .int .i64 0, .int .i64 0, .int .i64 0, .int .i64 0, .int .i64 0, .int .i64 0, .slice none 0 0] w0) := by
    show BoxIs _ _ _
    have h := (BoxIs.start (w.alloc (.cells #[.int .i64 s.wide, .int .i64 s.high, .int .i64 s.fall, .int .i64 s.a.lo, .int .i64 s.a.hi, .int .i64 s.b.lo, .int .i64 s.b.hi, .int .i64 s.half.lo, .int .i64 s.half.hi, .int .i64 s.peak.lo, .int .i64 s.peak.hi, .slice p n c] 26)) #[.int .i64 0, .int .i64 0, .int .i64 0, .int .i64 0, .int .i64 0, .int .i64 0, .int .i64 0, .int .i64 0, .int .i64 0, .int .i64 0, .int .i64 0, .slice none 0 0] 26).below ((Below.refl _ _).alloc (Nat.le_refl _) (.cells #[.int .i64 0, .int .i64 0, .int .i64 0, .int .i64 0] 92))
    simp only [World.size_alloc] at h
    rw [hw0] at h
    exact h
  have HO7 : Hid (BoxIs (w.heap.size + 2) #[.int .i64 0, .int .i64 0, .int .i64 0, .int .i64 0] w0) := by
    show BoxIs _ _ _
    have h := BoxIs.start ((w.alloc (.cells #[.int .i64 s.wide, .int .i64 s.high, .int .i64 s.fall, .int .i64 s.a.lo, .int .i64 s.a.hi, .int .i64 s.b.lo, .int .i64 s.b.hi, .int .i64 s.half.lo, .int .i64 s.half.hi, .int .i64 s.peak.lo, .int .i64 s.peak.hi, .slice p n c] 26)).alloc (.cells #[.int .i64 0, .int .i64 0, .int .i64 0, .int .i64 0, .int .i64 0, .int .i64 0, .int .i64 0, .int .i64 0, .int .i64 0, .int .i64 0, .int .i64 0, .slice none 0 0] 26)) #[.int .i64 0, .int .i64 0, .int .i64 0, .int .i64 0] 92
    simp only [World.size_alloc, Nat.add_assoc, Nat.reduceAdd] at h
    rw [hw0] at h
    exact h
  obtain ⟨M, hM⟩ : ∃ M, manyS s = M := ⟨_, rfl⟩
  have hMp : 0 < M := by rw [← hM]; exact Int.mul_pos (Int.mul_pos (Int.mul_pos HOK.out.pos.a HOK.out.pos.b) HOK.out.pos.half) HOK.out.pos.peak
  have hM2 : M ≤ 2000 := by rw [← hM]; exact HOK.out.many
  obtain ⟨N, hN⟩ : ∃ N, wh % M = N := ⟨_, rfl⟩
  have hN0 : 0 ≤ N := by rw [← hN]; exact Int.emod_nonneg _ (by omega)
  have hN1 : N < M := by rw [← hN]; exact Int.emod_lt_of_pos _ hMp
  have HMM := hid hM
  have HQ : Hid (IntKind.i64.wrap wh = wh ∧ wh.tmod M = N ∧ IntKind.i64.wrap N = N ∧ ¬ M = 0) := hid ⟨IntWalk.i64_in _ (by have := HWH.out; omega), by rw [Int.tmod_eq_emod_of_nonneg HWH.out.1, hN], IntWalk.i64_in _ (by omega), by omega⟩
  have HNB : Hid (0 ≤ N ∧ N ≤ 1000000) := hid (by omega)
  have HTT : Hid (truB s (nthS s N) = true) := hid (num_nth HOK.out.pos hN0 (by rw [HMM.out]; exact hN1)).1
  rw [hM, hN]
  obtain ⟨t, ht⟩ : ∃ t, nthS s N = t := ⟨_, rfl⟩
  rw [ht] at HTT ⊢
  have HNT := hid ht
  clear hM hMp hM2 hN hN0 hN1 ht
  go_enter Try.func60, Try.ntmps60
  go_upto_region 1 with fail
  clear hw0
  go_cut [8] from 16 (fun a9 wr => ∃ bt, a9 = .pointer (some ⟨bt, 0, none⟩) ∧ BoxIs bt #[.int .i64 t.a, .int .i64 t.b, .int .i64 t.half, .int .i64 t.peak] wr ∧ Boxed1 w #[.int .i64 s.wide, .int .i64 s.high, .int .i64 s.fall, .int .i64 s.a.lo, .int .i64 s.a.hi, .int .i64 s.b.lo, .int .i64 s.b.hi, .int .i64 s.half.lo, .int .i64 s.half.hi, .int .i64 s.peak.lo, .int .i64 s.peak.hi, .slice p n c] 26 wr ∧ Below w0.heap.size w0 wr ∧ w0.heap.size ≤ bt)
  case first =>
    obtain ⟨wd, hwd⟩ : ∃ V, w0.drew = V := ⟨_, rfl⟩
    have HD := hid H0.out.drew
    rw [hwd] at HD
    have HWD : Hid (Below w0.heap.size w0 wd) := hid (by rw [← hwd]; exact (Below.refl _ _).drew)
    refine wp_region_held_drew (S := fun V => Boxed1 w #[.int .i64 s.wide, .int .i64 s.high, .int .i64 s.fall, .int .i64 s.a.lo, .int .i64 s.a.hi, .int .i64 s.b.lo, .int .i64 s.b.hi, .int .i64 s.half.lo, .int .i64 s.half.hi, .int .i64 s.peak.lo, .int .i64 s.peak.hi, .slice p n c] 26 V ∧ Below wd.heap.size wd V) (by kernel_rfl) (by rw [hwd]; exact ⟨HD.out, Below.refl _ _⟩) (fun hS => ?_)
    rw [hwd] at hS ⊢
    clear hwd
    simp only [List.size_toArray, List.length_cons, List.length_nil, Nat.reduceAdd, Array.replicate_succ, Array.replicate_zero, List.push_toArray, List.nil_append, List.cons_append]
    refine tkH (i := 0) (v := ?_) (fun V hV => ?_) ?_
    rotate_left
    · have e0 := (StoAt.of hV.1.cell).c0; have e1 := (StoAt.of hV.1.cell).c1; have e2 := (StoAt.of hV.1.cell).c2; have e3 := (StoAt.of hV.1.cell).c3; have e4 := (StoAt.of hV.1.cell).c4; have e5 := (StoAt.of hV.1.cell).c5; have e6 := (StoAt.of hV.1.cell).c6; have e7 := (StoAt.of hV.1.cell).c7; have e8 := (StoAt.of hV.1.cell).c8; have e9 := (StoAt.of hV.1.cell).c9; have e10 := (StoAt.of hV.1.cell).c10; have e11 := (StoAt.of hV.1.cell).c11; go_simp
      try with_reducible rfl
    try simp only [Act.put, List.getElem_toArray, List.getElem_cons_zero, List.setIfInBounds_toArray, List.set_cons_zero, List.set_cons_succ]
    refine tkH (i := 1) (v := ?_) (fun V hV => ?_) ?_
    rotate_left
    · go_simp
      try with_reducible rfl
    try simp only [Act.put, List.getElem_toArray, List.getElem_cons_zero, List.getElem_cons_succ, List.setIfInBounds_toArray, List.set_cons_zero, List.set_cons_succ]
    refine tkH (i := 2) (v := ?_) (fun V hV => ?_) ?_
    rotate_left
    · obtain ⟨u1, u2, u3, u4⟩ := HQ.out; go_simp
      try with_reducible rfl
    try simp only [Act.put, List.getElem_toArray, List.getElem_cons_zero, List.getElem_cons_succ, List.setIfInBounds_toArray, List.set_cons_zero, List.set_cons_succ]
    refine tkH (i := 3) (v := ?_) (fun V hV => ?_) ?_
    rotate_left
    · have e0 := (StoAt.of hV.1.cell).c0; have e1 := (StoAt.of hV.1.cell).c1; have e2 := (StoAt.of hV.1.cell).c2; have e3 := (StoAt.of hV.1.cell).c3; have e4 := (StoAt.of hV.1.cell).c4; have e5 := (StoAt.of hV.1.cell).c5; have e6 := (StoAt.of hV.1.cell).c6; have e7 := (StoAt.of hV.1.cell).c7; have e8 := (StoAt.of hV.1.cell).c8; have e9 := (StoAt.of hV.1.cell).c9; have e10 := (StoAt.of hV.1.cell).c10; have e11 := (StoAt.of hV.1.cell).c11; go_simp
      try with_reducible rfl
    try simp only [Act.put, List.getElem_toArray, List.getElem_cons_zero, List.getElem_cons_succ, List.setIfInBounds_toArray, List.set_cons_zero, List.set_cons_succ]
    refine wpAnyH_ready (rs := [4, 7]) (by kernel_rfl) (by simp) ?_
    refine AllReadyH.cons (o := _) rfl (fun K hK => ?_) ?_
    · skip
      go_simp
      (with_reducible refine (many_any s p n c _ HOK.out.ranges HOK.out.h12).mono ?_)
      rintro e v4 ⟨rfl, hb⟩
      rw [HMM.out]
      refine hK.out _ _ (⟨hS.1.step hb, hS.2.trans (hb.mono hS.2.size)⟩) (fun hS => ?_)
      clear hK K
      try simp only [List.setIfInBounds_toArray, List.set_cons_zero, List.set_cons_succ]
      refine tkH (i := 5) (v := ?_) (fun V hV => ?_) ?_
      rotate_left
      · obtain ⟨u1, u2, u3, u4⟩ := HQ.out; go_simp
        try with_reducible rfl
      try simp only [Act.put, List.getElem_toArray, List.getElem_cons_zero, List.getElem_cons_succ, List.setIfInBounds_toArray, List.set_cons_zero, List.set_cons_succ]
      refine wpAnyH_ready (rs := [6, 7]) (by kernel_rfl) (by simp) ?_
      refine AllReadyH.cons (o := _) rfl (fun K hK => ?_) ?_
      · skip
        go_simp
        (with_reducible refine (nth_any s p n c N _ HOK.out.ranges HOK.out.h12 HNB.out.1 HNB.out.2).mono ?_)
        rintro e v6 ⟨rfl, hb⟩
        rw [HNT.out]
        refine hK.out _ _ (⟨hS.1.step hb, hS.2.trans (hb.mono hS.2.size)⟩) (fun hS => ?_)
        clear hK K
        try simp only [List.setIfInBounds_toArray, List.set_cons_zero, List.set_cons_succ]
        refine wpAnyH_ready (rs := [7]) (by kernel_rfl) (by simp) ?_
        refine AllReadyH.cons (o := _) rfl (fun K hK => ?_) AllReadyH.nil
        obtain ⟨v7, hv7⟩ : ∃ V, v6.alloc (.cells #[.int .i64 0, .int .i64 0, .int .i64 0, .int .i64 0] 92) = V := ⟨_, rfl⟩
        have hb : Below v6.heap.size v6 v7 := by rw [← hv7]; exact (Below.refl _ _).alloc (Nat.le_refl _) _
        have HN : Hid (BoxIs v6.heap.size #[.int .i64 0, .int .i64 0, .int .i64 0, .int .i64 0] v7) := by show BoxIs _ _ _; rw [← hv7]; exact BoxIs.start _ _ _
        have HL : Hid (wd.heap.size ≤ v6.heap.size) := hid hS.2.size
        go_simp
        refine hK.out _ _ (⟨hS.1.step hb, hS.2.trans (hb.mono hS.2.size)⟩) (fun hS => ?_)
        clear hK K
        try simp only [List.setIfInBounds_toArray, List.set_cons_zero, List.set_cons_succ]
        refine wpAnyH_ready (rs := [8]) (by kernel_rfl) (by simp) ?_
        refine AllReadyH.cons (o := _) rfl (fun K hK => ?_) AllReadyH.nil
        have k0 := (HN.out.2 0 (.int .i64 0) rfl).1; have f0 := (HN.out.2 0 (.int .i64 0) rfl).2
        have k1 := (HN.out.2 1 (.int .i64 0) rfl).1; have f1 := (HN.out.2 1 (.int .i64 0) rfl).2
        have k2 := (HN.out.2 2 (.int .i64 0) rfl).1; have f2 := (HN.out.2 2 (.int .i64 0) rfl).2
        have k3 := (HN.out.2 3 (.int .i64 0) rfl).1; have f3 := (HN.out.2 3 (.int .i64 0) rfl).2
        have HP : Hid (BoxIs v6.heap.size #[.int .i64 t.a, .int .i64 t.b, .int .i64 t.half, .int .i64 t.peak] ((((v7.setCell ⟨v6.heap.size, 0, none⟩ (.int .i64 t.a)).setCell ⟨v6.heap.size, 1, none⟩ (.int .i64 t.b)).setCell ⟨v6.heap.size, 2, none⟩ (.int .i64 t.half)).setCell ⟨v6.heap.size, 3, none⟩ (.int .i64 t.peak))) := hid ((((HN.out.put (j := 0) (.int .i64 t.a)).put (j := 1) (.int .i64 t.b)).put (j := 2) (.int .i64 t.half)).put (j := 3) (.int .i64 t.peak))
        have HSW := hid (hS.1.step' ((((((Below.refl wd.heap.size v7).setCell (p := ⟨v6.heap.size, 0, none⟩) HL.out (.int .i64 t.a)).setCell (p := ⟨v6.heap.size, 1, none⟩) HL.out (.int .i64 t.b)).setCell (p := ⟨v6.heap.size, 2, none⟩) HL.out (.int .i64 t.half)).setCell (p := ⟨v6.heap.size, 3, none⟩) HL.out (.int .i64 t.peak)).mono (by have := HD.out.size; exact this)))
        have HSB := hid (hS.2.trans (((((Below.refl wd.heap.size v7).setCell (p := ⟨v6.heap.size, 0, none⟩) HL.out (.int .i64 t.a)).setCell (p := ⟨v6.heap.size, 1, none⟩) HL.out (.int .i64 t.b)).setCell (p := ⟨v6.heap.size, 2, none⟩) HL.out (.int .i64 t.half)).setCell (p := ⟨v6.heap.size, 3, none⟩) HL.out (.int .i64 t.peak)))
        clear hS
        go_simp
        clear k0 f0 k1 f1 k2 f2 k3 f3
        generalize ((((v7.setCell ⟨v6.heap.size, 0, none⟩ (.int .i64 t.a)).setCell ⟨v6.heap.size, 1, none⟩ (.int .i64 t.b)).setCell ⟨v6.heap.size, 2, none⟩ (.int .i64 t.half)).setCell ⟨v6.heap.size, 3, none⟩ (.int .i64 t.peak)) = V9 at HP HSW HSB ⊢
        replace HN := HP
        refine hK.out _ _ (⟨HSW.out, HSB.out⟩) (fun hS => ?_)
        clear hK K
        try simp only [List.setIfInBounds_toArray, List.set_cons_zero, List.set_cons_succ]
        refine wpAnyH_done (by kernel_rfl) ?_ _
        go_wp2
        go_meet
        case rel => exact ⟨_, rfl, HN.out, hS.1, HWD.out.trans (hS.2.mono HWD.out.size), Nat.le_trans HWD.out.size HL.out⟩
      refine AllReadyH.cons (o := _) rfl (fun K hK => ?_) AllReadyH.nil
      obtain ⟨v7, hv7⟩ : ∃ V, v4.alloc (.cells #[.int .i64 0, .int .i64 0, .int .i64 0, .int .i64 0] 92) = V := ⟨_, rfl⟩
      have hb : Below v4.heap.size v4 v7 := by rw [← hv7]; exact (Below.refl _ _).alloc (Nat.le_refl _) _
      have HN : Hid (BoxIs v4.heap.size #[.int .i64 0, .int .i64 0, .int .i64 0, .int .i64 0] v7) := by show BoxIs _ _ _; rw [← hv7]; exact BoxIs.start _ _ _
      have HL : Hid (wd.heap.size ≤ v4.heap.size) := hid hS.2.size
      go_simp
      refine hK.out _ _ (⟨hS.1.step hb, hS.2.trans (hb.mono hS.2.size)⟩) (fun hS => ?_)
      clear hK K
      try simp only [List.setIfInBounds_toArray, List.set_cons_zero, List.set_cons_succ]
      refine wpAnyH_ready (rs := [6]) (by kernel_rfl) (by simp) ?_
      refine AllReadyH.cons (o := _) rfl (fun K hK => ?_) AllReadyH.nil
      go_simp
      (with_reducible refine (nth_any s p n c N _ HOK.out.ranges HOK.out.h12 HNB.out.1 HNB.out.2).mono ?_)
      rintro e v6 ⟨rfl, hb⟩
      rw [HNT.out]
      replace HN := hid (HN.out.below hb)
      refine hK.out _ _ (⟨hS.1.step hb, hS.2.trans (hb.mono hS.2.size)⟩) (fun hS => ?_)
      clear hK K
      try simp only [List.setIfInBounds_toArray, List.set_cons_zero, List.set_cons_succ]
      refine wpAnyH_ready (rs := [8]) (by kernel_rfl) (by simp) ?_
      refine AllReadyH.cons (o := _) rfl (fun K hK => ?_) AllReadyH.nil
      have k0 := (HN.out.2 0 (.int .i64 0) rfl).1; have f0 := (HN.out.2 0 (.int .i64 0) rfl).2
      have k1 := (HN.out.2 1 (.int .i64 0) rfl).1; have f1 := (HN.out.2 1 (.int .i64 0) rfl).2
      have k2 := (HN.out.2 2 (.int .i64 0) rfl).1; have f2 := (HN.out.2 2 (.int .i64 0) rfl).2
      have k3 := (HN.out.2 3 (.int .i64 0) rfl).1; have f3 := (HN.out.2 3 (.int .i64 0) rfl).2
      have HP : Hid (BoxIs v4.heap.size #[.int .i64 t.a, .int .i64 t.b, .int .i64 t.half, .int .i64 t.peak] ((((v6.setCell ⟨v4.heap.size, 0, none⟩ (.int .i64 t.a)).setCell ⟨v4.heap.size, 1, none⟩ (.int .i64 t.b)).setCell ⟨v4.heap.size, 2, none⟩ (.int .i64 t.half)).setCell ⟨v4.heap.size, 3, none⟩ (.int .i64 t.peak))) := hid ((((HN.out.put (j := 0) (.int .i64 t.a)).put (j := 1) (.int .i64 t.b)).put (j := 2) (.int .i64 t.half)).put (j := 3) (.int .i64 t.peak))
      have HSW := hid (hS.1.step' ((((((Below.refl wd.heap.size v6).setCell (p := ⟨v4.heap.size, 0, none⟩) HL.out (.int .i64 t.a)).setCell (p := ⟨v4.heap.size, 1, none⟩) HL.out (.int .i64 t.b)).setCell (p := ⟨v4.heap.size, 2, none⟩) HL.out (.int .i64 t.half)).setCell (p := ⟨v4.heap.size, 3, none⟩) HL.out (.int .i64 t.peak)).mono (by have := HD.out.size; exact this)))
      have HSB := hid (hS.2.trans (((((Below.refl wd.heap.size v6).setCell (p := ⟨v4.heap.size, 0, none⟩) HL.out (.int .i64 t.a)).setCell (p := ⟨v4.heap.size, 1, none⟩) HL.out (.int .i64 t.b)).setCell (p := ⟨v4.heap.size, 2, none⟩) HL.out (.int .i64 t.half)).setCell (p := ⟨v4.heap.size, 3, none⟩) HL.out (.int .i64 t.peak)))
      clear hS
      go_simp
      clear k0 f0 k1 f1 k2 f2 k3 f3
      generalize ((((v6.setCell ⟨v4.heap.size, 0, none⟩ (.int .i64 t.a)).setCell ⟨v4.heap.size, 1, none⟩ (.int .i64 t.b)).setCell ⟨v4.heap.size, 2, none⟩ (.int .i64 t.half)).setCell ⟨v4.heap.size, 3, none⟩ (.int .i64 t.peak)) = V9 at HP HSW HSB ⊢
      replace HN := HP
      refine hK.out _ _ (⟨HSW.out, HSB.out⟩) (fun hS => ?_)
      clear hK K
      try simp only [List.setIfInBounds_toArray, List.set_cons_zero, List.set_cons_succ]
      refine wpAnyH_done (by kernel_rfl) ?_ _
      go_wp2
      go_meet
      case rel => exact ⟨_, rfl, HN.out, hS.1, HWD.out.trans (hS.2.mono HWD.out.size), Nat.le_trans HWD.out.size HL.out⟩
    refine AllReadyH.cons (o := _) rfl (fun K hK => ?_) AllReadyH.nil
    obtain ⟨v7, hv7⟩ : ∃ V, wd.alloc (.cells #[.int .i64 0, .int .i64 0, .int .i64 0, .int .i64 0] 92) = V := ⟨_, rfl⟩
    have hb : Below wd.heap.size wd v7 := by rw [← hv7]; exact (Below.refl _ _).alloc (Nat.le_refl _) _
    have HN : Hid (BoxIs wd.heap.size #[.int .i64 0, .int .i64 0, .int .i64 0, .int .i64 0] v7) := by show BoxIs _ _ _; rw [← hv7]; exact BoxIs.start _ _ _
    have HL : Hid (wd.heap.size ≤ wd.heap.size) := hid hS.2.size
    go_simp
    refine hK.out _ _ (⟨hS.1.step hb, hS.2.trans (hb.mono hS.2.size)⟩) (fun hS => ?_)
    clear hK K
    try simp only [List.setIfInBounds_toArray, List.set_cons_zero, List.set_cons_succ]
    refine wpAnyH_ready (rs := [4]) (by kernel_rfl) (by simp) ?_
    refine AllReadyH.cons (o := _) rfl (fun K hK => ?_) AllReadyH.nil
    go_simp
    (with_reducible refine (many_any s p n c _ HOK.out.ranges HOK.out.h12).mono ?_)
    rintro e v4 ⟨rfl, hb⟩
    rw [HMM.out]
    replace HN := hid (HN.out.below hb)
    refine hK.out _ _ (⟨hS.1.step hb, hS.2.trans (hb.mono hS.2.size)⟩) (fun hS => ?_)
    clear hK K
    try simp only [List.setIfInBounds_toArray, List.set_cons_zero, List.set_cons_succ]
    refine tkH (i := 5) (v := ?_) (fun V hV => ?_) ?_
    rotate_left
    · obtain ⟨u1, u2, u3, u4⟩ := HQ.out; go_simp
      try with_reducible rfl
    try simp only [Act.put, List.getElem_toArray, List.getElem_cons_zero, List.getElem_cons_succ, List.setIfInBounds_toArray, List.set_cons_zero, List.set_cons_succ]
    refine wpAnyH_ready (rs := [6]) (by kernel_rfl) (by simp) ?_
    refine AllReadyH.cons (o := _) rfl (fun K hK => ?_) AllReadyH.nil
    go_simp
    (with_reducible refine (nth_any s p n c N _ HOK.out.ranges HOK.out.h12 HNB.out.1 HNB.out.2).mono ?_)
    rintro e v6 ⟨rfl, hb⟩
    rw [HNT.out]
    replace HN := hid (HN.out.below hb)
    refine hK.out _ _ (⟨hS.1.step hb, hS.2.trans (hb.mono hS.2.size)⟩) (fun hS => ?_)
    clear hK K
    try simp only [List.setIfInBounds_toArray, List.set_cons_zero, List.set_cons_succ]
    refine wpAnyH_ready (rs := [8]) (by kernel_rfl) (by simp) ?_
    refine AllReadyH.cons (o := _) rfl (fun K hK => ?_) AllReadyH.nil
    have k0 := (HN.out.2 0 (.int .i64 0) rfl).1; have f0 := (HN.out.2 0 (.int .i64 0) rfl).2
    have k1 := (HN.out.2 1 (.int .i64 0) rfl).1; have f1 := (HN.out.2 1 (.int .i64 0) rfl).2
    have k2 := (HN.out.2 2 (.int .i64 0) rfl).1; have f2 := (HN.out.2 2 (.int .i64 0) rfl).2
    have k3 := (HN.out.2 3 (.int .i64 0) rfl).1; have f3 := (HN.out.2 3 (.int .i64 0) rfl).2
    have HP : Hid (BoxIs wd.heap.size #[.int .i64 t.a, .int .i64 t.b, .int .i64 t.half, .int .i64 t.peak] ((((v6.setCell ⟨wd.heap.size, 0, none⟩ (.int .i64 t.a)).setCell ⟨wd.heap.size, 1, none⟩ (.int .i64 t.b)).setCell ⟨wd.heap.size, 2, none⟩ (.int .i64 t.half)).setCell ⟨wd.heap.size, 3, none⟩ (.int .i64 t.peak))) := hid ((((HN.out.put (j := 0) (.int .i64 t.a)).put (j := 1) (.int .i64 t.b)).put (j := 2) (.int .i64 t.half)).put (j := 3) (.int .i64 t.peak))
    have HSW := hid (hS.1.step' ((((((Below.refl wd.heap.size v6).setCell (p := ⟨wd.heap.size, 0, none⟩) HL.out (.int .i64 t.a)).setCell (p := ⟨wd.heap.size, 1, none⟩) HL.out (.int .i64 t.b)).setCell (p := ⟨wd.heap.size, 2, none⟩) HL.out (.int .i64 t.half)).setCell (p := ⟨wd.heap.size, 3, none⟩) HL.out (.int .i64 t.peak)).mono (by have := HD.out.size; exact this)))
    have HSB := hid (hS.2.trans (((((Below.refl wd.heap.size v6).setCell (p := ⟨wd.heap.size, 0, none⟩) HL.out (.int .i64 t.a)).setCell (p := ⟨wd.heap.size, 1, none⟩) HL.out (.int .i64 t.b)).setCell (p := ⟨wd.heap.size, 2, none⟩) HL.out (.int .i64 t.half)).setCell (p := ⟨wd.heap.size, 3, none⟩) HL.out (.int .i64 t.peak)))
    clear hS
    go_simp
    clear k0 f0 k1 f1 k2 f2 k3 f3
    generalize ((((v6.setCell ⟨wd.heap.size, 0, none⟩ (.int .i64 t.a)).setCell ⟨wd.heap.size, 1, none⟩ (.int .i64 t.b)).setCell ⟨wd.heap.size, 2, none⟩ (.int .i64 t.half)).setCell ⟨wd.heap.size, 3, none⟩ (.int .i64 t.peak)) = V9 at HP HSW HSB ⊢
    replace HN := HP
    refine hK.out _ _ (⟨HSW.out, HSB.out⟩) (fun hS => ?_)
    clear hK K
    try simp only [List.setIfInBounds_toArray, List.set_cons_zero, List.set_cons_succ]
    refine wpAnyH_done (by kernel_rfl) ?_ _
    go_wp2
    go_meet
    case rel => exact ⟨_, rfl, HN.out, hS.1, HWD.out.trans (hS.2.mono HWD.out.size), Nat.le_trans HWD.out.size HL.out⟩
  case rest =>
    obtain ⟨bt, rfl, hn, hw, hbw, hbtg⟩ := hcut
    have HT := hid hn; have H1 := hid hw; have HZ6 : Hid (w.heap.size + 2 < w0.heap.size) := hid HO7.out.1; have HBTG : Hid (w.heap.size + 2 < bt) := hid (Nat.lt_of_lt_of_le HZ6.out hbtg); replace HO6 := hid (HO6.out.below hbw); replace HO7 := hid (HO7.out.below hbw)
    clear hn hw hbw hbtg
    generalize wc = w1 at HT H1 HO6 HO7 ⊢
    have HBT0 : Hid (bt < w1.heap.size) := hid HT.out.1
    have HZW : Hid (w.heap.size + 2 < w1.heap.size) := hid HO7.out.1
    have e0 := (StoAt.of H1.out.cell).c0; have e1 := (StoAt.of H1.out.cell).c1; have e2 := (StoAt.of H1.out.cell).c2; have e3 := (StoAt.of H1.out.cell).c3; have e4 := (StoAt.of H1.out.cell).c4; have e5 := (StoAt.of H1.out.cell).c5; have e6 := (StoAt.of H1.out.cell).c6; have e7 := (StoAt.of H1.out.cell).c7; have e8 := (StoAt.of H1.out.cell).c8; have e9 := (StoAt.of H1.out.cell).c9; have e10 := (StoAt.of H1.out.cell).c10; have e11 := (StoAt.of H1.out.cell).c11
    obtain ⟨w2, hw2⟩ : ∃ V, (w1.alloc (.cells #[.int .i64 s.wide, .int .i64 s.high, .int .i64 s.fall, .int .i64 s.a.lo, .int .i64 s.a.hi, .int .i64 s.b.lo, .int .i64 s.b.hi, .int .i64 s.half.lo, .int .i64 s.half.hi, .int .i64 s.peak.lo, .int .i64 s.peak.hi, .slice p n c] 26)) = V := ⟨_, rfl⟩
    have H2 : Hid (Boxed1 w #[.int .i64 s.wide, .int .i64 s.high, .int .i64 s.fall, .int .i64 s.a.lo, .int .i64 s.a.hi, .int .i64 s.b.lo, .int .i64 s.b.hi, .int .i64 s.half.lo, .int .i64 s.half.hi, .int .i64 s.peak.lo, .int .i64 s.peak.hi, .slice p n c] 26 w2) := by show Boxed1 w #[.int .i64 s.wide, .int .i64 s.high, .int .i64 s.fall, .int .i64 s.a.lo, .int .i64 s.a.hi, .int .i64 s.b.lo, .int .i64 s.b.hi, .int .i64 s.half.lo, .int .i64 s.half.hi, .int .i64 s.peak.lo, .int .i64 s.peak.hi, .slice p n c] 26 w2; rw [← hw2]; exact H1.out.alloc _
    have HX : Hid (BoxIs w1.heap.size #[.int .i64 s.wide, .int .i64 s.high, .int .i64 s.fall, .int .i64 s.a.lo, .int .i64 s.a.hi, .int .i64 s.b.lo, .int .i64 s.b.hi, .int .i64 s.half.lo, .int .i64 s.half.hi, .int .i64 s.peak.lo, .int .i64 s.peak.hi, .slice p n c] w2) := by show BoxIs _ _ _; rw [← hw2]; exact BoxIs.start _ _ _
    have HBB : Hid (Below w1.heap.size w1 w2) := hid (by rw [← hw2]; exact (Below.refl _ _).alloc (Nat.le_refl _) _)
    replace HT := hid (HT.out.below HBB.out)
    replace HO6 := hid (HO6.out.below HBB.out)
    replace HO7 := hid (HO7.out.below HBB.out)
    go_upto_region 3 with fail
    clear hw2 HBB e0 e1 e2 e3 e4 e5 e6 e7 e8 e9 e10 e11
    have HLX : Hid (w.heap.size + 1 ≤ w1.heap.size) := hid H1.out.size
    have HXL : Hid (w1.heap.size < w2.heap.size) := hid HX.out.1
    have k11 := (HX.out.2 11 (.slice p n c) rfl).1; have f11 := (HX.out.2 11 (.slice p n c) rfl).2
    go_upto_region 4 with fail
    clear k11 f11
    have HXn : Hid (BoxIs w1.heap.size #[.int .i64 s.wide, .int .i64 s.high, .int .i64 s.fall, .int .i64 s.a.lo, .int .i64 s.a.hi, .int .i64 s.b.lo, .int .i64 s.b.hi, .int .i64 s.half.lo, .int .i64 s.half.hi, .int .i64 s.peak.lo, .int .i64 s.peak.hi, .slice none 0 0] (w2.setCell ⟨w1.heap.size, 11, none⟩ (.slice none 0 0))) := hid (HX.out.put (j := 11) (.slice none 0 0))
    have HWn : Hid (Boxed1 w #[.int .i64 s.wide, .int .i64 s.high, .int .i64 s.fall, .int .i64 s.a.lo, .int .i64 s.a.hi, .int .i64 s.b.lo, .int .i64 s.b.hi, .int .i64 s.half.lo, .int .i64 s.half.hi, .int .i64 s.peak.lo, .int .i64 s.peak.hi, .slice p n c] 26 (w2.setCell ⟨w1.heap.size, 11, none⟩ (.slice none 0 0))) := hid (H2.out.step' (Below.setCell (Below.refl _ _) (p := ⟨w1.heap.size, 11, none⟩) HLX.out _))
    have HTn := hid (HT.out.other (b' := w1.heap.size) (k' := 11) (Nat.ne_of_lt HBT0.out) (.slice none 0 0)); have HO6n := hid (HO6.out.other (b' := w1.heap.size) (k' := 11) (by have := HZW.out; omega) (.slice none 0 0)); have HO7n := hid (HO7.out.other (b' := w1.heap.size) (k' := 11) (by have := HZW.out; omega) (.slice none 0 0))
    clear HT HO6 HO7 HX
    generalize (w2.setCell ⟨w1.heap.size, 11, none⟩ (.slice none 0 0)) = wl at HXn HWn HTn HO6n HO7n ⊢
    have HBL : Hid (w1.heap.size < wl.heap.size) := hid HXn.out.1
    obtain ⟨V0, hV0⟩ : ∃ v, wordV l 0 = v := ⟨_, rfl⟩
    have hvb := wordV_bd HWD9.out 0
    rw [hV0] at hvb
    obtain ⟨M7, hM7⟩ : ∃ k : Nat, V0 % 7 = (k : Int) := ⟨(V0 % 7).toNat, by have := Int.emod_nonneg V0 (show (7 : Int) ≠ 0 by decide); omega⟩
    have hM6 : M7 ≤ 6 := by have := Int.emod_lt_of_pos V0 (show (0 : Int) < 7 by decide); omega
    have HV0 := hid hV0
    have HM7 : Hid ((wordV l 0 % 7).toNat = M7) := hid (by rw [hV0, hM7]; rfl)
    have HQ7 : Hid (V0.tmod 7 = (M7 : Int) ∧ IntKind.i64.wrap (M7 : Int) = M7) := hid ⟨by rw [Int.tmod_eq_emod_of_nonneg hvb.1, hM7], IntWalk.i64_in _ (by omega)⟩
    clear hV0 hvb hM7
    go_wp2_with fail
    go_loopw [10] (fun i wr => ∃ (k : Nat) (q : Option Addr) (m d : Nat), k ≤ M7 ∧ i = .int .i64 k ∧ BoxIs w1.heap.size #[.int .i64 s.wide, .int .i64 s.high, .int .i64 s.fall, .int .i64 s.a.lo, .int .i64 s.a.hi, .int .i64 s.b.lo, .int .i64 s.b.hi, .int .i64 s.half.lo, .int .i64 s.half.hi, .int .i64 s.peak.lo, .int .i64 s.peak.hi, .slice q m d] wr ∧ OwnRows cellsK 7 61 wr wl.heap.size (.slice q m d) (cardsW s t l k) ∧ Boxed1 w #[.int .i64 s.wide, .int .i64 s.high, .int .i64 s.fall, .int .i64 s.a.lo, .int .i64 s.a.hi, .int .i64 s.b.lo, .int .i64 s.b.hi, .int .i64 s.half.lo, .int .i64 s.half.hi, .int .i64 s.peak.lo, .int .i64 s.peak.hi, .slice p n c] 26 wr ∧ Below w1.heap.size wl wr) (fun i _ => M7 - (intOf i).toNat)
    case atStart => exact ⟨0, none, 0, 0, by omega, rfl, HXn.out, ownRows_nil _ _ _ _ _, HWn.out, Below.refl _ _⟩
    case round =>
    obtain ⟨k, q, m, d, hk, rfl, hx, ho, hw, hbw⟩ := hrel
    have HXr := hid hx; have HOr := hid ho; have HWr := hid hw; have HBr := hid hbw
    clear hx ho hw hbw
    go_wp2_with fail
    refine (show Calls Try.prog 105 #[.slice q0 m0 e0, .int .i64 0] wr (fun e w' => e = .returned (.int .i64 (wordV l 0)) ∧ w' = wr) from word_any q0 m0 e0 l 0 wr (HWD9.out.below HWr.out.below) (by omega)).mono ?_
    rintro e wx ⟨rfl, he⟩
    have he := he.symm
    subst he
    rw [HV0.out]
    obtain ⟨u1, u2⟩ := HQ7.out
    by_cases hlt : k < M7
    · skip
      obtain ⟨v, hv⟩ : ∃ v, wordV l (k + 1) = v := ⟨_, rfl⟩
      have hvb := wordV_bd HWD9.out (k + 1)
      rw [hv] at hvb
      have HV := hid hv
      have hw1 : IntKind.i64.wrap ((k : Int) + 1) = (k : Int) + 1 := IntWalk.i64_in _ (by omega)
      go_wp2_with fail
      refine (show Calls Try.prog 105 #[.slice q0 m0 e0, .int .i64 ((k : Int) + 1)] wr (fun e w' => e = .returned (.int .i64 (wordV l (k + 1))) ∧ w' = wr) from word_any q0 m0 e0 l (k + 1) wr (HWD9.out.below HWr.out.below) (by omega)).mono ?_
      rintro e wx ⟨rfl, he⟩
      have he := he.symm
      subst he
      rw [HV.out]
      clear u1 u2 hv
      have q1 := HOK.out.w2; have q2 := HOK.out.w12; have q3 := HOK.out.h1; have q4 := HOK.out.h12
      obtain ⟨a, ha⟩ : ∃ a, v % s.wide = a := ⟨_, rfl⟩
      obtain ⟨b, hb⟩ : ∃ b, v / 16 % s.high = b := ⟨_, rfl⟩
      have ha0 : 0 ≤ a ∧ a ≤ s.wide - 1 := by rw [← ha]; exact ⟨Int.emod_nonneg _ (by omega), by have := Int.emod_lt_of_pos v (show 0 < s.wide by omega); omega⟩
      have hb0 : 0 ≤ b ∧ b ≤ s.high - 1 := by rw [← hb]; exact ⟨Int.emod_nonneg _ (by omega), by have := Int.emod_lt_of_pos (v / 16) (show 0 < s.high by omega); omega⟩
      have HAB : Hid (v.tmod s.wide = a ∧ IntKind.i64.wrap a = a ∧ v.tdiv 16 = v / 16 ∧ IntKind.i64.wrap (v / 16) = v / 16 ∧ (v / 16).tmod s.high = b ∧ IntKind.i64.wrap b = b ∧ ¬ s.wide = 0 ∧ ¬ s.high = 0) := hid ⟨by rw [Int.tmod_eq_emod_of_nonneg hvb.1, ha], IntWalk.i64_in _ (by omega), Int.tdiv_eq_ediv_of_nonneg hvb.1, IntWalk.i64_in _ (by omega), by rw [Int.tmod_eq_emod_of_nonneg (by omega), hb], IntWalk.i64_in _ (by omega), by omega, by omega⟩
      have HA := hid ha; have HB := hid hb
      have HAB0 := hid (And.intro ha0 hb0)
      clear ha hb hw1
      go_wp2_with fail
      refine wp_region_held_drew (S := fun V => Boxed1 w #[.int .i64 s.wide, .int .i64 s.high, .int .i64 s.fall, .int .i64 s.a.lo, .int .i64 s.a.hi, .int .i64 s.b.lo, .int .i64 s.b.hi, .int .i64 s.half.lo, .int .i64 s.half.hi, .int .i64 s.peak.lo, .int .i64 s.peak.hi, .slice p n c] 26 V) (by kernel_rfl) (HWr.out.drew) (fun hS => ?_)
      simp only [List.size_toArray, List.length_cons, List.length_nil, Nat.reduceAdd, Array.replicate_succ, Array.replicate_zero, List.push_toArray, List.nil_append, List.cons_append]
      refine tkH (i := 0) (v := ?_) (fun V hV => ?_) ?_
      rotate_left
      · go_simp
        try with_reducible rfl
      try simp only [Act.put, List.getElem_toArray, List.getElem_cons_zero, List.setIfInBounds_toArray, List.set_cons_zero, List.set_cons_succ]
      refine tkH (i := 1) (v := ?_) (fun V hV => ?_) ?_
      rotate_left
      · go_simp
        try with_reducible rfl
      try simp only [Act.put, List.getElem_toArray, List.getElem_cons_zero, List.getElem_cons_succ, List.setIfInBounds_toArray, List.set_cons_zero, List.set_cons_succ]
      refine tkH (i := 2) (v := ?_) (fun V hV => ?_) ?_
      rotate_left
      · have e0 := (StoAt.of hV.cell).c0; have e1 := (StoAt.of hV.cell).c1; go_simp
        try with_reducible rfl
      try simp only [Act.put, List.getElem_toArray, List.getElem_cons_zero, List.getElem_cons_succ, List.setIfInBounds_toArray, List.set_cons_zero, List.set_cons_succ]
      refine tkH (i := 3) (v := ?_) (fun V hV => ?_) ?_
      rotate_left
      · obtain ⟨z1, z2, z3, z4, z5, z6, z7, z8⟩ := HAB.out; go_simp
        try with_reducible rfl
      try simp only [Act.put, List.getElem_toArray, List.getElem_cons_zero, List.getElem_cons_succ, List.setIfInBounds_toArray, List.set_cons_zero, List.set_cons_succ]
      refine tkH (i := 4) (v := ?_) (fun V hV => ?_) ?_
      rotate_left
      · go_simp
        try with_reducible rfl
      try simp only [Act.put, List.getElem_toArray, List.getElem_cons_zero, List.getElem_cons_succ, List.setIfInBounds_toArray, List.set_cons_zero, List.set_cons_succ]
      refine tkH (i := 5) (v := ?_) (fun V hV => ?_) ?_
      rotate_left
      · obtain ⟨z1, z2, z3, z4, z5, z6, z7, z8⟩ := HAB.out; go_simp
        try with_reducible rfl
      try simp only [Act.put, List.getElem_toArray, List.getElem_cons_zero, List.getElem_cons_succ, List.setIfInBounds_toArray, List.set_cons_zero, List.set_cons_succ]
      refine tkH (i := 6) (v := ?_) (fun V hV => ?_) ?_
      rotate_left
      · go_simp
        try with_reducible rfl
      try simp only [Act.put, List.getElem_toArray, List.getElem_cons_zero, List.getElem_cons_succ, List.setIfInBounds_toArray, List.set_cons_zero, List.set_cons_succ]
      refine tkH (i := 7) (v := ?_) (fun V hV => ?_) ?_
      rotate_left
      · have e0 := (StoAt.of hV.cell).c0; have e1 := (StoAt.of hV.cell).c1; go_simp
        try with_reducible rfl
      try simp only [Act.put, List.getElem_toArray, List.getElem_cons_zero, List.getElem_cons_succ, List.setIfInBounds_toArray, List.set_cons_zero, List.set_cons_succ]
      refine tkH (i := 8) (v := ?_) (fun V hV => ?_) ?_
      rotate_left
      · obtain ⟨z1, z2, z3, z4, z5, z6, z7, z8⟩ := HAB.out; go_simp
        try with_reducible rfl
      try simp only [Act.put, List.getElem_toArray, List.getElem_cons_zero, List.getElem_cons_succ, List.setIfInBounds_toArray, List.set_cons_zero, List.set_cons_succ]
      refine tkH (i := 9) (v := ?_) (fun V hV => ?_) ?_
      rotate_left
      · go_simp
        try with_reducible rfl
      try simp only [Act.put, List.getElem_toArray, List.getElem_cons_zero, List.getElem_cons_succ, List.setIfInBounds_toArray, List.set_cons_zero, List.set_cons_succ]
      refine tkH (i := 10) (v := ?_) (fun V hV => ?_) ?_
      rotate_left
      · go_simp
        try with_reducible rfl
      try simp only [Act.put, List.getElem_toArray, List.getElem_cons_zero, List.getElem_cons_succ, List.setIfInBounds_toArray, List.set_cons_zero, List.set_cons_succ]
      refine wpAnyH_done (by kernel_rfl) ?_ _
      have HW8 := hid hS
      clear hS
      obtain ⟨d0, hd0⟩ : ∃ z, v / 256 % 2 = z := ⟨_, rfl⟩
      have hD0 : 0 ≤ d0 ∧ d0 ≤ 1 := by rw [← hd0]; exact ⟨Int.emod_nonneg _ (by decide), by have := Int.emod_lt_of_pos (v / 256) (show (0 : Int) < 2 by decide); omega⟩
      have HE0 : Hid (v.tdiv 256 = v / 256 ∧ IntKind.i64.wrap (v / 256) = v / 256 ∧ (v / 256).tmod 2 = d0 ∧ IntKind.i64.wrap d0 = d0) := hid ⟨Int.tdiv_eq_ediv_of_nonneg hvb.1, IntWalk.i64_in _ (by omega), by rw [Int.tmod_eq_emod_of_nonneg (by omega), hd0], IntWalk.i64_in _ (by omega)⟩
      have HD0 := hid hd0; have HDB0 := hid hD0
      clear hd0
      obtain ⟨d1, hd1⟩ : ∃ z, v / 512 % 2 = z := ⟨_, rfl⟩
      have hD1 : 0 ≤ d1 ∧ d1 ≤ 1 := by rw [← hd1]; exact ⟨Int.emod_nonneg _ (by decide), by have := Int.emod_lt_of_pos (v / 512) (show (0 : Int) < 2 by decide); omega⟩
      have HE1 : Hid (v.tdiv 512 = v / 512 ∧ IntKind.i64.wrap (v / 512) = v / 512 ∧ (v / 512).tmod 2 = d1 ∧ IntKind.i64.wrap d1 = d1) := hid ⟨Int.tdiv_eq_ediv_of_nonneg hvb.1, IntWalk.i64_in _ (by omega), by rw [Int.tmod_eq_emod_of_nonneg (by omega), hd1], IntWalk.i64_in _ (by omega)⟩
      have HD1 := hid hd1; have HDB1 := hid hD1
      clear hd1
      obtain ⟨d2, hd2⟩ : ∃ z, v / 1024 % 2 = z := ⟨_, rfl⟩
      have hD2 : 0 ≤ d2 ∧ d2 ≤ 1 := by rw [← hd2]; exact ⟨Int.emod_nonneg _ (by decide), by have := Int.emod_lt_of_pos (v / 1024) (show (0 : Int) < 2 by decide); omega⟩
      have HE2 : Hid (v.tdiv 1024 = v / 1024 ∧ IntKind.i64.wrap (v / 1024) = v / 1024 ∧ (v / 1024).tmod 2 = d2 ∧ IntKind.i64.wrap d2 = d2) := hid ⟨Int.tdiv_eq_ediv_of_nonneg hvb.1, IntWalk.i64_in _ (by omega), by rw [Int.tmod_eq_emod_of_nonneg (by omega), hd2], IntWalk.i64_in _ (by omega)⟩
      have HD2 := hid hd2; have HDB2 := hid hD2
      clear hd2
      obtain ⟨d3, hd3⟩ : ∃ z, v / 2048 % 2 = z := ⟨_, rfl⟩
      have hD3 : 0 ≤ d3 ∧ d3 ≤ 1 := by rw [← hd3]; exact ⟨Int.emod_nonneg _ (by decide), by have := Int.emod_lt_of_pos (v / 2048) (show (0 : Int) < 2 by decide); omega⟩
      have HE3 : Hid (v.tdiv 2048 = v / 2048 ∧ IntKind.i64.wrap (v / 2048) = v / 2048 ∧ (v / 2048).tmod 2 = d3 ∧ IntKind.i64.wrap d3 = d3) := hid ⟨Int.tdiv_eq_ediv_of_nonneg hvb.1, IntWalk.i64_in _ (by omega), by rw [Int.tmod_eq_emod_of_nonneg (by omega), hd3], IntWalk.i64_in _ (by omega)⟩
      have HD3 := hid hd3; have HDB3 := hid hD3
      clear hd3
      obtain ⟨d4, hd4⟩ : ∃ z, v / 4096 % 2 = z := ⟨_, rfl⟩
      have hD4 : 0 ≤ d4 ∧ d4 ≤ 1 := by rw [← hd4]; exact ⟨Int.emod_nonneg _ (by decide), by have := Int.emod_lt_of_pos (v / 4096) (show (0 : Int) < 2 by decide); omega⟩
      have HE4 : Hid (v.tdiv 4096 = v / 4096 ∧ IntKind.i64.wrap (v / 4096) = v / 4096 ∧ (v / 4096).tmod 2 = d4 ∧ IntKind.i64.wrap d4 = d4) := hid ⟨Int.tdiv_eq_ediv_of_nonneg hvb.1, IntWalk.i64_in _ (by omega), by rw [Int.tmod_eq_emod_of_nonneg (by omega), hd4], IntWalk.i64_in _ (by omega)⟩
      have HD4 := hid hd4; have HDB4 := hid hD4
      clear hd4
      obtain ⟨d5, hd5⟩ : ∃ z, v / 8192 % 2 = z := ⟨_, rfl⟩
      have hD5 : 0 ≤ d5 ∧ d5 ≤ 1 := by rw [← hd5]; exact ⟨Int.emod_nonneg _ (by decide), by have := Int.emod_lt_of_pos (v / 8192) (show (0 : Int) < 2 by decide); omega⟩
      have HE5 : Hid (v.tdiv 8192 = v / 8192 ∧ IntKind.i64.wrap (v / 8192) = v / 8192 ∧ (v / 8192).tmod 2 = d5 ∧ IntKind.i64.wrap d5 = d5) := hid ⟨Int.tdiv_eq_ediv_of_nonneg hvb.1, IntWalk.i64_in _ (by omega), by rw [Int.tmod_eq_emod_of_nonneg (by omega), hd5], IntWalk.i64_in _ (by omega)⟩
      have HD5 := hid hd5; have HDB5 := hid hD5
      clear hd5
      have ha0 := HAB0.out.1; have hb0 := HAB0.out.2
      obtain ⟨xl, hxl⟩ : ∃ z, maxI 0 (a - d0) = z := ⟨_, rfl⟩
      obtain ⟨xh, hxh⟩ : ∃ z, minI (s.wide - 1) (a + d1) = z := ⟨_, rfl⟩
      obtain ⟨yl, hyl⟩ : ∃ z, maxI 0 (b - d2) = z := ⟨_, rfl⟩
      obtain ⟨yh, hyh⟩ : ∃ z, minI (s.high - 1) (b + d3) = z := ⟨_, rfl⟩
      have e1 : (if d0 < a then a - d0 else 0) = xl := by rw [← hxl]; unfold maxI; split <;> split <;> omega
      have e2 : (if a + d1 < s.wide - 1 then a + d1 else s.wide - 1) = xh := hxh
      have e3 : (if d2 < b then b - d2 else 0) = yl := by rw [← hyl]; unfold maxI; split <;> split <;> omega
      have e4 : (if b + d3 < s.high - 1 then b + d3 else s.high - 1) = yh := hyh
      have HXX := hid (And.intro hxl (And.intro hxh (And.intro hyl hyh)))
      clear hxl hxh hyl hyh
      obtain ⟨p00, p01, p02, p03⟩ := HE0.out
      obtain ⟨p10, p11, p12, p13⟩ := HE1.out
      obtain ⟨p20, p21, p22, p23⟩ := HE2.out
      obtain ⟨p30, p31, p32, p33⟩ := HE3.out
      have c0 := (StoAt.of HW8.out.cell).c0; have c1 := (StoAt.of HW8.out.cell).c1
      go_upto_region 10 with fail
      clear c0 c1 e1 e2 e3 e4 p00 p01 p02 p03 p10 p11 p12 p13 p20 p21 p22 p23 p30 p31 p32 p33
      have HZ : Hid (BoxIs wr.heap.size #[.int .i64 xl, .int .i64 xh, .int .i64 yl, .int .i64 yh, .bool false, .int .i64 0, .int .i64 0] ((wr.alloc (.cells #[.int .i64 xl, .int .i64 xh, .int .i64 yl, .int .i64 yh, .bool false, .int .i64 0, .int .i64 0] 61)).drew)) := hid ((BoxIs.start _ _ _).below (Below.refl _ _).drew)
      have HBB : Hid (Below wr.heap.size wr ((wr.alloc (.cells #[.int .i64 xl, .int .i64 xh, .int .i64 yl, .int .i64 yh, .bool false, .int .i64 0, .int .i64 0] 61)).drew)) := hid ((Below.refl _ _).alloc (Nat.le_refl _) _).drew
      generalize (wr.alloc (.cells #[.int .i64 xl, .int .i64 xh, .int .i64 yl, .int .i64 yh, .bool false, .int .i64 0, .int .i64 0] 61)).drew = w8 at HZ HBB ⊢
      clear HW8
      have HW8 := hid (HWr.out.step HBB.out)
      have HT8 := hid ((HTn.out.keep HBr.out HBT0.out).below HBB.out)
      have e0 := (StoAt.of HW8.out.cell).c0; have e1 := (StoAt.of HW8.out.cell).c1; have e2 := (StoAt.of HW8.out.cell).c2; have e3 := (StoAt.of HW8.out.cell).c3; have e4 := (StoAt.of HW8.out.cell).c4; have e5 := (StoAt.of HW8.out.cell).c5; have e6 := (StoAt.of HW8.out.cell).c6; have e7 := (StoAt.of HW8.out.cell).c7; have e8 := (StoAt.of HW8.out.cell).c8; have e9 := (StoAt.of HW8.out.cell).c9; have e10 := (StoAt.of HW8.out.cell).c10; have e11 := (StoAt.of HW8.out.cell).c11
      have x0 := (HT8.out.2 0 (.int .i64 t.a) rfl).1; have x1 := (HT8.out.2 1 (.int .i64 t.b) rfl).1; have x2 := (HT8.out.2 2 (.int .i64 t.half) rfl).1; have x3 := (HT8.out.2 3 (.int .i64 t.peak) rfl).1
      go_wp2_with fail
      (with_reducible refine (sizeR_any s p n c t a b _ HOK.out.small (HOK.out.smallT HTT.out) (by omega) (by omega) (by omega) (by omega)).mono ?_)
      rintro e w9 ⟨rfl, hb⟩
      have HW9 := hid (HW8.out.step hb); replace HZ := hid (HZ.out.below hb); have HB9 := hid (HBB.out.trans (hb.mono HBB.out.size))
      clear hb HW8 HT8 e0 e1 e2 e3 e4 e5 e6 e7 e8 e9 e10 e11 x0 x1 x2 x3
      obtain ⟨nz, hnz⟩ : ∃ z, sizeS s t a b = z := ⟨_, rfl⟩
      have hnb := size_bound (s := s) (t := t) (x := a) (y := b) HOK.out.f0 HOK.out.w2 (by have h := HTT.out; have hp := Rng.of_iff.1 HOK.out.peak; simp only [truB, inB, Bool.and_eq_true, decide_eq_true_eq] at h; omega)
      have hnb2 : t.peak ≤ 9 := by have h := HTT.out; have hp := Rng.of_iff.1 HOK.out.peak; simp only [truB, inB, Bool.and_eq_true, decide_eq_true_eq] at h; omega
      rw [hnz] at hnb ⊢
      have HNZ := hid hnz
      clear hnz
      by_cases hn : 0 < nz
      · skip
        obtain ⟨sl, hsl⟩ : ∃ z, maxI 0 (nz - d4) = z := ⟨_, rfl⟩
        obtain ⟨sh, hsh⟩ : ∃ z, minI 9 (nz + d5) = z := ⟨_, rfl⟩
        have HKV : Hid (cardW s t v = (⟨⟨xl, xh⟩, ⟨yl, yh⟩, true, ⟨sl, sh⟩⟩ : Crd)) := hid (by unfold cardW wordX wordY; rw [HA.out, HB.out, HNZ.out, HD0.out, HD1.out, HD2.out, HD3.out, HXX.out.1, HXX.out.2.1, HXX.out.2.2.1, HXX.out.2.2.2, HD4.out, HD5.out, hsl, hsh, if_pos hn, decide_eq_true hn])
        have h4 := HDB4.out; have h5 := HDB5.out
        have e5 : (if d4 < nz then nz - d4 else 0) = sl := by rw [← hsl]; unfold maxI; split <;> split <;> omega
        have e6 : (if nz + d5 < 9 then nz + d5 else 9) = sh := hsh
        clear hsl hsh
        obtain ⟨p40, p41, p42, p43⟩ := HE4.out; obtain ⟨p50, p51, p52, p53⟩ := HE5.out
        have k4 := (HZ.out.2 4 (.bool false) rfl).1; have f4 := (HZ.out.2 4 (.bool false) rfl).2; have k5 := (HZ.out.2 5 (.int .i64 0) rfl).1; have f5 := (HZ.out.2 5 (.int .i64 0) rfl).2; have k6 := (HZ.out.2 6 (.int .i64 0) rfl).1; have f6 := (HZ.out.2 6 (.int .i64 0) rfl).2
        have HZc : Hid (BoxIs wr.heap.size #[.int .i64 xl, .int .i64 xh, .int .i64 yl, .int .i64 yh, .bool true, .int .i64 sl, .int .i64 sh] (((w9.setCell ⟨wr.heap.size, 4, none⟩ (.bool true)).setCell ⟨wr.heap.size, 5, none⟩ (.int .i64 sl)).setCell ⟨wr.heap.size, 6, none⟩ (.int .i64 sh))) := hid (((HZ.out.put (j := 4) (.bool true)).put (j := 5) (.int .i64 sl)).put (j := 6) (.int .i64 sh))
        have HBC : Hid (Below wr.heap.size wr (((w9.setCell ⟨wr.heap.size, 4, none⟩ (.bool true)).setCell ⟨wr.heap.size, 5, none⟩ (.int .i64 sl)).setCell ⟨wr.heap.size, 6, none⟩ (.int .i64 sh))) := hid (((HB9.out.setCell (p := ⟨wr.heap.size, 4, none⟩) (Nat.le_refl _) _).setCell (p := ⟨wr.heap.size, 5, none⟩) (Nat.le_refl _) _).setCell (p := ⟨wr.heap.size, 6, none⟩) (Nat.le_refl _) _)
        go_upto_region 13 with fail
        clear k4 k5 k6 f4 f5 f6 h4 h5 e5 e6 p40 p41 p42 p43 p50 p51 p52 p53
        generalize (((w9.setCell ⟨wr.heap.size, 4, none⟩ (.bool true)).setCell ⟨wr.heap.size, 5, none⟩ (.int .i64 sl)).setCell ⟨wr.heap.size, 6, none⟩ (.int .i64 sh)) = w10 at HZc HBC ⊢
        have HW10 := hid (HWr.out.step HBC.out); have HX10 := hid (HXr.out.below HBC.out); have HO10 := hid (HOr.out.below HBC.out)
        have HKW : Hid (cardsW s t l k ++ [(⟨⟨xl, xh⟩, ⟨yl, yh⟩, true, ⟨sl, sh⟩⟩ : Crd)] = cardsW s t l (k + 1)) := hid (by rw [cardsW_succ, HV.out, HKV.out])
        have z11 := (HX10.out.2 11 (.slice q m d) rfl).1
        have y0 := (HZc.out.2 0 (.int .i64 xl) rfl).1; have y1 := (HZc.out.2 1 (.int .i64 xh) rfl).1; have y2 := (HZc.out.2 2 (.int .i64 yl) rfl).1; have y3 := (HZc.out.2 3 (.int .i64 yh) rfl).1; have y4 := (HZc.out.2 4 (.bool true) rfl).1; have y5 := (HZc.out.2 5 (.int .i64 sl) rfl).1; have y6 := (HZc.out.2 6 (.int .i64 sh) rfl).1
        have ho3 := HO10.out.below ((Below.refl _ _).alloc (Nat.le_refl _) (.cells #[.int .i64 xl, .int .i64 xh, .int .i64 yl, .int .i64 yh, .bool true, .int .i64 sl, .int .i64 sh] 61))
        have hle : (cardsW s t l k).length ≤ 1000000 := by simp [cardsW]; omega
        have hbs : wl.heap.size ≤ w10.heap.size := Nat.le_trans HBr.out.size HBC.out.size
        go_wp2_with (at_builtin; refine append_rows cellsK_len (by decide) cellsK_one 24 61 _ 56 (by decide) Try.info61 rfl Try.und24 (by rfl) _ _ (by rfl) wl.heap.size _ _ _ 1 1 [(⟨⟨xl, xh⟩, ⟨yl, yh⟩, true, ⟨sl, sh⟩⟩ : Crd)] ho3 (by rfl) (by rfl) (crd_lit (⟨⟨xl, xh⟩, ⟨yl, yh⟩, true, ⟨sl, sh⟩⟩ : Crd) 61) hle (by omega) (by rw [World.size_alloc]; omega) ?_; intro v1 w11 h1 h2 h3; rw [HKW.out] at h1; obtain ⟨q1, dd, hqd, _⟩ := h1.slice cellsK_len; obtain ⟨m1, hm1⟩ : ∃ m1, (cardsW s t l (k + 1)).length = m1 := ⟨_, rfl⟩; rw [hm1] at hqd; subst hqd; clear hm1 h3 z11; have hbk : Below wl.heap.size w10 w11 := (((Below.refl _ _).alloc hbs _).trans h2); have HX11 := hid (HX10.out.keep hbk HBL.out); have HO11 := hid h1; have HW11 := hid (HW10.out.step' (hbk.mono (by have := HLX.out; have := HBL.out; omega))); have HB11 := hid ((HBr.out.trans (HBC.out.mono (by have := HBr.out.size; have := HBL.out; omega))).trans (hbk.mono (Nat.le_of_lt HBL.out))); clear h1 h2 hbk ho3 hle hbs; have z11 := (HX11.out.2 11 (.slice q m d) rfl).1; have zz11 := (HX11.out.2 11 (.slice q m d) rfl).2)
        clear y0 y1 y2 y3 y4 y5 y6
        have HXF : Hid (BoxIs w1.heap.size #[.int .i64 s.wide, .int .i64 s.high, .int .i64 s.fall, .int .i64 s.a.lo, .int .i64 s.a.hi, .int .i64 s.b.lo, .int .i64 s.b.hi, .int .i64 s.half.lo, .int .i64 s.half.hi, .int .i64 s.peak.lo, .int .i64 s.peak.hi, .slice q1 m1 dd] (w11.setCell ⟨w1.heap.size, 11, none⟩ (.slice q1 m1 dd))) := hid (HX11.out.put (j := 11) (.slice q1 m1 dd))
        have HOF : Hid (OwnRows cellsK 7 61 (w11.setCell ⟨w1.heap.size, 11, none⟩ (.slice q1 m1 dd)) wl.heap.size (.slice q1 m1 dd) (cardsW s t l (k + 1))) := hid (HO11.out.block fun g hg => Below.heap_setCell _ _ _ _ (by have h1 := (HO11.out.lt g hg).1; have := HBL.out; show g ≠ w1.heap.size; omega))
        have HWF : Hid (Boxed1 w #[.int .i64 s.wide, .int .i64 s.high, .int .i64 s.fall, .int .i64 s.a.lo, .int .i64 s.a.hi, .int .i64 s.b.lo, .int .i64 s.b.hi, .int .i64 s.half.lo, .int .i64 s.half.hi, .int .i64 s.peak.lo, .int .i64 s.peak.hi, .slice p n c] 26 (w11.setCell ⟨w1.heap.size, 11, none⟩ (.slice q1 m1 dd))) := hid (HW11.out.step' (Below.setCell (Below.refl _ _) (p := ⟨w1.heap.size, 11, none⟩) HLX.out _))
        have HBF : Hid (Below w1.heap.size wl (w11.setCell ⟨w1.heap.size, 11, none⟩ (.slice q1 m1 dd))) := hid (HB11.out.setCell (p := ⟨w1.heap.size, 11, none⟩) (Nat.le_refl _) _)
        go_wp2_with fail
        go_roundw
        case rel => exact ⟨k + 1, q1, m1, dd, by omega, by go_num, HXF.out, HOF.out, HWF.out, HBF.out⟩
        case measure => simp [intOf]; omega
      · skip
        have HKV : Hid (cardW s t v = (⟨⟨xl, xh⟩, ⟨yl, yh⟩, false, ⟨0, 0⟩⟩ : Crd)) := hid (by unfold cardW wordX wordY; rw [HA.out, HB.out, HNZ.out, HD0.out, HD1.out, HD2.out, HD3.out, HXX.out.1, HXX.out.2.1, HXX.out.2.2.1, HXX.out.2.2.2, if_neg hn, decide_eq_false hn])
        go_upto_region 13 with fail
        have HZc := HZ; have HBC := HB9
        generalize w9 = w10 at HZc HBC ⊢
        have HW10 := hid (HWr.out.step HBC.out); have HX10 := hid (HXr.out.below HBC.out); have HO10 := hid (HOr.out.below HBC.out)
        have HKW : Hid (cardsW s t l k ++ [(⟨⟨xl, xh⟩, ⟨yl, yh⟩, false, ⟨0, 0⟩⟩ : Crd)] = cardsW s t l (k + 1)) := hid (by rw [cardsW_succ, HV.out, HKV.out])
        have z11 := (HX10.out.2 11 (.slice q m d) rfl).1
        have y0 := (HZc.out.2 0 (.int .i64 xl) rfl).1; have y1 := (HZc.out.2 1 (.int .i64 xh) rfl).1; have y2 := (HZc.out.2 2 (.int .i64 yl) rfl).1; have y3 := (HZc.out.2 3 (.int .i64 yh) rfl).1; have y4 := (HZc.out.2 4 (.bool false) rfl).1; have y5 := (HZc.out.2 5 (.int .i64 0) rfl).1; have y6 := (HZc.out.2 6 (.int .i64 0) rfl).1
        have ho3 := HO10.out.below ((Below.refl _ _).alloc (Nat.le_refl _) (.cells #[.int .i64 xl, .int .i64 xh, .int .i64 yl, .int .i64 yh, .bool false, .int .i64 0, .int .i64 0] 61))
        have hle : (cardsW s t l k).length ≤ 1000000 := by simp [cardsW]; omega
        have hbs : wl.heap.size ≤ w10.heap.size := Nat.le_trans HBr.out.size HBC.out.size
        go_wp2_with (at_builtin; refine append_rows cellsK_len (by decide) cellsK_one 24 61 _ 56 (by decide) Try.info61 rfl Try.und24 (by rfl) _ _ (by rfl) wl.heap.size _ _ _ 1 1 [(⟨⟨xl, xh⟩, ⟨yl, yh⟩, false, ⟨0, 0⟩⟩ : Crd)] ho3 (by rfl) (by rfl) (crd_lit (⟨⟨xl, xh⟩, ⟨yl, yh⟩, false, ⟨0, 0⟩⟩ : Crd) 61) hle (by omega) (by rw [World.size_alloc]; omega) ?_; intro v1 w11 h1 h2 h3; rw [HKW.out] at h1; obtain ⟨q1, dd, hqd, _⟩ := h1.slice cellsK_len; obtain ⟨m1, hm1⟩ : ∃ m1, (cardsW s t l (k + 1)).length = m1 := ⟨_, rfl⟩; rw [hm1] at hqd; subst hqd; clear hm1 h3 z11; have hbk : Below wl.heap.size w10 w11 := (((Below.refl _ _).alloc hbs _).trans h2); have HX11 := hid (HX10.out.keep hbk HBL.out); have HO11 := hid h1; have HW11 := hid (HW10.out.step' (hbk.mono (by have := HLX.out; have := HBL.out; omega))); have HB11 := hid ((HBr.out.trans (HBC.out.mono (by have := HBr.out.size; have := HBL.out; omega))).trans (hbk.mono (Nat.le_of_lt HBL.out))); clear h1 h2 hbk ho3 hle hbs; have z11 := (HX11.out.2 11 (.slice q m d) rfl).1; have zz11 := (HX11.out.2 11 (.slice q m d) rfl).2)
        clear y0 y1 y2 y3 y4 y5 y6
        have HXF : Hid (BoxIs w1.heap.size #[.int .i64 s.wide, .int .i64 s.high, .int .i64 s.fall, .int .i64 s.a.lo, .int .i64 s.a.hi, .int .i64 s.b.lo, .int .i64 s.b.hi, .int .i64 s.half.lo, .int .i64 s.half.hi, .int .i64 s.peak.lo, .int .i64 s.peak.hi, .slice q1 m1 dd] (w11.setCell ⟨w1.heap.size, 11, none⟩ (.slice q1 m1 dd))) := hid (HX11.out.put (j := 11) (.slice q1 m1 dd))
        have HOF : Hid (OwnRows cellsK 7 61 (w11.setCell ⟨w1.heap.size, 11, none⟩ (.slice q1 m1 dd)) wl.heap.size (.slice q1 m1 dd) (cardsW s t l (k + 1))) := hid (HO11.out.block fun g hg => Below.heap_setCell _ _ _ _ (by have h1 := (HO11.out.lt g hg).1; have := HBL.out; show g ≠ w1.heap.size; omega))
        have HWF : Hid (Boxed1 w #[.int .i64 s.wide, .int .i64 s.high, .int .i64 s.fall, .int .i64 s.a.lo, .int .i64 s.a.hi, .int .i64 s.b.lo, .int .i64 s.b.hi, .int .i64 s.half.lo, .int .i64 s.half.hi, .int .i64 s.peak.lo, .int .i64 s.peak.hi, .slice p n c] 26 (w11.setCell ⟨w1.heap.size, 11, none⟩ (.slice q1 m1 dd))) := hid (HW11.out.step' (Below.setCell (Below.refl _ _) (p := ⟨w1.heap.size, 11, none⟩) HLX.out _))
        have HBF : Hid (Below w1.heap.size wl (w11.setCell ⟨w1.heap.size, 11, none⟩ (.slice q1 m1 dd))) := hid (HB11.out.setCell (p := ⟨w1.heap.size, 11, none⟩) (Nat.le_refl _) _)
        go_wp2_with fail
        go_roundw
        case rel => exact ⟨k + 1, q1, m1, dd, by omega, by go_num, HXF.out, HOF.out, HWF.out, HBF.out⟩
        case measure => simp [intOf]; omega
    · have hkM : k = M7 := by omega
      subst hkM
      have hcc : (cardedS s t l).cards = cardsW s t l k := by show cardsW s t l (wordV l 0 % 7).toNat = _; rw [HM7.out]
      have HKX : Hid (CrdsAt wr q m (cardedS s t l).cards) := hid (by rw [hcc]; obtain ⟨q5, d5, e, hr⟩ := HOr.out.slice cellsK_len; cases e; exact crds_iff.2 hr)
      have HQB : Hid (∀ z, q = some z → wl.heap.size ≤ z.block) := hid (fun z hz => by cases hz; exact (HOr.out.lt _ rfl).1)
      have HT9 := hid (HTn.out.keep HBr.out HBT0.out); have HO6r := hid (HO6n.out.keep HBr.out (by have := HZW.out; omega)); have HO7r := hid (HO7n.out.keep HBr.out (by have := HZW.out; omega))
      have HXc : Hid (BoxIs w1.heap.size #[.int .i64 (cardedS s t l).wide, .int .i64 (cardedS s t l).high, .int .i64 (cardedS s t l).fall, .int .i64 (cardedS s t l).a.lo, .int .i64 (cardedS s t l).a.hi, .int .i64 (cardedS s t l).b.lo, .int .i64 (cardedS s t l).b.hi, .int .i64 (cardedS s t l).half.lo, .int .i64 (cardedS s t l).half.hi, .int .i64 (cardedS s t l).peak.lo, .int .i64 (cardedS s t l).peak.hi, .slice q m d] wr) := hid HXr.out
      go_upto_region 14 with fail
      clear u1 u2
      obtain ⟨u0, hu0⟩ : ∃ V, wr.drew = V := ⟨_, rfl⟩
      have HDR : Hid (Below wr.heap.size wr u0) := hid (by rw [← hu0]; exact (Below.refl _ _).drew)
      replace HT9 := hid (HT9.out.below HDR.out)
      replace HO6r := hid (HO6r.out.below HDR.out)
      replace HO7r := hid (HO7r.out.below HDR.out)
      replace HXc := hid (HXc.out.below HDR.out)
      replace HKX := hid (HKX.out.below HDR.out)
      have HWu := hid (HWr.out.step HDR.out)
      have HN0 : Hid (Near (fun z => z = w.heap.size + 1 ∨ z = w.heap.size + 2) u0 u0) := hid ((near_below (Below.refl _ _)).mono (fun _ _ h => h.elim))
      have HBTZ : Hid (w.heap.size + 2 < bt ∨ True) := hid (.inr trivial)
      have HBTL : Hid (w.heap.size + 2 < bt) := hid HBTG.out
      have HXL9 : Hid (w.heap.size + 2 < w1.heap.size) := hid HZW.out
      refine wp_region_held_drew (S := fun V => Boxed1 w #[.int .i64 s.wide, .int .i64 s.high, .int .i64 s.fall, .int .i64 s.a.lo, .int .i64 s.a.hi, .int .i64 s.b.lo, .int .i64 s.b.hi, .int .i64 s.half.lo, .int .i64 s.half.hi, .int .i64 s.peak.lo, .int .i64 s.peak.hi, .slice p n c] 26 V ∧ BoxIs w1.heap.size #[.int .i64 (cardedS s t l).wide, .int .i64 (cardedS s t l).high, .int .i64 (cardedS s t l).fall, .int .i64 (cardedS s t l).a.lo, .int .i64 (cardedS s t l).a.hi, .int .i64 (cardedS s t l).b.lo, .int .i64 (cardedS s t l).b.hi, .int .i64 (cardedS s t l).half.lo, .int .i64 (cardedS s t l).half.hi, .int .i64 (cardedS s t l).peak.lo, .int .i64 (cardedS s t l).peak.hi, .slice q m d] V ∧ BoxIs bt #[.int .i64 t.a, .int .i64 t.b, .int .i64 t.half, .int .i64 t.peak] V) (by kernel_rfl) (by rw [hu0]; exact ⟨HWu.out, HXc.out, HT9.out⟩) (fun hS => ?_)
      rw [hu0] at hS ⊢
      clear hu0
      simp only [List.size_toArray, List.length_cons, List.length_nil, Nat.reduceAdd, Array.replicate_succ, Array.replicate_zero, List.push_toArray, List.nil_append, List.cons_append]
      refine tkH (i := 0) (v := ?_) (fun V hV => ?_) ?_
      rotate_left
      · have x0 := (hV.2.1.2 0 (.int .i64 (cardedS s t l).wide) rfl).1; have x1 := (hV.2.1.2 1 (.int .i64 (cardedS s t l).high) rfl).1; have x2 := (hV.2.1.2 2 (.int .i64 (cardedS s t l).fall) rfl).1; have x3 := (hV.2.1.2 3 (.int .i64 (cardedS s t l).a.lo) rfl).1; have x4 := (hV.2.1.2 4 (.int .i64 (cardedS s t l).a.hi) rfl).1; have x5 := (hV.2.1.2 5 (.int .i64 (cardedS s t l).b.lo) rfl).1; have x6 := (hV.2.1.2 6 (.int .i64 (cardedS s t l).b.hi) rfl).1; have x7 := (hV.2.1.2 7 (.int .i64 (cardedS s t l).half.lo) rfl).1; have x8 := (hV.2.1.2 8 (.int .i64 (cardedS s t l).half.hi) rfl).1; have x9 := (hV.2.1.2 9 (.int .i64 (cardedS s t l).peak.lo) rfl).1; have x10 := (hV.2.1.2 10 (.int .i64 (cardedS s t l).peak.hi) rfl).1; have x11 := (hV.2.1.2 11 (.slice q m d) rfl).1; go_simp
        try with_reducible rfl
      try simp only [Act.put, List.getElem_toArray, List.getElem_cons_zero, List.setIfInBounds_toArray, List.set_cons_zero, List.set_cons_succ]
      refine tkH (i := 1) (v := ?_) (fun V hV => ?_) ?_
      rotate_left
      · have x0 := (hV.2.2.2 0 (.int .i64 t.a) rfl).1; have x1 := (hV.2.2.2 1 (.int .i64 t.b) rfl).1; have x2 := (hV.2.2.2 2 (.int .i64 t.half) rfl).1; have x3 := (hV.2.2.2 3 (.int .i64 t.peak) rfl).1; go_simp
        try with_reducible rfl
      try simp only [Act.put, List.getElem_toArray, List.getElem_cons_zero, List.getElem_cons_succ, List.setIfInBounds_toArray, List.set_cons_zero, List.set_cons_succ]
      refine wpAnyH_ready (rs := [2]) (by kernel_rfl) (by simp) ?_
      refine AllReadyH.cons (o := _) rfl (fun K hK => ?_) AllReadyH.nil
      have k0 := (HO6r.out.2 0 (.int .i64 0) rfl).1; have f0 := (HO6r.out.2 0 (.int .i64 0) rfl).2; have k1 := (HO6r.out.2 1 (.int .i64 0) rfl).1; have f1 := (HO6r.out.2 1 (.int .i64 0) rfl).2; have k2 := (HO6r.out.2 2 (.int .i64 0) rfl).1; have f2 := (HO6r.out.2 2 (.int .i64 0) rfl).2; have k3 := (HO6r.out.2 3 (.int .i64 0) rfl).1; have f3 := (HO6r.out.2 3 (.int .i64 0) rfl).2; have k4 := (HO6r.out.2 4 (.int .i64 0) rfl).1; have f4 := (HO6r.out.2 4 (.int .i64 0) rfl).2; have k5 := (HO6r.out.2 5 (.int .i64 0) rfl).1; have f5 := (HO6r.out.2 5 (.int .i64 0) rfl).2; have k6 := (HO6r.out.2 6 (.int .i64 0) rfl).1; have f6 := (HO6r.out.2 6 (.int .i64 0) rfl).2; have k7 := (HO6r.out.2 7 (.int .i64 0) rfl).1; have f7 := (HO6r.out.2 7 (.int .i64 0) rfl).2; have k8 := (HO6r.out.2 8 (.int .i64 0) rfl).1; have f8 := (HO6r.out.2 8 (.int .i64 0) rfl).2; have k9 := (HO6r.out.2 9 (.int .i64 0) rfl).1; have f9 := (HO6r.out.2 9 (.int .i64 0) rfl).2; have k10 := (HO6r.out.2 10 (.int .i64 0) rfl).1; have f10 := (HO6r.out.2 10 (.int .i64 0) rfl).2; have k11 := (HO6r.out.2 11 (.slice none 0 0) rfl).1; have f11 := (HO6r.out.2 11 (.slice none 0 0) rfl).2
      have HP : Hid (BoxIs (w.heap.size + 1) #[.int .i64 (cardedS s t l).wide, .int .i64 (cardedS s t l).high, .int .i64 (cardedS s t l).fall, .int .i64 (cardedS s t l).a.lo, .int .i64 (cardedS s t l).a.hi, .int .i64 (cardedS s t l).b.lo, .int .i64 (cardedS s t l).b.hi, .int .i64 (cardedS s t l).half.lo, .int .i64 (cardedS s t l).half.hi, .int .i64 (cardedS s t l).peak.lo, .int .i64 (cardedS s t l).peak.hi, .slice q m d] ((((((((((((u0.setCell ⟨w.heap.size + 1, 0, none⟩ (.int .i64 (cardedS s t l).wide)).setCell ⟨w.heap.size + 1, 1, none⟩ (.int .i64 (cardedS s t l).high)).setCell ⟨w.heap.size + 1, 2, none⟩ (.int .i64 (cardedS s t l).fall)).setCell ⟨w.heap.size + 1, 3, none⟩ (.int .i64 (cardedS s t l).a.lo)).setCell ⟨w.heap.size + 1, 4, none⟩ (.int .i64 (cardedS s t l).a.hi)).setCell ⟨w.heap.size + 1, 5, none⟩ (.int .i64 (cardedS s t l).b.lo)).setCell ⟨w.heap.size + 1, 6, none⟩ (.int .i64 (cardedS s t l).b.hi)).setCell ⟨w.heap.size + 1, 7, none⟩ (.int .i64 (cardedS s t l).half.lo)).setCell ⟨w.heap.size + 1, 8, none⟩ (.int .i64 (cardedS s t l).half.hi)).setCell ⟨w.heap.size + 1, 9, none⟩ (.int .i64 (cardedS s t l).peak.lo)).setCell ⟨w.heap.size + 1, 10, none⟩ (.int .i64 (cardedS s t l).peak.hi)).setCell ⟨w.heap.size + 1, 11, none⟩ (.slice q m d))) := hid (BoxIs.put12 HO6r.out (.int .i64 (cardedS s t l).wide) (.int .i64 (cardedS s t l).high) (.int .i64 (cardedS s t l).fall) (.int .i64 (cardedS s t l).a.lo) (.int .i64 (cardedS s t l).a.hi) (.int .i64 (cardedS s t l).b.lo) (.int .i64 (cardedS s t l).b.hi) (.int .i64 (cardedS s t l).half.lo) (.int .i64 (cardedS s t l).half.hi) (.int .i64 (cardedS s t l).peak.lo) (.int .i64 (cardedS s t l).peak.hi) (.slice q m d))
      have HBW : Hid (Below (w.heap.size + 1) u0 ((((((((((((u0.setCell ⟨w.heap.size + 1, 0, none⟩ (.int .i64 (cardedS s t l).wide)).setCell ⟨w.heap.size + 1, 1, none⟩ (.int .i64 (cardedS s t l).high)).setCell ⟨w.heap.size + 1, 2, none⟩ (.int .i64 (cardedS s t l).fall)).setCell ⟨w.heap.size + 1, 3, none⟩ (.int .i64 (cardedS s t l).a.lo)).setCell ⟨w.heap.size + 1, 4, none⟩ (.int .i64 (cardedS s t l).a.hi)).setCell ⟨w.heap.size + 1, 5, none⟩ (.int .i64 (cardedS s t l).b.lo)).setCell ⟨w.heap.size + 1, 6, none⟩ (.int .i64 (cardedS s t l).b.hi)).setCell ⟨w.heap.size + 1, 7, none⟩ (.int .i64 (cardedS s t l).half.lo)).setCell ⟨w.heap.size + 1, 8, none⟩ (.int .i64 (cardedS s t l).half.hi)).setCell ⟨w.heap.size + 1, 9, none⟩ (.int .i64 (cardedS s t l).peak.lo)).setCell ⟨w.heap.size + 1, 10, none⟩ (.int .i64 (cardedS s t l).peak.hi)).setCell ⟨w.heap.size + 1, 11, none⟩ (.slice q m d))) := hid (below_put12 (Below.refl _ _) (Nat.le_refl _) (.int .i64 (cardedS s t l).wide) (.int .i64 (cardedS s t l).high) (.int .i64 (cardedS s t l).fall) (.int .i64 (cardedS s t l).a.lo) (.int .i64 (cardedS s t l).a.hi) (.int .i64 (cardedS s t l).b.lo) (.int .i64 (cardedS s t l).b.hi) (.int .i64 (cardedS s t l).half.lo) (.int .i64 (cardedS s t l).half.hi) (.int .i64 (cardedS s t l).peak.lo) (.int .i64 (cardedS s t l).peak.hi) (.slice q m d))
      have HNW : Hid (Near (fun z => z = w.heap.size + 1 ∨ z = w.heap.size + 2) u0 ((((((((((((u0.setCell ⟨w.heap.size + 1, 0, none⟩ (.int .i64 (cardedS s t l).wide)).setCell ⟨w.heap.size + 1, 1, none⟩ (.int .i64 (cardedS s t l).high)).setCell ⟨w.heap.size + 1, 2, none⟩ (.int .i64 (cardedS s t l).fall)).setCell ⟨w.heap.size + 1, 3, none⟩ (.int .i64 (cardedS s t l).a.lo)).setCell ⟨w.heap.size + 1, 4, none⟩ (.int .i64 (cardedS s t l).a.hi)).setCell ⟨w.heap.size + 1, 5, none⟩ (.int .i64 (cardedS s t l).b.lo)).setCell ⟨w.heap.size + 1, 6, none⟩ (.int .i64 (cardedS s t l).b.hi)).setCell ⟨w.heap.size + 1, 7, none⟩ (.int .i64 (cardedS s t l).half.lo)).setCell ⟨w.heap.size + 1, 8, none⟩ (.int .i64 (cardedS s t l).half.hi)).setCell ⟨w.heap.size + 1, 9, none⟩ (.int .i64 (cardedS s t l).peak.lo)).setCell ⟨w.heap.size + 1, 10, none⟩ (.int .i64 (cardedS s t l).peak.hi)).setCell ⟨w.heap.size + 1, 11, none⟩ (.slice q m d))) := hid (near_put12 HN0.out (Or.inl rfl) (.int .i64 (cardedS s t l).wide) (.int .i64 (cardedS s t l).high) (.int .i64 (cardedS s t l).fall) (.int .i64 (cardedS s t l).a.lo) (.int .i64 (cardedS s t l).a.hi) (.int .i64 (cardedS s t l).b.lo) (.int .i64 (cardedS s t l).b.hi) (.int .i64 (cardedS s t l).half.lo) (.int .i64 (cardedS s t l).half.hi) (.int .i64 (cardedS s t l).peak.lo) (.int .i64 (cardedS s t l).peak.hi) (.slice q m d))
      have HOO : Hid (BoxIs (w.heap.size + 2) #[.int .i64 0, .int .i64 0, .int .i64 0, .int .i64 0] ((((((((((((u0.setCell ⟨w.heap.size + 1, 0, none⟩ (.int .i64 (cardedS s t l).wide)).setCell ⟨w.heap.size + 1, 1, none⟩ (.int .i64 (cardedS s t l).high)).setCell ⟨w.heap.size + 1, 2, none⟩ (.int .i64 (cardedS s t l).fall)).setCell ⟨w.heap.size + 1, 3, none⟩ (.int .i64 (cardedS s t l).a.lo)).setCell ⟨w.heap.size + 1, 4, none⟩ (.int .i64 (cardedS s t l).a.hi)).setCell ⟨w.heap.size + 1, 5, none⟩ (.int .i64 (cardedS s t l).b.lo)).setCell ⟨w.heap.size + 1, 6, none⟩ (.int .i64 (cardedS s t l).b.hi)).setCell ⟨w.heap.size + 1, 7, none⟩ (.int .i64 (cardedS s t l).half.lo)).setCell ⟨w.heap.size + 1, 8, none⟩ (.int .i64 (cardedS s t l).half.hi)).setCell ⟨w.heap.size + 1, 9, none⟩ (.int .i64 (cardedS s t l).peak.lo)).setCell ⟨w.heap.size + 1, 10, none⟩ (.int .i64 (cardedS s t l).peak.hi)).setCell ⟨w.heap.size + 1, 11, none⟩ (.slice q m d))) := hid ((((((((((((HO7r.out.other (b' := w.heap.size + 1) (k' := 0) (by have h1 := HZW.out; have h2 := HBTL.out; have h3 := HXL9.out; omega) (.int .i64 (cardedS s t l).wide)).other (b' := w.heap.size + 1) (k' := 1) (by have h1 := HZW.out; have h2 := HBTL.out; have h3 := HXL9.out; omega) (.int .i64 (cardedS s t l).high)).other (b' := w.heap.size + 1) (k' := 2) (by have h1 := HZW.out; have h2 := HBTL.out; have h3 := HXL9.out; omega) (.int .i64 (cardedS s t l).fall)).other (b' := w.heap.size + 1) (k' := 3) (by have h1 := HZW.out; have h2 := HBTL.out; have h3 := HXL9.out; omega) (.int .i64 (cardedS s t l).a.lo)).other (b' := w.heap.size + 1) (k' := 4) (by have h1 := HZW.out; have h2 := HBTL.out; have h3 := HXL9.out; omega) (.int .i64 (cardedS s t l).a.hi)).other (b' := w.heap.size + 1) (k' := 5) (by have h1 := HZW.out; have h2 := HBTL.out; have h3 := HXL9.out; omega) (.int .i64 (cardedS s t l).b.lo)).other (b' := w.heap.size + 1) (k' := 6) (by have h1 := HZW.out; have h2 := HBTL.out; have h3 := HXL9.out; omega) (.int .i64 (cardedS s t l).b.hi)).other (b' := w.heap.size + 1) (k' := 7) (by have h1 := HZW.out; have h2 := HBTL.out; have h3 := HXL9.out; omega) (.int .i64 (cardedS s t l).half.lo)).other (b' := w.heap.size + 1) (k' := 8) (by have h1 := HZW.out; have h2 := HBTL.out; have h3 := HXL9.out; omega) (.int .i64 (cardedS s t l).half.hi)).other (b' := w.heap.size + 1) (k' := 9) (by have h1 := HZW.out; have h2 := HBTL.out; have h3 := HXL9.out; omega) (.int .i64 (cardedS s t l).peak.lo)).other (b' := w.heap.size + 1) (k' := 10) (by have h1 := HZW.out; have h2 := HBTL.out; have h3 := HXL9.out; omega) (.int .i64 (cardedS s t l).peak.hi)).other (b' := w.heap.size + 1) (k' := 11) (by have h1 := HZW.out; have h2 := HBTL.out; have h3 := HXL9.out; omega) (.slice q m d))
      have HXX9 : Hid (BoxIs w1.heap.size #[.int .i64 (cardedS s t l).wide, .int .i64 (cardedS s t l).high, .int .i64 (cardedS s t l).fall, .int .i64 (cardedS s t l).a.lo, .int .i64 (cardedS s t l).a.hi, .int .i64 (cardedS s t l).b.lo, .int .i64 (cardedS s t l).b.hi, .int .i64 (cardedS s t l).half.lo, .int .i64 (cardedS s t l).half.hi, .int .i64 (cardedS s t l).peak.lo, .int .i64 (cardedS s t l).peak.hi, .slice q m d] ((((((((((((u0.setCell ⟨w.heap.size + 1, 0, none⟩ (.int .i64 (cardedS s t l).wide)).setCell ⟨w.heap.size + 1, 1, none⟩ (.int .i64 (cardedS s t l).high)).setCell ⟨w.heap.size + 1, 2, none⟩ (.int .i64 (cardedS s t l).fall)).setCell ⟨w.heap.size + 1, 3, none⟩ (.int .i64 (cardedS s t l).a.lo)).setCell ⟨w.heap.size + 1, 4, none⟩ (.int .i64 (cardedS s t l).a.hi)).setCell ⟨w.heap.size + 1, 5, none⟩ (.int .i64 (cardedS s t l).b.lo)).setCell ⟨w.heap.size + 1, 6, none⟩ (.int .i64 (cardedS s t l).b.hi)).setCell ⟨w.heap.size + 1, 7, none⟩ (.int .i64 (cardedS s t l).half.lo)).setCell ⟨w.heap.size + 1, 8, none⟩ (.int .i64 (cardedS s t l).half.hi)).setCell ⟨w.heap.size + 1, 9, none⟩ (.int .i64 (cardedS s t l).peak.lo)).setCell ⟨w.heap.size + 1, 10, none⟩ (.int .i64 (cardedS s t l).peak.hi)).setCell ⟨w.heap.size + 1, 11, none⟩ (.slice q m d))) := hid ((((((((((((HXc.out.other (b' := w.heap.size + 1) (k' := 0) (by have h1 := HZW.out; have h2 := HBTL.out; have h3 := HXL9.out; omega) (.int .i64 (cardedS s t l).wide)).other (b' := w.heap.size + 1) (k' := 1) (by have h1 := HZW.out; have h2 := HBTL.out; have h3 := HXL9.out; omega) (.int .i64 (cardedS s t l).high)).other (b' := w.heap.size + 1) (k' := 2) (by have h1 := HZW.out; have h2 := HBTL.out; have h3 := HXL9.out; omega) (.int .i64 (cardedS s t l).fall)).other (b' := w.heap.size + 1) (k' := 3) (by have h1 := HZW.out; have h2 := HBTL.out; have h3 := HXL9.out; omega) (.int .i64 (cardedS s t l).a.lo)).other (b' := w.heap.size + 1) (k' := 4) (by have h1 := HZW.out; have h2 := HBTL.out; have h3 := HXL9.out; omega) (.int .i64 (cardedS s t l).a.hi)).other (b' := w.heap.size + 1) (k' := 5) (by have h1 := HZW.out; have h2 := HBTL.out; have h3 := HXL9.out; omega) (.int .i64 (cardedS s t l).b.lo)).other (b' := w.heap.size + 1) (k' := 6) (by have h1 := HZW.out; have h2 := HBTL.out; have h3 := HXL9.out; omega) (.int .i64 (cardedS s t l).b.hi)).other (b' := w.heap.size + 1) (k' := 7) (by have h1 := HZW.out; have h2 := HBTL.out; have h3 := HXL9.out; omega) (.int .i64 (cardedS s t l).half.lo)).other (b' := w.heap.size + 1) (k' := 8) (by have h1 := HZW.out; have h2 := HBTL.out; have h3 := HXL9.out; omega) (.int .i64 (cardedS s t l).half.hi)).other (b' := w.heap.size + 1) (k' := 9) (by have h1 := HZW.out; have h2 := HBTL.out; have h3 := HXL9.out; omega) (.int .i64 (cardedS s t l).peak.lo)).other (b' := w.heap.size + 1) (k' := 10) (by have h1 := HZW.out; have h2 := HBTL.out; have h3 := HXL9.out; omega) (.int .i64 (cardedS s t l).peak.hi)).other (b' := w.heap.size + 1) (k' := 11) (by have h1 := HZW.out; have h2 := HBTL.out; have h3 := HXL9.out; omega) (.slice q m d))
      have HTT9 : Hid (BoxIs bt #[.int .i64 t.a, .int .i64 t.b, .int .i64 t.half, .int .i64 t.peak] ((((((((((((u0.setCell ⟨w.heap.size + 1, 0, none⟩ (.int .i64 (cardedS s t l).wide)).setCell ⟨w.heap.size + 1, 1, none⟩ (.int .i64 (cardedS s t l).high)).setCell ⟨w.heap.size + 1, 2, none⟩ (.int .i64 (cardedS s t l).fall)).setCell ⟨w.heap.size + 1, 3, none⟩ (.int .i64 (cardedS s t l).a.lo)).setCell ⟨w.heap.size + 1, 4, none⟩ (.int .i64 (cardedS s t l).a.hi)).setCell ⟨w.heap.size + 1, 5, none⟩ (.int .i64 (cardedS s t l).b.lo)).setCell ⟨w.heap.size + 1, 6, none⟩ (.int .i64 (cardedS s t l).b.hi)).setCell ⟨w.heap.size + 1, 7, none⟩ (.int .i64 (cardedS s t l).half.lo)).setCell ⟨w.heap.size + 1, 8, none⟩ (.int .i64 (cardedS s t l).half.hi)).setCell ⟨w.heap.size + 1, 9, none⟩ (.int .i64 (cardedS s t l).peak.lo)).setCell ⟨w.heap.size + 1, 10, none⟩ (.int .i64 (cardedS s t l).peak.hi)).setCell ⟨w.heap.size + 1, 11, none⟩ (.slice q m d))) := hid ((((((((((((HT9.out.other (b' := w.heap.size + 1) (k' := 0) (by have h1 := HZW.out; have h2 := HBTL.out; have h3 := HXL9.out; omega) (.int .i64 (cardedS s t l).wide)).other (b' := w.heap.size + 1) (k' := 1) (by have h1 := HZW.out; have h2 := HBTL.out; have h3 := HXL9.out; omega) (.int .i64 (cardedS s t l).high)).other (b' := w.heap.size + 1) (k' := 2) (by have h1 := HZW.out; have h2 := HBTL.out; have h3 := HXL9.out; omega) (.int .i64 (cardedS s t l).fall)).other (b' := w.heap.size + 1) (k' := 3) (by have h1 := HZW.out; have h2 := HBTL.out; have h3 := HXL9.out; omega) (.int .i64 (cardedS s t l).a.lo)).other (b' := w.heap.size + 1) (k' := 4) (by have h1 := HZW.out; have h2 := HBTL.out; have h3 := HXL9.out; omega) (.int .i64 (cardedS s t l).a.hi)).other (b' := w.heap.size + 1) (k' := 5) (by have h1 := HZW.out; have h2 := HBTL.out; have h3 := HXL9.out; omega) (.int .i64 (cardedS s t l).b.lo)).other (b' := w.heap.size + 1) (k' := 6) (by have h1 := HZW.out; have h2 := HBTL.out; have h3 := HXL9.out; omega) (.int .i64 (cardedS s t l).b.hi)).other (b' := w.heap.size + 1) (k' := 7) (by have h1 := HZW.out; have h2 := HBTL.out; have h3 := HXL9.out; omega) (.int .i64 (cardedS s t l).half.lo)).other (b' := w.heap.size + 1) (k' := 8) (by have h1 := HZW.out; have h2 := HBTL.out; have h3 := HXL9.out; omega) (.int .i64 (cardedS s t l).half.hi)).other (b' := w.heap.size + 1) (k' := 9) (by have h1 := HZW.out; have h2 := HBTL.out; have h3 := HXL9.out; omega) (.int .i64 (cardedS s t l).peak.lo)).other (b' := w.heap.size + 1) (k' := 10) (by have h1 := HZW.out; have h2 := HBTL.out; have h3 := HXL9.out; omega) (.int .i64 (cardedS s t l).peak.hi)).other (b' := w.heap.size + 1) (k' := 11) (by have h1 := HZW.out; have h2 := HBTL.out; have h3 := HXL9.out; omega) (.slice q m d))
      have HSW := hid (hS.1.step' HBW.out)
      clear hS HBW
      go_simp
      clear k0 f0 k1 f1 k2 f2 k3 f3 k4 f4 k5 f5 k6 f6 k7 f7 k8 f8 k9 f9 k10 f10 k11 f11
      generalize ((((((((((((u0.setCell ⟨w.heap.size + 1, 0, none⟩ (.int .i64 (cardedS s t l).wide)).setCell ⟨w.heap.size + 1, 1, none⟩ (.int .i64 (cardedS s t l).high)).setCell ⟨w.heap.size + 1, 2, none⟩ (.int .i64 (cardedS s t l).fall)).setCell ⟨w.heap.size + 1, 3, none⟩ (.int .i64 (cardedS s t l).a.lo)).setCell ⟨w.heap.size + 1, 4, none⟩ (.int .i64 (cardedS s t l).a.hi)).setCell ⟨w.heap.size + 1, 5, none⟩ (.int .i64 (cardedS s t l).b.lo)).setCell ⟨w.heap.size + 1, 6, none⟩ (.int .i64 (cardedS s t l).b.hi)).setCell ⟨w.heap.size + 1, 7, none⟩ (.int .i64 (cardedS s t l).half.lo)).setCell ⟨w.heap.size + 1, 8, none⟩ (.int .i64 (cardedS s t l).half.hi)).setCell ⟨w.heap.size + 1, 9, none⟩ (.int .i64 (cardedS s t l).peak.lo)).setCell ⟨w.heap.size + 1, 10, none⟩ (.int .i64 (cardedS s t l).peak.hi)).setCell ⟨w.heap.size + 1, 11, none⟩ (.slice q m d)) = u2 at HP HNW HOO HXX9 HTT9 HSW ⊢
      refine hK.out _ _ (⟨HSW.out, HXX9.out, HTT9.out⟩) (fun hS => ?_)
      clear hK K
      try simp only [List.setIfInBounds_toArray, List.set_cons_zero, List.set_cons_succ]
      refine wpAnyH_ready (rs := [3]) (by kernel_rfl) (by simp) ?_
      refine AllReadyH.cons (o := _) rfl (fun K hK => ?_) AllReadyH.nil
      have k0 := (HOO.out.2 0 (.int .i64 0) rfl).1; have f0 := (HOO.out.2 0 (.int .i64 0) rfl).2; have k1 := (HOO.out.2 1 (.int .i64 0) rfl).1; have f1 := (HOO.out.2 1 (.int .i64 0) rfl).2; have k2 := (HOO.out.2 2 (.int .i64 0) rfl).1; have f2 := (HOO.out.2 2 (.int .i64 0) rfl).2; have k3 := (HOO.out.2 3 (.int .i64 0) rfl).1; have f3 := (HOO.out.2 3 (.int .i64 0) rfl).2
      have HP2 : Hid (BoxIs (w.heap.size + 2) #[.int .i64 t.a, .int .i64 t.b, .int .i64 t.half, .int .i64 t.peak] ((((u2.setCell ⟨w.heap.size + 2, 0, none⟩ (.int .i64 t.a)).setCell ⟨w.heap.size + 2, 1, none⟩ (.int .i64 t.b)).setCell ⟨w.heap.size + 2, 2, none⟩ (.int .i64 t.half)).setCell ⟨w.heap.size + 2, 3, none⟩ (.int .i64 t.peak))) := hid ((((HOO.out.put (j := 0) (.int .i64 t.a)).put (j := 1) (.int .i64 t.b)).put (j := 2) (.int .i64 t.half)).put (j := 3) (.int .i64 t.peak))
      have HPO : Hid (BoxIs (w.heap.size + 1) #[.int .i64 (cardedS s t l).wide, .int .i64 (cardedS s t l).high, .int .i64 (cardedS s t l).fall, .int .i64 (cardedS s t l).a.lo, .int .i64 (cardedS s t l).a.hi, .int .i64 (cardedS s t l).b.lo, .int .i64 (cardedS s t l).b.hi, .int .i64 (cardedS s t l).half.lo, .int .i64 (cardedS s t l).half.hi, .int .i64 (cardedS s t l).peak.lo, .int .i64 (cardedS s t l).peak.hi, .slice q m d] ((((u2.setCell ⟨w.heap.size + 2, 0, none⟩ (.int .i64 t.a)).setCell ⟨w.heap.size + 2, 1, none⟩ (.int .i64 t.b)).setCell ⟨w.heap.size + 2, 2, none⟩ (.int .i64 t.half)).setCell ⟨w.heap.size + 2, 3, none⟩ (.int .i64 t.peak))) := hid ((((HP.out.other (b' := w.heap.size + 2) (k' := 0) (by have h1 := HZW.out; have h2 := HBTL.out; have h3 := HXL9.out; omega) (.int .i64 t.a)).other (b' := w.heap.size + 2) (k' := 1) (by have h1 := HZW.out; have h2 := HBTL.out; have h3 := HXL9.out; omega) (.int .i64 t.b)).other (b' := w.heap.size + 2) (k' := 2) (by have h1 := HZW.out; have h2 := HBTL.out; have h3 := HXL9.out; omega) (.int .i64 t.half)).other (b' := w.heap.size + 2) (k' := 3) (by have h1 := HZW.out; have h2 := HBTL.out; have h3 := HXL9.out; omega) (.int .i64 t.peak))
      have HX3 : Hid (BoxIs w1.heap.size #[.int .i64 (cardedS s t l).wide, .int .i64 (cardedS s t l).high, .int .i64 (cardedS s t l).fall, .int .i64 (cardedS s t l).a.lo, .int .i64 (cardedS s t l).a.hi, .int .i64 (cardedS s t l).b.lo, .int .i64 (cardedS s t l).b.hi, .int .i64 (cardedS s t l).half.lo, .int .i64 (cardedS s t l).half.hi, .int .i64 (cardedS s t l).peak.lo, .int .i64 (cardedS s t l).peak.hi, .slice q m d] ((((u2.setCell ⟨w.heap.size + 2, 0, none⟩ (.int .i64 t.a)).setCell ⟨w.heap.size + 2, 1, none⟩ (.int .i64 t.b)).setCell ⟨w.heap.size + 2, 2, none⟩ (.int .i64 t.half)).setCell ⟨w.heap.size + 2, 3, none⟩ (.int .i64 t.peak))) := hid ((((HXX9.out.other (b' := w.heap.size + 2) (k' := 0) (by have h1 := HZW.out; have h2 := HBTL.out; have h3 := HXL9.out; omega) (.int .i64 t.a)).other (b' := w.heap.size + 2) (k' := 1) (by have h1 := HZW.out; have h2 := HBTL.out; have h3 := HXL9.out; omega) (.int .i64 t.b)).other (b' := w.heap.size + 2) (k' := 2) (by have h1 := HZW.out; have h2 := HBTL.out; have h3 := HXL9.out; omega) (.int .i64 t.half)).other (b' := w.heap.size + 2) (k' := 3) (by have h1 := HZW.out; have h2 := HBTL.out; have h3 := HXL9.out; omega) (.int .i64 t.peak))
      have HT3 : Hid (BoxIs bt #[.int .i64 t.a, .int .i64 t.b, .int .i64 t.half, .int .i64 t.peak] ((((u2.setCell ⟨w.heap.size + 2, 0, none⟩ (.int .i64 t.a)).setCell ⟨w.heap.size + 2, 1, none⟩ (.int .i64 t.b)).setCell ⟨w.heap.size + 2, 2, none⟩ (.int .i64 t.half)).setCell ⟨w.heap.size + 2, 3, none⟩ (.int .i64 t.peak))) := hid ((((HTT9.out.other (b' := w.heap.size + 2) (k' := 0) (by have h1 := HZW.out; have h2 := HBTL.out; have h3 := HXL9.out; omega) (.int .i64 t.a)).other (b' := w.heap.size + 2) (k' := 1) (by have h1 := HZW.out; have h2 := HBTL.out; have h3 := HXL9.out; omega) (.int .i64 t.b)).other (b' := w.heap.size + 2) (k' := 2) (by have h1 := HZW.out; have h2 := HBTL.out; have h3 := HXL9.out; omega) (.int .i64 t.half)).other (b' := w.heap.size + 2) (k' := 3) (by have h1 := HZW.out; have h2 := HBTL.out; have h3 := HXL9.out; omega) (.int .i64 t.peak))
      have HNF : Hid (Near (fun z => z = w.heap.size + 1 ∨ z = w.heap.size + 2) u0 ((((u2.setCell ⟨w.heap.size + 2, 0, none⟩ (.int .i64 t.a)).setCell ⟨w.heap.size + 2, 1, none⟩ (.int .i64 t.b)).setCell ⟨w.heap.size + 2, 2, none⟩ (.int .i64 t.half)).setCell ⟨w.heap.size + 2, 3, none⟩ (.int .i64 t.peak))) := hid ((((HNW.out.setCell (p := ⟨w.heap.size + 2, 0, none⟩) (fun _ => Or.inr rfl) (.int .i64 t.a)).setCell (p := ⟨w.heap.size + 2, 1, none⟩) (fun _ => Or.inr rfl) (.int .i64 t.b)).setCell (p := ⟨w.heap.size + 2, 2, none⟩) (fun _ => Or.inr rfl) (.int .i64 t.half)).setCell (p := ⟨w.heap.size + 2, 3, none⟩) (fun _ => Or.inr rfl) (.int .i64 t.peak))
      have HSW2 := hid (hS.1.step' (((((Below.refl (w.heap.size + 1) u2).setCell (p := ⟨w.heap.size + 2, 0, none⟩) (by show w.heap.size + 1 ≤ w.heap.size + 2; omega) (.int .i64 t.a)).setCell (p := ⟨w.heap.size + 2, 1, none⟩) (by show w.heap.size + 1 ≤ w.heap.size + 2; omega) (.int .i64 t.b)).setCell (p := ⟨w.heap.size + 2, 2, none⟩) (by show w.heap.size + 1 ≤ w.heap.size + 2; omega) (.int .i64 t.half)).setCell (p := ⟨w.heap.size + 2, 3, none⟩) (by show w.heap.size + 1 ≤ w.heap.size + 2; omega) (.int .i64 t.peak)))
      clear hS
      go_simp
      clear k0 f0 k1 f1 k2 f2 k3 f3
      generalize ((((u2.setCell ⟨w.heap.size + 2, 0, none⟩ (.int .i64 t.a)).setCell ⟨w.heap.size + 2, 1, none⟩ (.int .i64 t.b)).setCell ⟨w.heap.size + 2, 2, none⟩ (.int .i64 t.half)).setCell ⟨w.heap.size + 2, 3, none⟩ (.int .i64 t.peak)) = u3 at HP2 HPO HX3 HT3 HNF HSW2 ⊢
      refine hK.out _ _ (⟨HSW2.out, HX3.out, HT3.out⟩) (fun hS => ?_)
      clear hK K
      try simp only [List.setIfInBounds_toArray, List.set_cons_zero, List.set_cons_succ]
      refine wpAnyH_done (by kernel_rfl) ?_ _
      have HSF := hid hS.1
      clear hS
      have y0 := (HPO.out.2 0 (.int .i64 (cardedS s t l).wide) rfl).1; have y1 := (HPO.out.2 1 (.int .i64 (cardedS s t l).high) rfl).1; have y2 := (HPO.out.2 2 (.int .i64 (cardedS s t l).fall) rfl).1; have y3 := (HPO.out.2 3 (.int .i64 (cardedS s t l).a.lo) rfl).1; have y4 := (HPO.out.2 4 (.int .i64 (cardedS s t l).a.hi) rfl).1; have y5 := (HPO.out.2 5 (.int .i64 (cardedS s t l).b.lo) rfl).1; have y6 := (HPO.out.2 6 (.int .i64 (cardedS s t l).b.hi) rfl).1; have y7 := (HPO.out.2 7 (.int .i64 (cardedS s t l).half.lo) rfl).1; have y8 := (HPO.out.2 8 (.int .i64 (cardedS s t l).half.hi) rfl).1; have y9 := (HPO.out.2 9 (.int .i64 (cardedS s t l).peak.lo) rfl).1; have y10 := (HPO.out.2 10 (.int .i64 (cardedS s t l).peak.hi) rfl).1; have y11 := (HPO.out.2 11 (.slice q m d) rfl).1; have t0 := (HP2.out.2 0 (.int .i64 t.a) rfl).1; have t1 := (HP2.out.2 1 (.int .i64 t.b) rfl).1; have t2 := (HP2.out.2 2 (.int .i64 t.half) rfl).1; have t3 := (HP2.out.2 3 (.int .i64 t.peak) rfl).1
      go_wp2_with fail
      refine bodyPost_ret (v := .tuple #[.agg #[.int .i64 (cardedS s t l).wide, .int .i64 (cardedS s t l).high, .int .i64 (cardedS s t l).fall, .int .i64 (cardedS s t l).a.lo, .int .i64 (cardedS s t l).a.hi, .int .i64 (cardedS s t l).b.lo, .int .i64 (cardedS s t l).b.hi, .int .i64 (cardedS s t l).half.lo, .int .i64 (cardedS s t l).half.hi, .int .i64 (cardedS s t l).peak.lo, .int .i64 (cardedS s t l).peak.hi, .slice q m d], .agg #[.int .i64 t.a, .int .i64 t.b, .int .i64 t.half, .int .i64 t.peak]]) (by simp [results, Try.f60, go_sem, y0, y1, y2, y3, y4, y5, y6, y7, y8, y9, y10, y11, t0, t1, t2, t3]) rfl ?_
      exact ⟨q, m, d, rfl, HKX.out.kept (by have h := HNF.out.size; exact h) (fun z hz h0 hlt => HNF.out.block _ hlt (by have h1 := HQB.out z hz; have h2 := HZW.out; have h3 := HBL.out; omega)), HSF.out.below⟩
end
section
open Go.RowKit

set_option maxRecDepth 20000 in
set_option maxHeartbeats 1000000 in
theorem truth53_any (t : Tru) (w : World) : Calls Try.prog 53 #[.agg #[.int .i64 t.a, .int .i64 t.b, .int .i64 t.half, .int .i64 t.peak]] w fun e w' => e = .returned (.agg #[.int .i64 t.a, .int .i64 t.b, .int .i64 t.half, .int .i64 t.peak]) ∧ Below w.heap.size w w' := by
  obtain ⟨W0, hW0⟩ : ∃ V, (w.alloc (.cells #[.int .i64 t.a, .int .i64 t.b, .int .i64 t.half, .int .i64 t.peak] 92)).alloc (.cells #[.int .i64 0, .int .i64 0, .int .i64 0, .int .i64 0] 94) = V := ⟨_, rfl⟩
  have hb : Boxed1 w #[.int .i64 t.a, .int .i64 t.b, .int .i64 t.half, .int .i64 t.peak] 92 W0 := by rw [← hW0]; exact (Boxed1.start _ _ _).alloc _
  have hx : BoxIs (w.heap.size + 1) #[.int .i64 0, .int .i64 0, .int .i64 0, .int .i64 0] W0 := by
    have h := BoxIs.start (w.alloc (.cells #[.int .i64 t.a, .int .i64 t.b, .int .i64 t.half, .int .i64 t.peak] 92)) #[.int .i64 0, .int .i64 0, .int .i64 0, .int .i64 0] 94
    rw [World.size_alloc, hW0] at h; exact h
  have e0 := (TruAt.of hb.cell).c0; have e1 := (TruAt.of hb.cell).c1; have e2 := (TruAt.of hb.cell).c2; have e3 := (TruAt.of hb.cell).c3
  have x0 := (hx.2 0 (.int .i64 0) rfl).1; have f0 := (hx.2 0 (.int .i64 0) rfl).2; have x1 := (hx.2 1 (.int .i64 0) rfl).1; have f1 := (hx.2 1 (.int .i64 0) rfl).2; have x2 := (hx.2 2 (.int .i64 0) rfl).1; have f2 := (hx.2 2 (.int .i64 0) rfl).2; have x3 := (hx.2 3 (.int .i64 0) rfl).1; have f3 := (hx.2 3 (.int .i64 0) rfl).2
  have HB := hid hb.below
  have HR := hid ((((hx.put (j := 0) (.int .i64 t.a)).put (j := 1) (.int .i64 t.b)).put (j := 2) (.int .i64 t.half)).put (j := 3) (.int .i64 t.peak))
  clear hb hx
  go_enter Try.func53, Try.ntmps53
  go_wp2_with fail
  have y0 := (HR.out.2 0 (.int .i64 t.a) rfl).1; have y1 := (HR.out.2 1 (.int .i64 t.b) rfl).1; have y2 := (HR.out.2 2 (.int .i64 t.half) rfl).1; have y3 := (HR.out.2 3 (.int .i64 t.peak) rfl).1
  refine bodyPost_ret (v := .agg #[.int .i64 t.a, .int .i64 t.b, .int .i64 t.half, .int .i64 t.peak]) (by simp [results, Try.f53, go_sem, y0, y1, y2, y3]) rfl ?_
  exact ⟨rfl, ((((HB.out.setCell (p := ⟨w.heap.size + 1, 0, none⟩) (by show w.heap.size ≤ w.heap.size + 1; omega) _).setCell (p := ⟨w.heap.size + 1, 1, none⟩) (by show w.heap.size ≤ w.heap.size + 1; omega) _).setCell (p := ⟨w.heap.size + 1, 2, none⟩) (by show w.heap.size ≤ w.heap.size + 1; omega) _).setCell (p := ⟨w.heap.size + 1, 3, none⟩) (by show w.heap.size ≤ w.heap.size + 1; omega) _)⟩

set_option maxRecDepth 20000 in
set_option maxHeartbeats 1000000 in
theorem back67_any (t : Tru) (w : World) : Calls Try.prog 67 #[.agg #[.int .i64 t.a, .int .i64 t.b, .int .i64 t.half, .int .i64 t.peak]] w fun e w' => e = .returned (.agg #[.int .i64 t.a, .int .i64 t.b, .int .i64 t.half, .int .i64 t.peak]) ∧ Below w.heap.size w w' := by
  obtain ⟨W0, hW0⟩ : ∃ V, (w.alloc (.cells #[.int .i64 t.a, .int .i64 t.b, .int .i64 t.half, .int .i64 t.peak] 94)).alloc (.cells #[.int .i64 0, .int .i64 0, .int .i64 0, .int .i64 0] 92) = V := ⟨_, rfl⟩
  have hb : Boxed1 w #[.int .i64 t.a, .int .i64 t.b, .int .i64 t.half, .int .i64 t.peak] 94 W0 := by rw [← hW0]; exact (Boxed1.start _ _ _).alloc _
  have hx : BoxIs (w.heap.size + 1) #[.int .i64 0, .int .i64 0, .int .i64 0, .int .i64 0] W0 := by
    have h := BoxIs.start (w.alloc (.cells #[.int .i64 t.a, .int .i64 t.b, .int .i64 t.half, .int .i64 t.peak] 94)) #[.int .i64 0, .int .i64 0, .int .i64 0, .int .i64 0] 92
    rw [World.size_alloc, hW0] at h; exact h
  have e0 := (TruAt.of hb.cell).c0; have e1 := (TruAt.of hb.cell).c1; have e2 := (TruAt.of hb.cell).c2; have e3 := (TruAt.of hb.cell).c3
  have x0 := (hx.2 0 (.int .i64 0) rfl).1; have f0 := (hx.2 0 (.int .i64 0) rfl).2; have x1 := (hx.2 1 (.int .i64 0) rfl).1; have f1 := (hx.2 1 (.int .i64 0) rfl).2; have x2 := (hx.2 2 (.int .i64 0) rfl).1; have f2 := (hx.2 2 (.int .i64 0) rfl).2; have x3 := (hx.2 3 (.int .i64 0) rfl).1; have f3 := (hx.2 3 (.int .i64 0) rfl).2
  have HB := hid hb.below
  have HR := hid ((((hx.put (j := 0) (.int .i64 t.a)).put (j := 1) (.int .i64 t.b)).put (j := 2) (.int .i64 t.half)).put (j := 3) (.int .i64 t.peak))
  clear hb hx
  go_enter Try.func67, Try.ntmps67
  go_wp2_with fail
  have y0 := (HR.out.2 0 (.int .i64 t.a) rfl).1; have y1 := (HR.out.2 1 (.int .i64 t.b) rfl).1; have y2 := (HR.out.2 2 (.int .i64 t.half) rfl).1; have y3 := (HR.out.2 3 (.int .i64 t.peak) rfl).1
  refine bodyPost_ret (v := .agg #[.int .i64 t.a, .int .i64 t.b, .int .i64 t.half, .int .i64 t.peak]) (by simp [results, Try.f67, go_sem, y0, y1, y2, y3]) rfl ?_
  exact ⟨rfl, ((((HB.out.setCell (p := ⟨w.heap.size + 1, 0, none⟩) (by show w.heap.size ≤ w.heap.size + 1; omega) _).setCell (p := ⟨w.heap.size + 1, 1, none⟩) (by show w.heap.size ≤ w.heap.size + 1; omega) _).setCell (p := ⟨w.heap.size + 1, 2, none⟩) (by show w.heap.size ≤ w.heap.size + 1; omega) _).setCell (p := ⟨w.heap.size + 1, 3, none⟩) (by show w.heap.size ≤ w.heap.size + 1; omega) _)⟩

/-- The reference's truths of a storm, if it has no error. -/
def sureR (s : Sto) : List Tru := if sureE s true = 0 then truR s else []
def SurePost (s : Sto) (w : World) : Ending → World → Prop := fun e w' => ∃ v, e = .returned (.tuple #[v, .int .i64 (sureE s true)]) ∧ OwnRows cellsT 4 92 w' w.heap.size v (sureR s) ∧ Below w.heap.size w w'
theorem truR_nil {s : Sto} (ok : OkS s) : truR s = [] ↔ truthL s = [] := by
  have h := (truR_perm ok.pos).length_eq
  rw [← List.length_eq_zero_iff, ← List.length_eq_zero_iff, h]
theorem truR_len {s : Sto} (ok : OkS s) : (truR s).length ≤ 2000 := by
  rw [(truR_perm ok.pos).length_eq]; exact truth_len ok

set_option maxRecDepth 40000 in
set_option maxHeartbeats 16000000 in
theorem sure_any (s : Sto) (p : Option Addr) (n c : Nat) (w : World) (hcs : CrdsAt w p n s.cards) :
    Calls Try.prog 22 #[.agg #[.int .i64 s.wide, .int .i64 s.high, .int .i64 s.fall, .int .i64 s.a.lo, .int .i64 s.a.hi, .int .i64 s.b.lo, .int .i64 s.b.hi, .int .i64 s.half.lo, .int .i64 s.half.hi, .int .i64 s.peak.lo, .int .i64 s.peak.hi, .slice p n c]] w (SurePost s w) := by
  have HC := hid hcs
  have HFL := hid (fun W (hb : Below w.heap.size w W) => faultL_any s p n c W (hcs.below hb))
  clear hcs
  have H0 : Hid (Boxed1 w #[.int .i64 s.wide, .int .i64 s.high, .int .i64 s.fall, .int .i64 s.a.lo, .int .i64 s.a.hi, .int .i64 s.b.lo, .int .i64 s.b.hi, .int .i64 s.half.lo, .int .i64 s.half.hi, .int .i64 s.peak.lo, .int .i64 s.peak.hi, .slice p n c] 26 (w.alloc (.cells #[.int .i64 s.wide, .int .i64 s.high, .int .i64 s.fall, .int .i64 s.a.lo, .int .i64 s.a.hi, .int .i64 s.b.lo, .int .i64 s.b.hi, .int .i64 s.half.lo, .int .i64 s.half.hi, .int .i64 s.peak.lo, .int .i64 s.peak.hi, .slice p n c] 26))) := Boxed1.start _ _ _
  go_enter Try.func22, Try.ntmps22
  go_wp2_with fail
  (with_reducible refine (HFL.out _ ?_).mono ?_)
  · exact H0.out.below
  rintro e w1 ⟨rfl, hb⟩
  have H1 := hid (H0.out.step hb)
  clear hb
  by_cases hF : faultS s = 0
  · have HOK := hid (fault_iff.1 hF)
    have HN := hid (truR_nil HOK.out)
    have HLE := hid (truR_len HOK.out)
    have HE : Hid (sureE s true = if truthL s = [] then 11 else 0) := by show _ = _; rw [sureE, if_pos hF, if_pos rfl]
    rw [hF]
    clear hF
    have e0 := (StoAt.of H1.out.cell).c0; have e1 := (StoAt.of H1.out.cell).c1; have e2 := (StoAt.of H1.out.cell).c2; have e3 := (StoAt.of H1.out.cell).c3; have e4 := (StoAt.of H1.out.cell).c4; have e5 := (StoAt.of H1.out.cell).c5; have e6 := (StoAt.of H1.out.cell).c6; have e7 := (StoAt.of H1.out.cell).c7; have e8 := (StoAt.of H1.out.cell).c8; have e9 := (StoAt.of H1.out.cell).c9; have e10 := (StoAt.of H1.out.cell).c10; have e11 := (StoAt.of H1.out.cell).c11
    go_wp2_with fail
    refine (truths_any s p n c w1 (HC.out.below H1.out.below) HOK.out).mono ?_
    rintro e w2 ⟨v, rfl, hown, hb⟩
    have H2 := hid (H1.out.step hb)
    have HOW := hid (hown.mono (base' := w.heap.size) (by have := H1.out.size; omega))
    obtain ⟨qa, da, rfl, _⟩ := hown.slice cellsT_len
    clear e0 e1 e2 e3 e4 e5 e6 e7 e8 e9 e10 e11 hb hown
    by_cases hL : truthL s = []
    · have HE2 : Hid (sureE s true = 11) := by show _ = _; rw [HE.out, if_pos hL]
      have hn := HN.out.2 hL
      rw [hn]
      have HSR : Hid (sureR s = []) := by show _ = _; rw [sureR, HE2.out, if_neg (by decide)]
      clear hL hn
      go_wp2_with fail
      go_ret2
      exact ⟨_, by rw [HE2.out]; rfl, by rw [HSR.out]; exact ownRows_nil _ _ _ _ _, H2.out.below⟩
    · have HE2 : Hid (sureE s true = 0) := by show _ = _; rw [HE.out, if_neg hL]
      have hn : (truR s).length ≠ 0 := fun h => hL (HN.out.1 (List.length_eq_zero_iff.1 h))
      have HSR : Hid (sureR s = truR s) := by show _ = _; rw [sureR, if_pos HE2.out]
      obtain ⟨N, hNN⟩ : ∃ N, (truR s).length = N := ⟨_, rfl⟩
      rw [hNN] at hn HOW ⊢
      have hn2 : ¬ (N : Int) = 0 := by omega
      clear hL hNN
      go_wp2_with fail
      go_ret2
      exact ⟨_, by rw [HE2.out]; rfl, by rw [HSR.out]; exact HOW.out, H2.out.below⟩
  · have HE2 : Hid (sureE s true = faultS s) := by show _ = _; rw [sureE, if_neg hF]
    have HSR : Hid (sureR s = []) := by show _ = _; rw [sureR, HE2.out, if_neg hF]
    obtain ⟨F, hFF⟩ : ∃ F, faultS s = F := ⟨_, rfl⟩
    rw [hFF] at hF HE2 ⊢
    have hF1 : (F == 0) = false := by simpa using hF
    have hF2 : (F != 0) = true := by simpa using hF
    clear hFF
    go_wp2_with fail
    go_ret2
    exact ⟨_, by rw [HE2.out]; rfl, by rw [HSR.out]; exact ownRows_nil _ _ _ _ _, H1.out.below⟩
end
section
open Go.RowKit

def anyRow (s : Sto) (t : Tru) (Y : Rng) (a : Int) : Bool := Y.nums.any fun b => hitB s t a b
def allRow (s : Sto) (t : Tru) (Y : Rng) (a : Int) : Bool := Y.nums.all fun b => hitB s t a b
theorem hits_some (s : Sto) (t : Tru) (X Y : Rng) : hitsB s t X Y true = X.nums.any (anyRow s t Y) := by
  unfold hitsB placesL anyRow
  simp [List.any_flatMap, List.any_map, Function.comp_def]
theorem hits_all (s : Sto) (t : Tru) (X Y : Rng) : (!hitsB s t X Y false) = X.nums.all (allRow s t Y) := by
  unfold hitsB placesL allRow
  rw [Bool.eq_iff_iff]
  simp only [Bool.not_eq_true', List.any_eq_false, List.all_eq_true, List.mem_flatMap, List.mem_map]
  constructor
  · intro h a ha b hb
    have := h (a, b) ⟨a, ha, b, hb, rfl⟩
    cases hh : hitB s t a b
    · simp [hh] at this
    · rfl
  · rintro h q ⟨a, ha, b, hb, rfl⟩
    simp [h a ha b hb]

set_option maxRecDepth 40000 in
set_option maxHeartbeats 16000000 in
theorem places_any (s : Sto) (p : Option Addr) (n c : Nat) (t : Tru) (x y : Rng) (w : World) (hs : SmallS s) (ht : SmallT t) (hq : SmallQ x y) :
    Calls Try.prog 61 #[.agg #[.int .i64 s.wide, .int .i64 s.high, .int .i64 s.fall, .int .i64 s.a.lo, .int .i64 s.a.hi, .int .i64 s.b.lo, .int .i64 s.b.hi, .int .i64 s.half.lo, .int .i64 s.half.hi, .int .i64 s.peak.lo, .int .i64 s.peak.hi, .slice p n c], .agg #[.int .i64 t.a, .int .i64 t.b, .int .i64 t.half, .int .i64 t.peak], .agg #[.int .i64 x.lo, .int .i64 x.hi, .int .i64 y.lo, .int .i64 y.hi]] w fun e w' => e = .returned (.tuple #[.bool (hitsB s t x y true), .bool (!hitsB s t x y false)]) ∧ Below w.heap.size w w' := by
  have HH := hid (fun a b W hx hx' hy hy' => hit_any s p n c t a b W hs ht hx hx' hy hy')
  have x0 := hq.x0; have x9 := hq.x9; have y0 := hq.y0; have y9 := hq.y9; have xx := hq.xx; have yy := hq.yy
  clear hs ht hq
  have HS := hid (hits_some s t x y); have HA := hid (hits_all s t x y)
  obtain ⟨SS, hSS⟩ : ∃ v, hitsB s t x y true = v := ⟨_, rfl⟩
  obtain ⟨AA, hAA⟩ : ∃ v, (!hitsB s t x y false) = v := ⟨_, rfl⟩
  rw [hSS] at HS
  rw [hAA] at HA
  rw [hSS, hAA]
  clear hSS hAA
  go_enter Try.func61, Try.ntmps61
  go_wp2_with fail
  go_loopw [8, 9, 10] (fun u v i wr => ∃ (a : Int) (sm al : Bool), x.lo ≤ a ∧ a ≤ x.hi + 1 ∧ u = .bool sm ∧ v = .bool al ∧ i = .int .i64 a ∧ (sm || (⟨a, x.hi⟩ : Rng).nums.any (anyRow s t y)) = SS ∧ (al && (⟨a, x.hi⟩ : Rng).nums.all (allRow s t y)) = AA ∧ Boxed3 w #[.int .i64 s.wide, .int .i64 s.high, .int .i64 s.fall, .int .i64 s.a.lo, .int .i64 s.a.hi, .int .i64 s.b.lo, .int .i64 s.b.hi, .int .i64 s.half.lo, .int .i64 s.half.hi, .int .i64 s.peak.lo, .int .i64 s.peak.hi, .slice p n c] 26 #[.int .i64 t.a, .int .i64 t.b, .int .i64 t.half, .int .i64 t.peak] 92 #[.int .i64 x.lo, .int .i64 x.hi, .int .i64 y.lo, .int .i64 y.hi] 64 wr) (fun _ _ i _ => (x.hi + 1 - intOf i).toNat)
  case atStart => exact ⟨x.lo, false, true, by omega, by omega, rfl, rfl, rfl, by rw [HS.out]; rfl, by rw [HA.out]; rfl, Below.refl _ _⟩
  case round =>
    obtain ⟨a, sm, al, ha, ha', rfl, rfl, rfl, hr1, hr2, HB⟩ := hrel
    have HR1 := hid hr1; have HR2 := hid hr2
    clear hr1 hr2
    have d1 := (RecAt.of HB.cell3).c1
    have d2 := (RecAt.of HB.cell3).c2
    by_cases hle : a ≤ x.hi
    · have HG := hid (nums_go hle)
      go_wp2_with fail
      clear d1 d2
      obtain ⟨wo, rfl⟩ : ∃ wo : World, wo = wr := ⟨_, rfl⟩
      go_loopw [8, 9, 11] (fun u v i wr => ∃ (b : Int) (sm al : Bool), y.lo ≤ b ∧ b ≤ y.hi + 1 ∧ u = .bool sm ∧ v = .bool al ∧ i = .int .i64 b ∧ (sm || ((⟨b, y.hi⟩ : Rng).nums.any (fun b => hitB s t a b) || (⟨a + 1, x.hi⟩ : Rng).nums.any (anyRow s t y))) = SS ∧ (al && ((⟨b, y.hi⟩ : Rng).nums.all (fun b => hitB s t a b) && (⟨a + 1, x.hi⟩ : Rng).nums.all (allRow s t y))) = AA ∧ Boxed3 w #[.int .i64 s.wide, .int .i64 s.high, .int .i64 s.fall, .int .i64 s.a.lo, .int .i64 s.a.hi, .int .i64 s.b.lo, .int .i64 s.b.hi, .int .i64 s.half.lo, .int .i64 s.half.hi, .int .i64 s.peak.lo, .int .i64 s.peak.hi, .slice p n c] 26 #[.int .i64 t.a, .int .i64 t.b, .int .i64 t.half, .int .i64 t.peak] 92 #[.int .i64 x.lo, .int .i64 x.hi, .int .i64 y.lo, .int .i64 y.hi] 64 wr) (fun _ _ i _ => (y.hi + 1 - intOf i).toNat)
      case atStart => exact ⟨y.lo, sm, al, by omega, by omega, rfl, rfl, rfl, by rw [← HR1.out, HG.out]; rfl, by rw [← HR2.out, HG.out]; rfl, HB⟩
      case round =>
        clear HB
        obtain ⟨b, sm, al, hb, hb', rfl, rfl, rfl, hr1, hr2, HB⟩ := hrel
        have HS1 := hid hr1; have HS2 := hid hr2
        clear hr1 hr2
        have d3 := (RecAt.of HB.cell3).c3
        by_cases hly : b ≤ y.hi
        · have HG2 := hid (nums_go hly)
          have e0 := (StoAt.of HB.cell1).c0; have e1 := (StoAt.of HB.cell1).c1; have e2 := (StoAt.of HB.cell1).c2; have e3 := (StoAt.of HB.cell1).c3; have e4 := (StoAt.of HB.cell1).c4; have e5 := (StoAt.of HB.cell1).c5; have e6 := (StoAt.of HB.cell1).c6; have e7 := (StoAt.of HB.cell1).c7; have e8 := (StoAt.of HB.cell1).c8; have e9 := (StoAt.of HB.cell1).c9; have e10 := (StoAt.of HB.cell1).c10; have e11 := (StoAt.of HB.cell1).c11; have f0 := (TruAt.of HB.cell2).c0; have f1 := (TruAt.of HB.cell2).c1; have f2 := (TruAt.of HB.cell2).c2; have f3 := (TruAt.of HB.cell2).c3
          go_wp2_with fail
          (with_reducible refine (HH.out a b _ (by omega) (by omega) (by omega) (by omega)).mono ?_)
          rintro e w1 ⟨rfl, hb1⟩
          have HB1 := HB.step hb1
          clear hb1 d3 e0 e1 e2 e3 e4 e5 e6 e7 e8 e9 e10 e11 f0 f1 f2 f3
          cases hh : hitB s t a b
          · have HT1 : Hid ((sm || ((⟨b + 1, y.hi⟩ : Rng).nums.any (fun b => hitB s t a b) || (⟨a + 1, x.hi⟩ : Rng).nums.any (anyRow s t y))) = SS) := by show _ = _; rw [← HS1.out, HG2.out, List.any_cons, hh]; simp
            have HT2 : Hid ((false && ((⟨b + 1, y.hi⟩ : Rng).nums.all (fun b => hitB s t a b) && (⟨a + 1, x.hi⟩ : Rng).nums.all (allRow s t y))) = AA) := by show _ = _; rw [← HS2.out, HG2.out, List.all_cons, hh]; simp
            clear hh
            go_wp2_with fail
            go_roundw
            case rel => exact ⟨b + 1, sm, false, by omega, by omega, rfl, rfl, by go_num, HT1.out, HT2.out, HB1⟩
            case measure => simp [intOf]; omega
          · have HT1 : Hid ((true || ((⟨b + 1, y.hi⟩ : Rng).nums.any (fun b => hitB s t a b) || (⟨a + 1, x.hi⟩ : Rng).nums.any (anyRow s t y))) = SS) := by show _ = _; rw [← HS1.out, HG2.out, List.any_cons, hh]; simp
            have HT2 : Hid ((al && ((⟨b + 1, y.hi⟩ : Rng).nums.all (fun b => hitB s t a b) && (⟨a + 1, x.hi⟩ : Rng).nums.all (allRow s t y))) = AA) := by show _ = _; rw [← HS2.out, HG2.out, List.all_cons, hh]; simp
            clear hh
            go_wp2_with fail
            go_roundw
            case rel => exact ⟨b + 1, true, al, by omega, by omega, rfl, rfl, by go_num, HT1.out, HT2.out, HB1⟩
            case measure => simp [intOf]; omega
        · have HT1 : Hid ((sm || (⟨a + 1, x.hi⟩ : Rng).nums.any (anyRow s t y)) = SS) := by show _ = _; rw [← HS1.out, nums_end (show y.hi < b by omega)]; rfl
          have HT2 : Hid ((al && (⟨a + 1, x.hi⟩ : Rng).nums.all (allRow s t y)) = AA) := by show _ = _; rw [← HS2.out, nums_end (show y.hi < b by omega)]; rfl
          go_wp2_with fail
          go_roundw
          case rel => exact ⟨a + 1, sm, al, by omega, by omega, rfl, rfl, by go_num, HT1.out, HT2.out, HB⟩
          case measure => simp [intOf]; omega
    · have HT1 : Hid (sm = SS) := by show _ = _; rw [← HR1.out, nums_end (show x.hi < a by omega)]; simp
      have HT2 : Hid (al = AA) := by show _ = _; rw [← HR2.out, nums_end (show x.hi < a by omega)]; simp
      go_wp2_with fail
      go_ret2
      exact ⟨by rw [HT1.out, HT2.out]; rfl, HB.below⟩

set_option maxRecDepth 40000 in
set_option maxHeartbeats 16000000 in
theorem verdR_any (s : Sto) (p : Option Addr) (n c : Nat) (q : Option Addr) (N d : Nat) (L : List Tru) (x y : Rng) (w : World) (hr : RowsAt cellsT 4 w q N L) (hN : N ≤ 100000) (hs : SmallS s) (hT : ∀ t ∈ L, SmallT t) (hq : SmallQ x y) :
    Calls Try.prog 66 #[.agg #[.int .i64 s.wide, .int .i64 s.high, .int .i64 s.fall, .int .i64 s.a.lo, .int .i64 s.a.hi, .int .i64 s.b.lo, .int .i64 s.b.hi, .int .i64 s.half.lo, .int .i64 s.half.hi, .int .i64 s.peak.lo, .int .i64 s.peak.hi, .slice p n c], .slice q N d, .agg #[.int .i64 x.lo, .int .i64 x.hi, .int .i64 y.lo, .int .i64 y.hi]] w fun e w' => e = .returned (.int .i64 (verdT s L x y)) ∧ Below w.heap.size w w' := by
  have HR := hid hr; have HS := hid hs; have HTT := hid hT; have HQ := hid hq
  have HLE := hid hr.1
  clear hr hs hT hq
  obtain ⟨OO, hO⟩ : ∃ v, (L.all fun t => !hitsB s t x y true) = v := ⟨_, rfl⟩
  obtain ⟨II, hI⟩ : ∃ v, (L.all fun t => !hitsB s t x y false) = v := ⟨_, rfl⟩
  have HV : Hid (verdT s L x y = if II = true then 1 else if OO = true then 2 else 3) := by show _ = _; rw [verdT, hO, hI]
  have HO := hid hO; have HI := hid hI
  rw [HV.out]
  clear hO hI HV
  go_enter Try.func66, Try.ntmps66
  go_wp2_with fail
  go_loopw [7, 8, 9] (fun u v j wr => ∃ (k : Nat) (o i : Bool), k ≤ N ∧ u = .bool o ∧ v = .bool i ∧ j = .int .i64 k ∧ (o && (L.drop k).all (fun t => !hitsB s t x y true)) = OO ∧ (i && (L.drop k).all (fun t => !hitsB s t x y false)) = II ∧ Boxed2 w #[.int .i64 s.wide, .int .i64 s.high, .int .i64 s.fall, .int .i64 s.a.lo, .int .i64 s.a.hi, .int .i64 s.b.lo, .int .i64 s.b.hi, .int .i64 s.half.lo, .int .i64 s.half.hi, .int .i64 s.peak.lo, .int .i64 s.peak.hi, .slice p n c] 26 #[.int .i64 x.lo, .int .i64 x.hi, .int .i64 y.lo, .int .i64 y.hi] 64 wr) (fun _ _ j _ => N - (intOf j).toNat)
  case atStart => exact ⟨0, true, true, by omega, rfl, rfl, rfl, HO.out, HI.out, Below.refl _ _⟩
  case round =>
    obtain ⟨k, o, i, hk, rfl, rfl, rfl, h1, h2, hb⟩ := hrel
    have HB := hid hb; have HR1 := hid h1; have HR2 := hid h2
    clear h1 h2
    by_cases hlt : k < N
    · obtain ⟨t, ht, b1, o1, rfl, hlt1, hc⟩ := (HR.out.below hb.below).at hlt
      have HT := hid (HTT.out t (List.mem_of_getElem? ht))
      have HC : Hid (∀ V, Below wr.heap.size wr V → V.cell? ⟨b1, o1 + k * 4, none⟩ = some (.int .i64 t.a) ∧ V.cell? ⟨b1, o1 + k * 4 + 1, none⟩ = some (.int .i64 t.b) ∧ V.cell? ⟨b1, o1 + k * 4 + 2, none⟩ = some (.int .i64 t.half) ∧ V.cell? ⟨b1, o1 + k * 4 + 3, none⟩ = some (.int .i64 t.peak)) := fun V hV => by
        have kk : ∀ (a : Addr) (v : Value), wr.cell? a = some v → V.cell? a = some v := fun a v h => (hV.cell (World.block_lt_of_cell? _ _ h)).trans h
        exact ⟨kk _ _ (hc 0 _ rfl), kk _ _ (hc 1 _ rfl), kk _ _ (hc 2 _ rfl), kk _ _ (hc 3 _ rfl)⟩
      have HN1 : Hid (((o && !hitsB s t x y true) && (L.drop (k + 1)).all (fun t => !hitsB s t x y true)) = OO) := by show _ = _; rw [← HR1.out, drop_at' ht, List.all_cons, Bool.and_assoc]
      have HN2 : Hid (((i && !hitsB s t x y false) && (L.drop (k + 1)).all (fun t => !hitsB s t x y false)) = II) := by show _ = _; rw [← HR2.out, drop_at' ht, List.all_cons, Bool.and_assoc]
      clear ht hc hb
      go_wp2_with fail
      refine wp_region_held_drew (S := fun V => Boxed2 w #[.int .i64 s.wide, .int .i64 s.high, .int .i64 s.fall, .int .i64 s.a.lo, .int .i64 s.a.hi, .int .i64 s.b.lo, .int .i64 s.b.hi, .int .i64 s.half.lo, .int .i64 s.half.hi, .int .i64 s.peak.lo, .int .i64 s.peak.hi, .slice p n c] 26 #[.int .i64 x.lo, .int .i64 x.hi, .int .i64 y.lo, .int .i64 y.hi] 64 V ∧ Below wr.heap.size wr V) (by kernel_rfl) (⟨HB.out.drew, (Below.refl _ _).drew⟩) (fun hS => ?_)
      simp only [List.size_toArray, List.length_cons, List.length_nil, Nat.reduceAdd, Array.replicate_succ, Array.replicate_zero, List.push_toArray, List.nil_append, List.cons_append]
      refine tkH (i := 0) (v := ?_) (fun V hV => ?_) ?_
      rotate_left
      · have e0 := (StoAt.of hV.1.cell1).c0; have e1 := (StoAt.of hV.1.cell1).c1; have e2 := (StoAt.of hV.1.cell1).c2; have e3 := (StoAt.of hV.1.cell1).c3; have e4 := (StoAt.of hV.1.cell1).c4; have e5 := (StoAt.of hV.1.cell1).c5; have e6 := (StoAt.of hV.1.cell1).c6; have e7 := (StoAt.of hV.1.cell1).c7; have e8 := (StoAt.of hV.1.cell1).c8; have e9 := (StoAt.of hV.1.cell1).c9; have e10 := (StoAt.of hV.1.cell1).c10; have e11 := (StoAt.of hV.1.cell1).c11; go_simp
        try with_reducible rfl
      try simp only [Act.put, List.getElem_toArray, List.getElem_cons_zero, List.setIfInBounds_toArray, List.set_cons_zero, List.set_cons_succ]
      refine tkH (i := 1) (v := ?_) (fun V hV => ?_) ?_
      rotate_left
      · go_simp
        try with_reducible rfl
      try simp only [Act.put, List.getElem_toArray, List.getElem_cons_zero, List.getElem_cons_succ, List.setIfInBounds_toArray, List.set_cons_zero, List.set_cons_succ]
      refine tkH (i := 2) (v := ?_) (fun V hV => ?_) ?_
      rotate_left
      · go_simp
        try with_reducible rfl
      try simp only [Act.put, List.getElem_toArray, List.getElem_cons_zero, List.getElem_cons_succ, List.setIfInBounds_toArray, List.set_cons_zero, List.set_cons_succ]
      refine tkH (i := 3) (v := ?_) (fun V hV => ?_) ?_
      rotate_left
      · go_simp
        try with_reducible rfl
      try simp only [Act.put, List.getElem_toArray, List.getElem_cons_zero, List.getElem_cons_succ, List.setIfInBounds_toArray, List.set_cons_zero, List.set_cons_succ]
      refine tkH (i := 4) (v := ?_) (fun V hV => ?_) ?_
      rotate_left
      · have ⟨d0, d1, d2, d3⟩ := HC.out V hV.2; go_simp
        try with_reducible rfl
      try simp only [Act.put, List.getElem_toArray, List.getElem_cons_zero, List.getElem_cons_succ, List.setIfInBounds_toArray, List.set_cons_zero, List.set_cons_succ]
      refine tkH (i := 5) (v := ?_) (fun V hV => ?_) ?_
      rotate_left
      · have e0 := (RecAt.of hV.1.cell2).c0; have e1 := (RecAt.of hV.1.cell2).c1; have e2 := (RecAt.of hV.1.cell2).c2; have e3 := (RecAt.of hV.1.cell2).c3; go_simp
        try with_reducible rfl
      try simp only [Act.put, List.getElem_toArray, List.getElem_cons_zero, List.getElem_cons_succ, List.setIfInBounds_toArray, List.set_cons_zero, List.set_cons_succ]
      refine wpAnyH_ready (rs := [6]) (by kernel_rfl) (by simp) ?_
      refine AllReadyH.cons (o := _) rfl (fun K hK => ?_) AllReadyH.nil
      go_simp
      (with_reducible refine (places_any s p n c t x y _ HS.out HT.out HQ.out).mono ?_)
      rintro e w7 ⟨rfl, hb7⟩
      refine hK.out _ _ (⟨hS.1.step (hb7.mono (by have := hS.1.size; omega)), hS.2.trans (hb7.mono hS.2.size)⟩) (fun hS => ?_)
      clear hK K
      try simp only [List.setIfInBounds_toArray, List.set_cons_zero, List.set_cons_succ]
      refine tkH (i := 7) (v := ?_) (fun V hV => ?_) ?_
      rotate_left
      · go_simp
        try with_reducible rfl
      try simp only [Act.put, List.getElem_toArray, List.getElem_cons_zero, List.getElem_cons_succ, List.setIfInBounds_toArray, List.set_cons_zero, List.set_cons_succ]
      refine tkH (i := 8) (v := ?_) (fun V hV => ?_) ?_
      rotate_left
      · go_simp
        try with_reducible rfl
      try simp only [Act.put, List.getElem_toArray, List.getElem_cons_zero, List.getElem_cons_succ, List.setIfInBounds_toArray, List.set_cons_zero, List.set_cons_succ]
      refine tkH (i := 9) (v := ?_) (fun V hV => ?_) ?_
      rotate_left
      · go_simp
        try with_reducible rfl
      try simp only [Act.put, List.getElem_toArray, List.getElem_cons_zero, List.getElem_cons_succ, List.setIfInBounds_toArray, List.set_cons_zero, List.set_cons_succ]
      refine tkH (i := 10) (v := ?_) (fun V hV => ?_) ?_
      rotate_left
      · go_simp
        try with_reducible rfl
      try simp only [Act.put, List.getElem_toArray, List.getElem_cons_zero, List.getElem_cons_succ, List.setIfInBounds_toArray, List.set_cons_zero, List.set_cons_succ]
      refine tkH (i := 11) (v := ?_) (fun V hV => ?_) ?_
      rotate_left
      · go_simp
        try with_reducible rfl
      try simp only [Act.put, List.getElem_toArray, List.getElem_cons_zero, List.getElem_cons_succ, List.setIfInBounds_toArray, List.set_cons_zero, List.set_cons_succ]
      refine wpAnyH_done (by kernel_rfl) ?_ _
      have HS7 := hid hS.1
      clear hS
      obtain ⟨h1, hh1⟩ : ∃ v, hitsB s t x y true = v := ⟨_, rfl⟩
      obtain ⟨h2, hh2⟩ : ∃ v, hitsB s t x y false = v := ⟨_, rfl⟩
      rw [hh1] at HN1 ⊢
      rw [hh2] at HN2 ⊢
      clear hh1 hh2
      cases o <;> cases i <;> cases h1 <;> cases h2
      all_goals have HX1 := hid HN1.out; have HX2 := hid HN2.out; go_wp2_with fail; go_roundw
      all_goals first | exact ⟨k + 1, _, _, by omega, rfl, rfl, by go_num, HN1.out, HN2.out, HS7.out⟩ | (simp [intOf]; omega)
    · have hd : L.drop k = [] := List.drop_of_length_le (by have := HLE.out; omega)
      have HT1 : Hid (o = OO) := by show _ = _; rw [← HR1.out, hd]; simp
      have HT2 : Hid (i = II) := by show _ = _; rw [← HR2.out, hd]; simp
      rw [HT1.out, HT2.out]
      clear hd
      cases OO <;> cases II
      all_goals
        go_wp2_with fail
        go_ret
        exact ⟨rfl, HB.out.below⟩
end
end Go.Proofs.Ytfnefkenheglhaa
