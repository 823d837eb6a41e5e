/- The reference's first wrong card, smallest set and smallest clash are the program's. No condition but a storm without an error. -/
import Derived.Test.YtfnefkenheglhaaPlC
import Derived.Test.YtfnefkenheglhaaPlF
import Derived.Test.YtfnefkenheglhaaA11
namespace Go.Proofs.Ytfnefkenheglhaa
open Go.RowKit

theorem and_self_iff {a M : Nat} : a &&& M = M ↔ ∀ i, M.testBit i = true → a.testBit i = true := by
  constructor
  · intro h i hi
    rw [← h, Nat.testBit_and, Bool.and_eq_true] at hi
    exact hi.1
  · intro h
    refine Nat.eq_of_testBit_eq fun i => ?_
    rw [Nat.testBit_and]
    cases hi : M.testBit i
    · simp
    · simp [h i hi]

/-- Whether some cards are right together is what the storm with these cards says. -/
theorem can_has {s : Sto} (ok : OkS s) {M : Nat} (hM : M < 2 ^ s.cards.length) : canN (allR' s) M = hasT s (M : Int) := by
  rw [Bool.eq_iff_iff, has_bits]
  unfold canN
  rw [List.any_eq_true]
  constructor
  · rintro ⟨a, ha, h⟩
    rw [decide_eq_true_eq, and_self_iff] at h
    obtain ⟨m, hm, rfl⟩ := List.mem_map.1 ha
    refine ⟨nthS s m, ((all_perm ok.pos).mem_iff).1 (List.mem_map.2 ⟨m, hm, rfl⟩), fun i c hc hi => ?_⟩
    have hb := h i hi
    rw [rightN, numOf_bit, Bool.and_eq_true, fitN, hc] at hb
    exact hb.2
  · rintro ⟨t, ht, h⟩
    obtain ⟨m, hm, rfl⟩ := List.mem_map.1 (((all_perm ok.pos).mem_iff).2 ht)
    refine ⟨rightN s (nthS s m), List.mem_map.2 ⟨m, hm, rfl⟩, ?_⟩
    rw [decide_eq_true_eq, and_self_iff]
    intro i hi
    have hin : i < s.cards.length := by
      refine Nat.lt_of_not_le fun hge => ?_
      rw [Nat.testBit_lt_two_pow (Nat.lt_of_lt_of_le hM (Nat.pow_le_pow_right (by decide) hge))] at hi
      cases hi
    have hc : s.cards[i]? = some s.cards[i] := List.getElem?_eq_getElem hin
    rw [rightN, numOf_bit, Bool.and_eq_true, fitN, hc]
    exact ⟨by simpa using hin, h i _ hc hi⟩

theorem has_le {s : Sto} {M N : Nat} (h : ∀ i, M.testBit i = true → N.testBit i = true) (hN : hasT s (N : Int) = true) : hasT s (M : Int) = true := by
  rw [has_bits] at hN ⊢
  obtain ⟨t, ht, hf⟩ := hN
  exact ⟨t, ht, fun i c hc hi => hf i c hc (h i hi)⟩
theorem has_zero {s : Sto} (ok : OkS s) : hasT s ((0 : Nat) : Int) = true := by
  rw [has_bits]
  obtain ⟨t, ht⟩ := poss_ne ok
  exact ⟨t, ht, fun i c _ hi => by simp at hi⟩

/-- The first number from k on, of m ones, at which f is false. -/
def firstG (f : Nat → Bool) : Nat → Nat → Int
  | _, 0 => -1
  | k, m + 1 => if f k = true then firstG f (k + 1) m else (k : Int)
theorem firstG_go (f : Nat → Bool) (k n : Nat) (h : k < n) : firstG f k (n - k) = if f k = true then firstG f (k + 1) (n - (k + 1)) else (k : Int) := by
  obtain ⟨m, hm⟩ : ∃ m, n - k = m + 1 := ⟨n - k - 1, by omega⟩
  rw [hm, show n - (k + 1) = m by omega]; rfl
theorem firstG_end (f : Nat → Bool) (k n : Nat) (h : ¬ k < n) : firstG f k (n - k) = -1 := by
  rw [show n - k = 0 by omega]; rfl
theorem firstG_eq (f : Nat → Bool) (n j : Nat) (hj : j ≤ n) (h1 : ∀ i, i < j → f i = true) (h2 : j < n → f j = false) : ∀ (m k : Nat), k + m = n → k ≤ j → firstG f k m = if j = n then -1 else (j : Int)
  | 0, k, hk, hkj => by
    have : j = n := by omega
    rw [if_pos this]; rfl
  | m + 1, k, hk, hkj => by
    unfold firstG
    by_cases e : k = j
    · subst e
      rw [h2 (by omega), if_neg (by simp), if_neg (by omega)]
    · rw [h1 k (by omega), if_pos rfl]
      exact firstG_eq f n j hj h1 h2 m (k + 1) (by omega) (by omega)

def firstR (s : Sto) : Int := firstG (fun j => canN (allR' s) (2 ^ (j + 1) - 1)) 0 s.cards.length
theorem firstR_law {s : Sto} (ok : OkS s) : firstR s = if firstM s = (s.cards.length : Int) then -1 else firstM s := by
  obtain ⟨k, hk, hle, h1, h2⟩ := first_law ok
  have hp : ∀ j, j < s.cards.length → 2 ^ (j + 1) - 1 < 2 ^ s.cards.length := fun j hj => by
    have a := Nat.pow_le_pow_right (n := 2) (by decide) (show j + 1 ≤ s.cards.length by omega)
    have b := Nat.two_pow_pos (j + 1)
    omega
  unfold firstR
  rw [firstG_eq _ s.cards.length k hle (fun i hi => ?_) (fun hlt => ?_) s.cards.length 0 (by omega) (by omega), hk]
  · by_cases e : k = s.cards.length
    · rw [if_pos e, if_pos (by omega)]
    · rw [if_neg e, if_neg (by omega)]
  · rw [can_has ok (hp i (by omega))]
    refine has_le (fun p hq => ?_) h1
    rw [every_bit, decide_eq_true_eq] at hq ⊢
    omega
  · rw [can_has ok (hp k hlt)]
    exact h2 hlt

/-- The reference's smallest set. -/
def leaveR (s : Sto) : List Int := bestL (fun b => canN (allR' s) (andN (2 ^ s.cards.length - 1) b)) s.cards.length
theorem andEvery_lt (n b : Nat) : andN (2 ^ n - 1) b < 2 ^ n := by
  refine Nat.lt_of_le_of_lt ?_ (show 2 ^ n - 1 < 2 ^ n by have := Nat.two_pow_pos n; omega)
  have e : andN (2 ^ n - 1) b &&& (2 ^ n - 1) = andN (2 ^ n - 1) b := by
    refine Nat.eq_of_testBit_eq fun i => ?_
    rw [Nat.testBit_and, andN_bit, every_bit]
    cases decide (i < 12) <;> cases decide (i < n) <;> simp
  rw [← e]; exact Nat.and_le_right
theorem leaveR_law {s : Sto} (ok : OkS s) : shortL (leaveF s) s.cards.length = some (leaveR s) := by
  obtain ⟨X, hX, _⟩ := left_law ok
  have hn := ok.n6
  have h1 := short_first hX
  have h2 : First (leaveF s) s.cards.length (leaveR s) := by
    refine bestL_first (by omega) (fun k hk => ?_) ?_
    · rw [can_has ok (andEvery_lt _ _)]
      refine (leave_has ok fun i hi => ?_).symm
      rw [andN_bit, every_bit, bitsL_mem hk (by omega)]
      have a : i < 12 := by omega
      simp [a, hi]
    · rw [can_has ok (andEvery_lt _ _)]
      refine has_le (fun i hi => ?_) (has_zero ok)
      rw [andN_bit] at hi
      simp at hi
  rw [hX, h1.unique h2]

/-- The reference's smallest clash: what is found, from k on, of m numbers. -/
def clashG (f : Nat → Bool) : Nat → Nat → Option (List Int) → Option (List Int)
  | _, 0, b => b
  | k, m + 1, b => clashG f (k + 1) m (if ((b.isNone || shorterB (bitsL k) (b.getD [])) && !f k) = true then some (bitsL k) else b)
theorem clashG_go (f : Nat → Bool) (k n : Nat) (b : Option (List Int)) (h : k < n) : clashG f k (n - k) b = clashG f (k + 1) (n - (k + 1)) (if ((b.isNone || shorterB (bitsL k) (b.getD [])) && !f k) = true then some (bitsL k) else b) := by
  obtain ⟨m, hm⟩ : ∃ m, n - k = m + 1 := ⟨n - k - 1, by omega⟩
  rw [hm, show n - (k + 1) = m by omega]; rfl
theorem clashG_end (f : Nat → Bool) (k n : Nat) (b : Option (List Int)) (h : ¬ k < n) : clashG f k (n - k) b = b := by
  rw [show n - k = 0 by omega]; rfl
theorem clashG_spec (f : Nat → Bool) : ∀ (m k : Nat) (b : Option (List Int)),
    (clashG f k m b = b ∨ ∃ i, k ≤ i ∧ i < k + m ∧ f i = false ∧ clashG f k m b = some (bitsL (i : Nat))) ∧
      (∀ i, k ≤ i → i < k + m → f i = false → ∃ x, clashG f k m b = some x ∧ shorterB (bitsL (i : Nat)) x = false) ∧
      (∀ y, b = some y → ∃ x, clashG f k m b = some x ∧ (x = y ∨ shorterB x y = true))
  | 0, k, b => ⟨.inl rfl, fun i h1 h2 => by omega, fun y hy => ⟨y, hy, .inl rfl⟩⟩
  | m + 1, k, b => by
    unfold clashG
    by_cases hc : ((b.isNone || shorterB (bitsL k) (b.getD [])) && !f k) = true
    · rw [if_pos hc]
      simp only [Bool.and_eq_true, Bool.or_eq_true, Bool.not_eq_true'] at hc
      obtain ⟨hb, hf⟩ := hc
      obtain ⟨h1, h2, h3⟩ := clashG_spec f m (k + 1) (some (bitsL (k : Nat)))
      obtain ⟨x, hx, hxk⟩ := h3 _ rfl
      refine ⟨.inr ?_, fun i hi1 hi2 hfi => ?_, fun y hy => ?_⟩
      · rcases h1 with h1 | ⟨i, a1, a2, a3, a4⟩
        · exact ⟨k, by omega, by omega, hf, h1⟩
        · exact ⟨i, by omega, by omega, a3, a4⟩
      · by_cases e : i = k
        · subst e
          refine ⟨x, hx, ?_⟩
          rcases hxk with rfl | hxk
          · exact shorter_irr _
          · exact shorter_asym hxk
        · exact h2 i (by omega) (by omega) hfi
      · refine ⟨x, hx, .inr ?_⟩
        subst hy
        simp only [Option.isNone_some, Bool.false_eq_true, false_or, Option.getD_some] at hb
        rcases hxk with rfl | hxk
        · exact hb
        · exact shorter_trans_not hxk hb
    · rw [if_neg hc]
      obtain ⟨h1, h2, h3⟩ := clashG_spec f m (k + 1) b
      refine ⟨?_, fun i hi1 hi2 hfi => ?_, h3⟩
      · rcases h1 with h1 | ⟨i, a1, a2, a3, a4⟩
        · exact .inl h1
        · exact .inr ⟨i, by omega, by omega, a3, a4⟩
      · by_cases e : i = k
        · subst e
          cases b with
          | none => simp [hfi] at hc
          | some y =>
            simp only [Option.isNone_some, Bool.false_or, Option.getD_some, hfi, Bool.not_false, Bool.and_true, Bool.not_eq_true] at hc
            obtain ⟨x, hx, hxy⟩ := h3 y rfl
            refine ⟨x, hx, ?_⟩
            rcases hxy with rfl | hxy
            · exact hc
            · cases hh : shorterB (bitsL (i : Nat)) x with
              | false => rfl
              | true => rw [shorter_trans_not hh hxy] at hc; cases hc
        · exact h2 i (by omega) (by omega) hfi

def clashR (s : Sto) : Option (List Int) := clashG (fun b => canN (allR' s) b) 1 (2 ^ s.cards.length - 1) none
theorem clashR_law {s : Sto} (ok : OkS s) : shortL (clashF s) s.cards.length = clashR s := by
  have hn := ok.n6
  have hpos := Nat.two_pow_pos s.cards.length
  have hcf : ∀ k, k < 2 ^ s.cards.length → clashF s (bitsL (k : Nat)) = !canN (allR' s) k := fun k hk => by
    rw [can_has ok hk]
    exact clash_has ok fun i _ => (bitsL_mem hk (by omega) i).symm
  obtain ⟨h1, h2, _⟩ := clashG_spec (fun b => canN (allR' s) b) (2 ^ s.cards.length - 1) 1 none
  have h2' : ∀ y, IncrG s.cards.length 0 y → clashF s y = true → ∃ x, clashR s = some x ∧ shorterB y x = false := fun y hy hcy => by
    obtain ⟨k, hk, rfl⟩ := bitsL_onto (by omega) hy
    rw [hcf k hk] at hcy
    have hk0 : k ≠ 0 := by
      rintro rfl
      rw [can_has ok hk, has_zero ok] at hcy
      cases hcy
    refine h2 k (by omega) (by omega) ?_
    simpa using hcy
  cases hR : clashR s with
  | none =>
    cases hS : shortL (clashF s) s.cards.length with
    | none => rfl
    | some X =>
      have hX := short_first hS
      obtain ⟨x, hx, _⟩ := h2' X hX.1 hX.2.1
      rw [hR] at hx; cases hx
  | some x =>
    have hx : First (clashF s) s.cards.length x := by
      rcases h1 with h1 | ⟨i, a1, a2, a3, a4⟩
      · have e : clashR s = none := h1
        rw [hR] at e; cases e
      · have e : clashR s = some (bitsL (i : Nat)) := a4
        rw [hR] at e
        cases e
        refine ⟨bitsL_incr (by omega) (by omega), ?_, fun y hy hcy => ?_⟩
        · rw [hcf i (by omega)]; simpa using a3
        · obtain ⟨z, hz, hyz⟩ := h2' y hy hcy
          rw [hR] at hz; cases hz
          exact hyz
    obtain ⟨Y, hY⟩ := short_some hx.1 hx.2.1
    rw [hY, (short_first hY).unique hx]

theorem clash_none {s : Sto} (ok : OkS s) : clashR s = none ↔ firstM s = s.cards.length := by
  obtain ⟨k, hk, hle, h1, h2⟩ := first_law ok
  obtain ⟨c1, c2, _⟩ := clashG_spec (fun b => canN (allR' s) b) (2 ^ s.cards.length - 1) 1 none
  have hp := Nat.two_pow_pos s.cards.length
  constructor
  · intro h
    by_cases e : k = s.cards.length
    · omega
    · have hlt : k < s.cards.length := by omega
      have a := Nat.pow_le_pow_right (n := 2) (by decide) (show k + 1 ≤ s.cards.length by omega)
      have b : 2 ≤ 2 ^ (k + 1) := Nat.pow_le_pow_right (n := 2) (by decide) (show 1 ≤ k + 1 by omega)
      obtain ⟨x, hx, _⟩ := c2 (2 ^ (k + 1) - 1) (by omega) (by omega) (by rw [can_has ok (by omega)]; exact h2 hlt)
      have h' : clashG (fun b => canN (allR' s) b) 1 (2 ^ s.cards.length - 1) none = none := h
      rw [h'] at hx; cases hx
  · intro h
    have e : k = s.cards.length := by omega
    subst e
    rcases c1 with c1 | ⟨i, a1, a2, a3, _⟩
    · exact c1
    · skip
      rw [can_has ok (by omega)] at a3
      have : hasT s (i : Int) = true := has_le (fun p hp => by
        rw [every_bit, decide_eq_true_eq]
        refine Nat.lt_of_not_le fun hge => ?_
        rw [Nat.testBit_lt_two_pow (Nat.lt_of_lt_of_le (show i < 2 ^ s.cards.length by omega) (Nat.pow_le_pow_right (by decide) hge))] at hp
        cases hp) h1
      rw [this] at a3; cases a3
theorem bestG_len (f : Nat → Bool) : ∀ (m k : Nat) (b : List Int), b.length ≤ 12 → (bestG f k m b).length ≤ 12
  | 0, _, _, h => h
  | m + 1, k, b, h => by
    unfold bestG
    refine bestG_len f m _ _ ?_
    split
    · exact bitsTo_len _ _
    · exact h
theorem bestL_len (f : Nat → Bool) (n : Nat) : (bestL f n).length ≤ 12 := bestG_len f _ _ _ (bitsTo_len _ _)
theorem clashR_len {s : Sto} (_ok : OkS s) {C : List Int} (h : clashR s = some C) : C.length ≤ 1000 := by
  obtain ⟨c1, _, _⟩ := clashG_spec (fun b => canN (allR' s) b) (2 ^ s.cards.length - 1) 1 none
  have h' : clashG (fun b => canN (allR' s) b) 1 (2 ^ s.cards.length - 1) none = some C := h
  rw [h'] at c1
  rcases c1 with c1 | ⟨i, _, _, _, c1⟩
  · cases c1
  · cases c1; exact Nat.le_trans (bitsTo_len _ _) (by decide)

end Go.Proofs.Ytfnefkenheglhaa
