/- Lists of numbers as bits; the first of the shortest lists: plain facts. No condition. -/
import Derived.Test.YtaioobhblfnlaaaBas
namespace Go.Proofs.Ytaioobhblfnlaaa
open Go.RowKit

def bitB (m : Int) (p : Nat) : Bool := m / 2 ^ p % 2 == 1

def bitsTo (m : Int) (k : Nat) : List Int := ((List.range k).filter (bitB m)).map (fun p : Nat => (p : Int))

def bitsL (m : Int) : List Int := bitsTo m 12

theorem bitsTo_succ (m : Int) (k : Nat) : bitsTo m (k + 1) = bitsTo m k ++ if bitB m k = true then [(k : Int)] else [] := by
  unfold bitsTo
  rw [List.range_succ, List.filter_append, List.map_append]
  congr 1
  by_cases h : bitB m k = true <;> simp [h]

theorem bitsTo_len (m : Int) (k : Nat) : (bitsTo m k).length ≤ k := by
  unfold bitsTo
  rw [List.length_map]
  exact Nat.le_trans (List.length_filter_le _ _) (by simp)

theorem div_pow_zero {m : Int} {k j : Nat} (h0 : 0 ≤ m) (h : m / 2 ^ k ≤ 0) (hj : k ≤ j) : m / 2 ^ j = 0 := by
  have hk : m < 2 ^ k := by
    rcases Int.lt_or_le m (2 ^ k) with h' | h'
    · exact h'
    · have := Int.le_ediv_of_mul_le (a := 1) (b := m) (c := 2 ^ k) (Int.pow_pos (by omega)) (by omega)
      omega
  have hp : (2 : Int) ^ k ≤ 2 ^ j := by have := Nat.pow_le_pow_right (n := 2) (by decide) hj; exact_mod_cast this
  exact Int.ediv_eq_zero_of_lt h0 (by omega)

theorem bitsTo_end {m : Int} {k j : Nat} (h0 : 0 ≤ m) (h : m / 2 ^ k ≤ 0) (hj : k ≤ j) : bitsTo m j = bitsTo m k := by
  induction j with
  | zero => have : k = 0 := by omega
            subst this; rfl
  | succ j ih =>
    by_cases e : k = j + 1
    · subst e; rfl
    · rw [bitsTo_succ, ih (by omega)]
      have := div_pow_zero h0 h (j := j) (by omega)
      simp [bitB, this]

theorem lt_of_div_pow {m : Int} {k : Nat} (h0 : 0 ≤ m) (hm : m < 4096) (h : 0 < m / 2 ^ k) : k < 12 := by
  rcases Nat.lt_or_ge k 12 with h' | h'
  · exact h'
  · have := div_pow_zero (m := m) (k := 12) (j := k) h0 (by have : (2 : Int) ^ 12 = 4096 := by decide
                                                            rw [this]; omega) h'
    omega

/-- Before: what is left of both lists. -/
def beforeB : List Int → List Int → Bool
  | a :: l, b :: h => if a = b then beforeB l h else decide (a < b)
  | [], _ :: _ => true
  | _, [] => false

def shorterB (l h : List Int) : Bool := decide (l.length < h.length) || (decide (l.length = h.length) && beforeB l h)

def sameB (l h : List Int) : Bool := decide (l.length = h.length) && (!beforeB l h && !beforeB h l)

/-- The best of best and of the sets k, .., k + m - 1 that are as asked. -/
def bestG (f : Nat → Bool) : Nat → Nat → List Int → List Int
  | _, 0, best => best
  | k, m + 1, best => bestG f (k + 1) m (if (shorterB (bitsL k) best && f k) = true then bitsL k else best)

def bestL (f : Nat → Bool) (n : Nat) : List Int := bestG f 0 (2 ^ n) (bitsL (2 ^ n - 1))

theorem bestG_go (f : Nat → Bool) (k n : Nat) (b : List Int) (h : k < n) : bestG f k (n - k) b = bestG f (k + 1) (n - (k + 1)) (if (shorterB (bitsL k) b && f k) = true then bitsL k else b) := by
  have e : n - k = (n - (k + 1)) + 1 := by omega
  rw [e]; rfl

theorem bestG_end (f : Nat → Bool) (k n : Nat) (b : List Int) (h : ¬ k < n) : bestG f k (n - k) b = b := by
  have e : n - k = 0 := by omega
  rw [e]; rfl

theorem pow_facts {m : Nat} (hm : m ≤ 9) : ∃ M : Nat, 2 ^ m = M ∧ 1 ≤ M ∧ M ≤ 512 ∧ wrap64 (2 ^ m) = (M : Int) := by
  have h1 : 1 ≤ 2 ^ m := Nat.one_le_two_pow
  have h2 : 2 ^ m ≤ 2 ^ 9 := Nat.pow_le_pow_right (by decide) hm
  have h3 : (2 : Int) ^ m = ((2 ^ m : Nat) : Int) := by simp
  refine ⟨2 ^ m, rfl, h1, by simpa using h2, ?_⟩
  rw [h3]
  exact IntWalk.wrap64_in _ (by omega)

/-- The increasing lists of m numbers from s on and below b, in their order. -/
def combos (b : Nat) : Nat → Nat → List (List Int)
  | 0, _ => [[]]
  | m + 1, s => (List.range' s (b - m - s)).flatMap fun i => (combos b m (i + 1)).map ((i : Int) :: ·)

/-- Increasing, from s on and below b. -/
def IncrG (b : Nat) : Int → List Int → Prop
  | _, [] => True
  | s, a :: l => s ≤ a ∧ a < b ∧ IncrG b (a + 1) l

theorem incr_room (b : Nat) : ∀ (l : List Int) (s : Int), IncrG b s l → l ≠ [] → s + l.length ≤ b
  | [], _, _, h => absurd rfl h
  | a :: l, s, ⟨h1, h2, h3⟩, _ => by
    cases l with
    | nil => simp; omega
    | cons c k =>
      have := incr_room b (c :: k) (a + 1) h3 (by simp)
      simp at this ⊢; omega

theorem mem_combos (b : Nat) : ∀ (m s : Nat) (x : List Int), x ∈ combos b m s ↔ x.length = m ∧ IncrG b s x
  | 0, s, x => by
    simp only [combos, List.mem_singleton]
    constructor
    · rintro rfl; exact ⟨rfl, trivial⟩
    · rintro ⟨h, _⟩; exact List.length_eq_zero_iff.1 h
  | m + 1, s, x => by
    simp only [combos, List.mem_flatMap, List.mem_map, List.mem_range'_1]
    constructor
    · rintro ⟨i, hi, y, hy, rfl⟩
      obtain ⟨h1, h2⟩ := (mem_combos b m (i + 1) y).1 hy
      refine ⟨by simp [h1], by omega, by omega, ?_⟩
      simpa using h2
    · rintro ⟨h1, h2⟩
      cases x with
      | nil => simp at h1
      | cons a l =>
        obtain ⟨h3, h4, h5⟩ := h2
        have hl : l.length = m := by simpa using h1
        have hr := incr_room b (a :: l) a ⟨by omega, h4, h5⟩ (by simp)
        simp only [List.length_cons] at hr
        obtain ⟨i, rfl⟩ : ∃ i : Nat, a = i := ⟨a.toNat, by omega⟩
        exact ⟨i, by omega, l, (mem_combos b m (i + 1) l).2 ⟨hl, by simpa using h5⟩, rfl⟩

theorem before_irr : ∀ (x : List Int), beforeB x x = false
  | [] => rfl
  | a :: l => by simp [beforeB, before_irr l]

theorem before_asym : ∀ (x y : List Int), beforeB x y = true → beforeB y x = false
  | [], [], h => by simp [beforeB] at h
  | [], _ :: _, _ => rfl
  | _ :: _, [], h => by simp [beforeB] at h
  | a :: l, b :: k, h => by
    unfold beforeB at h ⊢
    split at h
    · rename_i e; rw [if_pos e.symm]; exact before_asym l k h
    · rename_i e; rw [if_neg (fun x => e x.symm)]; simp at h ⊢; omega

theorem before_total : ∀ (x y : List Int), x.length = y.length → beforeB x y = false → beforeB y x = false → x = y
  | [], [], _, _, _ => rfl
  | [], _ :: _, h, _, _ => by simp at h
  | _ :: _, [], h, _, _ => by simp at h
  | a :: l, b :: k, h, h1, h2 => by
    unfold beforeB at h1 h2
    by_cases e : a = b
    · subst e; simp at h1 h2; rw [before_total l k (by simpa using h) h1 h2]
    · rw [if_neg e] at h1; rw [if_neg (fun x => e x.symm)] at h2; simp at h1 h2; omega

theorem combos_sorted (b : Nat) : ∀ (m s : Nat), (combos b m s).Pairwise fun x y => beforeB x y = true
  | 0, s => by simp [combos]
  | m + 1, s => by
    unfold combos
    rw [List.pairwise_flatMap]
    refine ⟨fun i _ => ?_, ?_⟩
    · rw [List.pairwise_map]
      exact (combos_sorted b m (i + 1)).imp fun h => by simp [beforeB, h]
    · refine (List.pairwise_lt_range' (s := s) (n := b - m - s) (step := 1)).imp ?_
      intro i j hij x hx y hy
      obtain ⟨x', _, rfl⟩ := List.mem_map.1 hx
      obtain ⟨y', _, rfl⟩ := List.mem_map.1 hy
      have : (i : Int) ≠ j := by omega
      simp [beforeB, this]; omega

/-- What a search finds first comes before what else there is. -/
theorem find_before {l : List (List Int)} (hp : l.Pairwise fun x y => beforeB x y = true) {f : List Int → Bool} {x : List Int} (h : l.find? f = some x) : x ∈ l ∧ f x = true ∧ ∀ y ∈ l, f y = true → beforeB y x = false := by
  obtain ⟨hf, l1, l2, rfl, h1⟩ := List.find?_eq_some_iff_append.1 h
  refine ⟨by simp, hf, fun y hy hfy => ?_⟩
  rcases List.mem_append.1 hy with hy | hy
  · have := h1 y hy; simp [hfy] at this
  · rcases List.mem_cons.1 hy with rfl | hy
    · exact before_irr _
    · rw [List.pairwise_append] at hp
      exact before_asym _ _ ((List.pairwise_cons.1 hp.2.1).1 y hy)

/-- x is the first of the increasing lists below b that are hits: the shorter ones first, then lexicographically. -/
def First (f : List Int → Bool) (b : Nat) (x : List Int) : Prop := IncrG b 0 x ∧ f x = true ∧ ∀ y, IncrG b 0 y → f y = true → shorterB y x = false

theorem First.unique {f : List Int → Bool} {b : Nat} {x y : List Int} (hx : First f b x) (hy : First f b y) : x = y := by
  have h1 := hx.2.2 y hy.1 hy.2.1
  have h2 := hy.2.2 x hx.1 hx.2.1
  simp only [shorterB, Bool.or_eq_false_iff, decide_eq_false_iff_not, Bool.and_eq_false_iff] at h1 h2
  have hl : x.length = y.length := by omega
  refine before_total x y hl ?_ ?_
  · rcases h2.2 with h | h
    · exact absurd hl h
    · exact h
  · rcases h1.2 with h | h
    · exact absurd hl.symm h
    · exact h

theorem first_of {f : List Int → Bool} {b n : Nat} {x : List Int} (hno : ∀ m, m < n → ∀ y ∈ combos b m 0, f y = false) (h : (combos b n 0).find? f = some x) : First f b x := by
  obtain ⟨hm, hf, hb⟩ := find_before (combos_sorted b n 0) h
  obtain ⟨hl, hi⟩ := (mem_combos b n 0 x).1 hm
  refine ⟨hi, hf, fun y hy hfy => ?_⟩
  have hge : ¬ y.length < n := fun hlt => by have := hno _ hlt y ((mem_combos b _ 0 y).2 ⟨rfl, hy⟩); rw [hfy] at this; cases this
  simp only [shorterB, Bool.or_eq_false_iff, decide_eq_false_iff_not, Bool.and_eq_false_iff]
  refine ⟨by omega, ?_⟩
  by_cases e : y.length = n
  · exact .inr (hb y ((mem_combos b n 0 y).2 ⟨e, hy⟩) hfy)
  · exact .inl (by omega)

theorem bitB_testBit (m p : Nat) : bitB (m : Int) p = m.testBit p := by
  simp only [bitB, Nat.testBit_eq_decide_div_mod_eq]
  rw [Bool.eq_iff_iff]
  simp only [beq_iff_eq, decide_eq_true_eq]
  constructor
  · intro h
    have : ((m / 2 ^ p % 2 : Nat) : Int) = 1 := by push_cast; exact h
    omega
  · intro h
    have : ((m / 2 ^ p % 2 : Nat) : Int) = 1 := by rw [h]; rfl
    push_cast at this; exact this

/-- The number whose bits below n are f's. -/
def numOf (f : Nat → Bool) : Nat → Nat
  | 0 => 0
  | n + 1 => if f n = true then 2 ^ n + numOf f n else numOf f n

theorem numOf_lt (f : Nat → Bool) : ∀ n, numOf f n < 2 ^ n
  | 0 => by simp [numOf]
  | n + 1 => by
    have := numOf_lt f n
    unfold numOf
    split <;> omega

theorem numOf_bit (f : Nat → Bool) : ∀ n p, (numOf f n).testBit p = (decide (p < n) && f p)
  | 0, p => by simp [numOf]
  | n + 1, p => by
    have ih := numOf_bit f n p
    have hlt := numOf_lt f n
    unfold numOf
    by_cases hp : p < n
    · have e : decide (p < n + 1) = decide (p < n) := by simp [hp]; omega
      split
      · rw [Nat.testBit_two_pow_add_gt hp, ih, e]
      · rw [ih, e]
    · by_cases hpn : p = n
      · subst hpn
        split
        · rename_i h; rw [Nat.testBit_two_pow_add_eq, Nat.testBit_lt_two_pow hlt]; simp [h]
        · rename_i h; rw [Nat.testBit_lt_two_pow hlt]; simp at h; simp [h]
      · have h1 : numOf f (n + 1) < 2 ^ p := Nat.lt_of_lt_of_le (numOf_lt f (n + 1)) (Nat.pow_le_pow_right (by omega) (by omega))
        unfold numOf at h1
        rw [Nat.testBit_lt_two_pow h1]
        have : ¬ p < n + 1 := by omega
        simp [this]

theorem incr_mem {b : Nat} : ∀ {x : List Int} {s : Int}, IncrG b s x → ∀ a ∈ x, s ≤ a ∧ a < b
  | [], _, _, a, h => by simp at h
  | c :: l, s, ⟨h1, h2, h3⟩, a, h => by
    rcases List.mem_cons.1 h with rfl | h
    · exact ⟨h1, h2⟩
    · have := incr_mem h3 a h; omega

theorem incr_ext {b : Nat} : ∀ {x y : List Int} {s : Int}, IncrG b s x → IncrG b s y → (∀ a, a ∈ x ↔ a ∈ y) → x = y
  | [], [], _, _, _, _ => rfl
  | [], c :: _, _, _, _, h => by have := (h c).2 (by simp); simp at this
  | c :: _, [], _, _, _, h => by have := (h c).1 (by simp); simp at this
  | a :: l, c :: k, s, ⟨_, _, h1⟩, ⟨_, _, h2⟩, h => by
    have e : a = c := by
      rcases List.mem_cons.1 ((h a).1 (by simp)) with e | ha
      · exact e
      · rcases List.mem_cons.1 ((h c).2 (by simp)) with e | hc
        · exact e.symm
        · have := incr_mem h1 c hc; have := incr_mem h2 a ha; omega
    subst e
    rw [incr_ext h1 h2 fun z => ?_]
    constructor
    · intro hz
      rcases List.mem_cons.1 ((h z).1 (by simp [hz])) with rfl | h3
      · have := incr_mem h1 _ hz; omega
      · exact h3
    · intro hz
      rcases List.mem_cons.1 ((h z).2 (by simp [hz])) with rfl | h3
      · have := incr_mem h2 _ hz; omega
      · exact h3

theorem incr_snoc {b : Nat} : ∀ {x : List Int} {s : Int}, s ≤ b → IncrG b s x → IncrG (b + 1) s (x ++ [(b : Int)])
  | [], s, h, _ => ⟨h, by omega, trivial⟩
  | a :: l, s, _, ⟨h1, h2, h3⟩ => ⟨h1, by omega, incr_snoc (by omega) h3⟩

theorem incr_more {b c : Nat} (h : b ≤ c) : ∀ {x : List Int} {s : Int}, IncrG b s x → IncrG c s x
  | [], _, _ => trivial
  | a :: l, s, ⟨h1, h2, h3⟩ => ⟨h1, by omega, incr_more h h3⟩

theorem bitsTo_incr (m : Int) : ∀ k, IncrG k 0 (bitsTo m k)
  | 0 => trivial
  | k + 1 => by
    rw [bitsTo_succ]
    split
    · exact incr_snoc (by omega) (bitsTo_incr m k)
    · rw [List.append_nil]; exact incr_more (by omega) (bitsTo_incr m k)

theorem mem_bitsTo (m : Int) (k : Nat) (a : Int) : a ∈ bitsTo m k ↔ ∃ p : Nat, p < k ∧ bitB m p = true ∧ (p : Int) = a := by
  simp [bitsTo, and_assoc]

theorem bitsL_incr {k n : Nat} (hk : k < 2 ^ n) (hn : n ≤ 12) : IncrG n 0 (bitsL k) := by
  have h1 : bitsTo k n = bitsTo k 12 := by
    refine incr_ext (incr_more hn (bitsTo_incr k n)) (bitsTo_incr k 12) fun a => ?_
    rw [mem_bitsTo, mem_bitsTo]
    constructor
    · rintro ⟨p, h1, h2⟩; exact ⟨p, by omega, h2⟩
    · rintro ⟨p, h1, h2, h3⟩
      refine ⟨p, ?_, h2, h3⟩
      refine Classical.byContradiction fun hp => ?_
      rw [bitB_testBit, Nat.testBit_lt_two_pow (Nat.lt_of_lt_of_le hk (Nat.pow_le_pow_right (by omega) (by omega)))] at h2
      cases h2
  show IncrG n 0 (bitsTo k 12)
  rw [← h1]
  exact bitsTo_incr k n

theorem bitsL_onto {n : Nat} (hn : n ≤ 12) {x : List Int} (hx : IncrG n 0 x) : ∃ k, k < 2 ^ n ∧ bitsL (k : Nat) = x := by
  refine ⟨numOf (fun p => decide ((p : Int) ∈ x)) n, numOf_lt _ _, ?_⟩
  refine incr_ext (bitsTo_incr _ 12) (incr_more hn hx) fun a => ?_
  show a ∈ bitsTo _ 12 ↔ _
  rw [mem_bitsTo]
  constructor
  · rintro ⟨p, _, h2, rfl⟩
    rw [bitB_testBit, numOf_bit] at h2
    simpa using (Bool.and_eq_true_iff.1 h2).2
  · intro ha
    have := incr_mem hx a ha
    refine ⟨a.toNat, by omega, ?_, by omega⟩
    rw [bitB_testBit, numOf_bit]
    have e : ((a.toNat : Nat) : Int) = a := by omega
    simp [e, ha]; omega

theorem shorter_trans_not {x y z : List Int} : shorterB x y = true → shorterB y z = true → shorterB x z = true := by
  have bt : ∀ x y z : List Int, beforeB x y = true → beforeB y z = true → beforeB x z = true := by
    intro x
    induction x with
    | nil => intro y z h1 h2; cases z with
      | nil => cases y <;> simp [beforeB] at h2
      | cons => rfl
    | cons a l ih =>
      intro y z h1 h2
      cases y with
      | nil => simp [beforeB] at h1
      | cons b k =>
        cases z with
        | nil => simp [beforeB] at h2
        | cons c j =>
          unfold beforeB at h1 h2 ⊢
          by_cases e1 : a = b
          · subst e1
            by_cases e2 : a = c
            · subst e2; simp at h1 h2 ⊢; exact ih k j h1 h2
            · simp [e2] at h2 ⊢; exact h2
          · simp [e1] at h1
            by_cases e2 : b = c
            · subst e2; simp [e1]; exact h1
            · simp [e2] at h2
              have : a ≠ c := by omega
              simp [this]; omega
  simp only [shorterB, Bool.or_eq_true, decide_eq_true_eq, Bool.and_eq_true]
  rintro (h1 | ⟨h1, h1'⟩) (h2 | ⟨h2, h2'⟩)
  · left; omega
  · left; omega
  · left; omega
  · right; exact ⟨by omega, bt _ _ _ h1' h2'⟩

theorem shorter_irr (x : List Int) : shorterB x x = false := by simp [shorterB, before_irr]

theorem shorter_asym {x y : List Int} (h : shorterB x y = true) : shorterB y x = false := by
  refine Bool.eq_false_iff.2 fun h2 => ?_
  have := shorter_trans_not h h2
  rw [shorter_irr] at this; cases this

/-- What the reference's search ends with. -/
theorem bestG_spec (f : Nat → Bool) : ∀ (m k : Nat) (b : List Int),
    (bestG f k m b = b ∨ ∃ i, k ≤ i ∧ i < k + m ∧ f i = true ∧ bestG f k m b = bitsL (i : Nat) ∧ shorterB (bitsL (i : Nat)) b = true) ∧ ∀ i, k ≤ i → i < k + m → f i = true → shorterB (bitsL (i : Nat)) (bestG f k m b) = false
  | 0, k, b => ⟨.inl rfl, fun i h1 h2 => by omega⟩
  | m + 1, k, b => by
    unfold bestG
    by_cases hc : (shorterB (bitsL (k : Nat)) b && f k) = true
    · rw [if_pos hc]
      simp only [Bool.and_eq_true] at hc
      obtain ⟨h1, h3⟩ := bestG_spec f m (k + 1) (bitsL (k : Nat))
      refine ⟨.inr ?_, fun i hi1 hi2 hf => ?_⟩
      · rcases h1 with h1 | ⟨i, a1, a2, a3, a4, a5⟩
        · exact ⟨k, by omega, by omega, hc.2, h1, hc.1⟩
        · exact ⟨i, by omega, by omega, a3, a4, shorter_trans_not a5 hc.1⟩
      · by_cases e : i = k
        · subst e
          rcases h1 with h1 | ⟨j, a1, a2, a3, a4, a5⟩
          · rw [h1]; exact shorter_irr _
          · rw [a4]; exact shorter_asym a5
        · exact h3 i (by omega) (by omega) hf
    · rw [if_neg hc]
      obtain ⟨h1, h3⟩ := bestG_spec f m (k + 1) b
      refine ⟨?_, fun i hi1 hi2 hf => ?_⟩
      · rcases h1 with h1 | ⟨i, a1, a2, a3, a4⟩
        · exact .inl h1
        · exact .inr ⟨i, by omega, by omega, a3, a4⟩
      · by_cases e : i = k
        · subst e
          simp only [hf, Bool.and_true, Bool.not_eq_true] at hc
          refine Bool.eq_false_iff.2 fun hs => ?_
          rcases h1 with h1 | ⟨j, a1, a2, a3, a4, a5⟩
          · rw [h1, hc] at hs; cases hs
          · rw [a4] at hs
            rw [shorter_trans_not hs a5] at hc; cases hc
        · exact h3 i (by omega) (by omega) hf

/-- The reference's best set is the first of all lists, where the whole list is a hit. -/
theorem bestL_first {f : Nat → Bool} {g : List Int → Bool} {n : Nat} (hn : n ≤ 12) (hfg : ∀ k, k < 2 ^ n → f k = g (bitsL (k : Nat))) (hall : f (2 ^ n - 1) = true) : First g n (bestL f n) := by
  have hp : 1 ≤ 2 ^ n := Nat.one_le_two_pow
  have hcast : ((2 : Int) ^ n - 1) = ((2 ^ n - 1 : Nat) : Int) := by rw [Int.natCast_sub hp]; simp
  obtain ⟨h1, h2⟩ := bestG_spec f (2 ^ n) 0 (bitsL (2 ^ n - 1))
  unfold bestL
  refine ⟨?_, ?_, fun y hy hgy => ?_⟩
  · rcases h1 with h1 | ⟨i, _, a2, _, a4, _⟩
    · rw [h1, hcast]; exact bitsL_incr (by omega) hn
    · rw [a4]; exact bitsL_incr (by omega) hn
  · rcases h1 with h1 | ⟨i, _, a2, a3, a4, _⟩
    · rw [h1, hcast, ← hfg _ (by omega)]; exact hall
    · rw [a4, ← hfg _ (by omega)]; exact a3
  · obtain ⟨k, hk, rfl⟩ := bitsL_onto hn hy
    exact h2 k (by omega) (by omega) (by rw [hfg k hk]; exact hgy)

theorem i64_or_nat (a b : Nat) (ha : a < 4096) (hb : b < 4096) : bits .or .i64 (a : Int) (b : Int) = ((a ||| b : Nat) : Int) := by
  have h : (a ||| b) < 4096 := Nat.or_lt_two_pow (n := 12) ha hb
  show IntKind.i64.wrap ((BitVec.ofInt 64 (a : Int) ||| BitVec.ofInt 64 (b : Int)).toNat : Int) = _
  rw [BitVec.toNat_or, ofInt_u64 a (by omega), ofInt_u64 b (by omega), IntWalk.i64_in _ (by omega)]

/-- The bits of the first k numbers of a list. -/
def setOf (X : List Int) (k : Nat) : Nat := numOf (fun p => decide ((p : Int) ∈ X.take k)) 12

theorem setOf_lt (X : List Int) (k : Nat) : setOf X k < 4096 := numOf_lt _ 12

theorem setOf_zero (X : List Int) : setOf X 0 = 0 := by
  refine Nat.eq_of_testBit_eq fun p => ?_
  rw [setOf, numOf_bit]
  simp

theorem setOf_succ {X : List Int} {k j : Nat} (hj : X[k]? = some (j : Int)) (hj12 : j < 12) : setOf X (k + 1) = setOf X k ||| 2 ^ j := by
  refine Nat.eq_of_testBit_eq fun p => ?_
  have ht : X.take (k + 1) = X.take k ++ [(j : Int)] := by rw [List.take_add_one, hj]; rfl
  rw [Nat.testBit_or, setOf, setOf, numOf_bit, numOf_bit, ht, Nat.testBit_two_pow]
  by_cases hp : p < 12
  · by_cases e : j = p
    · subst e; simp [hp]
    · have e' : ¬ (p : Int) = (j : Int) := by omega
      simp [hp, e, e']
  · have e : ¬ j = p := by omega
    simp [hp, e]

theorem setOf_bits {X : List Int} {n : Nat} (hn : n ≤ 12) (hX : IncrG n 0 X) : bitsL ((setOf X X.length : Nat) : Int) = X := by
  refine incr_ext (b := 12) (bitsTo_incr _ 12) (incr_more hn hX) fun a => ?_
  show a ∈ bitsTo _ 12 ↔ _
  rw [mem_bitsTo]
  constructor
  · rintro ⟨p, hp, hb, rfl⟩
    rw [bitB_testBit, setOf, numOf_bit, List.take_length] at hb
    simpa [hp] using hb
  · intro ha
    have := incr_mem hX a ha
    refine ⟨a.toNat, by omega, ?_, by omega⟩
    rw [bitB_testBit, setOf, numOf_bit, List.take_length]
    have e : ((a.toNat : Nat) : Int) = a := by omega
    simp [e, ha]; omega

theorem incr_get {b : Nat} : ∀ {X : List Int} {s : Int}, IncrG b s X → ∀ (k : Nat) (a c : Int), X[k]? = some a → X[k + 1]? = some c → a < c
  | [], _, _, k, a, c, h, _ => by simp at h
  | [x], _, _, k, a, c, _, h => by simp at h
  | x :: y :: r, s, h, 0, a, c, h1, h2 => by
    simp at h1 h2
    subst h1 h2
    have := h.2.2.1
    omega
  | x :: y :: r, s, h, k + 1, a, c, h1, h2 => incr_get h.2.2 k a c (by simpa using h1) (by simpa using h2)

theorem incr_filter {b : Nat} (f : Int → Bool) : ∀ {X : List Int} {s : Int}, IncrG b s X → IncrG b s (X.filter f)
  | [], _, _ => trivial
  | x :: r, s, h => by
    have ih := incr_filter f h.2.2
    rw [List.filter_cons]
    split
    · exact ⟨h.1, h.2.1, ih⟩
    · exact incr_le (by have := h.1; omega) ih
where
  incr_le {s t : Int} (hst : s ≤ t) : ∀ {X : List Int}, IncrG b t X → IncrG b s X
    | [], _ => trivial
    | _ :: _, h => ⟨by have := h.1; omega, h.2⟩

def shortL (f : List Int → Bool) (n : Nat) : Option (List Int) := (List.range (n + 1)).findSome? fun m => (combos n m 0).find? f

/-- The bits of a that b lacks. -/
def andN (a b : Nat) : Nat := numOf (fun p => a.testBit p && !b.testBit p) 12

theorem andN_lt (a b : Nat) : andN a b < 4096 := numOf_lt _ 12

theorem andN_bit (a b p : Nat) : (andN a b).testBit p = (decide (p < 12) && (a.testBit p && !b.testBit p)) := numOf_bit _ _ _

theorem i64_andnot_nat (a b : Nat) (ha : a < 4096) : bits .andNot .i64 (a : Int) (b : Int) = ((andN a b : Nat) : Int) := by
  show IntKind.i64.wrap ((BitVec.ofInt 64 (a : Int) &&& ~~~BitVec.ofInt 64 (b : Int)).toNat : Int) = _
  have h : (BitVec.ofInt 64 (a : Int) &&& ~~~BitVec.ofInt 64 (b : Int)).toNat = andN a b := by
    refine Nat.eq_of_testBit_eq fun i => ?_
    rw [BitVec.testBit_toNat, BitVec.getLsbD_and, BitVec.getLsbD_not, BitVec.ofInt_natCast, BitVec.ofInt_natCast, BitVec.getLsbD_ofNat, BitVec.getLsbD_ofNat, andN_bit]
    by_cases hi : i < 12
    · have h64 : i < 64 := by omega
      simp [hi, h64]
    · have : a.testBit i = false := Nat.testBit_lt_two_pow (Nat.lt_of_lt_of_le ha (Nat.pow_le_pow_right (n := 2) (by decide) (show 12 ≤ i by omega)))
      simp [this]
  rw [h, IntWalk.i64_in _ (by have := andN_lt a b; omega)]

theorem hasB_not {l : List Int} {x : Int} : (!hasB l x) = true ↔ x ∉ l := by
  cases h : hasB l x
  · simp; intro hm; rw [(hasB_mem l x).2 hm] at h; cases h
  · simp; exact (hasB_mem l x).1 h

theorem short_first {f : List Int → Bool} {n : Nat} {X : List Int} (h : shortL f n = some X) : First f n X := by
  unfold shortL at h
  obtain ⟨l1, m, l2, he, hm, hno⟩ := List.findSome?_eq_some_iff.1 h
  have hmn : m = l1.length := by
    have h1 : (List.range (n + 1))[l1.length]? = some m := by rw [he]; simp
    rw [List.getElem?_range (by have := congrArg List.length he; simp at this; omega)] at h1
    exact (Option.some.inj h1).symm
  refine first_of (n := m) (fun j hj y hy => ?_) hm
  have hj2 : j ∈ l1 := by
    have h1 : (List.range (n + 1))[j]? = some j := List.getElem?_range (by have := congrArg List.length he; simp at this; omega)
    rw [he, List.getElem?_append_left (by omega)] at h1
    exact List.mem_of_getElem? h1
  have := List.find?_eq_none.1 (hno j hj2) y hy
  simpa using this

theorem short_some {f : List Int → Bool} {n : Nat} {X : List Int} (hX : IncrG n 0 X) (hf : f X = true) : ∃ Y, shortL f n = some Y := by
  cases h : shortL f n with
  | some Y => exact ⟨Y, rfl⟩
  | none =>
    unfold shortL at h
    rw [List.findSome?_eq_none_iff] at h
    have hl : X.length ≤ n := by
      by_cases h0 : X = []
      · rw [h0]; simp
      · have := incr_room n X 0 hX h0; omega
    have h1 := h X.length (List.mem_range.2 (by omega))
    have h2 := List.find?_eq_none.1 h1 X ((mem_combos n X.length 0 X).2 ⟨rfl, hX⟩)
    exact absurd hf h2

theorem bitsL_mem {M n : Nat} (hM : M < 2 ^ n) (hn : n ≤ 12) (i : Nat) : (i : Int) ∈ bitsL (M : Int) ↔ M.testBit i = true := by
  show (i : Int) ∈ bitsTo _ 12 ↔ _
  rw [mem_bitsTo]
  constructor
  · rintro ⟨p, hp, hb, e⟩
    have : p = i := by omega
    subst this
    rwa [bitB_testBit] at hb
  · intro hb
    refine ⟨i, ?_, by rw [bitB_testBit]; exact hb, rfl⟩
    refine Classical.byContradiction fun hi => ?_
    have := Nat.testBit_lt_two_pow (x := M) (i := i) (Nat.lt_of_lt_of_le hM (Nat.pow_le_pow_right (by decide) (by omega)))
    rw [this] at hb; cases hb

theorem every_bit (n i : Nat) : (2 ^ n - 1).testBit i = decide (i < n) := Nat.testBit_two_pow_sub_one _ _

theorem setOf_bit {X : List Int} (i : Nat) : (setOf X X.length).testBit i = (decide (i < 12) && decide ((i : Int) ∈ X)) := by
  unfold setOf
  rw [numOf_bit, List.take_length]

theorem and_self_iff {a M : Nat} : a &&& M = M ↔ ∀ i, M.testBit i = true → a.testBit i = true := by
  constructor
  · intro h i hi
    rw [← h, Nat.testBit_and, Bool.and_eq_true] at hi
    exact hi.1
  · intro h
    refine Nat.eq_of_testBit_eq fun i => ?_
    rw [Nat.testBit_and]
    cases hi : M.testBit i
    · simp
    · simp [h i hi]

/-- The first number from k on, of m ones, at which f is false. -/
def firstG (f : Nat → Bool) : Nat → Nat → Int
  | _, 0 => -1
  | k, m + 1 => if f k = true then firstG f (k + 1) m else (k : Int)

theorem firstG_go (f : Nat → Bool) (k n : Nat) (h : k < n) : firstG f k (n - k) = if f k = true then firstG f (k + 1) (n - (k + 1)) else (k : Int) := by
  obtain ⟨m, hm⟩ : ∃ m, n - k = m + 1 := ⟨n - k - 1, by omega⟩
  rw [hm, show n - (k + 1) = m by omega]; rfl

theorem firstG_end (f : Nat → Bool) (k n : Nat) (h : ¬ k < n) : firstG f k (n - k) = -1 := by
  rw [show n - k = 0 by omega]; rfl

theorem firstG_eq (f : Nat → Bool) (n j : Nat) (hj : j ≤ n) (h1 : ∀ i, i < j → f i = true) (h2 : j < n → f j = false) : ∀ (m k : Nat), k + m = n → k ≤ j → firstG f k m = if j = n then -1 else (j : Int)
  | 0, k, hk, hkj => by
    have : j = n := by omega
    rw [if_pos this]; rfl
  | m + 1, k, hk, hkj => by
    unfold firstG
    by_cases e : k = j
    · subst e
      rw [h2 (by omega), if_neg (by simp), if_neg (by omega)]
    · rw [h1 k (by omega), if_pos rfl]
      exact firstG_eq f n j hj h1 h2 m (k + 1) (by omega) (by omega)

theorem andEvery_lt (n b : Nat) : andN (2 ^ n - 1) b < 2 ^ n := by
  refine Nat.lt_of_le_of_lt ?_ (show 2 ^ n - 1 < 2 ^ n by have := Nat.two_pow_pos n; omega)
  have e : andN (2 ^ n - 1) b &&& (2 ^ n - 1) = andN (2 ^ n - 1) b := by
    refine Nat.eq_of_testBit_eq fun i => ?_
    rw [Nat.testBit_and, andN_bit, every_bit]
    cases decide (i < 12) <;> cases decide (i < n) <;> simp
  rw [← e]; exact Nat.and_le_right

theorem bestG_len (f : Nat → Bool) : ∀ (m k : Nat) (b : List Int), b.length ≤ 12 → (bestG f k m b).length ≤ 12
  | 0, _, _, h => h
  | m + 1, k, b, h => by
    unfold bestG
    refine bestG_len f m _ _ ?_
    split
    · exact bitsTo_len _ _
    · exact h

theorem bestL_len (f : Nat → Bool) (n : Nat) : (bestL f n).length ≤ 12 := bestG_len f _ _ _ (bitsTo_len _ _)

theorem low_bit (k i : Nat) : bitB (((2 ^ k - 1 : Nat) : Int)) i = decide (i < k) := by
  rw [bitB_testBit, Nat.testBit_two_pow_sub_one]
end Go.Proofs.Ytaioobhblfnlaaa
