/- The cheapest set: the program and the reference find the same. No condition but at most five treaties. -/
import Derived.Test.YtaioobhblfnlaaaPlT
namespace Go.Proofs.Ytaioobhblfnlaaa
open Go.RowKit

/-- Lists of m numbers that f says, increasing from s on and below b. -/
def combF (f : Nat → Bool) (b : Nat) : Nat → Nat → List (List Int)
  | 0, _ => [[]]
  | m + 1, s => (List.range' s (b - s)).flatMap fun i => if f i = true then (combF f b m (i + 1)).map ((i : Int) :: ·) else []
theorem mem_combF (f : Nat → Bool) (b : Nat) : ∀ (m s : Nat) (x : List Int), x ∈ combF f b m s ↔ x.length = m ∧ IncrG b s x ∧ ∀ a ∈ x, f a.toNat = true
  | 0, s, x => by
    simp only [combF, List.mem_singleton]
    constructor
    · rintro rfl; exact ⟨rfl, trivial, by simp⟩
    · rintro ⟨h, _⟩; exact List.length_eq_zero_iff.1 h
  | m + 1, s, x => by
    simp only [combF, List.mem_flatMap, List.mem_range'_1]
    constructor
    · rintro ⟨i, hi, hx⟩
      split at hx
      · rename_i hf
        obtain ⟨y, hy, rfl⟩ := List.mem_map.1 hx
        obtain ⟨h1, h2, h3⟩ := (mem_combF f b m (i + 1) y).1 hy
        refine ⟨by simp [h1], ⟨by omega, by omega, by simpa using h2⟩, fun a ha => ?_⟩
        rcases List.mem_cons.1 ha with rfl | ha
        · simpa using hf
        · exact h3 a ha
      · simp at hx
    · rintro ⟨h1, h2, h3⟩
      cases x with
      | nil => simp at h1
      | cons a l =>
        obtain ⟨h4, h5, h6⟩ := h2
        have hl : l.length = m := by simpa using h1
        obtain ⟨i, rfl⟩ : ∃ i : Nat, a = i := ⟨a.toNat, by omega⟩
        have hf := h3 (i : Int) (by simp)
        refine ⟨i, by omega, ?_⟩
        rw [if_pos (by simpa using hf)]
        exact List.mem_map.2 ⟨l, (mem_combF f b m (i + 1) l).2 ⟨hl, by simpa using h6, fun a ha => h3 a (by simp [ha])⟩, rfl⟩
theorem combF_sorted (f : Nat → Bool) (b : Nat) : ∀ (m s : Nat), (combF f b m s).Pairwise fun x y => beforeB x y = true
  | 0, s => by simp [combF]
  | m + 1, s => by
    unfold combF
    rw [List.pairwise_flatMap]
    refine ⟨fun i _ => ?_, ?_⟩
    · split
      · rw [List.pairwise_map]
        exact (combF_sorted f b m (i + 1)).imp fun h => by simp [beforeB, h]
      · simp
    · refine (List.pairwise_lt_range' (s := s) (n := b - s) (step := 1)).imp ?_
      intro i j hij x hx y hy
      split at hx
      · split at hy
        · obtain ⟨x', _, rfl⟩ := List.mem_map.1 hx
          obtain ⟨y', _, rfl⟩ := List.mem_map.1 hy
          have : (i : Int) ≠ j := by omega
          simp [beforeB, this]; omega
        · simp at hy
      · simp at hx
/-- All sets: the shorter ones first. -/
def setsF (f : Nat → Bool) (b : Nat) : List (List Int) := (List.range (b + 1)).flatMap fun m => combF f b m 0
theorem mem_setsF {f : Nat → Bool} {b : Nat} {x : List Int} : x ∈ setsF f b ↔ IncrG b 0 x ∧ ∀ a ∈ x, f a.toNat = true := by
  unfold setsF
  rw [List.mem_flatMap]
  constructor
  · rintro ⟨m, _, h⟩
    have := (mem_combF f b m 0 x).1 h
    exact ⟨this.2.1, this.2.2⟩
  · rintro ⟨h1, h2⟩
    refine ⟨x.length, List.mem_range.2 ?_, (mem_combF f b _ 0 x).2 ⟨rfl, h1, h2⟩⟩
    by_cases h0 : x = []
    · rw [h0]; simp
    · have := incr_room b x 0 h1 h0; omega
theorem setsF_sorted (f : Nat → Bool) (b : Nat) : (setsF f b).Pairwise fun x y => shorterB x y = true := by
  unfold setsF
  rw [List.pairwise_flatMap]
  refine ⟨fun m _ => ?_, ?_⟩
  · refine ((combF_sorted f b m 0).imp_of_mem fun {x y} hx hy h => ?_)
    have h1 := ((mem_combF f b m 0 x).1 hx).1
    have h2 := ((mem_combF f b m 0 y).1 hy).1
    simp [shorterB, h1, h2, h]
  · refine (List.pairwise_lt_range (n := b + 1)).imp ?_
    intro i j hij x hx y hy
    have h1 := ((mem_combF f b i 0 x).1 hx).1
    have h2 := ((mem_combF f b j 0 y).1 hy).1
    simp [shorterB, h1, h2, hij]
/-- Whether a set is better than another one. -/
def Better (pr : List Int → Int) (X Y : List Int) : Prop := pr X < pr Y ∨ (pr X = pr Y ∧ shorterB X Y = true)
theorem Better.trans {pr : List Int → Int} {X Y Z : List Int} (h : Better pr X Y) (k : Better pr Y Z) : Better pr X Z := by
  rcases h with h | ⟨h, h1⟩ <;> rcases k with k | ⟨k, k1⟩
  · exact .inl (by omega)
  · exact .inl (by omega)
  · exact .inl (by omega)
  · exact .inr ⟨by omega, shorter_trans_not h1 k1⟩
theorem Better.asym {pr : List Int → Int} {X Y : List Int} (h : Better pr X Y) : ¬ Better pr Y X := by
  rintro k
  rcases h with h | ⟨h, h1⟩ <;> rcases k with k | ⟨k, k1⟩
  · omega
  · omega
  · omega
  · rw [shorter_asym h1] at k1; cases k1
/-- What is found among some sets. -/
def BestOf (pr : List Int → Int) (S : List Int → Prop) : Option (List Int) → Prop
  | none => ∀ Y, ¬ S Y
  | some X => S X ∧ ∀ Y, S Y → Y = X ∨ Better pr X Y
theorem BestOf.unique {pr : List Int → Int} {S T : List Int → Prop} (hST : ∀ X, S X ↔ T X) {a b : Option (List Int)} (h : BestOf pr S a) (k : BestOf pr T b) : a = b := by
  cases a with
  | none => cases b with
    | none => rfl
    | some Y => exact absurd ((hST Y).2 k.1) (h Y)
  | some X => cases b with
    | none => exact absurd ((hST X).1 h.1) (k X)
    | some Y =>
      rcases h.2 Y ((hST Y).2 k.1) with e | h1
      · rw [e]
      · rcases k.2 X ((hST X).1 h.1) with e | k1
        · rw [e]
        · exact absurd k1 h1.asym
theorem BestOf.congr {pr : List Int → Int} {S T : List Int → Prop} (hST : ∀ X, S X ↔ T X) {a : Option (List Int)} (h : BestOf pr S a) : BestOf pr T a := by
  cases a with
  | none => exact fun Y hY => h Y ((hST Y).2 hY)
  | some X => exact ⟨(hST X).1 h.1, fun Y hY => h.2 Y ((hST Y).2 hY)⟩
/-- The program's search. -/
def chStep (pr : List Int → Int) (ok : List Int → Bool) (s : Option (List Int)) (l : List Int) : Option (List Int) := match s with
  | none => if ok l = true then some l else none
  | some X => if pr l < pr X ∧ ok l = true then some l else some X
def chL (pr : List Int → Int) (ok : List Int → Bool) (L : List (List Int)) : Option (List Int) := L.foldl (chStep pr ok) none
theorem ch_fold (pr : List Int → Int) (ok : List Int → Bool) : ∀ (l S : List (List Int)) (s : Option (List Int)), (S ++ l).Pairwise (fun x y => shorterB x y = true) → BestOf pr (fun X => X ∈ S ∧ ok X = true) s →
    BestOf pr (fun X => X ∈ S ++ l ∧ ok X = true) (l.foldl (chStep pr ok) s)
  | [], S, s, _, h => by simpa using h
  | a :: l, S, s, hp, h => by
    have e : S ++ a :: l = (S ++ [a]) ++ l := by simp
    rw [e] at hp ⊢
    rw [List.foldl_cons]
    refine ch_fold pr ok l (S ++ [a]) _ hp ?_
    have hlast : ∀ X ∈ S, shorterB X a = true := fun X hX => by
      have h1 := (List.pairwise_append.1 hp).1
      exact (List.pairwise_append.1 h1).2.2 X hX a (by simp)
    cases s with
    | none =>
      unfold chStep
      by_cases ho : ok a = true
      · rw [if_pos ho]
        refine ⟨⟨by simp, ho⟩, fun Y hY => ?_⟩
        rcases List.mem_append.1 hY.1 with h1 | h1
        · exact absurd ⟨h1, hY.2⟩ (h Y)
        · exact .inl (by simpa using h1)
      · rw [if_neg ho]
        intro Y hY
        rcases List.mem_append.1 hY.1 with h1 | h1
        · exact h Y ⟨h1, hY.2⟩
        · rw [List.mem_singleton] at h1; subst h1; exact ho hY.2
    | some X =>
      show BestOf pr _ (if pr a < pr X ∧ ok a = true then some a else some X)
      by_cases hc : pr a < pr X ∧ ok a = true
      · rw [if_pos hc]
        refine ⟨⟨by simp, hc.2⟩, fun Y hY => ?_⟩
        rcases List.mem_append.1 hY.1 with h1 | h1
        · refine .inr (.inl ?_)
          rcases h.2 Y ⟨h1, hY.2⟩ with rfl | h2 | ⟨h2, _⟩
          · exact hc.1
          · omega
          · omega
        · exact .inl (by simpa using h1)
      · rw [if_neg hc]
        refine ⟨⟨List.mem_append_left _ h.1.1, h.1.2⟩, fun Y hY => ?_⟩
        rcases List.mem_append.1 hY.1 with h1 | h1
        · exact h.2 Y ⟨h1, hY.2⟩
        · rw [List.mem_singleton] at h1
          subst h1
          have h2 : ¬ pr Y < pr X := fun h3 => hc ⟨h3, hY.2⟩
          by_cases h3 : pr X < pr Y
          · exact .inr (.inl h3)
          · exact .inr (.inr ⟨by omega, hlast X h.1.1⟩)
theorem chL_best (pr : List Int → Int) (ok : List Int → Bool) (f : Nat → Bool) (b : Nat) : BestOf pr (fun X => (IncrG b 0 X ∧ ∀ a ∈ X, f a.toNat = true) ∧ ok X = true) (chL pr ok (setsF f b)) := by
  have h := ch_fold pr ok (setsF f b) [] none (by simpa using setsF_sorted f b) (fun Y hY => by simp at hY)
  refine h.congr fun X => ?_
  rw [List.nil_append, mem_setsF]
/-- The reference's search. -/
def chT (pr : Nat → Int) (k : Nat) : Option Nat → Bool
  | none => true
  | some b => decide (pr k < pr b) || (decide (pr k = pr b) && shorterB (bitsL (k : Nat)) (bitsL (b : Nat)))
def chG (is : Nat → Bool) (pr : Nat → Int) : Nat → Nat → Option Nat → Option Nat
  | _, 0, s => s
  | k, m + 1, s => chG is pr (k + 1) m (if (is k && chT pr k s) = true then some k else s)
theorem chG_go (is : Nat → Bool) (pr : Nat → Int) (k n : Nat) (s : Option Nat) (h : k < n) : chG is pr k (n - k) s = chG is pr (k + 1) (n - (k + 1)) (if (is k && chT pr k s) = true then some k else s) := by
  have e : n - k = (n - (k + 1)) + 1 := by omega
  rw [e]; rfl
theorem chG_end (is : Nat → Bool) (pr : Nat → Int) (k n : Nat) (s : Option Nat) (h : ¬ k < n) : chG is pr k (n - k) s = s := by
  have e : n - k = 0 := by omega
  rw [e]; rfl
def lstO : Option Nat → Option (List Int)
  | none => none
  | some k => some (bitsL (k : Nat))
theorem before_tot {a b : Nat} (h1 : shorterB (bitsL (a : Nat)) (bitsL (b : Nat)) = false) (h2 : shorterB (bitsL (b : Nat)) (bitsL (a : Nat)) = false) : bitsL (a : Nat) = bitsL (b : Nat) := by
  unfold shorterB at h1 h2
  simp only [Bool.or_eq_false_iff, Bool.and_eq_false_iff, decide_eq_false_iff_not] at h1 h2
  have hl : (bitsL (a : Nat)).length = (bitsL (b : Nat)).length := by omega
  exact before_total _ _ hl (by rcases h1.2 with h | h; exact absurd hl h; exact h) (by rcases h2.2 with h | h; exact absurd hl.symm h; exact h)
theorem chG_best {n : Nat} (hn : n ≤ 12) (is : Nat → Bool) (pr : Nat → Int) (prL : List Int → Int) (hpr : ∀ k, k < 2 ^ n → pr k = prL (bitsL (k : Nat))) : ∀ (m k : Nat) (s : Option Nat), k + m = 2 ^ n → (∀ b, s = some b → b < k) → BestOf prL (fun X => ∃ j : Nat, j < k ∧ is j = true ∧ bitsL (j : Nat) = X) (lstO s) →
    BestOf prL (fun X => ∃ j : Nat, j < 2 ^ n ∧ is j = true ∧ bitsL (j : Nat) = X) (lstO (chG is pr k m s))
  | 0, k, s, hk, _, h => by
    unfold chG
    have : k = 2 ^ n := by omega
    rw [this] at h; exact h
  | m + 1, k, s, hk, hs, h => by
    unfold chG
    have hk2 : k < 2 ^ n := by omega
    refine chG_best hn is pr prL hpr m (k + 1) _ (by omega) (fun b hb => ?_) ?_
    · split at hb
      · cases hb; omega
      · have := hs b hb; omega
    · cases hi : is k
      · rw [Bool.false_and, if_neg (by simp)]
        refine h.congr fun X => ?_
        constructor
        · rintro ⟨j, hj, h1⟩; exact ⟨j, by omega, h1⟩
        · rintro ⟨j, hj, h1, h2⟩
          have : j ≠ k := by rintro rfl; rw [hi] at h1; cases h1
          exact ⟨j, by omega, h1, h2⟩
      · rw [Bool.true_and]
        cases s with
        | none =>
          rw [chT, if_pos rfl]
          refine ⟨⟨k, by omega, hi, rfl⟩, fun Y hY => ?_⟩
          obtain ⟨j, hj, h1, h2⟩ := hY
          by_cases e : j = k
          · subst e; exact .inl h2.symm
          · exact absurd ⟨j, by omega, h1, h2⟩ (h Y)
        | some b =>
          have hb := hs b rfl
          have hp1 := hpr k hk2
          have hp2 := hpr b (by omega)
          obtain ⟨hB, hmin⟩ := h
          unfold chT
          by_cases hc : (decide (pr k < pr b) || (decide (pr k = pr b) && shorterB (bitsL (k : Nat)) (bitsL (b : Nat)))) = true
          · rw [if_pos hc]
            have hbet : Better prL (bitsL (k : Nat)) (bitsL (b : Nat)) := by
              rw [Bool.or_eq_true, Bool.and_eq_true, decide_eq_true_eq, decide_eq_true_eq, hp1, hp2] at hc
              exact hc
            refine ⟨⟨k, by omega, hi, rfl⟩, fun Y hY => ?_⟩
            obtain ⟨j, hj, h1, h2⟩ := hY
            by_cases e : j = k
            · subst e; exact .inl h2.symm
            · rcases hmin Y ⟨j, by omega, h1, h2⟩ with rfl | h3
              · exact .inr hbet
              · exact .inr (hbet.trans h3)
          · rw [if_neg hc]
            refine ⟨?_, fun Y hY => ?_⟩
            · obtain ⟨j, hj, h1⟩ := hB; exact ⟨j, by omega, h1⟩
            · obtain ⟨j, hj, h1, h2⟩ := hY
              by_cases e : j = k
              · subst e
                simp only [Bool.or_eq_true, Bool.and_eq_true, decide_eq_true_eq, not_or, not_and, Bool.not_eq_true] at hc
                rw [hp1, hp2] at hc
                by_cases h5 : prL (bitsL (b : Nat)) < prL (bitsL (j : Nat))
                · exact .inr (.inl (by rw [← h2]; exact h5))
                · have h6 : prL (bitsL (b : Nat)) = prL (bitsL (j : Nat)) := by omega
                  cases h7 : shorterB (bitsL (b : Nat)) (bitsL (j : Nat))
                  · exact .inl (h2.symm.trans (before_tot (hc.2 h6.symm) h7))
                  · exact .inr (.inr (by rw [← h2]; exact ⟨h6, h7⟩))
              · exact hmin Y ⟨j, by omega, h1, h2⟩

/-- The price of a set. -/
def prI (ts : List Tre) (a : Int) : Int := match ts[a.toNat]? with
  | some t => t.price
  | none => 0
def priceL (ts : List Tre) : List Int → Int
  | [] => 0
  | a :: l => prI ts a + priceL ts l
theorem priceL_app (ts : List Tre) : ∀ (l k : List Int), priceL ts (l ++ k) = priceL ts l + priceL ts k
  | [], k => by simp [priceL]
  | a :: l, k => by rw [List.cons_append, priceL, priceL, priceL_app ts l k]; omega
theorem priceG_snoc (f : Nat → Bool) : ∀ (l : List Tre) (k : Nat) (t : Tre), priceG f k (l ++ [t]) = priceG f k l + (if f (k + l.length) = true then t.price else 0)
  | [], k, t => by simp [priceG]
  | a :: l, k, t => by
    rw [List.cons_append, priceG, priceG, priceG_snoc f l (k + 1) t, List.length_cons, show k + 1 + l.length = k + (l.length + 1) by omega]
    omega
theorem price_bitsTo (ts : List Tre) (m : Int) : ∀ k, k ≤ ts.length → priceG (bitB m) 0 (ts.take k) = priceL ts (bitsTo m k)
  | 0, _ => by simp [priceG, bitsTo, priceL]
  | k + 1, h => by
    have hk : ts[k]? = some ts[k] := List.getElem?_eq_getElem (by omega)
    have e : ts.take (k + 1) = ts.take k ++ [ts[k]] := by rw [List.take_add_one, hk]; rfl
    have hl : (ts.take k).length = k := by simp; omega
    rw [e, priceG_snoc, price_bitsTo ts m k (by omega), bitsTo_succ, priceL_app, hl, Nat.zero_add]
    congr 1
    split
    · simp [priceL, prI, hk]
    · rfl
theorem bits_short {n k : Nat} (hn : n ≤ 12) (hk : k < 2 ^ n) : bitsL (k : Nat) = bitsTo (k : Nat) n := by
  refine (incr_ext (b := 12) (s := 0) (bitsTo_incr _ 12) (incr_more hn (bitsTo_incr _ n)) fun a => ?_)
  show a ∈ bitsTo _ 12 ↔ _
  rw [mem_bitsTo, mem_bitsTo]
  constructor
  · rintro ⟨p, hp, hb, e⟩
    refine ⟨p, ?_, hb, e⟩
    refine Classical.byContradiction fun hge => ?_
    rw [bitB_testBit, Nat.testBit_lt_two_pow (Nat.lt_of_lt_of_le hk (Nat.pow_le_pow_right (by decide) (by omega)))] at hb
    cases hb
  · rintro ⟨p, hp, hb, e⟩; exact ⟨p, by omega, hb, e⟩
theorem price_bits {ts : List Tre} (hn : ts.length ≤ 12) {k : Nat} (hk : k < 2 ^ ts.length) : priceG (bitB (k : Nat)) 0 ts = priceL ts (bitsL (k : Nat)) := by
  have h := price_bitsTo ts (k : Nat) ts.length (Nat.le_refl _)
  rw [List.take_length] at h
  rw [h, bits_short hn hk]

/-- Sets of treaties. -/
theorem setG_iff (ts : List Tre) : ∀ (l : List Int) (q : Int), -1 ≤ q → (setG ts q l = true ↔ IncrG ts.length (q + 1) l ∧ ∀ a ∈ l, freeI ts a = true)
  | [], q, _ => by simp [setG, IncrG]
  | a :: l, q, hq => by
    rw [setG, Bool.and_eq_true, Bool.and_eq_true, Bool.and_eq_true, inB_iff, decide_eq_true_eq, IncrG]
    constructor
    · rintro ⟨h1, h2, h3, h4⟩
      have h5 := (setG_iff ts l a (by omega)).1 h4
      refine ⟨⟨by omega, by omega, h5.1⟩, fun b hb => ?_⟩
      rcases List.mem_cons.1 hb with rfl | hb
      · exact h2
      · exact h5.2 b hb
    · rintro ⟨⟨h1, h2, h3⟩, h4⟩
      exact ⟨⟨by omega, by omega⟩, h4 a (by simp), by omega, (setG_iff ts l a (by omega)).2 ⟨h3, fun b hb => h4 b (by simp [hb])⟩⟩
theorem setB_iff {ts : List Tre} {l : List Int} : setB ts l = true ↔ IncrG ts.length 0 l ∧ ∀ a ∈ l, freeI ts a = true := setG_iff ts l (-1) (Int.le_refl _)
theorem keptR_th {p : Prg} {th th' : Nat → Bool} (h : ∀ i, i < p.ts.length → th i = th' i) : keptR p th = keptR p th' := by
  unfold keptR keptTo
  have : (fun (r : Rng) (n : Nat) => widerR r (paysS p.ts th (nthL p.losses n)).2) = fun r (n : Nat) => widerR r (paysS p.ts th' (nthL p.losses n)).2 := by
    funext r n
    rw [pays_th h]
  rw [this]
/-- The treaties of a set are there. -/
def thL (X : List Int) : Nat → Bool := fun i => hasB X (i : Int)
def keptX (p : Prg) (X : List Int) : Rng := keptR p (thL X)
theorem thL_iff {X : List Int} {i : Nat} : thL X i = true ↔ (i : Int) ∈ X := hasB_mem _ _
theorem kept_setOf {p : Prg} (hm : p.ts.length ≤ 5) (X : List Int) : keptR p (bitB ((setOf X X.length : Nat) : Int)) = keptX p X := by
  refine keptR_th fun i hi => ?_
  rw [bitB_testBit, setOf_bit, Bool.eq_iff_iff, thL_iff]
  have : i < 12 := by omega
  simp [this]
theorem kept_bits {p : Prg} (hm : p.ts.length ≤ 5) {k : Nat} (hk : k < 2 ^ p.ts.length) : keptR p (bitB (k : Nat)) = keptX p (bitsL (k : Nat)) := by
  refine keptR_th fun i hi => ?_
  rw [bitB_testBit, Bool.eq_iff_iff, thL_iff, bitsL_mem hk (by omega)]
/-- The cheapest set. -/
def sufB (p : Prg) (X : List Int) : Bool := decide ((keptX p X).hi ≤ p.reserve)
def freeN (ts : List Tre) (i : Nat) : Bool := freeI ts (i : Int)
def cheapP (p : Prg) : Option (List Int) := chL (priceL p.ts) (sufB p) (setsF (freeN p.ts) p.ts.length)
def cheapR (p : Prg) : Option Nat := chG (fun k => setB p.ts (bitsL (k : Nat)) && decide ((keptR p (bitB (k : Nat))).hi ≤ p.reserve)) (fun k => priceG (bitB (k : Nat)) 0 p.ts) 0 (2 ^ p.ts.length) none
def SetOk (p : Prg) (X : List Int) : Prop := setB p.ts X = true ∧ sufB p X = true
theorem cheap_best (p : Prg) : BestOf (priceL p.ts) (SetOk p) (cheapP p) := by
  refine (chL_best (priceL p.ts) (sufB p) (freeN p.ts) p.ts.length).congr fun X => ?_
  unfold SetOk
  rw [setB_iff]
  refine and_congr (and_congr_right fun h => ?_) Iff.rfl
  refine forall_congr' fun a => imp_congr_right fun ha => ?_
  have := incr_mem h a ha
  unfold freeN
  rw [Int.toNat_of_nonneg this.1]
theorem cheap_law {p : Prg} (hm : p.ts.length ≤ 5) : cheapP p = lstO (cheapR p) := by
  refine BestOf.unique (fun X => ?_) (cheap_best p) (chG_best (n := p.ts.length) (by omega) _ _ (priceL p.ts) (fun k hk => price_bits (by omega) hk) (2 ^ p.ts.length) 0 none (by omega) (fun b h => by cases h) (fun Y hY => by obtain ⟨j, hj, _⟩ := hY; omega))
  unfold SetOk sufB
  constructor
  · rintro ⟨h1, h2⟩
    obtain ⟨k, hk, rfl⟩ := bitsL_onto (n := p.ts.length) (by omega) (setB_iff.1 h1).1
    refine ⟨k, hk, ?_, rfl⟩
    rw [Bool.and_eq_true, kept_bits hm hk]
    exact ⟨h1, h2⟩
  · rintro ⟨k, hk, h1, rfl⟩
    rw [Bool.and_eq_true, kept_bits hm hk] at h1
    exact h1
theorem chG_lt (is : Nat → Bool) (pr : Nat → Int) : ∀ (m k : Nat) (s : Option Nat), (∀ b, s = some b → b < k) → ∀ b, chG is pr k m s = some b → b < k + m
  | 0, k, s, hs, b, h => hs b h
  | m + 1, k, s, hs, b, h => by
    unfold chG at h
    have := chG_lt is pr m (k + 1) _ (fun c hc => ?_) b h
    · omega
    · split at hc
      · cases hc; omega
      · have := hs c hc; omega
theorem cheapR_lt {p : Prg} {k : Nat} (h : cheapR p = some k) : k < 2 ^ p.ts.length := by
  have := chG_lt _ _ _ 0 none (fun b hb => by cases hb) k h
  omega
end Go.Proofs.Ytaioobhblfnlaaa
