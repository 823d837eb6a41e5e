/- Package storm in plain words: storms, truths, places, and how truths are numbered. No condition. -/
namespace Go.Proofs.Ytfnefkenheglhaa

/-- A range. -/
structure Rng where
  lo : Int
  hi : Int

/-- A card. -/
structure Crd where
  x : Rng
  y : Rng
  hail : Bool
  size : Rng

/-- A storm. -/
structure Sto where
  wide : Int
  high : Int
  fall : Int
  a : Rng
  b : Rng
  half : Rng
  peak : Rng
  cards : List Crd

/-- How a storm was. -/
structure Tru where
  a : Int
  b : Int
  half : Int
  peak : Int

instance : DecidableEq Tru := fun x y => decidable_of_iff (x.a = y.a ∧ x.b = y.b ∧ x.half = y.half ∧ x.peak = y.peak) (by cases x; cases y; simp)

def inB (n lo hi : Int) : Bool := decide (lo ≤ n) && decide (n ≤ hi)
theorem inB_iff {n lo hi : Int} : inB n lo hi = true ↔ lo ≤ n ∧ n ≤ hi := by simp [inB]
def Rng.of (r : Rng) (lo hi : Int) : Bool := decide (lo ≤ r.lo) && (decide (r.lo ≤ r.hi) && decide (r.hi ≤ hi))
theorem Rng.of_iff {r : Rng} {lo hi : Int} : r.of lo hi = true ↔ lo ≤ r.lo ∧ r.lo ≤ r.hi ∧ r.hi ≤ hi := by simp [Rng.of]
def Rng.cnt (r : Rng) : Int := r.hi - r.lo + 1
def rectB (s : Sto) (x y : Rng) : Bool := x.of 0 (s.wide - 1) && y.of 0 (s.high - 1)
def cardB (s : Sto) (c : Crd) : Bool := rectB s c.x c.y && (c.size.of 0 9 && (c.hail || (c.size.lo == 0 && c.size.hi == 0)))
def manyS (s : Sto) : Int := s.a.cnt * s.b.cnt * s.half.cnt * s.peak.cnt
def sidesB (s : Sto) : Bool := !(decide (s.wide < 2) || (decide (s.high < 1) || !inB s.fall 0 4))
def rangesB (s : Sto) : Bool := s.a.of 0 (s.high - 1) && (s.b.of 0 (s.high - 1) && (s.half.of 0 3 && s.peak.of 1 9))
def faultS (s : Sto) : Int :=
  if 12 < s.wide ∨ 12 < s.high ∨ 6 < s.cards.length then 3 else if sidesB s = true ∧ rangesB s = true ∧ s.cards.all (cardB s) = true then (if 2000 < manyS s then 3 else 0) else 1

/-- What a storm without an error is. -/
structure OkS (s : Sto) : Prop where
  w2 : 2 ≤ s.wide
  w12 : s.wide ≤ 12
  h1 : 1 ≤ s.high
  h12 : s.high ≤ 12
  f0 : 0 ≤ s.fall
  f4 : s.fall ≤ 4
  a : s.a.of 0 (s.high - 1) = true
  b : s.b.of 0 (s.high - 1) = true
  half : s.half.of 0 3 = true
  peak : s.peak.of 1 9 = true
  n6 : s.cards.length ≤ 6
  cards : s.cards.all (cardB s) = true
  many : manyS s ≤ 2000

theorem fault_iff {s : Sto} : faultS s = 0 ↔ OkS s := by
  unfold faultS
  constructor
  · intro h
    split at h
    · simp at h
    · split at h
      · split at h
        · simp at h
        · rename_i h1 h2 h3
          obtain ⟨a, b, c⟩ := h2
          simp [sidesB, rangesB, inB] at a b
          exact ⟨by omega, by omega, by omega, by omega, by omega, by omega, b.1, b.2.1, b.2.2.1, b.2.2.2, by omega, c, by omega⟩
      · simp at h
  · intro h
    have hs : sidesB s = true := by
      have := h.w2; have := h.h1; have := h.f0; have := h.f4
      simp [sidesB, inB]; omega
    have hr : rangesB s = true := by simp [rangesB, h.a, h.b, h.half, h.peak]
    have h1 := h.w12; have h2 := h.h12; have h3 := h.n6; have h4 := h.many
    rw [if_neg (by omega), if_pos ⟨hs, hr, h.cards⟩, if_neg (by omega)]

/-- The numbers of a range. -/
def Rng.nums (r : Rng) : List Int := (List.range r.cnt.toNat).map fun i : Nat => r.lo + i
theorem Rng.mem_nums {r : Rng} {n : Int} : n ∈ r.nums ↔ r.lo ≤ n ∧ n ≤ r.hi := by
  simp only [Rng.nums, List.mem_map, List.mem_range, Rng.cnt]
  constructor
  · rintro ⟨i, hi, rfl⟩; omega
  · rintro ⟨h1, h2⟩; exact ⟨(n - r.lo).toNat, by omega, by omega⟩

/-- The places of a rectangle, in the program's order. -/
def placesL (x y : Rng) : List (Int × Int) := x.nums.flatMap fun i => y.nums.map fun k => (i, k)
theorem mem_places {x y : Rng} {p : Int × Int} : p ∈ placesL x y ↔ x.lo ≤ p.1 ∧ p.1 ≤ x.hi ∧ y.lo ≤ p.2 ∧ p.2 ≤ y.hi := by
  simp only [placesL, List.mem_flatMap, List.mem_map, Rng.mem_nums]
  constructor
  · rintro ⟨i, hi, k, hk, rfl⟩; exact ⟨hi.1, hi.2, hk.1, hk.2⟩
  · rintro ⟨h1, h2, h3, h4⟩; exact ⟨p.1, ⟨h1, h2⟩, p.2, ⟨h3, h4⟩, rfl⟩

/-- All truths without cards, in the program's order. -/
def possL (s : Sto) : List Tru := s.a.nums.flatMap fun a => s.b.nums.flatMap fun b => s.half.nums.flatMap fun h => s.peak.nums.map fun p => ⟨a, b, h, p⟩
def truB (s : Sto) (t : Tru) : Bool := inB t.a s.a.lo s.a.hi && (inB t.b s.b.lo s.b.hi && (inB t.half s.half.lo s.half.hi && inB t.peak s.peak.lo s.peak.hi))
theorem mem_poss {s : Sto} {t : Tru} : t ∈ possL s ↔ truB s t = true := by
  simp only [possL, List.mem_flatMap, List.mem_map, Rng.mem_nums, truB, inB, Bool.and_eq_true, decide_eq_true_eq]
  constructor
  · rintro ⟨a, ha, b, hb, h, hh, p, hp, rfl⟩; exact ⟨ha, hb, hh, hp⟩
  · rintro ⟨ha, hb, hh, hp⟩; exact ⟨t.a, ha, t.b, hb, t.half, hh, t.peak, hp, rfl⟩

theorem Rng.nums_nodup (r : Rng) : r.nums.Nodup := by
  unfold Rng.nums
  rw [List.nodup_iff_pairwise_ne, List.pairwise_map]
  exact (List.nodup_iff_pairwise_ne.1 List.nodup_range).imp fun h e => h (by omega)

theorem nodup_flat {α β : Type} {l : List α} {f : α → List β} {g : β → α} (hl : l.Nodup) (hf : ∀ a ∈ l, (f a).Nodup) (hg : ∀ a ∈ l, ∀ x ∈ f a, g x = a) : (l.flatMap f).Nodup := by
  rw [List.nodup_iff_pairwise_ne, List.pairwise_flatMap]
  refine ⟨fun a ha => List.nodup_iff_pairwise_ne.1 (hf a ha), ?_⟩
  refine (List.nodup_iff_pairwise_ne.1 hl).imp_of_mem ?_
  intro a b ha hb hne x hx y hy e
  exact hne (by rw [← hg a ha x hx, ← hg b hb y hy, e])

theorem nodup_map {α β : Type} {l : List α} {f : α → β} {g : β → α} (hl : l.Nodup) (hg : ∀ a ∈ l, g (f a) = a) : (l.map f).Nodup := by
  rw [List.nodup_iff_pairwise_ne, List.pairwise_map]
  refine (List.nodup_iff_pairwise_ne.1 hl).imp_of_mem ?_
  intro a b ha hb hne e
  exact hne (by rw [← hg a ha, ← hg b hb, e])

theorem poss_nodup (s : Sto) : (possL s).Nodup := by
  unfold possL
  refine nodup_flat (g := Tru.a) (Rng.nums_nodup _) (fun a _ => nodup_flat (g := Tru.b) (Rng.nums_nodup _) (fun b _ => nodup_flat (g := Tru.half) (Rng.nums_nodup _) (fun h _ => nodup_map (g := Tru.peak) (Rng.nums_nodup _) fun _ _ => rfl) ?_) ?_) ?_
  · intro h _ x hx
    simp only [List.mem_map] at hx
    obtain ⟨_, _, rfl⟩ := hx; rfl
  · intro b _ x hx
    simp only [List.mem_map, List.mem_flatMap] at hx
    obtain ⟨_, _, _, _, rfl⟩ := hx; rfl
  · intro a _ x hx
    simp only [List.mem_map, List.mem_flatMap] at hx
    obtain ⟨_, _, _, _, _, _, rfl⟩ := hx; rfl

/-- The truth with a number, of the reference. -/
def nthS (s : Sto) (n : Int) : Tru :=
  ⟨s.a.lo + n % s.a.cnt, s.b.lo + n / s.a.cnt % s.b.cnt, s.half.lo + n / s.a.cnt / s.b.cnt % s.half.cnt, s.peak.lo + n / s.a.cnt / s.b.cnt / s.half.cnt⟩

def allN (s : Sto) : List Tru := (List.range (manyS s).toNat).map fun n : Nat => nthS s n

structure Pos (s : Sto) : Prop where
  a : 0 < s.a.cnt
  b : 0 < s.b.cnt
  half : 0 < s.half.cnt
  peak : 0 < s.peak.cnt

theorem OkS.pos {s : Sto} (h : OkS s) : Pos s := by
  have a := Rng.of_iff.1 h.a; have b := Rng.of_iff.1 h.b; have c := Rng.of_iff.1 h.half; have d := Rng.of_iff.1 h.peak
  exact ⟨by unfold Rng.cnt; omega, by unfold Rng.cnt; omega, by unfold Rng.cnt; omega, by unfold Rng.cnt; omega⟩

theorem digit {c m d : Int} (hc : 0 < c) (hd : 0 ≤ d ∧ d < c) : (d + c * m) % c = d ∧ (d + c * m) / c = m := by
  refine ⟨by rw [Int.add_mul_emod_self_left, Int.emod_eq_of_lt hd.1 hd.2], ?_⟩
  rw [Int.add_mul_ediv_left _ _ (by omega), Int.ediv_eq_zero_of_lt hd.1 hd.2, Int.zero_add]

theorem div_lt {n a b : Int} (ha : 0 < a) (h : n < a * b) : n / a < b := Int.ediv_lt_of_lt_mul ha (by rw [Int.mul_comm]; exact h)

/-- The number of a truth. -/
def numT (s : Sto) (t : Tru) : Int := (t.a - s.a.lo) + s.a.cnt * ((t.b - s.b.lo) + s.b.cnt * ((t.half - s.half.lo) + s.half.cnt * (t.peak - s.peak.lo)))

theorem lt_digit {c m d N : Int} (hc : 0 < c) (hd : d < c) (hm : m < N) : d + c * m < c * N := by
  have h : c * (m + 1) ≤ c * N := Int.mul_le_mul_of_nonneg_left (by omega) (by omega)
  rw [Int.mul_add] at h; omega

theorem nth_num {s : Sto} (hp : Pos s) {t : Tru} (ht : truB s t = true) : nthS s (numT s t) = t ∧ 0 ≤ numT s t ∧ numT s t < manyS s := by
  simp only [truB, inB, Bool.and_eq_true, decide_eq_true_eq] at ht
  obtain ⟨ha, hb, hh, hq⟩ := ht
  have pa := hp.a; have pb := hp.b; have ph := hp.half; have pp := hp.peak
  have da : 0 ≤ t.a - s.a.lo ∧ t.a - s.a.lo < s.a.cnt := by unfold Rng.cnt; omega
  have db : 0 ≤ t.b - s.b.lo ∧ t.b - s.b.lo < s.b.cnt := by unfold Rng.cnt; omega
  have dh : 0 ≤ t.half - s.half.lo ∧ t.half - s.half.lo < s.half.cnt := by unfold Rng.cnt; omega
  have dp : 0 ≤ t.peak - s.peak.lo ∧ t.peak - s.peak.lo < s.peak.cnt := by unfold Rng.cnt; omega
  have e1 := digit (m := (t.b - s.b.lo) + s.b.cnt * ((t.half - s.half.lo) + s.half.cnt * (t.peak - s.peak.lo))) pa da
  have e2 := digit (m := (t.half - s.half.lo) + s.half.cnt * (t.peak - s.peak.lo)) pb db
  have e3 := digit (m := t.peak - s.peak.lo) ph dh
  refine ⟨?_, ?_, ?_⟩
  · unfold nthS numT
    rw [e1.1, e1.2, e2.1, e2.2, e3.1, e3.2]
    cases t
    simp only [Tru.mk.injEq]
    omega
  · unfold numT
    have h1 : 0 ≤ s.half.cnt * (t.peak - s.peak.lo) := Int.mul_nonneg (by omega) dp.1
    have h2 : 0 ≤ s.b.cnt * ((t.half - s.half.lo) + s.half.cnt * (t.peak - s.peak.lo)) := Int.mul_nonneg (by omega) (by omega)
    have h3 : 0 ≤ s.a.cnt * ((t.b - s.b.lo) + s.b.cnt * ((t.half - s.half.lo) + s.half.cnt * (t.peak - s.peak.lo))) := Int.mul_nonneg (by omega) (by omega)
    omega
  · unfold numT manyS
    rw [Int.mul_assoc, Int.mul_assoc]
    exact lt_digit pa da.2 (lt_digit pb db.2 (by exact lt_digit ph dh.2 dp.2))

theorem num_nth {s : Sto} (hp : Pos s) {n : Int} (h0 : 0 ≤ n) (hn : n < manyS s) : truB s (nthS s n) = true ∧ numT s (nthS s n) = n := by
  have pa := hp.a; have pb := hp.b; have ph := hp.half; have pp := hp.peak
  have n1 := Int.ediv_nonneg h0 (Int.le_of_lt pa)
  have n2 := Int.ediv_nonneg n1 (Int.le_of_lt pb)
  have n3 := Int.ediv_nonneg n2 (Int.le_of_lt ph)
  have l3 : n / s.a.cnt / s.b.cnt / s.half.cnt < s.peak.cnt := by
    refine div_lt ph (div_lt pb (div_lt pa ?_))
    unfold manyS at hn
    rw [Int.mul_assoc, Int.mul_assoc] at hn
    exact hn
  have a0 := Int.emod_nonneg n (b := s.a.cnt) (by omega)
  have a1 := Int.emod_lt_of_pos n pa
  have b0 := Int.emod_nonneg (n / s.a.cnt) (b := s.b.cnt) (by omega)
  have b1 := Int.emod_lt_of_pos (n / s.a.cnt) pb
  have c0 := Int.emod_nonneg (n / s.a.cnt / s.b.cnt) (b := s.half.cnt) (by omega)
  have c1 := Int.emod_lt_of_pos (n / s.a.cnt / s.b.cnt) ph
  refine ⟨?_, ?_⟩
  · simp only [truB, Bool.and_eq_true, inB_iff]
    have ea : s.a.cnt = s.a.hi - s.a.lo + 1 := rfl
    have eb : s.b.cnt = s.b.hi - s.b.lo + 1 := rfl
    have ec : s.half.cnt = s.half.hi - s.half.lo + 1 := rfl
    have ed : s.peak.cnt = s.peak.hi - s.peak.lo + 1 := rfl
    refine ⟨⟨?_, ?_⟩, ⟨?_, ?_⟩, ⟨?_, ?_⟩, ?_, ?_⟩ <;> simp only [nthS] <;> omega
  · unfold numT nthS
    have e1 := Int.emod_add_mul_ediv n s.a.cnt
    have e2 := Int.emod_add_mul_ediv (n / s.a.cnt) s.b.cnt
    have e3 := Int.emod_add_mul_ediv (n / s.a.cnt / s.b.cnt) s.half.cnt
    have c (x y : Int) : x + y - x = y := by omega
    simp only [c]
    rw [e3, e2, e1]

theorem all_perm {s : Sto} (hp : Pos s) : (allN s).Perm (possL s) := by
  refine (List.perm_ext_iff_of_nodup ?_ (poss_nodup s)).2 fun t => ?_
  · refine nodup_map (g := fun t => (numT s t).toNat) List.nodup_range ?_
    intro n hn
    rw [List.mem_range] at hn
    rw [(num_nth hp (Int.natCast_nonneg n) (by omega)).2]; simp
  · rw [mem_poss]
    constructor
    · intro h
      obtain ⟨n, hn, rfl⟩ := List.mem_map.1 h
      rw [List.mem_range] at hn
      exact (num_nth hp (Int.natCast_nonneg n) (by omega)).1
    · intro h
      obtain ⟨h1, h2, h3⟩ := nth_num hp h
      refine List.mem_map.2 ⟨(numT s t).toNat, List.mem_range.2 (by omega), ?_⟩
      rw [Int.toNat_of_nonneg h2, h1]

/-- The distance of a place, and the size of the stones there. -/
def distS (s : Sto) (t : Tru) (x y : Int) : Int :=
  if (s.wide - 1) * y - (t.a * (s.wide - 1 - x) + t.b * x) < 0 then -((s.wide - 1) * y - (t.a * (s.wide - 1 - x) + t.b * x)) else (s.wide - 1) * y - (t.a * (s.wide - 1 - x) + t.b * x)
def hitB (s : Sto) (t : Tru) (x y : Int) : Bool := decide (distS s t x y ≤ (s.wide - 1) * t.half)
def sizeS (s : Sto) (t : Tru) (x y : Int) : Int := if hitB s t x y = true then (if 1 < t.peak - s.fall * (distS s t x y / (s.wide - 1)) then t.peak - s.fall * (distS s t x y / (s.wide - 1)) else 1) else 0
theorem size_pos {s : Sto} {t : Tru} {x y : Int} : decide (0 < sizeS s t x y) = hitB s t x y := by
  unfold sizeS
  cases hitB s t x y
  · simp
  · simp; split <;> omega
/-- Whether a card is right at a place, and at any of its places. -/
def fitsP (s : Sto) (t : Tru) (c : Crd) (x y : Int) : Bool := (c.hail && (hitB s t x y && inB (sizeS s t x y) c.size.lo c.size.hi)) || (!c.hail && !hitB s t x y)
def fitsB (s : Sto) (t : Tru) (c : Crd) : Bool := (placesL c.x c.y).any fun p => fitsP s t c p.1 p.2
/-- All truths of a storm, in the program's order. -/
def truthL (s : Sto) : List Tru := (possL s).filter fun t => s.cards.all (fitsB s t)

end Go.Proofs.Ytfnefkenheglhaa
