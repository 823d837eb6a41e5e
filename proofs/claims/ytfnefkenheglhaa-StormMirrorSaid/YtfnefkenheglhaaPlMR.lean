/- A storm that is turned upside down: ranges, verdicts, sizes, smallest sets; a range upside down. No condition but a storm without an error. -/
import Derived.Test.YtfnefkenheglhaaA12
import Derived.Test.YtfnefkenheglhaaPlV
import Derived.Test.YtfnefkenheglhaaPlP
namespace Go.Proofs.Ytfnefkenheglhaa
open Go.RowKit

theorem widerR_comm (r : Rng) (a b : Int) : widerR (widerR r a) b = widerR (widerR r b) a := by
  simp only [widerR, minI, Rng.mk.injEq]
  constructor
  · split <;> split <;> (try split) <;> (try split) <;> omega
  · split <;> split <;> (try split) <;> (try split) <;> omega

theorem wide_perm {f : Tru → Int} {L M : List Tru} (h : L.Perm M) (r : Rng) : wideT f r L = wideT f r M :=
  h.foldl_eq' (fun x _ y _ z => widerR_comm z (f x) (f y)) r

theorem wide_empty {n : Int} (h0 : -1000000 ≤ n) (h1 : n ≤ 1000000) : widerR emptyR n = ⟨n, n⟩ := by
  have a : n < 1099511627776 := by omega
  have b : -1099511627776 < n := by omega
  simp [widerR, minI, emptyR, a, b]
theorem wide_self (n : Int) : widerR ⟨n, n⟩ n = ⟨n, n⟩ := by simp [widerR, minI]

theorem wide_first {f : Tru → Int} {L : List Tru} (hL : L ≠ []) (hf : ∀ t ∈ L, -1000000 ≤ f t ∧ f t ≤ 1000000) : wideT f emptyR L = boundR f L := by
  cases L with
  | nil => exact absurd rfl hL
  | cons t l =>
    have h := hf t (by simp)
    show l.foldl _ (widerR emptyR (f t)) = l.foldl _ (widerR ⟨f t, f t⟩ (f t))
    rw [wide_empty h.1 h.2, wide_self]

/-- What the reference finds is what the program finds. -/
theorem wide_law {s : Sto} (ok : OkS s) {f : Tru → Int} (hL : truthL s ≠ []) (hf : ∀ t ∈ truthL s, -1000000 ≤ f t ∧ f t ≤ 1000000) : wideT f emptyR (truR s) = boundR f (truthL s) := by
  rw [wide_perm (truR_perm ok.pos), wide_first hL hf]

theorem size_bound {s : Sto} {t : Tru} {x y : Int} (hf : 0 ≤ s.fall) (hw : 2 ≤ s.wide) (hp : 1 ≤ t.peak) : 0 ≤ sizeS s t x y ∧ sizeS s t x y ≤ t.peak := by
  have hd : 0 ≤ distS s t x y := by unfold distS; split <;> omega
  have h := Int.mul_nonneg hf (Int.ediv_nonneg hd (show 0 ≤ s.wide - 1 by omega))
  unfold sizeS
  split
  · split <;> omega
  · omega

theorem truth_in {s : Sto} {t : Tru} (h : t ∈ truthL s) : truB s t = true := mem_poss.1 (List.mem_filter.1 h).1

theorem sizes_law {s : Sto} (ok : OkS s) (x y : Int) (hL : truthL s ≠ []) : sizesR s x y (truR s) = spanT s x y ⟨firstT s x y (truthL s), firstT s x y (truthL s)⟩ (truthL s) := by
  have h := wide_law ok (f := fun t => sizeS s t x y) hL (fun t ht => by
    have ht := truth_in ht
    simp only [truB, inB, Bool.and_eq_true, decide_eq_true_eq] at ht
    have hp := Rng.of_iff.1 ok.peak
    have := size_bound (s := s) (t := t) (x := x) (y := y) ok.f0 ok.w2 (by omega)
    omega)
  show wideT (fun t => sizeS s t x y) emptyR (truR s) = _
  rw [h]
  cases hl : truthL s with
  | nil => exact absurd hl hL
  | cons t l => rfl

theorem hitN_perm {s : Sto} {L M : List Tru} (h : L.Perm M) (x y : Int) : hitN s L x y = hitN s M x y := by
  unfold hitN; rw [(h.filter _).length_eq]
theorem worst_perm {s : Sto} {L M : List Tru} (h : L.Perm M) (x y : Int) : worstT s L x y = worstT s M x y := by
  unfold worstT; rw [hitN_perm h, h.length_eq]
theorem best_perm {s : Sto} {L M : List Tru} (h : L.Perm M) : bestT s L = bestT s M := by
  have e : bestStep s L = bestStep s M := by
    funext st q; unfold bestStep; rw [worst_perm h]
  unfold bestT; rw [e, h.length_eq]

/-- One range in another one. -/
def inside (a b : Rng) : Bool := decide (b.lo ≤ a.lo) && decide (a.hi ≤ b.hi)
theorem inside_iff {a b : Rng} : inside a b = true ↔ b.lo ≤ a.lo ∧ a.hi ≤ b.hi := by simp [inside]

/-- A range is the least one that has the numbers of a list. -/
def Span (r : Rng) (f : Tru → Int) (L : List Tru) : Prop := (∃ t ∈ L, f t = r.lo) ∧ (∃ t ∈ L, f t = r.hi) ∧ ∀ t ∈ L, r.lo ≤ f t ∧ f t ≤ r.hi
theorem Span.inside {r q : Rng} {f : Tru → Int} {L M : List Tru} (h : Span r f L) (k : Span q f M) (hs : ∀ t ∈ L, t ∈ M) : inside r q = true := by
  obtain ⟨⟨t, ht, e1⟩, ⟨u, hu, e2⟩, _⟩ := h
  have a := k.2.2 t (hs t ht); have b := k.2.2 u (hs u hu)
  rw [inside_iff]; omega

theorem widerR_hull {r : Rng} {n : Int} : (widerR r n).lo ≤ r.lo ∧ (widerR r n).lo ≤ n ∧ r.hi ≤ (widerR r n).hi ∧ n ≤ (widerR r n).hi ∧ ((widerR r n).lo = r.lo ∨ (widerR r n).lo = n) ∧ ((widerR r n).hi = r.hi ∨ (widerR r n).hi = n) := by
  simp only [widerR, minI]
  refine ⟨?_, ?_, ?_, ?_, ?_, ?_⟩ <;> split <;> omega
theorem wide_hull (f : Tru → Int) : ∀ (L : List Tru) (r : Rng), (wideT f r L).lo ≤ r.lo ∧ r.hi ≤ (wideT f r L).hi ∧ ((wideT f r L).lo = r.lo ∨ ∃ t ∈ L, f t = (wideT f r L).lo) ∧ ((wideT f r L).hi = r.hi ∨ ∃ t ∈ L, f t = (wideT f r L).hi) ∧ ∀ t ∈ L, (wideT f r L).lo ≤ f t ∧ f t ≤ (wideT f r L).hi
  | [], r => ⟨Int.le_refl _, Int.le_refl _, .inl rfl, .inl rfl, fun t ht => by cases ht⟩
  | a :: L, r => by
    have h := wide_hull f L (widerR r (f a))
    have k := widerR_hull (r := r) (n := f a)
    have e : wideT f r (a :: L) = wideT f (widerR r (f a)) L := rfl
    rw [e]
    obtain ⟨h1, h2, h3, h4, h5⟩ := h
    obtain ⟨k1, k2, k3, k4, k5, k6⟩ := k
    refine ⟨by omega, by omega, ?_, ?_, fun t ht => ?_⟩
    · rcases h3 with h3 | ⟨t, ht, h3⟩
      · rcases k5 with k5 | k5
        · exact .inl (by omega)
        · exact .inr ⟨a, by simp, by omega⟩
      · exact .inr ⟨t, by simp [ht], h3⟩
    · rcases h4 with h4 | ⟨t, ht, h4⟩
      · rcases k6 with k6 | k6
        · exact .inl (by omega)
        · exact .inr ⟨a, by simp, by omega⟩
      · exact .inr ⟨t, by simp [ht], h4⟩
    · rcases List.mem_cons.1 ht with rfl | ht
      · omega
      · exact h5 t ht
theorem bound_span {f : Tru → Int} {L : List Tru} (hL : L ≠ []) : Span (boundR f L) f L := by
  cases L with
  | nil => exact absurd rfl hL
  | cons a l =>
    have h := wide_hull f (a :: l) ⟨f a, f a⟩
    obtain ⟨_, _, h3, h4, h5⟩ := h
    refine ⟨?_, ?_, h5⟩
    · rcases h3 with h3 | h3
      · exact ⟨a, by simp, h3.symm⟩
      · exact h3
    · rcases h4 with h4 | h4
      · exact ⟨a, by simp, h4.symm⟩
      · exact h4
theorem span_bound {s : Sto} {x y : Int} {L : List Tru} (hL : L ≠ []) : Span (spanT s x y ⟨firstT s x y L, firstT s x y L⟩ L) (fun t => sizeS s t x y) L := by
  have h := bound_span (f := fun t => sizeS s t x y) hL
  cases L with
  | nil => exact absurd rfl hL
  | cons a l => exact h

/-- Verdicts of fewer truths. -/
theorem verd_less {s : Sto} {L M : List Tru} {x y : Rng} (hL : L ≠ []) (hq : ∃ q, q ∈ placesL x y) (hs : ∀ t ∈ L, t ∈ M) : verdT s M x y = 3 ∨ verdT s L x y = verdT s M x y := by
  rcases verdT_eq s M x y with ⟨h, e⟩ | ⟨h, h', e⟩ | ⟨_, _, e⟩
  · have a : AllIn s L x y := fun t ht => h t (hs t ht)
    rcases verdT_eq s L x y with ⟨_, e'⟩ | ⟨h1, _⟩ | ⟨h1, _⟩
    · exact .inr (by rw [e, e'])
    · exact absurd a h1
    · exact absurd a h1
  · have a : AllOut s L x y := fun t ht => h' t (hs t ht)
    have b : ¬ AllIn s L x y := not_both hL hq a
    rcases verdT_eq s L x y with ⟨h1, _⟩ | ⟨_, _, e'⟩ | ⟨_, h1, _⟩
    · exact absurd h1 b
    · exact .inr (by rw [e, e'])
    · exact absurd a h1
  · exact .inl e

def flipR (r : Rng) (h : Int) : Rng := ⟨h - 1 - r.hi, h - 1 - r.lo⟩
def flipC (h : Int) (c : Crd) : Crd := ⟨c.x, flipR c.y h, c.hail, c.size⟩
def flipS (s : Sto) : Sto := ⟨s.wide, s.high, s.fall, flipR s.a s.high, flipR s.b s.high, s.half, s.peak, s.cards.map (flipC s.high)⟩
def flipT (h : Int) (t : Tru) : Tru := ⟨h - 1 - t.a, h - 1 - t.b, t.half, t.peak⟩

theorem flipT_flip (h : Int) (t : Tru) : flipT h (flipT h t) = t := by
  cases t with
  | mk a b c d =>
    simp only [flipT, Tru.mk.injEq, and_true]
    constructor <;> omega
theorem flip_of {r : Rng} {h : Int} (hr : r.of 0 (h - 1) = true) : (flipR r h).of 0 (h - 1) = true := by
  rw [Rng.of_iff] at hr ⊢; simp only [flipR]; omega
theorem flip_of_eq (r : Rng) (h : Int) : (flipR r h).of 0 (h - 1) = r.of 0 (h - 1) := by
  rw [Bool.eq_iff_iff, Rng.of_iff, Rng.of_iff]; simp only [flipR]; omega
theorem flip_cnt (r : Rng) (h : Int) : (flipR r h).cnt = r.cnt := by simp only [flipR, Rng.cnt]; omega
theorem flip_rect (s : Sto) (x y : Rng) : rectB (flipS s) x (flipR y s.high) = rectB s x y := by
  show (x.of 0 (s.wide - 1) && (flipR y s.high).of 0 (s.high - 1)) = _
  rw [flip_of_eq]; rfl
theorem flip_card (s : Sto) (c : Crd) : cardB (flipS s) (flipC s.high c) = cardB s c := by
  show (rectB (flipS s) c.x (flipR c.y s.high) && _) = _
  rw [flip_rect]; rfl
theorem flip_cards (s : Sto) : (flipS s).cards.all (cardB (flipS s)) = s.cards.all (cardB s) := by
  show (s.cards.map (flipC s.high)).all _ = _
  rw [List.all_map]
  congr 1
  funext c; exact flip_card s c
theorem flip_many (s : Sto) : manyS (flipS s) = manyS s := by
  show (flipR s.a s.high).cnt * (flipR s.b s.high).cnt * s.half.cnt * s.peak.cnt = _
  rw [flip_cnt, flip_cnt]; rfl
theorem flip_ok {s : Sto} (ok : OkS s) : OkS (flipS s) :=
  ⟨ok.w2, ok.w12, ok.h1, ok.h12, ok.f0, ok.f4, flip_of ok.a, flip_of ok.b, ok.half, ok.peak, by show (s.cards.map _).length ≤ 6; rw [List.length_map]; exact ok.n6, by rw [flip_cards]; exact ok.cards, by rw [flip_many]; exact ok.many⟩

theorem flip_dist (s : Sto) (t : Tru) (x y : Int) : distS (flipS s) (flipT s.high t) x (s.high - 1 - y) = distS s t x y := by
  have e : (s.wide - 1) * (s.high - 1 - y) - ((s.high - 1 - t.a) * (s.wide - 1 - x) + (s.high - 1 - t.b) * x) = -((s.wide - 1) * y - (t.a * (s.wide - 1 - x) + t.b * x)) := by
    have h1 : (s.wide - 1) * (s.high - 1 - y) = (s.wide - 1) * (s.high - 1) - (s.wide - 1) * y := Int.mul_sub _ _ _
    have h2 : (s.high - 1 - t.a) * (s.wide - 1 - x) = (s.high - 1) * (s.wide - 1 - x) - t.a * (s.wide - 1 - x) := Int.sub_mul _ _ _
    have h3 : (s.high - 1 - t.b) * x = (s.high - 1) * x - t.b * x := Int.sub_mul _ _ _
    have h4 : (s.high - 1) * (s.wide - 1 - x) = (s.high - 1) * (s.wide - 1) - (s.high - 1) * x := Int.mul_sub _ _ _
    have h5 : (s.wide - 1) * (s.high - 1) = (s.high - 1) * (s.wide - 1) := Int.mul_comm _ _
    omega
  have e' : distS (flipS s) (flipT s.high t) x (s.high - 1 - y) = if (s.wide - 1) * (s.high - 1 - y) - ((s.high - 1 - t.a) * (s.wide - 1 - x) + (s.high - 1 - t.b) * x) < 0 then -((s.wide - 1) * (s.high - 1 - y) - ((s.high - 1 - t.a) * (s.wide - 1 - x) + (s.high - 1 - t.b) * x)) else (s.wide - 1) * (s.high - 1 - y) - ((s.high - 1 - t.a) * (s.wide - 1 - x) + (s.high - 1 - t.b) * x) := rfl
  rw [e', e]
  unfold distS
  split <;> split <;> omega
theorem flip_hit (s : Sto) (t : Tru) (x y : Int) : hitB (flipS s) (flipT s.high t) x (s.high - 1 - y) = hitB s t x y := by
  unfold hitB; rw [flip_dist]; rfl
theorem flip_size (s : Sto) (t : Tru) (x y : Int) : sizeS (flipS s) (flipT s.high t) x (s.high - 1 - y) = sizeS s t x y := by
  unfold sizeS; rw [flip_hit, flip_dist]; rfl
theorem flip_place {x y : Rng} {h : Int} {q : Int × Int} : (q.1, h - 1 - q.2) ∈ placesL x (flipR y h) ↔ q ∈ placesL x y := by
  rw [mem_places, mem_places]; simp only [flipR]; omega
theorem flip_fits (s : Sto) (t : Tru) (c : Crd) : fitsB (flipS s) (flipT s.high t) (flipC s.high c) = fitsB s t c := by
  have hp : ∀ q : Int × Int, fitsP (flipS s) (flipT s.high t) (flipC s.high c) q.1 (s.high - 1 - q.2) = fitsP s t c q.1 q.2 := fun q => by
    unfold fitsP; rw [flip_hit, flip_size]; rfl
  unfold fitsB
  rw [Bool.eq_iff_iff, List.any_eq_true, List.any_eq_true]
  constructor
  · rintro ⟨q, hq, h⟩
    refine ⟨(q.1, s.high - 1 - q.2), ?_, ?_⟩
    · rw [← flip_place (h := s.high)]
      have e : s.high - 1 - (s.high - 1 - q.2) = q.2 := by omega
      dsimp only; rw [e]; exact hq
    · rw [← hp]
      have e : s.high - 1 - (s.high - 1 - q.2) = q.2 := by omega
      dsimp only; rw [e]; exact h
  · rintro ⟨q, hq, h⟩
    exact ⟨_, flip_place.2 hq, by rw [← hp] at h; exact h⟩
theorem flip_tru (s : Sto) (t : Tru) : truB (flipS s) (flipT s.high t) = truB s t := by
  rw [Bool.eq_iff_iff]
  simp only [truB, inB, Bool.and_eq_true, decide_eq_true_eq]
  show (s.high - 1 - s.a.hi ≤ s.high - 1 - t.a ∧ s.high - 1 - t.a ≤ s.high - 1 - s.a.lo) ∧ (s.high - 1 - s.b.hi ≤ s.high - 1 - t.b ∧ s.high - 1 - t.b ≤ s.high - 1 - s.b.lo) ∧ _ ↔ _
  constructor
  · rintro ⟨a, b, c⟩; exact ⟨by omega, by omega, c⟩
  · rintro ⟨a, b, c⟩; exact ⟨by omega, by omega, c⟩
theorem flip_all (s : Sto) (t : Tru) : (flipS s).cards.all (fitsB (flipS s) (flipT s.high t)) = s.cards.all (fitsB s t) := by
  show (s.cards.map (flipC s.high)).all _ = _
  rw [List.all_map]
  congr 1
  funext c; exact flip_fits s t c
theorem flip_mem {s : Sto} {t : Tru} : flipT s.high t ∈ truthL (flipS s) ↔ t ∈ truthL s := by
  rw [mem_truth, mem_truth, mem_poss, mem_poss, flip_tru, flip_all]
theorem flip_mem' {s : Sto} {t : Tru} (h : t ∈ truthL (flipS s)) : ∃ u ∈ truthL s, flipT s.high u = t :=
  ⟨flipT s.high t, by rw [← flip_mem, flipT_flip]; exact h, flipT_flip _ _⟩
theorem flip_nil {s : Sto} : truthL (flipS s) = [] ↔ truthL s = [] := by
  rw [List.eq_nil_iff_forall_not_mem, List.eq_nil_iff_forall_not_mem]
  constructor
  · intro h t ht; exact h _ (flip_mem.2 ht)
  · intro h t ht
    obtain ⟨u, hu, _⟩ := flip_mem' ht
    exact h u hu

theorem flip_verd {s : Sto} (x y : Rng) : verdT (flipS s) (truthL (flipS s)) x (flipR y s.high) = verdT s (truthL s) x y := by
  have key : ∀ b : Bool, (∀ t ∈ truthL (flipS s), ∀ q ∈ placesL x (flipR y s.high), hitB (flipS s) t q.1 q.2 = b) ↔ (∀ t ∈ truthL s, ∀ q ∈ placesL x y, hitB s t q.1 q.2 = b) := fun b => by
    constructor
    · intro h t ht q hq
      have h2 := h (flipT s.high t) (flip_mem.2 ht) (q.1, s.high - 1 - q.2) (flip_place.2 hq)
      rw [← flip_hit s t q.1 q.2]; exact h2
    · intro h t ht q hq
      obtain ⟨u, hu, rfl⟩ := flip_mem' ht
      have e : s.high - 1 - (s.high - 1 - q.2) = q.2 := by omega
      have hq' : (q.1, s.high - 1 - q.2) ∈ placesL x y := by
        rw [← flip_place (h := s.high)]; dsimp only; rw [e]; exact hq
      have := h u hu _ hq'
      rw [← flip_hit] at this
      dsimp only at this
      rw [e] at this; exact this
  have hi : AllIn (flipS s) (truthL (flipS s)) x (flipR y s.high) ↔ AllIn s (truthL s) x y := key true
  have ho : AllOut (flipS s) (truthL (flipS s)) x (flipR y s.high) ↔ AllOut s (truthL s) x y := key false
  rcases verdT_eq s (truthL s) x y with ⟨h, e⟩ | ⟨h, h', e⟩ | ⟨h, h', e⟩
  · rcases verdT_eq (flipS s) (truthL (flipS s)) x (flipR y s.high) with ⟨k, e'⟩ | ⟨k, k', e'⟩ | ⟨k, k', e'⟩
    · rw [e, e']
    · exact absurd (hi.2 h) k
    · exact absurd (hi.2 h) k
  · rcases verdT_eq (flipS s) (truthL (flipS s)) x (flipR y s.high) with ⟨k, e'⟩ | ⟨k, k', e'⟩ | ⟨k, k', e'⟩
    · exact absurd (hi.1 k) h
    · rw [e, e']
    · exact absurd (ho.2 h') k'
  · rcases verdT_eq (flipS s) (truthL (flipS s)) x (flipR y s.high) with ⟨k, e'⟩ | ⟨k, k', e'⟩ | ⟨k, k', e'⟩
    · exact absurd (hi.1 k) h
    · exact absurd (ho.1 k') h'
    · rw [e, e']

theorem Span.eq {r q : Rng} {f g : Tru → Int} {L M : List Tru} (h : Span r f L) (k : Span q g M) (h1 : ∀ t ∈ L, ∃ u ∈ M, g u = f t) (h2 : ∀ u ∈ M, ∃ t ∈ L, f t = g u) : r = q := by
  obtain ⟨⟨t, ht, e1⟩, ⟨u, hu, e2⟩, hb⟩ := h
  obtain ⟨⟨t', ht', e1'⟩, ⟨u', hu', e2'⟩, hb'⟩ := k
  obtain ⟨a, ha, ea⟩ := h1 t ht; obtain ⟨b, hb1, eb⟩ := h1 u hu
  obtain ⟨a', ha', ea'⟩ := h2 t' ht'; obtain ⟨b', hb1', eb'⟩ := h2 u' hu'
  have := hb' a ha; have := hb' b hb1; have := hb a' ha'; have := hb b' hb1'
  cases r; cases q
  simp only [Rng.mk.injEq] at *
  omega
theorem flip_sizes {s : Sto} (x y : Int) (hL : truthL s ≠ []) :
    spanT (flipS s) x (s.high - 1 - y) ⟨firstT (flipS s) x (s.high - 1 - y) (truthL (flipS s)), firstT (flipS s) x (s.high - 1 - y) (truthL (flipS s))⟩ (truthL (flipS s)) = spanT s x y ⟨firstT s x y (truthL s), firstT s x y (truthL s)⟩ (truthL s) := by
  have hL' : truthL (flipS s) ≠ [] := fun h => hL (flip_nil.1 h)
  refine (span_bound hL').eq (span_bound hL) (fun t ht => ?_) (fun u hu => ⟨_, flip_mem.2 hu, flip_size s u x y⟩)
  obtain ⟨u, hu, rfl⟩ := flip_mem' ht
  exact ⟨u, hu, (flip_size s u x y).symm⟩
theorem flip_has {s : Sto} (M : Nat) : hasT (flipS s) (M : Int) = hasT s (M : Int) := by
  rw [Bool.eq_iff_iff, has_bits, has_bits]
  constructor
  · rintro ⟨t, ht, h⟩
    refine ⟨flipT s.high t, ?_, fun i c hc hi => ?_⟩
    · rw [mem_poss, ← flip_tru, flipT_flip]; exact mem_poss.1 ht
    · rw [← flip_fits, flipT_flip]
      exact h i _ (by show (s.cards.map (flipC s.high))[i]? = _; rw [List.getElem?_map, hc]; rfl) hi
  · rintro ⟨t, ht, h⟩
    refine ⟨flipT s.high t, ?_, fun i c hc hi => ?_⟩
    · rw [mem_poss, flip_tru]; exact mem_poss.1 ht
    · have hc' : (s.cards.map (flipC s.high))[i]? = some c := hc
      rw [List.getElem?_map] at hc'
      cases hk : s.cards[i]? with
      | none => rw [hk] at hc'; cases hc'
      | some d =>
        rw [hk] at hc'
        cases hc'
        rw [flip_fits]; exact h i d hk hi
theorem flip_leave {s : Sto} (ok : OkS s) : shortL (leaveF (flipS s)) (flipS s).cards.length = shortL (leaveF s) s.cards.length := by
  have hl : (flipS s).cards.length = s.cards.length := by show (s.cards.map _).length = _; rw [List.length_map]
  rw [leaveR_law (flip_ok ok), leaveR_law ok]
  unfold leaveR
  rw [hl]
  congr 2
  funext b
  have h1 := can_has (flip_ok ok) (M := andN (2 ^ s.cards.length - 1) b) (by rw [hl]; exact andEvery_lt _ _)
  rw [h1, can_has ok (andEvery_lt _ _), flip_has]

set_option maxRecDepth 20000 in
set_option maxHeartbeats 1000000 in
theorem flipped_any (r : Rng) (h : Int) (w : World) (h0 : -1000000 ≤ h) (h1 : h ≤ 1000000) (r0 : -1000000 ≤ r.lo) (r1 : r.lo ≤ 1000000) (r2 : -1000000 ≤ r.hi) (r3 : r.hi ≤ 1000000) : Calls Try.prog 51 #[.agg #[.int .i64 r.lo, .int .i64 r.hi], .int .i64 h] w fun e w' => e = .returned (.agg #[.int .i64 (flipR r h).lo, .int .i64 (flipR r h).hi]) ∧ Below w.heap.size w w' := by
  obtain ⟨W0, hW0⟩ : ∃ V, (w.alloc (.cells #[.int .i64 r.lo, .int .i64 r.hi] 23)).alloc (.cells #[.int .i64 0, .int .i64 0] 23) = V := ⟨_, rfl⟩
  have hb : Boxed1 w #[.int .i64 r.lo, .int .i64 r.hi] 23 W0 := by rw [← hW0]; exact (Boxed1.start _ _ _).alloc _
  have hx : BoxIs (w.heap.size + 1) #[.int .i64 0, .int .i64 0] W0 := by
    have h := BoxIs.start (w.alloc (.cells #[.int .i64 r.lo, .int .i64 r.hi] 23)) #[.int .i64 0, .int .i64 0] 23
    rw [World.size_alloc, hW0] at h; exact h
  have e0 := (RngAt.of hb.cell).c0; have e1 := (RngAt.of hb.cell).c1
  have x0 := (hx.2 0 (.int .i64 0) rfl).1; have x1 := (hx.2 1 (.int .i64 0) rfl).1; have f0 := (hx.2 0 (.int .i64 0) rfl).2; have f1 := (hx.2 1 (.int .i64 0) rfl).2
  have HB := hid hb.below
  have HR := hid ((hx.put (j := 0) (.int .i64 (h - 1 - r.hi))).put (j := 1) (.int .i64 (h - 1 - r.lo)))
  clear hb hx
  show Calls _ _ _ _ fun e w' => e = .returned (.agg #[.int .i64 (h - 1 - r.hi), .int .i64 (h - 1 - r.lo)]) ∧ Below w.heap.size w w'
  go_enter Try.func51, Try.ntmps51
  go_wp2_with fail
  have y0 := (HR.out.2 0 (.int .i64 (h - 1 - r.hi)) rfl).1; have y1 := (HR.out.2 1 (.int .i64 (h - 1 - r.lo)) rfl).1
  refine bodyPost_ret (v := .agg #[.int .i64 (h - 1 - r.hi), .int .i64 (h - 1 - r.lo)]) (by simp [results, Try.f51, go_sem, y0, y1]) rfl ?_
  exact ⟨rfl, (HB.out.setCell (p := ⟨w.heap.size + 1, 0, none⟩) (by show w.heap.size ≤ w.heap.size + 1; omega) _).setCell (p := ⟨w.heap.size + 1, 1, none⟩) (by show w.heap.size ≤ w.heap.size + 1; omega) _⟩

end Go.Proofs.Ytfnefkenheglhaa
