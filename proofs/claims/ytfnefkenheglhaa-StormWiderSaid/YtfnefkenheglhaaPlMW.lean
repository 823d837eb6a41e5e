/- One more card: ranges, verdicts, sizes, smallest sets; append of cards that may be none; whether ranges are in others. No condition but storms without an error. -/
import Derived.Test.YtfnefkenheglhaaA12
import Derived.Test.YtfnefkenheglhaaPlV
import Derived.Test.YtfnefkenheglhaaPlP
import Derived.Deep.AppendLies
import Derived.Deep.AppendSrc
import Derived.Deep.Upon
namespace Go.Proofs.Ytfnefkenheglhaa
open Go.RowKit

theorem widerR_comm (r : Rng) (a b : Int) : widerR (widerR r a) b = widerR (widerR r b) a := by
  simp only [widerR, minI, Rng.mk.injEq]
  constructor
  · split <;> split <;> (try split) <;> (try split) <;> omega
  · split <;> split <;> (try split) <;> (try split) <;> omega

theorem wide_perm {f : Tru → Int} {L M : List Tru} (h : L.Perm M) (r : Rng) : wideT f r L = wideT f r M :=
  h.foldl_eq' (fun x _ y _ z => widerR_comm z (f x) (f y)) r

theorem wide_empty {n : Int} (h0 : -1000000 ≤ n) (h1 : n ≤ 1000000) : widerR emptyR n = ⟨n, n⟩ := by
  have a : n < 1099511627776 := by omega
  have b : -1099511627776 < n := by omega
  simp [widerR, minI, emptyR, a, b]
theorem wide_self (n : Int) : widerR ⟨n, n⟩ n = ⟨n, n⟩ := by simp [widerR, minI]

theorem wide_first {f : Tru → Int} {L : List Tru} (hL : L ≠ []) (hf : ∀ t ∈ L, -1000000 ≤ f t ∧ f t ≤ 1000000) : wideT f emptyR L = boundR f L := by
  cases L with
  | nil => exact absurd rfl hL
  | cons t l =>
    have h := hf t (by simp)
    show l.foldl _ (widerR emptyR (f t)) = l.foldl _ (widerR ⟨f t, f t⟩ (f t))
    rw [wide_empty h.1 h.2, wide_self]

/-- What the reference finds is what the program finds. -/
theorem wide_law {s : Sto} (ok : OkS s) {f : Tru → Int} (hL : truthL s ≠ []) (hf : ∀ t ∈ truthL s, -1000000 ≤ f t ∧ f t ≤ 1000000) : wideT f emptyR (truR s) = boundR f (truthL s) := by
  rw [wide_perm (truR_perm ok.pos), wide_first hL hf]

theorem size_bound {s : Sto} {t : Tru} {x y : Int} (hf : 0 ≤ s.fall) (hw : 2 ≤ s.wide) (hp : 1 ≤ t.peak) : 0 ≤ sizeS s t x y ∧ sizeS s t x y ≤ t.peak := by
  have hd : 0 ≤ distS s t x y := by unfold distS; split <;> omega
  have h := Int.mul_nonneg hf (Int.ediv_nonneg hd (show 0 ≤ s.wide - 1 by omega))
  unfold sizeS
  split
  · split <;> omega
  · omega

theorem truth_in {s : Sto} {t : Tru} (h : t ∈ truthL s) : truB s t = true := mem_poss.1 (List.mem_filter.1 h).1

theorem sizes_law {s : Sto} (ok : OkS s) (x y : Int) (hL : truthL s ≠ []) : sizesR s x y (truR s) = spanT s x y ⟨firstT s x y (truthL s), firstT s x y (truthL s)⟩ (truthL s) := by
  have h := wide_law ok (f := fun t => sizeS s t x y) hL (fun t ht => by
    have ht := truth_in ht
    simp only [truB, inB, Bool.and_eq_true, decide_eq_true_eq] at ht
    have hp := Rng.of_iff.1 ok.peak
    have := size_bound (s := s) (t := t) (x := x) (y := y) ok.f0 ok.w2 (by omega)
    omega)
  show wideT (fun t => sizeS s t x y) emptyR (truR s) = _
  rw [h]
  cases hl : truthL s with
  | nil => exact absurd hl hL
  | cons t l => rfl

theorem hitN_perm {s : Sto} {L M : List Tru} (h : L.Perm M) (x y : Int) : hitN s L x y = hitN s M x y := by
  unfold hitN; rw [(h.filter _).length_eq]
theorem worst_perm {s : Sto} {L M : List Tru} (h : L.Perm M) (x y : Int) : worstT s L x y = worstT s M x y := by
  unfold worstT; rw [hitN_perm h, h.length_eq]
theorem best_perm {s : Sto} {L M : List Tru} (h : L.Perm M) : bestT s L = bestT s M := by
  have e : bestStep s L = bestStep s M := by
    funext st q; unfold bestStep; rw [worst_perm h]
  unfold bestT; rw [e, h.length_eq]

/-- One range in another one. -/
def inside (a b : Rng) : Bool := decide (b.lo ≤ a.lo) && decide (a.hi ≤ b.hi)
theorem inside_iff {a b : Rng} : inside a b = true ↔ b.lo ≤ a.lo ∧ a.hi ≤ b.hi := by simp [inside]

/-- A range is the least one that has the numbers of a list. -/
def Span (r : Rng) (f : Tru → Int) (L : List Tru) : Prop := (∃ t ∈ L, f t = r.lo) ∧ (∃ t ∈ L, f t = r.hi) ∧ ∀ t ∈ L, r.lo ≤ f t ∧ f t ≤ r.hi
theorem Span.inside {r q : Rng} {f : Tru → Int} {L M : List Tru} (h : Span r f L) (k : Span q f M) (hs : ∀ t ∈ L, t ∈ M) : inside r q = true := by
  obtain ⟨⟨t, ht, e1⟩, ⟨u, hu, e2⟩, _⟩ := h
  have a := k.2.2 t (hs t ht); have b := k.2.2 u (hs u hu)
  rw [inside_iff]; omega

theorem widerR_hull {r : Rng} {n : Int} : (widerR r n).lo ≤ r.lo ∧ (widerR r n).lo ≤ n ∧ r.hi ≤ (widerR r n).hi ∧ n ≤ (widerR r n).hi ∧ ((widerR r n).lo = r.lo ∨ (widerR r n).lo = n) ∧ ((widerR r n).hi = r.hi ∨ (widerR r n).hi = n) := by
  simp only [widerR, minI]
  refine ⟨?_, ?_, ?_, ?_, ?_, ?_⟩ <;> split <;> omega
theorem wide_hull (f : Tru → Int) : ∀ (L : List Tru) (r : Rng), (wideT f r L).lo ≤ r.lo ∧ r.hi ≤ (wideT f r L).hi ∧ ((wideT f r L).lo = r.lo ∨ ∃ t ∈ L, f t = (wideT f r L).lo) ∧ ((wideT f r L).hi = r.hi ∨ ∃ t ∈ L, f t = (wideT f r L).hi) ∧ ∀ t ∈ L, (wideT f r L).lo ≤ f t ∧ f t ≤ (wideT f r L).hi
  | [], r => ⟨Int.le_refl _, Int.le_refl _, .inl rfl, .inl rfl, fun t ht => by cases ht⟩
  | a :: L, r => by
    have h := wide_hull f L (widerR r (f a))
    have k := widerR_hull (r := r) (n := f a)
    have e : wideT f r (a :: L) = wideT f (widerR r (f a)) L := rfl
    rw [e]
    obtain ⟨h1, h2, h3, h4, h5⟩ := h
    obtain ⟨k1, k2, k3, k4, k5, k6⟩ := k
    refine ⟨by omega, by omega, ?_, ?_, fun t ht => ?_⟩
    · rcases h3 with h3 | ⟨t, ht, h3⟩
      · rcases k5 with k5 | k5
        · exact .inl (by omega)
        · exact .inr ⟨a, by simp, by omega⟩
      · exact .inr ⟨t, by simp [ht], h3⟩
    · rcases h4 with h4 | ⟨t, ht, h4⟩
      · rcases k6 with k6 | k6
        · exact .inl (by omega)
        · exact .inr ⟨a, by simp, by omega⟩
      · exact .inr ⟨t, by simp [ht], h4⟩
    · rcases List.mem_cons.1 ht with rfl | ht
      · omega
      · exact h5 t ht
theorem bound_span {f : Tru → Int} {L : List Tru} (hL : L ≠ []) : Span (boundR f L) f L := by
  cases L with
  | nil => exact absurd rfl hL
  | cons a l =>
    have h := wide_hull f (a :: l) ⟨f a, f a⟩
    obtain ⟨_, _, h3, h4, h5⟩ := h
    refine ⟨?_, ?_, h5⟩
    · rcases h3 with h3 | h3
      · exact ⟨a, by simp, h3.symm⟩
      · exact h3
    · rcases h4 with h4 | h4
      · exact ⟨a, by simp, h4.symm⟩
      · exact h4
theorem span_bound {s : Sto} {x y : Int} {L : List Tru} (hL : L ≠ []) : Span (spanT s x y ⟨firstT s x y L, firstT s x y L⟩ L) (fun t => sizeS s t x y) L := by
  have h := bound_span (f := fun t => sizeS s t x y) hL
  cases L with
  | nil => exact absurd rfl hL
  | cons a l => exact h

/-- Verdicts of fewer truths. -/
theorem verd_less {s : Sto} {L M : List Tru} {x y : Rng} (hL : L ≠ []) (hq : ∃ q, q ∈ placesL x y) (hs : ∀ t ∈ L, t ∈ M) : verdT s M x y = 3 ∨ verdT s L x y = verdT s M x y := by
  rcases verdT_eq s M x y with ⟨h, e⟩ | ⟨h, h', e⟩ | ⟨_, _, e⟩
  · have a : AllIn s L x y := fun t ht => h t (hs t ht)
    rcases verdT_eq s L x y with ⟨_, e'⟩ | ⟨h1, _⟩ | ⟨h1, _⟩
    · exact .inr (by rw [e, e'])
    · exact absurd a h1
    · exact absurd a h1
  · have a : AllOut s L x y := fun t ht => h' t (hs t ht)
    have b : ¬ AllIn s L x y := not_both hL hq a
    rcases verdT_eq s L x y with ⟨h1, _⟩ | ⟨_, _, e'⟩ | ⟨_, h1, _⟩
    · exact absurd h1 b
    · exact .inr (by rw [e, e'])
    · exact absurd a h1
  · exact .inl e

theorem leave_iff {s : Sto} (ok : OkS s) {X : List Int} : leaveF s X = true ↔ ∃ t ∈ possL s, ∀ (i : Nat) c, s.cards[i]? = some c → (i : Int) ∉ X → fitsB s t c = true := by
  unfold leaveF
  rw [tog_iff ok]
  constructor
  · rintro ⟨t, ht, h⟩; exact ⟨t, ht, fun i c hc hi => h i c hc (hasB_not.2 hi)⟩
  · rintro ⟨t, ht, h⟩; exact ⟨t, ht, fun i c hc hi => h i c hc (hasB_not.1 hi)⟩

theorem shorter_len {x y : List Int} (h : shorterB x y = false) : y.length ≤ x.length := by
  unfold shorterB at h
  rw [Bool.or_eq_false_iff, decide_eq_false_iff_not] at h
  omega

/-- A storm with one more card. -/
def plusS (s : Sto) (k : Crd) : Sto := ⟨s.wide, s.high, s.fall, s.a, s.b, s.half, s.peak, s.cards ++ [k]⟩
theorem plus_fits (s : Sto) (k : Crd) (t : Tru) (c : Crd) : fitsB (plusS s k) t c = fitsB s t c := rfl
theorem plus_mem {s : Sto} {k : Crd} {t : Tru} : t ∈ truthL (plusS s k) ↔ t ∈ truthL s ∧ fitsB s t k = true := by
  have e : possL (plusS s k) = possL s := rfl
  have e' : (plusS s k).cards.all (fitsB (plusS s k) t) = (s.cards ++ [k]).all (fitsB s t) := rfl
  rw [mem_truth, mem_truth, e, e', List.all_append, Bool.and_eq_true]
  simp [and_assoc]
theorem plus_len (s : Sto) (k : Crd) : (plusS s k).cards.length = s.cards.length + 1 := by
  show (s.cards ++ [k]).length = _; simp
theorem plus_at {s : Sto} {k : Crd} {i : Nat} {c : Crd} (h : s.cards[i]? = some c) : (plusS s k).cards[i]? = some c := by
  show (s.cards ++ [k])[i]? = _
  rw [List.getElem?_append_left (List.getElem?_eq_some_iff.1 h).1]; exact h
theorem plus_leave {s : Sto} {k : Crd} (ok : OkS s) (ok' : OkS (plusS s k)) {X Y : List Int} (hX : shortL (leaveF s) s.cards.length = some X) (hY : shortL (leaveF (plusS s k)) (plusS s k).cards.length = some Y) :
    X.length ≤ Y.length ∧ Y.length ≤ X.length + 1 := by
  obtain ⟨hx1, hx2, hx3⟩ := short_first hX
  obtain ⟨hy1, hy2, hy3⟩ := short_first hY
  rw [plus_len] at hy1 hy3
  rw [leave_iff ok] at hx2
  rw [leave_iff ok'] at hy2
  constructor
  · have hz : ∀ {Z : List Int} {m : Int}, IncrG (s.cards.length + 1) m Z → IncrG s.cards.length m (Z.filter fun a => decide (a < s.cards.length)) := by
      intro Z
      induction Z with
      | nil => intro m _; trivial
      | cons a l ih =>
        intro m h
        obtain ⟨h1, h2, h3⟩ := h
        rw [List.filter_cons]
        split
        · rename_i hd
          rw [decide_eq_true_eq] at hd
          exact ⟨h1, hd, ih h3⟩
        · have := ih h3
          exact incr_filter.incr_le (by omega) this
    have h := hx3 (Y.filter fun a => decide (a < s.cards.length)) (hz hy1) ?_
    · exact Nat.le_trans (shorter_len h) (List.length_filter_le _ _)
    · rw [leave_iff ok]
      obtain ⟨t, ht, hf⟩ := hy2
      refine ⟨t, ht, fun i c hc hi => hf i c (plus_at hc) fun hi' => hi ?_⟩
      rw [List.mem_filter, decide_eq_true_eq]
      have := (List.getElem?_eq_some_iff.1 hc).1
      exact ⟨hi', by omega⟩
  · have h := hy3 (X ++ [(s.cards.length : Int)]) (incr_snoc (by omega) hx1) ?_
    · have := shorter_len h; simpa using this
    · rw [leave_iff ok']
      obtain ⟨t, ht, hf⟩ := hx2
      refine ⟨t, ht, fun i c hc hi => ?_⟩
      rw [List.mem_append, List.mem_singleton, not_or] at hi
      have hlt := (List.getElem?_eq_some_iff.1 hc).1
      rw [plus_len] at hlt
      refine hf i c ?_ hi.1
      have hc' : (s.cards ++ [k])[i]? = some c := hc
      rw [List.getElem?_append_left (by omega)] at hc'
      exact hc'

/-- One storm has wider ranges than another one. -/
structure Wid (s x : Sto) : Prop where
  w : x.wide = s.wide
  h : x.high = s.high
  f : x.fall = s.fall
  poss : ∀ t, truB s t = true → truB x t = true
  n : x.cards.length = s.cards.length
  cards : ∀ (i : Nat) (c : Crd), s.cards[i]? = some c → ∃ d : Crd, x.cards[i]? = some d ∧ d.hail = c.hail ∧ d.size = c.size ∧ ∀ q, q ∈ placesL c.x c.y → q ∈ placesL d.x d.y
theorem wid_hit {s x : Sto} (h : Wid s x) (t : Tru) (a b : Int) : hitB x t a b = hitB s t a b := by unfold hitB distS; rw [h.w]
theorem wid_size {s x : Sto} (h : Wid s x) (t : Tru) (a b : Int) : sizeS x t a b = sizeS s t a b := by
  have e : distS x t a b = distS s t a b := by unfold distS; rw [h.w]
  unfold sizeS; rw [wid_hit h, e, h.f, h.w]
theorem wid_fits {s x : Sto} (h : Wid s x) {t : Tru} {c d : Crd} (h1 : d.hail = c.hail) (h2 : d.size = c.size) (h3 : ∀ q, q ∈ placesL c.x c.y → q ∈ placesL d.x d.y) (hf : fitsB s t c = true) : fitsB x t d = true := by
  unfold fitsB at hf ⊢
  rw [List.any_eq_true] at hf ⊢
  obtain ⟨q, hq, hq'⟩ := hf
  refine ⟨q, h3 q hq, ?_⟩
  unfold fitsP at hq' ⊢
  rw [wid_hit h, wid_size h, h1, h2]
  exact hq'
theorem wid_mem {s x : Sto} (h : Wid s x) {t : Tru} (ht : t ∈ truthL s) : t ∈ truthL x := by
  rw [mem_truth, mem_poss, List.all_eq_true] at ht ⊢
  refine ⟨h.poss t ht.1, fun d hd => ?_⟩
  obtain ⟨i, hi⟩ := List.getElem?_of_mem hd
  have hlt := (List.getElem?_eq_some_iff.1 hi).1
  rw [h.n] at hlt
  have hc : s.cards[i]? = some s.cards[i] := List.getElem?_eq_getElem hlt
  obtain ⟨d', hd', a1, a2, a3⟩ := h.cards i _ hc
  rw [hi] at hd'
  cases hd'
  exact wid_fits h a1 a2 a3 (ht.2 _ (List.getElem_mem hlt))
theorem wid_leave {s x : Sto} (h : Wid s x) (ok : OkS s) (ok' : OkS x) {X Y : List Int} (hX : shortL (leaveF s) s.cards.length = some X) (hY : shortL (leaveF x) x.cards.length = some Y) : Y.length ≤ X.length := by
  obtain ⟨hx1, hx2, _⟩ := short_first hX
  obtain ⟨_, _, hy3⟩ := short_first hY
  rw [leave_iff ok] at hx2
  obtain ⟨t, ht, hf⟩ := hx2
  refine shorter_len (hy3 X (by rw [h.n]; exact hx1) ((leave_iff ok').2 ⟨t, mem_poss.2 (h.poss t (mem_poss.1 ht)), fun i d hi hn => ?_⟩))
  have hlt := (List.getElem?_eq_some_iff.1 hi).1
  rw [h.n] at hlt
  have hc : s.cards[i]? = some s.cards[i] := List.getElem?_eq_getElem hlt
  obtain ⟨d', hd', a1, a2, a3⟩ := h.cards i _ hc
  rw [hi] at hd'
  cases hd'
  exact wid_fits h a1 a2 a3 (hf i _ hc hn)

theorem step_append_crds {ops : Array Oper} {o : Oper} {a : Act} {w : World} {K : Act → World → Prop} {Q : Exit → Act → World → Prop} {E : Prop} (hgd : o.guard = none) (s x : Operand)
    (ho : o.op = .call { callee := .builtin .append, args := #[s, x], argTypes := #[24, 24] })
    (base : Nat) (v : Value) (l : List Crd) (q : Option Addr) (m c : Nat) (y : List Crd) (hown : OwnRows cellsK 7 61 w base v l) (hs : a.eval s = v) (hx : a.eval x = .slice q m c) (hy : CrdsAt w q m y)
    (hlen : l.length ≤ 2000000) (hm : m ≤ 2000000) (hbase : base ≤ w.heap.size)
    (h : ∀ v' w', OwnRows cellsK 7 61 w' base v' (l ++ y) → Below base w w' → (∀ k, k < w.heap.size → some k ≠ v.ownBlock → w'.heap[k]? = w.heap[k]?) → K (a.put o.dst v') w') :
    if Region.wanted o (yielded ops a.tmps) = true then Oper.wp Try.prog o a w K Q else E := by
  obtain ⟨i0, hi, hz0, hz1, hz2⟩ := info_parts Try.info61
  by_cases hm0 : m = 0
  · subst hm0
    have hy0 : y = [] := List.length_eq_zero_iff.1 hy.1.symm
    subst hy0
    have hw : Region.wanted o (yielded ops a.tmps) = true := by simp [Region.wanted, hgd]
    rw [if_pos hw]
    obtain ⟨ap, cp, hle, rfl⟩ : ∃ ap cp, l.length ≤ cp ∧ v = .slice ap l.length cp := by
      rcases hown.2 with ⟨rfl, h0⟩ | ⟨g, cap, cur, rfl, hg, hh, hn, hm, _⟩
      · exact ⟨none, 0, by omega, by rw [h0]⟩
      · exact ⟨_, cap, by omega, rfl⟩
    have hsrc : Src Try.prog i0.size 24 (.slice q 0 c) 0 [] w := by
      cases q with
      | none => exact Src.ofNil w Try.und24 c
      | some ad => exact Src.ofSlice w Try.und24 ad 0 c [] (by simp) (by simp) (by simp)
    have hr := run_append_nothing (P := Try.prog) w 24 24 o.type 61 i0 Try.und24 hi ap l.length cp hle (.slice q 0 c) hsrc
    unfold Oper.wp execOp
    simp only [ho, resolve, invoke, builtin, Sem.run_bind, Sem.run_pure, Result.andThen_ok, List.map_toArray, List.map_cons, List.map_nil, hs, hx, hr]
    exact h _ _ (by rw [List.append_nil]; exact hown) (Below.refl _ _) (fun _ _ _ => rfl)
  · obtain ⟨z0, hz⟩ : ∃ z, y[0]? = some z := ⟨y[0]'(by have := hy.1; omega), List.getElem?_eq_getElem _⟩
    obtain ⟨b, off, hq, _⟩ := hy.2 0 z0 hz
    subst hq
    have hR := crds_iff.1 hy
    refine step_append_lies w hgd s x 24 ho base 61 i0 _ 7 56 Try.und24 hi hz0 hz1 hz2 rfl (by decide) v l.length (l.flatMap cellsK) hs hown ⟨b, off, none⟩ m c (y.flatMap cellsK) hx (by rw [flat_len cellsK_len, hy.1]) ?_ ?_ (by omega) (by unfold maxLen; omega) (by omega) hbase w.heap.size rfl ?_
    · intro j u hj
      obtain ⟨z, hz, hu⟩ := flat_get' cellsK_len (by decide) y j u hj
      obtain ⟨b', off', e, _, hc⟩ := hR.2 (j / 7) z hz
      cases e
      have e : (⟨b, off, none⟩ : Addr).add j = ⟨b, off + j / 7 * 7 + j % 7, none⟩ := by
        have e : (⟨b, off, none⟩ : Addr).add j = ⟨b, off + j, none⟩ := by unfold Addr.add; split <;> simp_all
        rw [e, show off + j = off + j / 7 * 7 + j % 7 by omega]
      rw [e]
      exact hc _ u hu
    · intro u hu
      obtain ⟨z, _, hz⟩ := List.mem_flatMap.1 hu
      exact cellsK_one z u hz
    · intro g cap w' h1 h2 h3 h4
      refine h _ w' ?_ ?_ (fun k hk hne => h2.block k hk hne)
      · unfold OwnRows
        rw [List.length_append, ← hy.1, List.flatMap_append]
        exact h1
      · refine (Below.refl base w).grown h2 hbase ?_
        intro k hk
        exact (World.ownsRow.lt hown k hk).1

set_option maxRecDepth 40000 in
set_option maxHeartbeats 16000000 in
theorem inside_any (a b : Rng) (w : World) : Calls Try.prog 42 #[.agg #[.int .i64 a.lo, .int .i64 a.hi], .agg #[.int .i64 b.lo, .int .i64 b.hi]] w fun e w' => e = .returned (.bool (inside a b)) ∧ Below w.heap.size w w' := by
  have HB : Hid (Boxed2 w #[.int .i64 a.lo, .int .i64 a.hi] 29 #[.int .i64 b.lo, .int .i64 b.hi] 29 ((w.alloc (.cells #[.int .i64 a.lo, .int .i64 a.hi] 29)).alloc (.cells #[.int .i64 b.lo, .int .i64 b.hi] 29))) := Below.refl _ _
  by_cases h1 : b.lo ≤ a.lo
  · by_cases h2 : a.hi ≤ b.hi
    · have HI : Hid (inside a b = true) := by show _ = _; rw [inside_iff]; exact ⟨h1, h2⟩
      go_enter Try.func42, Try.ntmps42
      go_wp2_with fail
      go_ret
      exact ⟨by rw [HI.out]; rfl, HB.out.below⟩
    · have HI : Hid (inside a b = false) := by show _ = _; rw [← Bool.not_eq_true, inside_iff]; omega
      go_enter Try.func42, Try.ntmps42
      go_wp2_with fail
      go_ret
      exact ⟨by rw [HI.out]; rfl, HB.out.below⟩
  · have HI : Hid (inside a b = false) := by show _ = _; rw [← Bool.not_eq_true, inside_iff]; omega
    go_enter Try.func42, Try.ntmps42
    go_wp2_with fail
    go_ret
    exact ⟨by rw [HI.out]; rfl, HB.out.below⟩

def narrowB (a b : Sto) : Bool := inside a.a b.a && (inside a.b b.b && (inside a.half b.half && inside a.peak b.peak))

set_option maxRecDepth 40000 in
set_option maxHeartbeats 16000000 in
theorem narrow_any (a b : Sto) (p : Option Addr) (n c : Nat) (q : Option Addr) (m d : Nat) (w : World) : Calls Try.prog 41 #[.agg #[.int .i64 a.wide, .int .i64 a.high, .int .i64 a.fall, .int .i64 a.a.lo, .int .i64 a.a.hi, .int .i64 a.b.lo, .int .i64 a.b.hi, .int .i64 a.half.lo, .int .i64 a.half.hi, .int .i64 a.peak.lo, .int .i64 a.peak.hi, .slice p n c], .agg #[.int .i64 b.wide, .int .i64 b.high, .int .i64 b.fall, .int .i64 b.a.lo, .int .i64 b.a.hi, .int .i64 b.b.lo, .int .i64 b.b.hi, .int .i64 b.half.lo, .int .i64 b.half.hi, .int .i64 b.peak.lo, .int .i64 b.peak.hi, .slice q m d]] w fun e w' => e = .returned (.bool (narrowB a b)) ∧ Below w.heap.size w w' := by
  have HB0 : Hid (Boxed2 w #[.int .i64 a.wide, .int .i64 a.high, .int .i64 a.fall, .int .i64 a.a.lo, .int .i64 a.a.hi, .int .i64 a.b.lo, .int .i64 a.b.hi, .int .i64 a.half.lo, .int .i64 a.half.hi, .int .i64 a.peak.lo, .int .i64 a.peak.hi, .slice p n c] 35 #[.int .i64 b.wide, .int .i64 b.high, .int .i64 b.fall, .int .i64 b.a.lo, .int .i64 b.a.hi, .int .i64 b.b.lo, .int .i64 b.b.hi, .int .i64 b.half.lo, .int .i64 b.half.hi, .int .i64 b.peak.lo, .int .i64 b.peak.hi, .slice q m d] 35 ((w.alloc (.cells #[.int .i64 a.wide, .int .i64 a.high, .int .i64 a.fall, .int .i64 a.a.lo, .int .i64 a.a.hi, .int .i64 a.b.lo, .int .i64 a.b.hi, .int .i64 a.half.lo, .int .i64 a.half.hi, .int .i64 a.peak.lo, .int .i64 a.peak.hi, .slice p n c] 35)).alloc (.cells #[.int .i64 b.wide, .int .i64 b.high, .int .i64 b.fall, .int .i64 b.a.lo, .int .i64 b.a.hi, .int .i64 b.b.lo, .int .i64 b.b.hi, .int .i64 b.half.lo, .int .i64 b.half.hi, .int .i64 b.peak.lo, .int .i64 b.peak.hi, .slice q m d] 35))) := Below.refl _ _
  have HNB := hid (show narrowB a b = (inside a.a b.a && (inside a.b b.b && (inside a.half b.half && inside a.peak b.peak))) from rfl)
  go_enter Try.func41, Try.ntmps41
  have e3 := (StoAt.of HB0.out.cell1).c3; have f3 := (StoAt.of HB0.out.cell2).c3; have e4 := (StoAt.of HB0.out.cell1).c4; have f4 := (StoAt.of HB0.out.cell2).c4
  go_wp2_with fail
  (with_reducible refine (inside_any a.a b.a _).mono ?_)
  rintro e w1 ⟨rfl, hb⟩
  have HB1 := hid (HB0.out.step (hb.mono (by have := HB0.out.size; omega)))
  clear hb e3 f3 e4 f4
  cases h0 : inside a.a b.a
  · have HR : Hid (narrowB a b = false) := by show _ = _; rw [HNB.out, h0]; simp
    go_wp2_with fail
    go_ret
    exact ⟨by rw [HR.out]; rfl, HB1.out.below⟩
  · skip
    have e5 := (StoAt.of HB1.out.cell1).c5; have f5 := (StoAt.of HB1.out.cell2).c5; have e6 := (StoAt.of HB1.out.cell1).c6; have f6 := (StoAt.of HB1.out.cell2).c6
    go_wp2_with fail
    (with_reducible refine (inside_any a.b b.b _).mono ?_)
    rintro e w2 ⟨rfl, hb⟩
    have HB2 := hid (HB1.out.step (hb.mono (by have := HB1.out.size; omega)))
    clear hb e5 f5 e6 f6
    cases h1 : inside a.b b.b
    · have HR : Hid (narrowB a b = false) := by show _ = _; rw [HNB.out, h1]; simp
      go_wp2_with fail
      go_ret
      exact ⟨by rw [HR.out]; rfl, HB2.out.below⟩
    · skip
      have e7 := (StoAt.of HB2.out.cell1).c7; have f7 := (StoAt.of HB2.out.cell2).c7; have e8 := (StoAt.of HB2.out.cell1).c8; have f8 := (StoAt.of HB2.out.cell2).c8
      go_wp2_with fail
      (with_reducible refine (inside_any a.half b.half _).mono ?_)
      rintro e w3 ⟨rfl, hb⟩
      have HB3 := hid (HB2.out.step (hb.mono (by have := HB2.out.size; omega)))
      clear hb e7 f7 e8 f8
      cases h2 : inside a.half b.half
      · have HR : Hid (narrowB a b = false) := by show _ = _; rw [HNB.out, h2]; simp
        go_wp2_with fail
        go_ret
        exact ⟨by rw [HR.out]; rfl, HB3.out.below⟩
      · skip
        have e9 := (StoAt.of HB3.out.cell1).c9; have f9 := (StoAt.of HB3.out.cell2).c9; have e10 := (StoAt.of HB3.out.cell1).c10; have f10 := (StoAt.of HB3.out.cell2).c10
        go_wp2_with fail
        (with_reducible refine (inside_any a.peak b.peak _).mono ?_)
        rintro e w4 ⟨rfl, hb⟩
        have HB4 := hid (HB3.out.step (hb.mono (by have := HB3.out.size; omega)))
        clear hb e9 f9 e10 f10
        cases h3 : inside a.peak b.peak
        · have HR : Hid (narrowB a b = false) := by show _ = _; rw [HNB.out, h3]; simp
          go_wp2_with fail
          go_ret
          exact ⟨by rw [HR.out]; rfl, HB4.out.below⟩
        · have HR : Hid (narrowB a b = true) := by show _ = _; rw [HNB.out, h0, h1, h2, h3]; rfl
          go_wp2_with fail
          go_ret
          exact ⟨by rw [HR.out]; rfl, HB4.out.below⟩

end Go.Proofs.Ytfnefkenheglhaa
