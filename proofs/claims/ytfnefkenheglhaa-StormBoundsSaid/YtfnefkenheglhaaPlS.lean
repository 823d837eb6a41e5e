/- The sizes at a place, the bounds and the best place: what the reference folds over its truths is what the program folds over its own. No condition. -/
import Derived.Test.YtfnefkenheglhaaA12
import Derived.Test.YtfnefkenheglhaaP11
import Derived.Test.YtfnefkenheglhaaP12
import Derived.Test.YtfnefkenheglhaaP15
namespace Go.Proofs.Ytfnefkenheglhaa
open Go.RowKit

theorem widerR_comm (r : Rng) (a b : Int) : widerR (widerR r a) b = widerR (widerR r b) a := by
  simp only [widerR, minI, Rng.mk.injEq]
  constructor
  · split <;> split <;> (try split) <;> (try split) <;> omega
  · split <;> split <;> (try split) <;> (try split) <;> omega

theorem wide_perm {f : Tru → Int} {L M : List Tru} (h : L.Perm M) (r : Rng) : wideT f r L = wideT f r M :=
  h.foldl_eq' (fun x _ y _ z => widerR_comm z (f x) (f y)) r

theorem wide_empty {n : Int} (h0 : -1000000 ≤ n) (h1 : n ≤ 1000000) : widerR emptyR n = ⟨n, n⟩ := by
  have a : n < 1099511627776 := by omega
  have b : -1099511627776 < n := by omega
  simp [widerR, minI, emptyR, a, b]
theorem wide_self (n : Int) : widerR ⟨n, n⟩ n = ⟨n, n⟩ := by simp [widerR, minI]

theorem wide_first {f : Tru → Int} {L : List Tru} (hL : L ≠ []) (hf : ∀ t ∈ L, -1000000 ≤ f t ∧ f t ≤ 1000000) : wideT f emptyR L = boundR f L := by
  cases L with
  | nil => exact absurd rfl hL
  | cons t l =>
    have h := hf t (by simp)
    show l.foldl _ (widerR emptyR (f t)) = l.foldl _ (widerR ⟨f t, f t⟩ (f t))
    rw [wide_empty h.1 h.2, wide_self]

/-- What the reference finds is what the program finds. -/
theorem wide_law {s : Sto} (ok : OkS s) {f : Tru → Int} (hL : truthL s ≠ []) (hf : ∀ t ∈ truthL s, -1000000 ≤ f t ∧ f t ≤ 1000000) : wideT f emptyR (truR s) = boundR f (truthL s) := by
  rw [wide_perm (truR_perm ok.pos), wide_first hL hf]

theorem size_bound {s : Sto} {t : Tru} {x y : Int} (hf : 0 ≤ s.fall) (hw : 2 ≤ s.wide) (hp : 1 ≤ t.peak) : 0 ≤ sizeS s t x y ∧ sizeS s t x y ≤ t.peak := by
  have hd : 0 ≤ distS s t x y := by unfold distS; split <;> omega
  have h := Int.mul_nonneg hf (Int.ediv_nonneg hd (show 0 ≤ s.wide - 1 by omega))
  unfold sizeS
  split
  · split <;> omega
  · omega

theorem truth_in {s : Sto} {t : Tru} (h : t ∈ truthL s) : truB s t = true := mem_poss.1 (List.mem_filter.1 h).1

theorem sizes_law {s : Sto} (ok : OkS s) (x y : Int) (hL : truthL s ≠ []) : sizesR s x y (truR s) = spanT s x y ⟨firstT s x y (truthL s), firstT s x y (truthL s)⟩ (truthL s) := by
  have h := wide_law ok (f := fun t => sizeS s t x y) hL (fun t ht => by
    have ht := truth_in ht
    simp only [truB, inB, Bool.and_eq_true, decide_eq_true_eq] at ht
    have hp := Rng.of_iff.1 ok.peak
    have := size_bound (s := s) (t := t) (x := x) (y := y) ok.f0 ok.w2 (by omega)
    omega)
  show wideT (fun t => sizeS s t x y) emptyR (truR s) = _
  rw [h]
  cases hl : truthL s with
  | nil => exact absurd hl hL
  | cons t l => rfl

theorem hitN_perm {s : Sto} {L M : List Tru} (h : L.Perm M) (x y : Int) : hitN s L x y = hitN s M x y := by
  unfold hitN; rw [(h.filter _).length_eq]
theorem worst_perm {s : Sto} {L M : List Tru} (h : L.Perm M) (x y : Int) : worstT s L x y = worstT s M x y := by
  unfold worstT; rw [hitN_perm h, h.length_eq]
theorem best_perm {s : Sto} {L M : List Tru} (h : L.Perm M) : bestT s L = bestT s M := by
  have e : bestStep s L = bestStep s M := by
    funext st q; unfold bestStep; rw [worst_perm h]
  unfold bestT; rw [e, h.length_eq]

end Go.Proofs.Ytfnefkenheglhaa
