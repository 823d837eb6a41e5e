/- The best place: its worst case is the least one, and is what remains of the truths whatever is reported there; append of cards that may be none. No condition but a storm without an error. -/
import Derived.Test.YtfnefkenheglhaaA16
import Derived.Test.YtfnefkenheglhaaP15
import Derived.Deep.AppendLies
import Derived.Deep.AppendSrc
import Derived.Deep.Upon
namespace Go.Proofs.Ytfnefkenheglhaa
open Go.RowKit

theorem size_bound {s : Sto} {t : Tru} {x y : Int} (hf : 0 ≤ s.fall) (hw : 2 ≤ s.wide) (hp : 1 ≤ t.peak) : 0 ≤ sizeS s t x y ∧ sizeS s t x y ≤ t.peak := by
  have hd : 0 ≤ distS s t x y := by unfold distS; split <;> omega
  have h := Int.mul_nonneg hf (Int.ediv_nonneg hd (show 0 ≤ s.wide - 1 by omega))
  unfold sizeS
  split
  · split <;> omega
  · omega

theorem truth_in {s : Sto} {t : Tru} (h : t ∈ truthL s) : truB s t = true := mem_poss.1 (List.mem_filter.1 h).1

theorem hitN_perm {s : Sto} {L M : List Tru} (h : L.Perm M) (x y : Int) : hitN s L x y = hitN s M x y := by
  unfold hitN; rw [(h.filter _).length_eq]

theorem worst_perm {s : Sto} {L M : List Tru} (h : L.Perm M) (x y : Int) : worstT s L x y = worstT s M x y := by
  unfold worstT; rw [hitN_perm h, h.length_eq]

/-- A storm with one more card. -/
def plusS (s : Sto) (k : Crd) : Sto := ⟨s.wide, s.high, s.fall, s.a, s.b, s.half, s.peak, s.cards ++ [k]⟩

theorem plus_len (s : Sto) (k : Crd) : (plusS s k).cards.length = s.cards.length + 1 := by
  show (s.cards ++ [k]).length = _; simp

theorem step_append_crds {ops : Array Oper} {o : Oper} {a : Act} {w : World} {K : Act → World → Prop} {Q : Exit → Act → World → Prop} {E : Prop} (hgd : o.guard = none) (s x : Operand)
    (ho : o.op = .call { callee := .builtin .append, args := #[s, x], argTypes := #[24, 24] })
    (base : Nat) (v : Value) (l : List Crd) (q : Option Addr) (m c : Nat) (y : List Crd) (hown : OwnRows cellsK 7 61 w base v l) (hs : a.eval s = v) (hx : a.eval x = .slice q m c) (hy : CrdsAt w q m y)
    (hlen : l.length ≤ 2000000) (hm : m ≤ 2000000) (hbase : base ≤ w.heap.size)
    (h : ∀ v' w', OwnRows cellsK 7 61 w' base v' (l ++ y) → Below base w w' → (∀ k, k < w.heap.size → some k ≠ v.ownBlock → w'.heap[k]? = w.heap[k]?) → K (a.put o.dst v') w') :
    if Region.wanted o (yielded ops a.tmps) = true then Oper.wp Try.prog o a w K Q else E := by
  obtain ⟨i0, hi, hz0, hz1, hz2⟩ := info_parts Try.info61
  by_cases hm0 : m = 0
  · subst hm0
    have hy0 : y = [] := List.length_eq_zero_iff.1 hy.1.symm
    subst hy0
    have hw : Region.wanted o (yielded ops a.tmps) = true := by simp [Region.wanted, hgd]
    rw [if_pos hw]
    obtain ⟨ap, cp, hle, rfl⟩ : ∃ ap cp, l.length ≤ cp ∧ v = .slice ap l.length cp := by
      rcases hown.2 with ⟨rfl, h0⟩ | ⟨g, cap, cur, rfl, hg, hh, hn, hm, _⟩
      · exact ⟨none, 0, by omega, by rw [h0]⟩
      · exact ⟨_, cap, by omega, rfl⟩
    have hsrc : Src Try.prog i0.size 24 (.slice q 0 c) 0 [] w := by
      cases q with
      | none => exact Src.ofNil w Try.und24 c
      | some ad => exact Src.ofSlice w Try.und24 ad 0 c [] (by simp) (by simp) (by simp)
    have hr := run_append_nothing (P := Try.prog) w 24 24 o.type 61 i0 Try.und24 hi ap l.length cp hle (.slice q 0 c) hsrc
    unfold Oper.wp execOp
    simp only [ho, resolve, invoke, builtin, Sem.run_bind, Sem.run_pure, Result.andThen_ok, List.map_toArray, List.map_cons, List.map_nil, hs, hx, hr]
    exact h _ _ (by rw [List.append_nil]; exact hown) (Below.refl _ _) (fun _ _ _ => rfl)
  · obtain ⟨z0, hz⟩ : ∃ z, y[0]? = some z := ⟨y[0]'(by have := hy.1; omega), List.getElem?_eq_getElem _⟩
    obtain ⟨b, off, hq, _⟩ := hy.2 0 z0 hz
    subst hq
    have hR := crds_iff.1 hy
    refine step_append_lies w hgd s x 24 ho base 61 i0 _ 7 56 Try.und24 hi hz0 hz1 hz2 rfl (by decide) v l.length (l.flatMap cellsK) hs hown ⟨b, off, none⟩ m c (y.flatMap cellsK) hx (by rw [flat_len cellsK_len, hy.1]) ?_ ?_ (by omega) (by unfold maxLen; omega) (by omega) hbase w.heap.size rfl ?_
    · intro j u hj
      obtain ⟨z, hz, hu⟩ := flat_get' cellsK_len (by decide) y j u hj
      obtain ⟨b', off', e, _, hc⟩ := hR.2 (j / 7) z hz
      cases e
      have e : (⟨b, off, none⟩ : Addr).add j = ⟨b, off + j / 7 * 7 + j % 7, none⟩ := by
        have e : (⟨b, off, none⟩ : Addr).add j = ⟨b, off + j, none⟩ := by unfold Addr.add; split <;> simp_all
        rw [e, show off + j = off + j / 7 * 7 + j % 7 by omega]
      rw [e]
      exact hc _ u hu
    · intro u hu
      obtain ⟨z, _, hz⟩ := List.mem_flatMap.1 hu
      exact cellsK_one z u hz
    · intro g cap w' h1 h2 h3 h4
      refine h _ w' ?_ ?_ (fun k hk hne => h2.block k hk hne)
      · unfold OwnRows
        rw [List.length_append, ← hy.1, List.flatMap_append]
        exact h1
      · refine (Below.refl base w).grown h2 hbase ?_
        intro k hk
        exact (World.ownsRow.lt hown k hk).1

theorem best_fold (s : Sto) (L : List Tru) : ∀ (P : List (Int × Int)) (st : Int × Int × Int),
    (P.foldl (bestStep s L) st = st ∨ ∃ q ∈ P, P.foldl (bestStep s L) st = (q.1, q.2, worstT s L q.1 q.2)) ∧ (P.foldl (bestStep s L) st).2.2 ≤ st.2.2 ∧ ∀ q ∈ P, (P.foldl (bestStep s L) st).2.2 ≤ worstT s L q.1 q.2
  | [], st => ⟨.inl rfl, Int.le_refl _, fun q hq => by cases hq⟩
  | a :: P, st => by
    obtain ⟨h1, h2, h3⟩ := best_fold s L P (bestStep s L st a)
    have hs : (bestStep s L st a = st ∨ bestStep s L st a = (a.1, a.2, worstT s L a.1 a.2)) ∧ (bestStep s L st a).2.2 ≤ st.2.2 ∧ (bestStep s L st a).2.2 ≤ worstT s L a.1 a.2 := by
      unfold bestStep
      split
      · rename_i h; exact ⟨.inr rfl, Int.le_of_lt h, Int.le_refl _⟩
      · rename_i h; exact ⟨.inl rfl, Int.le_refl _, by omega⟩
    rw [List.foldl_cons]
    refine ⟨?_, by omega, fun q hq => ?_⟩
    · rcases h1 with h1 | ⟨q, hq, h1⟩
      · rcases hs.1 with e | e
        · exact .inl (by rw [h1, e])
        · exact .inr ⟨a, by simp, by rw [h1, e]⟩
      · exact .inr ⟨q, by simp [hq], h1⟩
    · rcases List.mem_cons.1 hq with rfl | hq
      · omega
      · exact h3 q hq

theorem worst_max (s : Sto) (L : List Tru) (x y : Int) : hitN s L x y ≤ worstT s L x y ∧ (L.length : Int) - hitN s L x y ≤ worstT s L x y ∧ worstT s L x y ≤ L.length ∧ (worstT s L x y = hitN s L x y ∨ worstT s L x y = (L.length : Int) - hitN s L x y) := by
  have h := hitN_le s L x y
  unfold worstT
  split <;> omega

theorem best_law {s : Sto} (ok : OkS s) (L : List Tru) : ∃ x y, bestT s L = (x, y, worstT s L x y) ∧ 0 ≤ x ∧ x ≤ s.wide - 1 ∧ 0 ≤ y ∧ y ≤ s.high - 1 ∧ ∀ a b, 0 ≤ a → a ≤ s.wide - 1 → 0 ≤ b → b ≤ s.high - 1 → worstT s L x y ≤ worstT s L a b := by
  obtain ⟨h1, _, h3⟩ := best_fold s L (placesL ⟨0, s.wide - 1⟩ ⟨0, s.high - 1⟩) (0, 0, (L.length : Int) + 1)
  have w2 := ok.w2; have hh := ok.h1
  rcases h1 with h1 | ⟨q, hq, h1⟩
  · have h4 := h3 (0, 0) (mem_places.2 ⟨by simp, by simp; omega, by simp, by simp; omega⟩)
    rw [h1] at h4
    have h5 := (worst_max s L 0 0).2.2.1
    simp at h4
    omega
  · have hq' := mem_places.1 hq
    refine ⟨q.1, q.2, h1, hq'.1, hq'.2.1, hq'.2.2.1, hq'.2.2.2, fun a b ha ha' hb hb' => ?_⟩
    have h4 := h3 (a, b) (mem_places.2 ⟨ha, ha', hb, hb'⟩)
    rw [h1] at h4
    exact h4

/-- The card of hail, of none, at a place. -/
def hailK (x y : Int) : Crd := ⟨⟨x, x⟩, ⟨y, y⟩, true, ⟨0, 9⟩⟩
def dryK (x y : Int) : Crd := ⟨⟨x, x⟩, ⟨y, y⟩, false, ⟨0, 0⟩⟩
theorem one_place (x y : Int) : placesL ⟨x, x⟩ ⟨y, y⟩ = [(x, y)] := by
  have e : ∀ z : Int, (⟨z, z⟩ : Rng).nums = [z] := fun z => by
    rw [nums_go (Int.le_refl z), nums_end (by omega)]
  unfold placesL
  rw [e, e]; rfl
theorem hail_fits {s : Sto} (ok : OkS s) {t : Tru} (ht : truB s t = true) (x y : Int) : fitsB s t (hailK x y) = hitB s t x y := by
  have hp := Rng.of_iff.1 ok.peak
  have h := ht
  simp only [truB, inB, Bool.and_eq_true, decide_eq_true_eq] at h
  have hb := size_bound (s := s) (t := t) (x := x) (y := y) ok.f0 ok.w2 (by omega)
  have hi : inB (sizeS s t x y) 0 9 = true := inB_iff.2 (by omega)
  unfold fitsB
  show (placesL ⟨x, x⟩ ⟨y, y⟩).any _ = _
  rw [one_place]
  simp [fitsP, hailK, hi]
theorem dry_fits (s : Sto) (t : Tru) (x y : Int) : fitsB s t (dryK x y) = !hitB s t x y := by
  unfold fitsB
  show (placesL ⟨x, x⟩ ⟨y, y⟩).any _ = _
  rw [one_place]
  simp [fitsP, dryK]
theorem plus_filter (s : Sto) (z : Crd) : truthL (plusS s z) = (truthL s).filter fun t => fitsB s t z := by
  show (possL s).filter (fun t => (s.cards ++ [z]).all (fitsB s t)) = ((possL s).filter fun t => s.cards.all (fitsB s t)).filter _
  rw [List.filter_filter]
  refine List.filter_congr fun t _ => ?_
  rw [List.all_append, Bool.and_comm]
  simp
theorem plus_pos {s : Sto} (h : Pos s) (z : Crd) : Pos (plusS s z) := ⟨h.a, h.b, h.half, h.peak⟩
theorem hail_len {s : Sto} (ok : OkS s) (x y : Int) : ((truR (plusS s (hailK x y))).length : Int) = hitN s (truthL s) x y := by
  rw [(truR_perm (plus_pos ok.pos _)).length_eq, plus_filter]
  unfold hitN
  congr 2
  exact List.filter_congr fun t ht => hail_fits ok (truth_in ht) x y
theorem filter_split {α : Type} (f : α → Bool) : ∀ l : List α, l.length = (l.filter f).length + (l.filter fun t => !f t).length
  | [] => rfl
  | a :: l => by
    have ih := filter_split f l
    rw [List.filter_cons, List.filter_cons]
    cases h : f a
    · simp; omega
    · simp; omega
theorem dry_len {s : Sto} (ok : OkS s) (x y : Int) : ((truR (plusS s (dryK x y))).length : Int) = ((truthL s).length : Int) - hitN s (truthL s) x y := by
  rw [(truR_perm (plus_pos ok.pos _)).length_eq, plus_filter]
  have h := filter_split (fun t => hitB s t x y) (truthL s)
  have e : ((truthL s).filter fun t => fitsB s t (dryK x y)) = (truthL s).filter fun t => !hitB s t x y := List.filter_congr fun t _ => dry_fits s t x y
  rw [e]
  unfold hitN
  omega

end Go.Proofs.Ytfnefkenheglhaa
