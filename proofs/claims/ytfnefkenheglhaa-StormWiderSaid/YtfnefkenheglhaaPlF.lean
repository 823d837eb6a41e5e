/- Plain: the first wrong card. No condition. -/
import Derived.Test.YtfnefkenheglhaaLawD
import Derived.Test.YtfnefkenheglhaaP17
namespace Go.Proofs.Ytfnefkenheglhaa
open Go.RowKit

theorem low_bit (k i : Nat) : bitB (((2 ^ k - 1 : Nat) : Int)) i = decide (i < k) := by
  rw [bitB_testBit, Nat.testBit_two_pow_sub_one]
theorem some_low {l : List Crd} {k : Nat} : ∀ {j : Nat}, j ≤ l.length → someTo l ((2 ^ k - 1 : Nat) : Int) j = l.take (min j k)
  | 0, _ => by simp [someTo]
  | j + 1, hj => by
    have hx : l[j]? = some l[j] := List.getElem?_eq_getElem hj
    rw [someTo_snoc hx, some_low (by omega), low_bit]
    by_cases h : j < k
    · rw [if_pos (by simpa using h), Nat.min_eq_left (by omega), Nat.min_eq_left (by omega), List.take_add_one, hx]
      rfl
    · rw [if_neg (by simpa using h), Nat.min_eq_right (by omega), Nat.min_eq_right (by omega), List.append_nil]
theorem someL_low {l : List Crd} {k : Nat} (hk : k ≤ l.length) : someL l ((2 ^ k - 1 : Nat) : Int) = l.take k := by
  rw [someL, some_low (Nat.le_refl _), Nat.min_eq_right hk]
theorem mem_truth {s : Sto} {t : Tru} : t ∈ truthL s ↔ t ∈ possL s ∧ s.cards.all (fitsB s t) = true := by
  unfold truthL
  rw [List.mem_filter]
theorem has_iff {s : Sto} {bits : Int} : hasT s bits = true ↔ ∃ t ∈ possL s, (someL s.cards bits).all (fitsB s t) = true := by
  unfold hasT
  rw [decide_eq_true_eq]
  constructor
  · intro h
    obtain ⟨t, ht⟩ := List.exists_mem_of_ne_nil _ h
    have := mem_truth.1 ht
    exact ⟨t, this.1, this.2⟩
  · rintro ⟨t, h1, h2⟩
    exact List.ne_nil_of_mem (mem_truth.2 ⟨h1, h2⟩ : t ∈ truthL (someS s bits))
theorem lead_take {α : Type} {f : α → Bool} : ∀ {l : List α} {k : Nat}, k ≤ l.length → ((l.take k).all f = true ↔ k ≤ (l.takeWhile f).length)
  | [], k, h => by simp at h; subst h; simp
  | a :: l, 0, _ => by simp
  | a :: l, k + 1, h => by
    rw [List.take_succ_cons, List.all_cons, Bool.and_eq_true, List.takeWhile_cons]
    cases ha : f a
    · simp
    · simp only [if_true, List.length_cons, true_and]
      rw [lead_take (by simpa using h)]
      omega
theorem leadM (s : Sto) : ∀ (l : List Tru) (m : Int), 0 ≤ m → (∀ t ∈ l, leadN s t ≤ l.foldl (leadStep s) m) ∧ m ≤ l.foldl (leadStep s) m ∧ (l.foldl (leadStep s) m = m ∨ ∃ t ∈ l, leadN s t = l.foldl (leadStep s) m)
  | [], m, _ => ⟨by simp, Int.le_refl _, .inl rfl⟩
  | a :: l, m, hm => by
    have hs : m ≤ leadStep s m a ∧ leadN s a ≤ leadStep s m a ∧ (leadStep s m a = m ∨ leadStep s m a = leadN s a) := by
      unfold leadStep
      split
      · exact ⟨by omega, Int.le_refl _, .inr rfl⟩
      · exact ⟨Int.le_refl _, by omega, .inl rfl⟩
    obtain ⟨h1, h2, h3⟩ := leadM s l (leadStep s m a) (by omega)
    rw [List.foldl_cons]
    refine ⟨fun t ht => ?_, by omega, ?_⟩
    · rcases List.mem_cons.1 ht with rfl | ht
      · omega
      · exact h1 t ht
    · rcases h3 with h3 | ⟨t, ht, h3⟩
      · rcases hs.2.2 with e | e
        · exact .inl (by rw [h3, e])
        · exact .inr ⟨a, by simp, by rw [h3, e]⟩
      · exact .inr ⟨t, List.mem_cons_of_mem _ ht, h3⟩
theorem poss_ne {s : Sto} (ok : OkS s) : ∃ t, t ∈ possL s := by
  have ha := Rng.of_iff.1 ok.a; have hb := Rng.of_iff.1 ok.b; have hh := Rng.of_iff.1 ok.half; have hp := Rng.of_iff.1 ok.peak
  refine ⟨⟨s.a.lo, s.b.lo, s.half.lo, s.peak.lo⟩, mem_poss.2 ?_⟩
  simp only [truB, inB, Bool.and_eq_true, decide_eq_true_eq]
  omega
/-- How far the first wrong card is. -/
theorem first_law {s : Sto} (ok : OkS s) : ∃ k : Nat, firstM s = k ∧ k ≤ s.cards.length ∧ hasT s ((2 ^ k - 1 : Nat) : Int) = true ∧ (k < s.cards.length → hasT s ((2 ^ (k + 1) - 1 : Nat) : Int) = false) := by
  obtain ⟨h1, h2, h3⟩ := leadM s (possL s) 0 (Int.le_refl 0)
  have hle := firstM_le s (possL s)
  obtain ⟨k, hk⟩ : ∃ k : Nat, firstM s = k := ⟨(firstM s).toNat, (Int.toNat_of_nonneg hle.1).symm⟩
  have hM : (possL s).foldl (leadStep s) 0 = k := hk
  rw [hM] at h1 h2 h3 hle
  refine ⟨k, hk, by omega, ?_, fun hlt => ?_⟩
  · rw [has_iff, someL_low (by omega)]
    rcases h3 with h3 | ⟨t, ht, h3⟩
    · obtain ⟨t, ht⟩ := poss_ne ok
      have : k = 0 := by omega
      subst this
      exact ⟨t, ht, by simp⟩
    · refine ⟨t, ht, (lead_take (by omega)).2 ?_⟩
      unfold leadN at h3
      omega
  · cases hh : hasT s ((2 ^ (k + 1) - 1 : Nat) : Int) with
    | false => rfl
    | true =>
      rw [has_iff, someL_low (by omega)] at hh
      obtain ⟨t, ht, hf⟩ := hh
      have h4 := (lead_take (by omega)).1 hf
      have h5 := h1 t ht
      unfold leadN at h5
      omega
end Go.Proofs.Ytfnefkenheglhaa
