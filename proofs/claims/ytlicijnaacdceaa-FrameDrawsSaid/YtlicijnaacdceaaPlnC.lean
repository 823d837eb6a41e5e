/- The truths in the program's order are those of the reference. -/
import Derived.Test.YtlicijnaacdceaaProQ
import Derived.Test.YtlicijnaacdceaaRefK
import Derived.Test.YtlicijnaacdceaaPlnB
namespace Go.Proofs.Ytlicijnaacdceaa

theorem mem_genP (ok : Nat → Int → List Int → Bool) : ∀ (l : List Int) (k : Nat) (pre x : List Int),
    x ∈ genP ok l k pre ↔ ∃ y, x = pre ++ y ∧ y.length = l.length ∧ ∀ i, i < l.length → 0 ≤ y[i]?.getD 0 ∧ y[i]?.getD 0 ≤ l[i]?.getD 0 ∧ ok (k + i) (y[i]?.getD 0) (pre ++ y.take i) = true
  | [], k, pre, x => by
    simp only [genP, List.mem_singleton]
    constructor
    · rintro rfl; exact ⟨[], by simp, rfl, fun i hi => by simp at hi⟩
    · rintro ⟨y, rfl, hy, _⟩; simp at hy; subst hy; simp
  | s :: r, k, pre, x => by
    have ih := fun pre => mem_genP ok r (k + 1) pre x
    simp only [genP, List.mem_flatMap, List.mem_range]
    constructor
    · rintro ⟨i, hi, hx⟩
      split at hx
      · rename_i hok
        obtain ⟨y, rfl, hy, hall⟩ := (ih _).1 hx
        refine ⟨(i : Int) :: y, by simp, by simp [hy], fun j hj => ?_⟩
        cases j with
        | zero => simp; exact ⟨by omega, hok⟩
        | succ j =>
          have := hall j (by simpa using hj)
          simp only [List.getElem?_cons_succ, List.take_succ_cons]
          rw [show k + (j + 1) = k + 1 + j by omega]
          simpa using this
      · cases hx
    · rintro ⟨y, rfl, hy, hall⟩
      cases y with
      | nil => simp at hy
      | cons a y =>
        have h0 := hall 0 (by simp)
        simp at h0
        refine ⟨a.toNat, by omega, ?_⟩
        have e : ((a.toNat : Nat) : Int) = a := by omega
        rw [e, if_pos h0.2.2, ih]
        refine ⟨y, by simp, by simpa using hy, fun j hj => ?_⟩
        have := hall (j + 1) (by simpa using hj)
        simp only [List.getElem?_cons_succ, List.take_succ_cons] at this
        rw [show k + (j + 1) = k + 1 + j by omega] at this
        simpa using this

theorem genP_nodup (ok : Nat → Int → List Int → Bool) : ∀ (l : List Int) (k : Nat) (pre : List Int), (genP ok l k pre).Nodup
  | [], _, pre => by simp [genP]
  | s :: r, k, pre => by
    unfold genP
    unfold List.Nodup
    rw [List.pairwise_flatMap]
    refine ⟨fun i _ => ?_, ?_⟩
    · split
      · exact genP_nodup ok r _ _
      · exact List.nodup_nil
    · refine (List.nodup_range (n := (s + 1).toNat)).imp ?_
      rintro i j hij x hx _ hy rfl
      have h1 : ∀ (i : Nat), x ∈ (if ok k (i : Int) pre = true then genP ok r (k + 1) (pre ++ [(i : Int)]) else []) → x[pre.length]? = some (i : Int) := by
        intro i h
        split at h
        · obtain ⟨y, rfl, _, _⟩ := (mem_genP ok r (k + 1) _ x).1 h
          simp
        · cases h
      have := (h1 i hx).symm.trans (h1 j hy)
      simp at this
      exact hij (by omega)

theorem genP_listed {ok : Nat → Int → List Int → Bool} {l x : List Int} (h : x ∈ genP ok l 0 []) : isListedB l x = true := by
  obtain ⟨y, rfl, hy, hall⟩ := (mem_genP ok l 0 [] x).1 h
  simp only [isListedB, Bool.and_eq_true, decide_eq_true_eq]
  refine ⟨hy, (allR_iff _ _ _).2 fun i _ hi => ?_⟩
  have := hall i (by omega)
  simp [inB, this.1, this.2.1]

theorem rightG_iff (out : List Int) (p h : Int) : ∀ (i : Int) (cs : List Cnt), rightG out p h i cs = true ↔ ∀ j c, cs[j]? = some c → c.place = p → c.late = false → hasB out (i + (j : Nat)) = false → inB h c.lo c.hi = true
  | _, [] => by simp [rightG]
  | i, c :: r => by
    rw [rightG, Bool.and_eq_true, rightG_iff out p h (i + 1) r]
    constructor
    · rintro ⟨h1, h2⟩ j c' hj hp hl ho
      cases j with
      | zero =>
        simp at hj; subst hj
        simp at ho
        rw [if_pos (by simp [hp, hl, ho])] at h1
        exact h1
      | succ j =>
        exact h2 j c' (by simpa using hj) hp hl (by rw [← ho]; congr 1; push_cast; omega)
    · intro hall
      refine ⟨?_, fun j c' hj hp hl ho => hall (j + 1) c' (by simpa using hj) hp hl (by rw [← ho]; congr 1; push_cast; omega)⟩
      split
      · rename_i hc
        simp only [Bool.and_eq_true, beq_iff_eq, Bool.not_eq_true'] at hc
        exact hall 0 c rfl hc.1 hc.2.1 (by simpa using hc.2.2)
      · rfl

theorem cntsG_iff (h : List Int) (out : Int) : ∀ (i : Nat) (cs : List Cnt), cntsG h out i cs = true ↔ ∀ j c, cs[j]? = some c → cntB h out (i + j) c = true
  | _, [] => by simp [cntsG]
  | i, c :: r => by
    rw [cntsG, Bool.and_eq_true, cntsG_iff h out (i + 1) r]
    constructor
    · rintro ⟨h1, h2⟩ j c' hj
      cases j with
      | zero => simp at hj; subst hj; exact h1
      | succ j => rw [show i + (j + 1) = i + 1 + j by omega]; exact h2 j c' (by simpa using hj)
    · intro hall
      exact ⟨hall 0 c rfl, fun j c' hj => by rw [show i + 1 + j = i + (j + 1) by omega]; exact hall (j + 1) c' (by simpa using hj)⟩

/-- The list that is left out and the set that is: the same. -/
def OutIs (m : Nat) (outl : List Int) (out : Int) : Prop := ∀ j : Nat, j < m → hasB outl j = !(out / 2 ^ j % 2 == 0)

theorem right_cnts {cs : List Cnt} {outl : List Int} {out : Int} (ho : OutIs cs.length outl out) {n : Nat} (hok : cs.all (cntOkB n) = true) (x : List Int) :
    (∀ i : Nat, i < n → rightB cs outl i (x[i]?.getD 0) = true) ↔ cntsG x out 0 cs = true := by
  rw [cntsG_iff]
  have hpl : ∀ (j : Nat) (c : Cnt), cs[j]? = some c → 0 ≤ c.place ∧ c.place < n := by
    intro j c hj
    have := List.all_eq_true.1 hok c (List.mem_of_getElem? hj)
    simp only [cntOkB, inB, Bool.and_eq_true, decide_eq_true_eq] at this
    omega
  constructor
  · intro h j c hj
    obtain ⟨p0, p1⟩ := hpl j c hj
    have h1 := (rightG_iff outl _ _ 0 cs).1 (h c.place.toNat (by omega)) j c hj (by omega)
    have hjl := (List.getElem?_eq_some_iff.1 hj).1
    have h2 := ho j hjl
    unfold cntB
    rw [Nat.zero_add, ← h2]
    cases hl : c.late
    · cases hb : hasB outl (j : Nat)
      · simp; exact h1 hl (by simpa using hb)
      · rfl
    · rfl
  · intro h i hi
    refine (rightG_iff outl _ _ 0 cs).2 fun j c hj hp hl hb => ?_
    have h1 := h j c hj
    have hjl := (List.getElem?_eq_some_iff.1 hj).1
    have h2 := ho j hjl
    unfold cntB at h1
    rw [Nat.zero_add, ← h2, hl] at h1
    rw [Int.zero_add] at hb
    rw [hb] at h1
    simp at h1
    rw [hp] at h1
    simpa using h1

theorem inB_neg (a b sm : Int) : inB (a - b) (-sm) sm = inB (b - a) (-sm) sm := by
  rw [Bool.eq_iff_iff]; simp [inB]; omega

theorem row_no {a c : Nat} (hc : 1 ≤ c) (h3 : (a : Int) / c = ((a + 1 : Nat) : Int) / c) (h2 : ((a + 1 : Nat) : Int) % c = 0) : False := by
  have e1 := Int.emod_add_mul_ediv (a : Int) c
  have e2 := Int.emod_add_mul_ediv ((a + 1 : Nat) : Int) c
  have e3 := Int.emod_nonneg (a : Int) (b := (c : Int)) (by omega)
  rw [h3] at e1
  rw [h2] at e2
  generalize (c : Int) * (((a + 1 : Nat) : Int) / c) = z at *
  push_cast at e2
  omega
theorem row_yes {i c : Nat} (hc : 1 ≤ c) (hi : i ≠ 0) (hm : ¬ (i : Int) % c = 0) : rowB (c : Int) (i - 1) i = true := by
  have e2 := Int.emod_add_mul_ediv (i : Int) c
  have e3 := Int.emod_nonneg (i : Int) (b := (c : Int)) (by omega)
  have e4 := Int.emod_lt_of_pos (i : Int) (b := (c : Int)) (by omega)
  have h1 : ((i - 1 : Nat) : Int) / c = (i : Int) / c := by
    have : ((i - 1 : Nat) : Int) = (i : Int) % c - 1 + (c : Int) * ((i : Int) / c) := by omega
    rw [this, Int.add_mul_ediv_left _ _ (by omega), Int.ediv_eq_zero_of_lt (by omega) (by omega)]
    omega
  simp only [rowB, Bool.and_eq_true, beq_iff_eq]
  exact ⟨h1, by omega⟩

theorem smooth_pairs {cc sm : Int} (hc : 1 ≤ cc) (x : List Int) :
    (∀ i : Nat, i < x.length → smoothB cc sm (x.take i ++ [x[i]?.getD 0]) i = true) ↔ pairsG cc sm x x.length 0 = true := by
  obtain ⟨c, rfl⟩ : ∃ c : Nat, cc = c := ⟨cc.toNat, by omega⟩
  have hc' : 1 ≤ c := by omega
  have hget : ∀ i j : Nat, i < x.length → j ≤ i → (x.take i ++ [x[i]?.getD 0])[j]?.getD 0 = x[j]?.getD 0 := by
    intro i j hi hj
    by_cases e : j = i
    · subst e; simp [hi]
    · rw [List.getElem?_append_left (by simp; omega), List.getElem?_take_of_lt (by omega)]
  unfold pairsG
  rw [allR_iff]
  simp only [pairsI, allR_iff]
  constructor
  · intro h a _ ha b hb1 hb2
    have hb := h b (by omega)
    simp only [smoothB, Bool.and_eq_true, Bool.or_eq_true, beq_iff_eq, decide_eq_true_eq] at hb
    rw [hget b b (by omega) (by omega), hget b (b - 1) (by omega) (by omega), hget b (b - (c : Int).toNat) (by omega) (by omega)] at hb
    unfold nearB
    cases hrow : rowB (c : Int) a b
    · cases hcol : colB (c : Int) a b
      · rfl
      · simp only [Bool.or_true, Bool.not_true, Bool.false_or]
        have e : (b : Int) = a + c := by simpa [colB] using hcol
        rcases hb.2 with h2 | h2
        · omega
        · rw [inB_neg]
          rw [show b - (c : Int).toNat = a by omega] at h2
          exact h2
    · simp only [Bool.true_or, Bool.not_true, Bool.false_or]
      simp only [rowB, Bool.and_eq_true, beq_iff_eq] at hrow
      rcases hb.1 with h2 | h2
      · exfalso
        obtain ⟨h3, h4⟩ := hrow
        have e : b = a + 1 := by omega
        subst e
        exact row_no hc' h3 h2
      · rw [inB_neg]
        rw [show b - 1 = a by omega] at h2
        exact h2
  · intro h i hi
    simp only [smoothB, Bool.and_eq_true, Bool.or_eq_true, beq_iff_eq, decide_eq_true_eq]
    rw [hget i i (by omega) (by omega), hget i (i - 1) (by omega) (by omega), hget i (i - (c : Int).toNat) (by omega) (by omega)]
    constructor
    · by_cases hm : (i : Int) % c = 0
      · exact .inl hm
      · refine .inr ?_
        have hi0 : i ≠ 0 := by rintro rfl; simp at hm
        have := h (i - 1) (by omega) (by omega) i (by omega) (by omega)
        unfold nearB at this
        rw [show rowB (c : Int) (i - 1) i = true by exact row_yes hc' hi0 hm] at this
        rw [inB_neg]
        simpa using this
    · by_cases hlt : (i : Int) < c
      · exact .inl hlt
      · refine .inr ?_
        have := h (i - c) (by omega) (by omega) i (by omega) (by omega)
        unfold nearB at this
        rw [show colB (c : Int) (i - c) i = true by simp [colB]; omega] at this
        rw [inB_neg]
        simpa using this

/-- The program's truths are the reference's. -/
theorem genP_truth {cc sm : Int} {l : List Int} {cs : List Cnt} {outl : List Int} {out : Int} (hc : 1 ≤ cc) (hok : cs.all (cntOkB l.length) = true) (ho : OutIs cs.length outl out) (x : List Int) :
    x ∈ genP (okP cs outl cc sm) l 0 [] ↔ isTruthB cc l sm cs x out = true := by
  have key : isListedB l x = true → ((∀ i : Nat, i < l.length → okP cs outl cc sm i (x[i]?.getD 0) (x.take i) = true) ↔ (pairsG cc sm x x.length 0 && cntsG x out 0 cs) = true) := by
    intro hl
    have hlen : x.length = l.length := by simp only [isListedB, Bool.and_eq_true, decide_eq_true_eq] at hl; exact hl.1
    rw [Bool.and_eq_true, ← smooth_pairs hc, ← right_cnts ho hok x, hlen]
    simp only [okP, Bool.and_eq_true]
    exact ⟨fun h => ⟨fun i hi => (h i hi).2, fun i hi => (h i hi).1⟩, fun h i hi => ⟨h.2 i hi, h.1 i hi⟩⟩
  unfold isTruthB
  constructor
  · intro h
    have hl := genP_listed h
    rw [hl, Bool.true_and]
    refine (key hl).1 ?_
    obtain ⟨y, rfl, hy, hall⟩ := (mem_genP _ l 0 [] x).1 h
    intro i hi
    have := (hall i hi).2.2
    simpa using this
  · intro h
    obtain ⟨hl, h2⟩ := Bool.and_eq_true_iff.1 h
    refine (mem_genP _ l 0 [] x).2 ⟨x, rfl, ?_, fun i hi => ?_⟩
    · simp only [isListedB, Bool.and_eq_true, decide_eq_true_eq] at hl; exact hl.1
    · have h3 := (key hl).2 h2 i hi
      simp only [isListedB, Bool.and_eq_true, decide_eq_true_eq] at hl
      have h4 := (allR_iff _ _ _).1 hl.2 i (by omega) (by omega)
      simp only [inB, Bool.and_eq_true, decide_eq_true_eq] at h4
      exact ⟨h4.1, h4.2, by simpa using h3⟩

theorem outIs_nil (m : Nat) : OutIs m [] 0 := fun j _ => by simp [hasB]
theorem hasB_iff : ∀ (l : List Int) (x : Int), hasB l x = true ↔ x ∈ l
  | [], x => by simp [hasB]
  | a :: r, x => by
    rw [hasB, Bool.or_eq_true, hasB_iff r x]
    simp only [beq_iff_eq, List.mem_cons]
    exact ⟨fun h => h.imp Eq.symm id, fun h => h.imp Eq.symm id⟩
theorem outIs_bits (m : Nat) (hm : m ≤ 12) (k : Nat) : OutIs m (bitsL k) k := by
  intro j hj
  rw [Bool.eq_iff_iff, hasB_iff]
  unfold bitsL bitsTo
  simp only [List.mem_map, List.mem_filter, List.mem_range, bitB, beq_iff_eq, Bool.not_eq_true', beq_eq_false_iff_ne]
  constructor
  · rintro ⟨p, ⟨_, h⟩, e⟩
    have : p = j := by omega
    subst this; omega
  · intro h
    refine ⟨j, ⟨by omega, ?_⟩, rfl⟩
    have h1 := Int.emod_nonneg ((k : Int) / 2 ^ j) (b := 2) (by omega)
    have h2 := Int.emod_lt_of_pos ((k : Int) / 2 ^ j) (b := 2) (by omega)
    omega

theorem nth_listed (l : List Int) (h : ∀ x ∈ l, 0 ≤ x ∧ x ≤ 9) (m : Int) : isListedB l (nthG l m) = true := by
  simp only [isListedB, Bool.and_eq_true, decide_eq_true_eq]
  refine ⟨nth_len l m, (allR_iff _ _ _).2 fun i _ hi => ?_⟩
  have := nth_le l m i h (by rw [nth_len] at hi; omega)
  simp [inB, this.1, this.2]

theorem nth_onto : ∀ (l : List Int), (∀ x ∈ l, 0 ≤ x ∧ x ≤ 9) → ∀ x, isListedB l x = true → ∃ i : Int, 0 ≤ i ∧ i < prodL l ∧ nthG l i = x
  | [], _, x, h => by
    simp only [isListedB, Bool.and_eq_true, decide_eq_true_eq] at h
    have : x = [] := List.length_eq_zero_iff.1 (by simpa using h.1)
    subst this
    exact ⟨0, by omega, by decide, rfl⟩
  | s :: r, hs, x, h => by
    simp only [isListedB, Bool.and_eq_true, decide_eq_true_eq] at h
    obtain ⟨hlen, hall⟩ := h
    cases x with
    | nil => simp at hlen
    | cons a y =>
      have hy : isListedB r y = true := by
        simp only [isListedB, Bool.and_eq_true, decide_eq_true_eq]
        refine ⟨by simpa using hlen, (allR_iff _ _ _).2 fun i _ hi => ?_⟩
        have := (allR_iff _ _ _).1 hall (i + 1) (by omega) (by simp; omega)
        simpa using this
      have h0 := (allR_iff _ _ _).1 hall 0 (by omega) (by simp)
      simp [inB] at h0
      obtain ⟨i, i0, i1, hi⟩ := nth_onto r (fun z hz => hs z (by simp [hz])) y hy
      have hsb := hs s (by simp)
      refine ⟨a + (s + 1) * i, ?_, ?_, ?_⟩
      · have := Int.mul_nonneg (a := s + 1) (b := i) (by omega) i0; omega
      · rw [prodL]
        have h1 : (s + 1) * i ≤ (s + 1) * (prodL r - 1) := Int.mul_le_mul_of_nonneg_left (by omega) (by omega)
        rw [Int.mul_sub, Int.mul_one] at h1
        omega
      · rw [nthG, Int.add_mul_emod_self_left, Int.emod_eq_of_lt h0.1 (by omega), Int.add_mul_ediv_left _ _ (by omega), Int.ediv_eq_zero_of_lt h0.1 (by omega), Int.zero_add, hi]

theorem many_prod {l : List Int} (h : ∀ y ∈ l, 0 ≤ y ∧ y ≤ 9) (hm : manyL l ≤ 2000) : manyL l = prodL l := by
  have := manyG_prod l 1 h (by omega) (by omega) hm
  rw [Int.one_mul] at this
  exact this.symm
theorem pickR_mem (f : Nat → Bool) : ∀ (k m : Nat) (a : Int), a ∈ pickR f k m ↔ ∃ i : Nat, k ≤ i ∧ i < k + m ∧ f i = true ∧ (i : Int) = a
  | k, 0, a => by simp [pickR]; omega
  | k, m + 1, a => by
    rw [pickR, List.mem_append, pickR_mem f (k + 1) m a]
    constructor
    · rintro (h | ⟨i, h1, h2, h3⟩)
      · split at h
        · rename_i hf; exact ⟨k, by omega, by omega, hf, (List.mem_singleton.1 h).symm⟩
        · cases h
      · exact ⟨i, by omega, by omega, h3⟩
    · rintro ⟨i, h1, h2, h3, rfl⟩
      by_cases e : i = k
      · subst e; left; rw [if_pos h3]; simp
      · exact .inr ⟨i, by omega, by omega, h3, rfl⟩

/-- The truths with their numbers, and the program's truths: the same. -/
theorem truths_mem {cc sm : Int} {l : List Int} {cs : List Cnt} {outl : List Int} {out : Int} (hc : 1 ≤ cc) (hs : ∀ x ∈ l, 0 ≤ x ∧ x ≤ 9) (hm : manyL l ≤ 2000) (hok : cs.all (cntOkB l.length) = true) (ho : OutIs cs.length outl out) (x : List Int) :
    x ∈ genP (okP cs outl cc sm) l 0 [] ↔ ∃ i ∈ truthsL cc l sm cs out, nthG l i = x := by
  rw [genP_truth hc hok ho]
  have h1 := many_pos l hs
  constructor
  · intro h
    obtain ⟨i, i0, i1, rfl⟩ := nth_onto l hs x (Bool.and_eq_true_iff.1 (by unfold isTruthB at h; exact h)).1
    rw [← many_prod hs hm] at i1
    refine ⟨i, ?_, rfl⟩
    rw [truthsL, pickR_mem]
    have e : ((i.toNat : Nat) : Int) = i := by omega
    exact ⟨i.toNat, by omega, by omega, by rw [truthAt, e]; exact h, e⟩
  · rintro ⟨i, hi, rfl⟩
    rw [truthsL, pickR_mem] at hi
    obtain ⟨j, _, _, h3, rfl⟩ := hi
    exact h3
theorem can_mem {cc sm : Int} {l : List Int} {cs : List Cnt} {outl : List Int} {out : Int} (hc : 1 ≤ cc) (hs : ∀ x ∈ l, 0 ≤ x ∧ x ≤ 9) (hm : manyL l ≤ 2000) (hok : cs.all (cntOkB l.length) = true) (ho : OutIs cs.length outl out) :
    canB cc l sm cs out = !(genP (okP cs outl cc sm) l 0 []).isEmpty := by
  rw [Bool.eq_iff_iff]
  unfold canB
  rw [anyR_iff, Bool.not_eq_true', List.isEmpty_eq_false_iff_exists_mem]
  constructor
  · rintro ⟨i, h1, h2, h3⟩
    exact ⟨_, (genP_truth hc hok ho _).2 h3⟩
  · rintro ⟨x, hx⟩
    obtain ⟨i, hi, rfl⟩ := (truths_mem hc hs hm hok ho x).1 hx
    rw [truthsL, pickR_mem] at hi
    obtain ⟨j, h1, h2, h3, rfl⟩ := hi
    exact ⟨j, h1, h2, h3⟩
end Go.Proofs.Ytlicijnaacdceaa
