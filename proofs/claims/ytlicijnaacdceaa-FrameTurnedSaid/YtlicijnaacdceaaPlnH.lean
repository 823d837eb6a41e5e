/- More counts, fewer truths: plain facts. No condition. -/
import Derived.Test.YtlicijnaacdceaaPlnG
import Derived.Test.YtlicijnaacdceaaPlnF
namespace Go.Proofs.Ytlicijnaacdceaa
open Go.RowKit

theorem genP_mono {ok ok' : Nat → Int → List Int → Bool} (h : ∀ k x pre, ok k x pre = true → ok' k x pre = true) {l x : List Int} (hx : x ∈ genP ok l 0 []) : x ∈ genP ok' l 0 [] := by
  rw [mem_genP] at hx ⊢
  obtain ⟨y, h1, h2, h3⟩ := hx
  exact ⟨y, h1, h2, fun i hi => ⟨(h3 i hi).1, (h3 i hi).2.1, h _ _ _ (h3 i hi).2.2⟩⟩

/-- Fewer counts are asked: what is right stays right. -/
theorem right_mono {cs cs' : List Cnt} {X X' : List Int} (h : ∀ (j : Nat) (c : Cnt), cs'[j]? = some c → c.late = false → hasB X' (j : Nat) = false → ∃ i : Nat, ∃ c', cs[i]? = some c' ∧ c'.place = c.place ∧ c'.lo = c.lo ∧ c'.hi = c.hi ∧ c'.late = false ∧ hasB X (i : Nat) = false)
    {k x : Int} (hr : rightB cs X k x = true) : rightB cs' X' k x = true := by
  unfold rightB at hr ⊢
  rw [rightG_iff] at hr ⊢
  intro j c hj hp hl ho
  rw [Int.zero_add] at ho
  obtain ⟨i, c', h1, h2, h3, h4, h5, h6⟩ := h j c hj hl ho
  have := hr i c' h1 (by rw [h2, hp]) h5 (by rw [Int.zero_add]; exact h6)
  rw [h3, h4] at this
  exact this

theorem gen_sub {cc sm : Int} {l : List Int} {cs cs' : List Cnt} {X X' : List Int} (h : ∀ (j : Nat) (c : Cnt), cs'[j]? = some c → c.late = false → hasB X' (j : Nat) = false → ∃ i : Nat, ∃ c', cs[i]? = some c' ∧ c'.place = c.place ∧ c'.lo = c.lo ∧ c'.hi = c.hi ∧ c'.late = false ∧ hasB X (i : Nat) = false)
    {x : List Int} (hx : x ∈ genP (okP cs X cc sm) l 0 []) : x ∈ genP (okP cs' X' cc sm) l 0 [] := by
  refine genP_mono (fun k y pre hk => ?_) hx
  unfold okP at hk ⊢
  rw [Bool.and_eq_true] at hk ⊢
  exact ⟨right_mono h hk.1, hk.2⟩

theorem left_sub {cc sm : Int} {l : List Int} {cs cs' : List Cnt} {X X' : List Int} (h : ∀ (j : Nat) (c : Cnt), cs'[j]? = some c → c.late = false → hasB X' (j : Nat) = false → ∃ i : Nat, ∃ c', cs[i]? = some c' ∧ c'.place = c.place ∧ c'.lo = c.lo ∧ c'.hi = c.hi ∧ c'.late = false ∧ hasB X (i : Nat) = false)
    (hl : leftB cc l sm cs X = true) : leftB cc l sm cs' X' = true := by
  unfold leftB at hl ⊢
  cases hg : genP (okP cs X cc sm) l 0 [] with
  | nil => rw [hg] at hl; cases hl
  | cons x r =>
    have := gen_sub (cc := cc) (sm := sm) (l := l) h (x := x) (by rw [hg]; simp)
    cases hg' : genP (okP cs' X' cc sm) l 0 [] with
    | nil => rw [hg'] at this; cases this
    | cons _ _ => rfl

theorem more_sub {cc sm : Int} {l : List Int} {cs : List Cnt} {a : Cnt} {x : List Int} (hx : x ∈ genP (okP (cs ++ [a]) [] cc sm) l 0 []) : x ∈ genP (okP cs [] cc sm) l 0 [] := by
  refine gen_sub (fun j c hj hl ho => ⟨j, c, ?_, rfl, rfl, rfl, hl, ho⟩) hx
  have : j < cs.length := (List.getElem?_eq_some_iff.1 hj).1
  rw [List.getElem?_append_left this]; exact hj

theorem shorter_false {x y : List Int} (h : shorterB x y = false) : y.length ≤ x.length := by
  unfold shorterB at h
  rw [Bool.or_eq_false_iff, decide_eq_false_iff_not] at h
  omega

theorem incr_cut {m : Nat} : ∀ {X : List Int} {s : Int}, IncrG (m + 1) s X → IncrG m s (X.filter fun z => !(z == (m : Int)))
  | [], _, _ => trivial
  | x :: r, s, h => by
    have ih := incr_cut h.2.2
    rw [List.filter_cons]
    split
    · rename_i e
      have e' : x ≠ (m : Int) := by simpa using e
      exact ⟨h.1, by have := h.2.1; omega, ih⟩
    · exact incr_filter.incr_le (by have := h.1; omega) ih

/-- With one more count no fewer have to be left out, but at most one more. -/
theorem more_left {cc sm : Int} {l : List Int} {cs : List Cnt} {a : Cnt} {X Y : List Int} (hX : First (leftB cc l sm cs) cs.length X) (hY : First (leftB cc l sm (cs ++ [a])) (cs ++ [a]).length Y) : X.length ≤ Y.length ∧ Y.length ≤ X.length + 1 := by
  rw [List.length_append, List.length_singleton] at hY
  constructor
  · have h1 := hX.2.2 (Y.filter fun z => !(z == (cs.length : Int))) (incr_cut hY.1) (left_sub (fun j c hj hl ho => ?_) hY.2.1)
    · have := shorter_false h1
      have := List.length_filter_le (fun z => !(z == (cs.length : Int))) Y
      omega
    · have hjl : j < cs.length := (List.getElem?_eq_some_iff.1 hj).1
      refine ⟨j, c, by rw [List.getElem?_append_left hjl]; exact hj, rfl, rfl, rfl, hl, ?_⟩
      cases h2 : hasB Y (j : Nat) with
      | false => rfl
      | true =>
        have : hasB (Y.filter fun z => !(z == (cs.length : Int))) (j : Nat) = true := by
          rw [hasB_iff, List.mem_filter]
          exact ⟨(hasB_iff _ _).1 h2, by simp; omega⟩
        rw [this] at ho; cases ho
  · have h1 := hY.2.2 (X ++ [(cs.length : Int)]) (incr_snoc (by omega) hX.1) (left_sub (fun j c hj hl ho => ?_) hX.2.1)
    · have := shorter_false h1
      simp at this
      omega
    · have hjl : j < cs.length := by
        refine Decidable.byContradiction fun hn => ?_
        have h9 := (List.getElem?_eq_some_iff.1 hj).1
        rw [List.length_append, List.length_singleton] at h9
        have : hasB (X ++ [(cs.length : Int)]) (j : Nat) = true := by
          rw [hasB_iff]; simp; right; omega
        rw [this] at ho; cases ho
      refine ⟨j, c, by rw [List.getElem?_append_left hjl] at hj; exact hj, rfl, rfl, rfl, hl, ?_⟩
      cases h2 : hasB X (j : Nat) with
      | false => rfl
      | true =>
        have : hasB (X ++ [(cs.length : Int)]) (j : Nat) = true := by
          rw [hasB_iff, List.mem_append]; exact .inl ((hasB_iff _ _).1 h2)
        rw [this] at ho; cases ho

/-- With fewer truths no more places are needed. -/
theorem few_sub {cc sm part : Int} {l : List Int} {cs cs' : List Cnt} {U V : List Int} (h : ∀ x ∈ genP (okP cs' [] cc sm) l 0 [], x ∈ genP (okP cs [] cc sm) l 0 []) (hU : First (fewB cc sm part l cs) l.length U) (hV : First (fewB cc sm part l cs') l.length V) : V.length ≤ U.length := by
  refine shorter_false (hV.2.2 U hU.1 ?_)
  have h2 := hU.2.1
  rw [few_iff] at h2 ⊢
  exact fun a ha b hb => h2 a (h a ha) b (h b hb)

theorem few_of {r cc sm part : Int} {l : List Int} {cs : List Cnt} {X : List Int} (hf : faultL r cc l sm cs = 0) (hi : inB part 0 100 = true) (hG : genP (okP cs [] cc sm) l 0 [] ≠ []) (hX : FewIs r cc l sm cs part X) : First (fewB cc sm part l cs) l.length X ∧ fewE r cc l sm cs part = 0 := by
  have hp : partE r cc l sm cs part = 0 := by unfold partE; rw [if_pos hf, if_pos hi]
  unfold FewIs at hX
  rw [if_pos ⟨hp, hG⟩] at hX
  exact ⟨hX, by unfold fewE; rw [if_pos hp, if_neg hG]⟩
end Go.Proofs.Ytlicijnaacdceaa
