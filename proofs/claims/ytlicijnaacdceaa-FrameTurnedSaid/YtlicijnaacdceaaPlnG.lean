/- Lists of numbers as bits; the smallest set has no late count. Plain facts. No condition. -/
import Derived.Test.YtlicijnaacdceaaPlnE
import Derived.Laws.BitsAllLaws
namespace Go.Proofs.Ytlicijnaacdceaa
open Go.RowKit

theorem i64_or_nat (a b : Nat) (ha : a < 4096) (hb : b < 4096) : bits .or .i64 (a : Int) (b : Int) = ((a ||| b : Nat) : Int) := by
  have h : (a ||| b) < 4096 := Nat.or_lt_two_pow (n := 12) ha hb
  show IntKind.i64.wrap ((BitVec.ofInt 64 (a : Int) ||| BitVec.ofInt 64 (b : Int)).toNat : Int) = _
  rw [BitVec.toNat_or, ofInt_u64 a (by omega), ofInt_u64 b (by omega), IntWalk.i64_in _ (by omega)]

/-- The bits of the first k numbers of a list. -/
def setOf (X : List Int) (k : Nat) : Nat := numOf (fun p => decide ((p : Int) ∈ X.take k)) 12

theorem setOf_lt (X : List Int) (k : Nat) : setOf X k < 4096 := numOf_lt _ 12

theorem setOf_zero (X : List Int) : setOf X 0 = 0 := by
  refine Nat.eq_of_testBit_eq fun p => ?_
  rw [setOf, numOf_bit]
  simp

theorem setOf_succ {X : List Int} {k j : Nat} (hj : X[k]? = some (j : Int)) (hj12 : j < 12) : setOf X (k + 1) = setOf X k ||| 2 ^ j := by
  refine Nat.eq_of_testBit_eq fun p => ?_
  have ht : X.take (k + 1) = X.take k ++ [(j : Int)] := by rw [List.take_add_one, hj]; rfl
  rw [Nat.testBit_or, setOf, setOf, numOf_bit, numOf_bit, ht, Nat.testBit_two_pow]
  by_cases hp : p < 12
  · by_cases e : j = p
    · subst e; simp [hp]
    · have e' : ¬ (p : Int) = (j : Int) := by omega
      simp [hp, e, e']
  · have e : ¬ j = p := by omega
    simp [hp, e]

theorem setOf_bits {X : List Int} {n : Nat} (hn : n ≤ 12) (hX : IncrG n 0 X) : bitsL ((setOf X X.length : Nat) : Int) = X := by
  refine incr_ext (b := 12) (bitsTo_incr _ 12) (incr_more hn hX) fun a => ?_
  show a ∈ bitsTo _ 12 ↔ _
  rw [mem_bitsTo]
  constructor
  · rintro ⟨p, hp, hb, rfl⟩
    rw [bitB_testBit, setOf, numOf_bit, List.take_length] at hb
    simpa [hp] using hb
  · intro ha
    have := incr_mem hX a ha
    refine ⟨a.toNat, by omega, ?_, by omega⟩
    rw [bitB_testBit, setOf, numOf_bit, List.take_length]
    have e : ((a.toNat : Nat) : Int) = a := by omega
    simp [e, ha]; omega

theorem incr_get {b : Nat} : ∀ {X : List Int} {s : Int}, IncrG b s X → ∀ (k : Nat) (a c : Int), X[k]? = some a → X[k + 1]? = some c → a < c
  | [], _, _, k, a, c, h, _ => by simp at h
  | [x], _, _, k, a, c, _, h => by simp at h
  | x :: y :: r, s, h, 0, a, c, h1, h2 => by
    simp at h1 h2
    subst h1 h2
    have := h.2.2.1
    omega
  | x :: y :: r, s, h, k + 1, a, c, h1, h2 => incr_get h.2.2 k a c (by simpa using h1) (by simpa using h2)

theorem incr_filter {b : Nat} (f : Int → Bool) : ∀ {X : List Int} {s : Int}, IncrG b s X → IncrG b s (X.filter f)
  | [], _, _ => trivial
  | x :: r, s, h => by
    have ih := incr_filter f h.2.2
    rw [List.filter_cons]
    split
    · exact ⟨h.1, h.2.1, ih⟩
    · exact incr_le (by have := h.1; omega) ih
where
  incr_le {s t : Int} (hst : s ≤ t) : ∀ {X : List Int}, IncrG b t X → IncrG b s X
    | [], _ => trivial
    | _ :: _, h => ⟨by have := h.1; omega, h.2⟩

theorem right_late {cs : List Cnt} {X : List Int} {a : Int} {x : Cnt} (hx : cs[a.toNat]? = some x) (ha : 0 ≤ a) (hl : x.late = true) (k h : Int) : rightB cs (X.filter fun z => !(z == a)) k h = rightB cs X k h := by
  unfold rightB
  rw [Bool.eq_iff_iff, rightG_iff, rightG_iff]
  constructor
  · intro H j c hj hp hcl ho
    refine H j c hj hp hcl ?_
    cases h2 : hasB (X.filter fun z => !(z == a)) (0 + (j : Nat)) with
    | false => rfl
    | true =>
      rw [hasB_iff, List.mem_filter] at h2
      rw [(hasB_iff _ _).2 h2.1] at ho
      cases ho
  · intro H j c hj hp hcl ho
    refine H j c hj hp hcl ?_
    cases h2 : hasB X (0 + (j : Nat)) with
    | false => rfl
    | true =>
      exfalso
      by_cases e : (0 + (j : Nat) : Int) = a
      · have : j = a.toNat := by omega
        subst this
        rw [hx] at hj
        cases hj
        rw [hl] at hcl; cases hcl
      · have : hasB (X.filter fun z => !(z == a)) (0 + (j : Nat)) = true := by
          rw [hasB_iff, List.mem_filter]
          exact ⟨(hasB_iff _ _).1 h2, by simpa using e⟩
        rw [this] at ho; cases ho

/-- The smallest set has no late count. -/
theorem left_late {cc : Int} {l : List Int} {sm : Int} {cs : List Cnt} {X : List Int} (h : First (leftB cc l sm cs) cs.length X) {a : Int} (ha : a ∈ X) {x : Cnt} (hx : cs[a.toNat]? = some x) : x.late = false := by
  cases hl : x.late with
  | false => rfl
  | true =>
    have h0 := (incr_mem h.1 a ha).1
    have e : okP cs (X.filter fun z => !(z == a)) cc sm = okP cs X cc sm := by
      funext k y pre
      unfold okP
      rw [right_late hx h0 hl]
    have h3 := h.2.2 (X.filter fun z => !(z == a)) (incr_filter _ h.1) (by have h2 := h.2.1; unfold leftB at h2 ⊢; rw [e]; exact h2)
    have hlen : (X.filter fun z => !(z == a)).length < X.length := by
      refine List.length_filter_lt_length_iff_exists.2 ⟨a, ha, by simp⟩
    unfold shorterB at h3
    rw [decide_eq_true hlen] at h3
    cases h3

theorem can_left {r cc : Int} {l : List Int} {sm : Int} {cs : List Cnt} (h : faultL r cc l sm cs = 0) (k : Nat) : canB cc l sm cs (k : Nat) = leftB cc l sm cs (bitsL (k : Nat)) := by
  obtain ⟨h1, h2, h3, h4, h5⟩ := fault0 h
  have hff := field_facts h2
  exact can_mem hff.2.2.1 hff.2.2.2.2.2.2.2 h5 h4 (outIs_bits _ (by omega) k)
end Go.Proofs.Ytlicijnaacdceaa
