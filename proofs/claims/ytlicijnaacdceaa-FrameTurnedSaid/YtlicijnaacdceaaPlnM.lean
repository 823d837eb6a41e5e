/- A field turned: plain facts of its places, truths, bounds and lists. No condition. -/
import Derived.Test.YtlicijnaacdceaaPlnH
namespace Go.Proofs.Ytlicijnaacdceaa
open Go.RowKit

/-- The place, in the turned field, of a place of a field with a rows and b columns. -/
def trP (a b p : Nat) : Nat := p % b * a + p / b
/-- Numbers of the places, turned. -/
def turnL (a b : Nat) (x : List Int) : List Int := (List.range x.length).map fun q => x[trP b a q]?.getD 0
/-- A count, turned. -/
def turnC (a b : Nat) (c : Cnt) : Cnt := ⟨(trP a b c.place.toNat : Nat), c.lo, c.hi, c.late⟩

theorem tr_lt {a b p : Nat} (h : p < a * b) : trP a b p < a * b := by
  have hb : 0 < b := by rcases Nat.eq_zero_or_pos b with rfl | h1; · simp at h
                        · exact h1
  have h1 : p / b < a := Nat.div_lt_of_lt_mul (by rwa [Nat.mul_comm])
  have h2 : p % b < b := Nat.mod_lt _ hb
  have h3 : (p % b + 1) * a ≤ b * a := Nat.mul_le_mul_right a h2
  rw [Nat.add_mul, Nat.one_mul] at h3
  unfold trP
  rw [Nat.mul_comm a b]; omega

theorem tr_tr {a b p : Nat} (h : p < a * b) : trP b a (trP a b p) = p := by
  have h1 : p / b < a := Nat.div_lt_of_lt_mul (by rwa [Nat.mul_comm])
  have e1 : (p % b * a + p / b) % a = p / b := by rw [Nat.mul_comm, Nat.mul_add_mod, Nat.mod_eq_of_lt h1]
  have e2 : (p % b * a + p / b) / a = p % b := by
    rw [Nat.mul_comm, Nat.mul_add_div (by omega), Nat.div_eq_of_lt h1, Nat.add_zero]
  unfold trP
  rw [e1, e2]
  exact Nat.div_add_mod' p b

theorem turn_len (a b : Nat) (x : List Int) : (turnL a b x).length = x.length := by simp [turnL]

theorem turn_at {a b : Nat} {x : List Int} {q : Nat} (hq : q < x.length) : (turnL a b x)[q]?.getD 0 = x[trP b a q]?.getD 0 := by
  simp [turnL, hq]

theorem turn_get {a b : Nat} {x : List Int} (hx : x.length = a * b) {p : Nat} (hp : p < a * b) : (turnL a b x)[trP a b p]?.getD 0 = x[p]?.getD 0 := by
  rw [turn_at (by rw [hx]; exact tr_lt hp), tr_tr hp]

theorem turn_turn {a b : Nat} {x : List Int} (hx : x.length = a * b) : turnL b a (turnL a b x) = x := by
  apply List.ext_getElem
  · rw [turn_len, turn_len]
  · intro i h1 h2
    have e : (turnL b a (turnL a b x))[i]?.getD 0 = x[i]?.getD 0 := by
      rw [turn_at (by rw [turn_len]; exact h2)]
      exact turn_get hx (by omega)
    simpa [List.getElem?_eq_getElem h1, List.getElem?_eq_getElem h2] using e

theorem turnC_turnC {a b : Nat} {c : Cnt} (h0 : 0 ≤ c.place) (h1 : c.place < (a * b : Nat)) : turnC b a (turnC a b c) = c := by
  obtain ⟨pl, lo, hi, late⟩ := c
  simp only at h0 h1
  unfold turnC
  simp only [Int.toNat_natCast, Cnt.mk.injEq, and_true]
  rw [tr_tr (by omega)]; omega

theorem turn_idx : ∀ R, R < 5 → ∀ C, C < 5 → R * C ≤ 9 → ((List.range (R * C)).map (trP C R)).Perm (List.range (R * C)) := by decide +kernel

theorem adj_tr : ∀ R, R < 5 → ∀ C, C < 5 → R * C ≤ 9 → ∀ a, a < R * C → ∀ b, b < R * C → (rowB (C : Nat) a b || colB (C : Nat) a b) = (rowB (R : Nat) (trP R C a) (trP R C b) || colB (R : Nat) (trP R C a) (trP R C b)) := by decide +kernel

theorem turn_perm {R C : Nat} (hR : R < 5) (hC : C < 5) (h9 : R * C ≤ 9) {x : List Int} (hx : x.length = R * C) : (turnL R C x).Perm x := by
  have h := (turn_idx R hR C hC h9).map (fun q => x[q]?.getD 0)
  have e : (List.range (R * C)).map (fun q => x[q]?.getD 0) = x := by
    apply List.ext_getElem
    · simp [hx]
    · intro i h1 h2; simp [List.getElem?_eq_getElem h2]
  rw [e, List.map_map] at h
  unfold turnL
  rw [hx]
  exact h

theorem sum_perm {x y : List Int} (h : x.Perm y) : sumL x = sumL y := by
  induction h with
  | nil => rfl
  | cons a _ ih => simp only [sumL, ih]
  | swap a b l => simp only [sumL]; omega
  | trans _ _ h1 h2 => rw [h1, h2]

theorem prod_perm {x y : List Int} (h : x.Perm y) : prodL x = prodL y := by
  induction h with
  | nil => rfl
  | cons a _ ih => simp only [prodL, ih]
  | swap a b l => simp only [prodL]; rw [Int.mul_left_comm]
  | trans _ _ h1 h2 => rw [h1, h2]

theorem shareG_sum : ∀ (h l : List Int) (x y : Int), h.length = l.length → shareG h l x y = if y + sumL l = 0 then 0 else (x + sumL h) * 100 / (y + sumL l)
  | [], [], x, y, _ => by simp [shareG, sumL]
  | a :: h, s :: l, x, y, e => by
    rw [shareG, shareG_sum h l _ _ (by simpa using e)]
    simp only [sumL]
    rw [show y + s + sumL l = y + (s + sumL l) by omega, show x + a + sumL h = x + (a + sumL h) by omega]
    rfl

theorem many_le : ∀ (l : List Int) (m : Int), (∀ y ∈ l, 0 ≤ y ∧ y ≤ 9) → 0 ≤ m → manyG l m ≤ m * prodL l
  | [], m, _, _ => by simp [manyG, prodL]
  | s :: r, m, h, hm => by
    have hs := h s (by simp)
    have hr : ∀ y ∈ r, 0 ≤ y ∧ y ≤ 9 := fun y hy => h y (by simp [hy])
    have hp := prodL_pos r hr
    have h0 : 0 ≤ m * (s + 1) := Int.mul_nonneg hm (by omega)
    rw [manyG, prodL, ← Int.mul_assoc]
    refine Int.le_trans (many_le r _ hr (by split <;> omega)) (Int.mul_le_mul_of_nonneg_right ?_ (by omega))
    split <;> omega

theorem pairs_iff {cc sm : Int} {h : List Int} {n : Nat} : pairsG cc sm h n 0 = true ↔ ∀ a b : Nat, a < b → b < n → nearB cc sm h a b = true := by
  unfold pairsG pairsI
  rw [allR_iff]
  constructor
  · intro h a b h1 h2
    exact (allR_iff _ _ _).1 (h a (by omega) (by omega)) b (by omega) (by omega)
  · intro h a _ h1
    rw [allR_iff]
    intro b h2 h3
    exact h a b (by omega) (by omega)

theorem outIs_any (m : Nat) (X : List Int) : ∃ k : Nat, OutIs m X (k : Nat) := by
  refine ⟨numOf (fun j => hasB X (j : Nat)) m, fun j hj => ?_⟩
  have h := numOf_bit (fun j => hasB X (j : Nat)) m j
  rw [← bitB_testBit, decide_eq_true hj, Bool.true_and] at h
  rw [← h]
  unfold bitB
  generalize numOf (fun j => hasB X (j : Nat)) m = k
  have h2 := Int.emod_two_eq ((k : Int) / 2 ^ j)
  rcases h2 with e | e <;> rw [e] <;> rfl

section
variable {R C : Nat} {l : List Int} {sm : Int} {cs : List Cnt} {part : Int}

structure TurnOk (R C : Nat) (l : List Int) (cs : List Cnt) : Prop where
  r1 : 1 ≤ R
  r4 : R < 5
  c1 : 1 ≤ C
  c4 : C < 5
  nine : R * C ≤ 9
  len : l.length = R * C
  ok : cs.all (cntOkB l.length) = true

theorem TurnOk.place (h : TurnOk R C l cs) {c : Cnt} (hc : c ∈ cs) : 0 ≤ c.place ∧ c.place < (R * C : Nat) := by
  have h1 := List.all_eq_true.1 h.ok c hc
  simp only [cntOkB, inB, Bool.and_eq_true, decide_eq_true_eq] at h1
  have := h.len
  omega

theorem TurnOk.turn (h : TurnOk R C l cs) : TurnOk C R (turnL R C l) (cs.map (turnC R C)) := by
  refine ⟨h.c1, h.c4, h.r1, h.r4, by rw [Nat.mul_comm]; exact h.nine, by rw [turn_len, h.len, Nat.mul_comm], ?_⟩
  rw [List.all_eq_true]
  intro c hc
  obtain ⟨c0, h0, rfl⟩ := List.mem_map.1 hc
  have h1 := List.all_eq_true.1 h.ok c0 h0
  have h2 := h.place h0
  have h3 : trP R C c0.place.toNat < R * C := tr_lt (by omega)
  have h4 := h.len
  rw [turn_len]
  unfold cntOkB at h1 ⊢
  rw [Bool.and_eq_true] at h1 ⊢
  refine ⟨?_, h1.2⟩
  simp only [inB, Bool.and_eq_true, decide_eq_true_eq]
  show (0 : Int) ≤ ((trP R C c0.place.toNat : Nat) : Int) ∧ ((trP R C c0.place.toNat : Nat) : Int) ≤ (l.length : Int) - 1
  omega

theorem TurnOk.back (h : TurnOk R C l cs) : turnL C R (turnL R C l) = l ∧ (cs.map (turnC R C)).map (turnC C R) = cs := by
  refine ⟨turn_turn h.len, ?_⟩
  rw [List.map_map]
  conv => rhs; rw [← List.map_id cs]
  exact List.map_congr_left fun c hc => turnC_turnC (h.place hc).1 (h.place hc).2

theorem truth_turn (h : TurnOk R C l cs) {x : List Int} {out : Int} (hx : isTruthB (C : Nat) l sm cs x out = true) : isTruthB (R : Nat) (turnL R C l) sm (cs.map (turnC R C)) (turnL R C x) out = true := by
  unfold isTruthB at hx ⊢
  rw [Bool.and_eq_true, Bool.and_eq_true] at hx ⊢
  obtain ⟨h1, h2, h3⟩ := hx
  obtain ⟨h4, h5⟩ := listed_iff.1 h1
  have hlen := h.len
  have hxl : x.length = R * C := by omega
  have hq : ∀ q, q < R * C → ∃ p, p < R * C ∧ trP R C p = q := fun q hq => ⟨trP C R q, by rw [Nat.mul_comm]; exact tr_lt (by rwa [Nat.mul_comm]), tr_tr (by rwa [Nat.mul_comm])⟩
  refine ⟨listed_iff.2 ⟨by rw [turn_len, turn_len, h4], fun i hi => ?_⟩, pairs_iff.2 fun a b hab hb => ?_, ?_⟩
  · rw [turn_len] at hi
    obtain ⟨p, hp, rfl⟩ := hq i (by omega)
    rw [turn_get hxl hp, turn_get hlen hp]
    exact h5 p (by omega)
  · rw [turn_len] at hb
    obtain ⟨p, hp, rfl⟩ := hq a (by omega)
    obtain ⟨q, hq', rfl⟩ := hq b (by omega)
    have e := adj_tr R h.r4 C h.c4 h.nine p hp q hq'
    unfold nearB
    rw [← e, turn_get hxl hp, turn_get hxl hq']
    cases ha : rowB (C : Nat) p q || colB (C : Nat) p q with
    | false => rfl
    | true =>
      have hlt : p < q := by
        rw [Bool.or_eq_true] at ha
        have := h.c1
        rcases ha with ha | ha
        · simp only [rowB, Bool.and_eq_true, beq_iff_eq] at ha; omega
        · simp only [colB, beq_iff_eq] at ha; omega
      have := pairs_iff.1 h2 p q hlt (by omega)
      unfold nearB at this
      rw [ha] at this
      exact this
  · rw [cntsG_iff] at h3 ⊢
    intro j c hj
    rw [List.getElem?_map] at hj
    obtain ⟨c0, h0, rfl⟩ := Option.map_eq_some_iff.1 hj
    have h6 := h3 j c0 h0
    have h7 := h.place (List.mem_of_getElem? h0)
    unfold cntB at h6 ⊢
    show (c0.late || (_ || inB ((turnL R C x)[(((trP R C c0.place.toNat : Nat) : Int)).toNat]?.getD 0) c0.lo c0.hi)) = true
    rw [Int.toNat_natCast, turn_get hxl (by omega)]
    exact h6

theorem gen_turn (h : TurnOk R C l cs) {X x : List Int} (hx : x ∈ genP (okP cs X (C : Nat) sm) l 0 []) : turnL R C x ∈ genP (okP (cs.map (turnC R C)) X (R : Nat) sm) (turnL R C l) 0 [] := by
  obtain ⟨k, hk⟩ := outIs_any cs.length X
  have h1 := (genP_truth (by have := h.c1; omega) h.ok hk x).1 hx
  exact (genP_truth (by have := h.r1; omega) h.turn.ok (by rw [List.length_map]; exact hk) _).2 (truth_turn h h1)

theorem gen_back (h : TurnOk R C l cs) {X x : List Int} (hx : x ∈ genP (okP (cs.map (turnC R C)) X (R : Nat) sm) (turnL R C l) 0 []) : turnL C R x ∈ genP (okP cs X (C : Nat) sm) l 0 [] ∧ turnL R C (turnL C R x) = x := by
  have h1 := gen_turn h.turn hx
  rw [h.back.1, h.back.2] at h1
  refine ⟨h1, turn_turn ?_⟩
  have := (listed_iff.1 (genP_listed hx)).1
  rw [this, h.turn.len]

theorem nil_turn (h : TurnOk R C l cs) (X : List Int) : genP (okP cs X (C : Nat) sm) l 0 [] = [] ↔ genP (okP (cs.map (turnC R C)) X (R : Nat) sm) (turnL R C l) 0 [] = [] := by
  constructor
  · intro e
    cases e' : genP (okP (cs.map (turnC R C)) X (R : Nat) sm) (turnL R C l) 0 [] with
    | nil => rfl
    | cons a b => have := (gen_back h (X := X) (sm := sm) (x := a) (by rw [e']; simp)).1; rw [e] at this; cases this
  · intro e
    cases e' : genP (okP cs X (C : Nat) sm) l 0 [] with
    | nil => rfl
    | cons a b => have := gen_turn h (X := X) (sm := sm) (x := a) (by rw [e']; simp); rw [e] at this; cases this

theorem share_turn (h : TurnOk R C l cs) {x : List Int} (hx : x.length = l.length) : shareL (turnL R C l) (turnL R C x) = shareL l x := by
  unfold shareL
  rw [shareG_sum _ _ _ _ (by rw [turn_len, turn_len, hx]), shareG_sum _ _ _ _ hx, sum_perm (turn_perm h.r4 h.c4 h.nine h.len), sum_perm (turn_perm h.r4 h.c4 h.nine (by rw [hx, h.len]))]

theorem rng_turn (h : TurnOk R C l cs) : rngP (shareL (turnL R C l)) (genP (okP (cs.map (turnC R C)) [] (R : Nat) sm) (turnL R C l) 0 []) = rngP (shareL l) (genP (okP cs [] (C : Nat) sm) l 0 []) := by
  by_cases hG : genP (okP cs [] (C : Nat) sm) l 0 [] = []
  · rw [hG, (nil_turn h []).1 hG]; rfl
  · have hG' : genP (okP (cs.map (turnC R C)) [] (R : Nat) sm) (turnL R C l) 0 [] ≠ [] := fun e => hG ((nil_turn h []).2 e)
    have s1 := span_rng (shareL l) _ _ rfl hG
    have s2 := span_rng (shareL (turnL R C l)) _ _ rfl hG'
    have b1 := rngP_is' (shareL l) _ hG
    have b2 := rngP_is' (shareL (turnL R C l)) _ hG'
    have sh : ∀ x ∈ genP (okP cs [] (C : Nat) sm) l 0 [], shareL (turnL R C l) (turnL R C x) = shareL l x := fun x hx => share_turn h (listed_iff.1 (genP_listed hx)).1
    have s3 : Span (shareL (turnL R C l)) (genP (okP (cs.map (turnC R C)) [] (R : Nat) sm) (turnL R C l) 0 []) (rngP (shareL l) (genP (okP cs [] (C : Nat) sm) l 0 [])).1 (rngP (shareL l) (genP (okP cs [] (C : Nat) sm) l 0 [])).2.1 := by
      obtain ⟨⟨x, hx, e1⟩, ⟨y, hy, e2⟩, hall⟩ := s1
      refine ⟨⟨_, gen_turn h hx, (sh x hx).trans e1⟩, ⟨_, gen_turn h hy, (sh y hy).trans e2⟩, fun z hz => ?_⟩
      obtain ⟨z1, z2⟩ := gen_back h hz
      rw [← z2, sh _ z1]
      exact hall _ z1
    obtain ⟨e1, e2⟩ := s2.unique s3
    exact Prod.ext e1 (Prod.ext e2 (by rw [b1, b2]))

theorem fault_turn (h0 : faultL (R : Nat) (C : Nat) l sm cs = 0) : TurnOk R C l cs ∧ faultL (C : Nat) (R : Nat) (turnL R C l) sm (cs.map (turnC R C)) = 0 := by
  obtain ⟨h1, h2, h3, h4, h5⟩ := fault0 h0
  obtain ⟨f1, f2, f3, f4, f5, f6, f7, f8⟩ := field_facts h2
  have hrc : ((R * C : Nat) : Int) = (R : Int) * (C : Int) := Int.natCast_mul R C
  have ht : TurnOk R C l cs := ⟨by omega, by omega, by omega, by omega, by omega, by omega, h4⟩
  have hp := turn_perm ht.r4 ht.c4 ht.nine ht.len
  refine ⟨ht, ?_⟩
  have f8' : ∀ x ∈ turnL R C l, 0 ≤ x ∧ x ≤ 9 := fun x hx => f8 x (hp.mem_iff.1 hx)
  have g2 : isFieldB (C : Nat) (R : Nat) (turnL R C l) = true := by
    simp only [isFieldB, inB, Bool.and_eq_true, decide_eq_true_eq, List.all_eq_true]
    have hcr : ((C : Nat) : Int) * (R : Nat) = (R : Nat) * (C : Nat) := Int.mul_comm _ _
    have := turn_len R C l
    refine ⟨⟨f3, f4⟩, ⟨f1, f2⟩, by omega, by omega, f8'⟩
  have g4 := ht.turn.ok
  have g5 : manyL (turnL R C l) ≤ 2000 := by
    have e1 := many_prod f8 h5
    have e2 := many_le (turnL R C l) 1 f8' (by omega)
    rw [Int.one_mul, prod_perm hp, ← e1] at e2
    exact Int.le_trans e2 h5
  unfold faultL
  rw [if_neg (by rw [List.length_map]; omega), if_neg (by rw [g2, h3]; simp), if_neg (by rw [g4]; simp), if_neg (by omega)]

theorem bnd_turn (h0 : faultL (R : Nat) (C : Nat) l sm cs = 0) : bndR (shareL (turnL R C l)) (C : Nat) (R : Nat) (turnL R C l) sm (cs.map (turnC R C)) = bndR (shareL l) (R : Nat) (C : Nat) l sm cs := by
  obtain ⟨ht, h1⟩ := fault_turn h0
  rw [bndR, bndR, if_pos h0, if_pos h1, rng_turn ht]

theorem part_turn (h0 : faultL (R : Nat) (C : Nat) l sm cs = 0) (part : Int) : partE (C : Nat) (R : Nat) (turnL R C l) sm (cs.map (turnC R C)) part = partE (R : Nat) (C : Nat) l sm cs part := by
  obtain ⟨ht, h1⟩ := fault_turn h0
  rw [partE, partE, if_pos h0, if_pos h1]

theorem above_turn (h0 : faultL (R : Nat) (C : Nat) l sm cs = 0) (part : Int) : aboveR part (C : Nat) (R : Nat) (turnL R C l) sm (cs.map (turnC R C)) = aboveR part (R : Nat) (C : Nat) l sm cs := by
  obtain ⟨ht, h1⟩ := fault_turn h0
  rw [aboveR, aboveR, part_turn h0, rng_turn ht]

theorem fewE_turn (h0 : faultL (R : Nat) (C : Nat) l sm cs = 0) (part : Int) : fewE (C : Nat) (R : Nat) (turnL R C l) sm (cs.map (turnC R C)) part = fewE (R : Nat) (C : Nat) l sm cs part := by
  obtain ⟨ht, h1⟩ := fault_turn h0
  rw [fewE, fewE, part_turn h0]
  have := nil_turn (sm := sm) ht []
  by_cases hG : genP (okP cs [] (C : Nat) sm) l 0 [] = []
  · rw [if_pos hG, if_pos (this.1 hG)]
  · rw [if_neg hG, if_neg (fun e => hG (this.2 e))]

theorem left_turn (h : TurnOk R C l cs) {X Y : List Int} (hX : First (leftB (C : Nat) l sm cs) cs.length X) (hY : First (leftB (R : Nat) (turnL R C l) sm (cs.map (turnC R C))) (cs.map (turnC R C)).length Y) : X = Y := by
  have e : leftB (R : Nat) (turnL R C l) sm (cs.map (turnC R C)) = leftB (C : Nat) l sm cs := by
    funext Z
    unfold leftB
    congr 1
    rw [Bool.eq_iff_iff, List.isEmpty_iff, List.isEmpty_iff]
    exact (nil_turn h Z).symm
  rw [e, List.length_map] at hY
  exact hX.unique hY

/-- The numbers below n that f takes. -/
def selN (f : Nat → Bool) (n : Nat) : List Int := ((List.range n).filter f).map fun p : Nat => (p : Int)

theorem selN_incr (f : Nat → Bool) : ∀ n, IncrG n 0 (selN f n)
  | 0 => by simp [selN, IncrG]
  | n + 1 => by
    have h := selN_incr f n
    unfold selN at h ⊢
    rw [List.range_succ, List.filter_append, List.map_append]
    by_cases hf : f n = true
    · simp only [List.filter_cons, hf, if_true, List.filter_nil, List.map_cons, List.map_nil]
      exact incr_snoc (by omega) h
    · simp only [List.filter_cons, hf, List.filter_nil]
      simpa using incr_more (by omega) h

theorem mem_selN {f : Nat → Bool} {n : Nat} {a : Int} : a ∈ selN f n ↔ ∃ p : Nat, p < n ∧ f p = true ∧ (p : Int) = a := by
  simp [selN, and_assoc]

theorem incr_selN {n : Nat} {X : List Int} (h : IncrG n 0 X) : selN (fun p => decide ((p : Int) ∈ X)) n = X := by
  refine incr_ext (selN_incr _ n) h fun a => ?_
  rw [mem_selN]
  constructor
  · rintro ⟨p, _, h2, rfl⟩; exact of_decide_eq_true h2
  · intro ha
    have := incr_mem h a ha
    exact ⟨a.toNat, by omega, by rw [decide_eq_true_eq, Int.toNat_of_nonneg this.1]; exact ha, by omega⟩

theorem few_turn (h : TurnOk R C l cs) {X : List Int} (hX : IncrG l.length 0 X) (hf : fewB (C : Nat) sm part l cs X = true) :
    ∃ Y, IncrG (turnL R C l).length 0 Y ∧ Y.length = X.length ∧ fewB (R : Nat) sm part (turnL R C l) (cs.map (turnC R C)) Y = true := by
  have hn := h.len
  refine ⟨selN (fun q => decide (((trP C R q : Nat) : Int) ∈ X)) (R * C), by rw [turn_len, hn]; exact selN_incr _ _, ?_, ?_⟩
  · have e1 : X = selN (fun p => decide ((p : Int) ∈ X)) (R * C) := by rw [← hn]; exact (incr_selN hX).symm
    have e2 := (turn_idx R h.r4 C h.c4 h.nine).countP_eq (fun p : Nat => decide ((p : Int) ∈ X))
    rw [List.countP_map, List.countP_eq_length_filter, List.countP_eq_length_filter] at e2
    conv => rhs; rw [e1]
    unfold selN
    rw [List.length_map, List.length_map, ← e2]
    rfl
  · rw [few_iff] at hf ⊢
    intro a ha b hb hs
    obtain ⟨a1, a2⟩ := gen_back h ha
    obtain ⟨b1, b2⟩ := gen_back h hb
    have la := (listed_iff.1 (genP_listed a1)).1
    have lb := (listed_iff.1 (genP_listed b1)).1
    generalize turnL C R a = a0 at *
    generalize turnL C R b = b0 at *
    subst a2 b2
    rw [share_turn h la, share_turn h lb]
    refine hf a0 a1 b0 b1 (seen_iff.2 fun j hj hjX => ?_)
    have hj2 := incr_mem hX _ hjX
    have hjn : j < R * C := by omega
    have ht := tr_lt hjn
    have := seen_iff.1 hs (trP R C j) (by have := h.nine; omega) (mem_selN.2 ⟨trP R C j, ht, by rw [decide_eq_true_eq, tr_tr hjn]; exact hjX, rfl⟩)
    rwa [turn_get (by omega) hjn, turn_get (by omega) hjn] at this

theorem few_len (h : TurnOk R C l cs) {X Y : List Int} (hX : First (fewB (C : Nat) sm part l cs) l.length X) (hY : First (fewB (R : Nat) sm part (turnL R C l) (cs.map (turnC R C))) (turnL R C l).length Y) : X.length = Y.length := by
  obtain ⟨x1, x2, x3⟩ := hX
  obtain ⟨y1, y2, y3⟩ := hY
  obtain ⟨Z, z1, z2, z3⟩ := few_turn h x1 x2
  have h2 := few_turn h.turn y1 y2
  rw [h.back.1, h.back.2] at h2
  obtain ⟨V, v1, v2, v3⟩ := h2
  have a1 := shorter_false (y3 Z z1 z3)
  have a2 := shorter_false (x3 V v1 v3)
  omega
end
end Go.Proofs.Ytlicijnaacdceaa
