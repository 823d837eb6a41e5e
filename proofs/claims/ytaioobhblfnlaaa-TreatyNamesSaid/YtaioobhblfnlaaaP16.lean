/- Package treaty: the rights that are known; plain facts. No condition. -/
import Derived.Test.YtaioobhblfnlaaaP15
namespace Go.Proofs.Ytaioobhblfnlaaa
open Go.RowKit

def everyL (n : Nat) : List Int := (List.range n).map fun i : Nat => (i : Int)
theorem everyL_succ (n : Nat) : everyL (n + 1) = everyL n ++ [(n : Int)] := by unfold everyL; rw [List.range_succ]; simp
theorem everyL_len (n : Nat) : (everyL n).length = n := by simp [everyL]
theorem mem_everyL {n : Nat} {a : Int} : a ∈ everyL n ↔ 0 ≤ a ∧ a < (n : Int) := by
  unfold everyL
  rw [List.mem_map]
  constructor
  · rintro ⟨i, hi, rfl⟩
    rw [List.mem_range] at hi
    omega
  · rintro ⟨h0, h1⟩
    exact ⟨a.toNat, List.mem_range.2 (by omega), by omega⟩
/-- Which of the first k reports are right. -/
def rightsTo (f : Nat → Int) (reps : List Rep) (k : Nat) : Nat → Bool := fun i => decide (i < k) && (match reps[i]? with
  | some x => rightB f x
  | none => false)
theorem rightsTo_succ {f : Nat → Int} {reps : List Rep} {k : Nat} {x : Rep} (h : reps[k]? = some x) : updB (rightsTo f reps k) k (rightB f x) = rightsTo f reps (k + 1) := by
  funext i
  unfold updB rightsTo
  by_cases e : i = k
  · subst e; rw [if_pos rfl, h]; simp
  · rw [if_neg e]
    have : decide (i < k + 1) = decide (i < k) := by rw [decide_eq_decide]; omega
    rw [this]
def B5 (x : Nat → Bool) : Array Value := #[.bool (x 0), .bool (x 1), .bool (x 2), .bool (x 3), .bool (x 4)]
theorem B5_get {x : Nat → Bool} {i : Nat} (hi : i < 5) : (B5 x)[i]? = some (.bool (x i)) := arrX_get hi
theorem B5_set {x : Nat → Bool} {i : Nat} {v : Bool} (hi : i < 5) : (B5 x).setIfInBounds i (.bool v) = B5 (updB x i v) := by
  match i, hi with
  | 0, _ => rfl
  | 1, _ => rfl
  | 2, _ => rfl
  | 3, _ => rfl
  | 4, _ => rfl
def eqX (x y : Nat → Bool) : Bool := (x 0 == y 0) && ((x 1 == y 1) && ((x 2 == y 2) && ((x 3 == y 3) && (x 4 == y 4))))
theorem eqX_iff {x y : Nat → Bool} : eqX x y = true ↔ ∀ i, i < 5 → x i = y i := by
  simp only [eqX, Bool.and_eq_true, beq_iff_eq]
  constructor
  · rintro ⟨h0, h1, h2, h3, h4⟩ i hi
    match i, hi with
    | 0, _ => exact h0
    | 1, _ => exact h1
    | 2, _ => exact h2
    | 3, _ => exact h3
    | 4, _ => exact h4
  · intro h; exact ⟨h 0 (by omega), h 1 (by omega), h 2 (by omega), h 3 (by omega), h 4 (by omega)⟩
/-- The rights that are known after some truths: the same ones in a row once. -/
def pushK (K : List (Nat → Bool)) (x : Nat → Bool) : List (Nat → Bool) := match K.getLast? with
  | none => K ++ [x]
  | some y => if eqX y x = true then K else K ++ [x]
def rightsOf (p : Prg) (r : (Nat → Int) × Int) : Nat → Bool := rightsTo r.1 p.reps p.reps.length
def knownL (p : Prg) (L : List ((Nat → Int) × Int)) : List (Nat → Bool) := L.foldl (fun K r => pushK K (rightsOf p r)) []
theorem known_snoc (p : Prg) (L : List ((Nat → Int) × Int)) (r : (Nat → Int) × Int) : knownL p (L ++ [r]) = pushK (knownL p L) (rightsOf p r) := by unfold knownL; rw [List.foldl_append]; rfl
theorem push_len (K : List (Nat → Bool)) (x : Nat → Bool) : (pushK K x).length ≤ K.length + 1 := by
  unfold pushK
  split
  · simp
  · split
    · omega
    · simp
theorem known_len (p : Prg) : ∀ (L : List ((Nat → Int) × Int)), (knownL p L).length ≤ L.length := by
  have key : ∀ (L : List ((Nat → Int) × Int)) (K : List (Nat → Bool)), (L.foldl (fun K r => pushK K (rightsOf p r)) K).length ≤ K.length + L.length := by
    intro L
    induction L with
    | nil => intro K; simp
    | cons r L ih =>
      intro K
      have h1 := ih (pushK K (rightsOf p r))
      have h2 := push_len K (rightsOf p r)
      rw [List.foldl_cons, List.length_cons]; omega
  intro L
  have := key L []
  simpa [knownL] using this
theorem push_any {g : (Nat → Bool) → Bool} (hg : ∀ x y, eqX x y = true → g x = g y) (K : List (Nat → Bool)) (x : Nat → Bool) : (pushK K x).any g = (K.any g || g x) := by
  unfold pushK
  cases h : K.getLast? with
  | none => simp
  | some y =>
    simp only
    by_cases he : eqX y x = true
    · rw [if_pos he]
      have hy : y ∈ K := List.mem_of_getLast? h
      have e := hg y x he
      cases hx : g x
      · simp
      · rw [hx] at e
        rw [List.any_eq_true.2 ⟨y, hy, e⟩]; rfl
    · rw [if_neg he]; simp
theorem known_any {g : (Nat → Bool) → Bool} (hg : ∀ x y, eqX x y = true → g x = g y) (p : Prg) (L : List ((Nat → Int) × Int)) : (knownL p L).any g = L.any fun r => g (rightsOf p r) := by
  have key : ∀ (L : List ((Nat → Int) × Int)) (K : List (Nat → Bool)), (L.foldl (fun K r => pushK K (rightsOf p r)) K).any g = (K.any g || L.any fun r => g (rightsOf p r)) := by
    intro L
    induction L with
    | nil => intro K; simp
    | cons r L ih => intro K; rw [List.foldl_cons, ih, push_any hg, List.any_cons, Bool.or_assoc]
  have := key L []
  simpa [knownL] using this
theorem okX_eq {n : Nat} (hn : n ≤ 5) (X : List Int) : ∀ x y, eqX x y = true → okX (everyL n) X x = okX (everyL n) X y := by
  intro x y h
  have h5 := eqX_iff.1 h
  unfold okX
  rw [Bool.eq_iff_iff, List.all_eq_true, List.all_eq_true]
  refine forall_congr' fun a => imp_congr_right fun ha => ?_
  have hb := mem_everyL.1 ha
  unfold inX
  rw [h5 a.toNat (by omega)]
/-- What the search asks of a list is whether there is a truth without it. -/
theorem okK_poss {p : Prg} (ok : OkP p) {n : Nat} (hn : n = p.reps.length) (X : List Int) : okK (knownL p (truO p allT (everyL n))) (everyL n) X = leaveF p X := by
  have h5 := ok.k5
  unfold okK leaveF
  rw [known_any (okX_eq (by omega) X), Bool.eq_iff_iff, List.any_eq_true, possO_iff]
  have key : ∀ f : Nat → Int, okX (everyL n) X (rightsTo f p.reps p.reps.length) = true ↔ ∀ (i : Nat) x, p.reps[i]? = some x → (i : Int) ∉ X → rightB f x = true := by
    intro f
    unfold okX
    rw [List.all_eq_true]
    constructor
    · intro h i x hx ho
      have hi := (List.getElem?_eq_some_iff.1 hx).1
      have h1 := h (i : Int) (mem_everyL.2 ⟨by omega, by omega⟩)
      rw [inX, Bool.or_eq_true, hasB_mem, Int.toNat_natCast] at h1
      rcases h1 with h1 | h1
      · unfold rightsTo at h1
        rw [hx, Bool.and_eq_true] at h1
        exact h1.2
      · exact absurd h1 ho
    · intro h a ha
      have hb := mem_everyL.1 ha
      obtain ⟨i, rfl⟩ : ∃ i : Nat, a = i := ⟨a.toNat, by omega⟩
      rw [inX, Bool.or_eq_true, hasB_mem, Int.toNat_natCast]
      by_cases ho : (i : Int) ∈ X
      · exact .inr ho
      · obtain ⟨x, hx⟩ := getS (l := p.reps) (k := i) (by omega)
        have h1 := h i x hx ho
        have hi : i < p.reps.length := by omega
        left
        unfold rightsTo
        rw [hx, Bool.and_eq_true, decide_eq_true_eq]
        exact ⟨hi, h1⟩
  constructor
  · rintro ⟨r, hr, h⟩
    obtain ⟨l, hl, rfl, _⟩ := mem_truO.1 hr
    exact ⟨l, hl, (key _).1 h⟩
  · rintro ⟨l, hl, h⟩
    exact ⟨_, mem_truO.2 ⟨l, hl, rfl, rightO_iff.2 fun i x hx ho => absurd (mem_everyL.2 ⟨by omega, by have := (List.getElem?_eq_some_iff.1 hx).1; omega⟩) ho⟩, (key _).2 h⟩
theorem idL_every {n : Nat} (hn : n ≤ 5) : IdL 5 (everyL n) := fun a ha => by have := mem_everyL.1 ha; omega
theorem short_at {f : List Int → Bool} {n m : Nat} {X : List Int} (hm : m ≤ n) (h : (combos n m 0).find? f = some X) (hno : ∀ j, j < m → (combos n j 0).find? f = none) : shortL f n = some X := by
  unfold shortL
  rw [List.findSome?_eq_some_iff]
  refine ⟨List.range m, m, (List.range' (m + 1) (n - m)), ?_, h, fun j hj => hno j (List.mem_range.1 hj)⟩
  rw [List.range_eq_range', List.range_eq_range']
  have h1 := List.range'_append_1 (s := 0) (m := m) (n := n + 1 - m)
  rw [Nat.zero_add, show m + (n + 1 - m) = n + 1 by omega] at h1
  rw [← h1, show n + 1 - m = (n - m) + 1 by omega, List.range'_succ]
theorem short_none {f : List Int → Bool} {n : Nat} (hno : ∀ j, j < n + 1 → (combos n j 0).find? f = none) : shortL f n = none := by
  unfold shortL
  rw [List.findSome?_eq_none_iff]
  exact fun j hj => hno j (List.mem_range.1 hj)
theorem map_nil_app (L : List (List Int)) : (L.map fun y => ([] : List Int) ++ y) = L := by simp
end Go.Proofs.Ytaioobhblfnlaaa
