/- Least and greatest values, and the truths of a valid survey: plain facts. No condition. -/
import Derived.Test.YtlicijnaacdceaaProU
import Derived.Test.YtlicijnaacdceaaRefI
namespace Go.Proofs.Ytlicijnaacdceaa
open Go.RowKit

/-- lo and hi are the least and the greatest value of F on xs. -/
def Span {A : Type} (F : A → Int) (xs : List A) (lo hi : Int) : Prop := (∃ x ∈ xs, F x = lo) ∧ (∃ x ∈ xs, F x = hi) ∧ ∀ x ∈ xs, lo ≤ F x ∧ F x ≤ hi

theorem Span.sub {A : Type} {F : A → Int} {xs ys : List A} {a b c d : Int} (h : ∀ x ∈ xs, x ∈ ys) (h1 : Span F xs a b) (h2 : Span F ys c d) : c ≤ a ∧ b ≤ d := by
  obtain ⟨⟨x, hx, rfl⟩, ⟨y, hy, rfl⟩, _⟩ := h1
  exact ⟨(h2.2.2 x (h x hx)).1, (h2.2.2 y (h y hy)).2⟩

theorem Span.unique {A : Type} {F : A → Int} {xs : List A} {a b c d : Int} (h1 : Span F xs a b) (h2 : Span F xs c d) : a = c ∧ b = d := by
  have p := h1.sub (fun _ h => h) h2
  have q := h2.sub (fun _ h => h) h1
  omega

theorem Span.map {A B : Type} {F : A → Int} {xs : List A} {g : B → A} {is : List B} (h : ∀ x, x ∈ xs ↔ ∃ i ∈ is, g i = x) {a b : Int} (hs : Span (fun i => F (g i)) is a b) : Span F xs a b := by
  obtain ⟨⟨x, hx, rfl⟩, ⟨y, hy, rfl⟩, h3⟩ := hs
  refine ⟨⟨_, (h _).2 ⟨x, hx, rfl⟩, rfl⟩, ⟨_, (h _).2 ⟨y, hy, rfl⟩, rfl⟩, fun z hz => ?_⟩
  obtain ⟨i, hi, rfl⟩ := (h z).1 hz
  exact h3 i hi

theorem rngP_is' (F : List Int → Int) (xs : List (List Int)) (h : xs ≠ []) : (rngP F xs).2.2 = true := by
  obtain ⟨ys, x, rfl⟩ : ∃ ys x, xs = ys ++ [x] := ⟨xs.dropLast, xs.getLast h, (List.dropLast_concat_getLast h).symm⟩
  rw [rngP_snoc]; rfl

theorem span_rng (F : List Int → Int) : ∀ (n : Nat) (xs : List (List Int)), xs.length = n → xs ≠ [] → Span F xs (rngP F xs).1 (rngP F xs).2.1
  | 0, xs, hl, h => absurd (List.length_eq_zero_iff.1 hl) h
  | n + 1, xs, hl, h => by
    obtain ⟨ys, x, rfl⟩ : ∃ ys x, xs = ys ++ [x] := ⟨xs.dropLast, xs.getLast h, (List.dropLast_concat_getLast h).symm⟩
    rw [rngP_snoc]
    unfold rngS minI
    by_cases e : ys = []
    · subst e
      simp [rngP, Span]
    · have ih := span_rng F n ys (by simpa using hl) e
      have hi := rngP_is' F ys e
      obtain ⟨⟨p, hp, hp'⟩, ⟨q, hq, hq'⟩, h3⟩ := ih
      simp only [hi, if_true]
      generalize (rngP F ys).1 = a at *
      generalize (rngP F ys).2.1 = b at *
      have hpq := h3 p hp
      refine ⟨?_, ?_, fun z hz => ?_⟩
      · split
        · first | exact ⟨p, by simp [hp], hp'⟩ | exact ⟨x, by simp, rfl⟩
        · first | exact ⟨p, by simp [hp], hp'⟩ | exact ⟨x, by simp, rfl⟩
      · split
        · exact ⟨x, by simp, rfl⟩
        · exact ⟨q, by simp [hq], hq'⟩
      · rcases List.mem_append.1 hz with hz | hz
        · have := h3 z hz
          split <;> split <;> omega
        · simp only [List.mem_singleton] at hz
          subst hz
          split <;> split <;> omega

theorem spanG_span {f : Int → Int} : ∀ (l ys : List Int) (a b : Int), Span f ys a b → Span f (ys ++ l) (spanG f l a b).1 (spanG f l a b).2
  | [], ys, a, b, h => by simpa [spanG] using h
  | x :: l, ys, a, b, h => by
    have e : ys ++ x :: l = (ys ++ [x]) ++ l := by simp
    rw [e]
    refine spanG_span l (ys ++ [x]) _ _ ?_
    obtain ⟨⟨p, hp, hp'⟩, ⟨q, hq, hq'⟩, h3⟩ := h
    have hpq := h3 p hp
    refine ⟨?_, ?_, fun z hz => ?_⟩
    · split
      · exact ⟨x, by simp, rfl⟩
      · exact ⟨p, by simp [hp], hp'⟩
    · split
      · exact ⟨x, by simp, rfl⟩
      · exact ⟨q, by simp [hq], hq'⟩
    · rcases List.mem_append.1 hz with hz | hz
      · have := h3 z hz
        split <;> split <;> omega
      · simp only [List.mem_singleton] at hz
        subst hz
        split <;> split <;> omega

theorem spanL_span {f : Int → Int} {l : List Int} (hb : ∀ x ∈ l, 0 ≤ f x ∧ f x ≤ 1000) (h : l ≠ []) : Span f l (spanL f l).1 (spanL f l).2 := by
  cases l with
  | nil => exact absurd rfl h
  | cons x l =>
    have hx := hb x (by simp)
    unfold spanL spanG
    rw [if_pos (by omega), if_pos (by omega)]
    exact spanG_span l [x] _ _ (by simp [Span])

theorem pickR_len (f : Nat → Bool) : ∀ (m k : Nat), (pickR f k m).length ≤ m
  | 0, _ => by simp [pickR]
  | m + 1, k => by
    have := pickR_len f m (k + 1)
    unfold pickR
    split <;> simp <;> omega

/-- What holds of the numbers of all truths of a valid survey. -/
structure TruthsOk (cc : Int) (l : List Int) (sm : Int) (cs : List Cnt) (T : List Int) : Prop where
  few : T.length ≤ 2000
  num : ∀ x ∈ T, 0 ≤ x ∧ x ≤ 2000
  mem : ∀ x, x ∈ genP (okP cs [] cc sm) l 0 [] ↔ ∃ i ∈ T, nthG l i = x

theorem truths_ok {r cc : Int} {l : List Int} {sm : Int} {cs : List Cnt} (h : faultL r cc l sm cs = 0) : TruthsOk cc l sm cs (truthsL cc l sm cs 0) := by
  obtain ⟨h1, h2, h3, h4, h5⟩ := fault0 h
  have hff := field_facts h2
  refine ⟨?_, fun x hx => ?_, truths_mem hff.2.2.1 hff.2.2.2.2.2.2.2 h5 h4 (outIs_nil _)⟩
  · have := pickR_len (truthAt cc l sm cs 0) (manyL l).toNat 0
    unfold truthsL; omega
  · obtain ⟨i, h1, h2, _, rfl⟩ := (pickR_mem _ _ _ _).1 hx
    omega

theorem TruthsOk.nil {cc : Int} {l : List Int} {sm : Int} {cs : List Cnt} {T : List Int} (h : TruthsOk cc l sm cs T) : genP (okP cs [] cc sm) l 0 [] = [] ↔ T = [] := by
  constructor
  · intro e
    cases hT : T with
    | nil => rfl
    | cons x r =>
      have := (h.mem (nthG l x)).2 ⟨x, by simp [hT], rfl⟩
      rw [e] at this; cases this
  · rintro e
    cases hT : genP (okP cs [] cc sm) l 0 [] with
    | nil => rfl
    | cons x r =>
      obtain ⟨i, hi, _⟩ := (h.mem x).1 (by simp [hT])
      rw [e] at hi; cases hi

theorem TruthsOk.span {cc : Int} {l : List Int} {sm : Int} {cs : List Cnt} {T : List Int} (h : TruthsOk cc l sm cs T) {F : List Int → Int} (hb : ∀ x ∈ genP (okP cs [] cc sm) l 0 [], 0 ≤ F x ∧ F x ≤ 1000) (hne : T ≠ []) :
    (rngP F (genP (okP cs [] cc sm) l 0 [])).1 = (spanL (fun i => F (nthG l i)) T).1 ∧ (rngP F (genP (okP cs [] cc sm) l 0 [])).2.1 = (spanL (fun i => F (nthG l i)) T).2 :=
  (span_rng F _ _ rfl (fun e => hne (h.nil.1 e))).unique (Span.map h.mem (spanL_span (fun x hx => hb _ ((h.mem _).2 ⟨x, hx, rfl⟩)) hne))

theorem shareG_bd : ∀ (h l : List Int) (x y : Int), (∀ i : Nat, i < h.length → 0 ≤ h[i]?.getD 0 ∧ h[i]?.getD 0 ≤ l[i]?.getD 0) → 0 ≤ x → x ≤ y → 0 ≤ shareG h l x y ∧ shareG h l x y ≤ 100
  | [], l, x, y, _, h0, h1 => by
    unfold shareG
    split
    · omega
    · exact ⟨Int.ediv_nonneg (by omega) (by omega), Int.ediv_le_of_le_mul (by omega) (by omega)⟩
  | a :: h, [], x, y, hb, h0, h1 => by
    unfold shareG
    split
    · omega
    · exact ⟨Int.ediv_nonneg (by omega) (by omega), Int.ediv_le_of_le_mul (by omega) (by omega)⟩
  | a :: h, s :: l, x, y, hb, h0, h1 => by
    have h2 := hb 0 (by simp)
    simp only [List.getElem?_cons_zero, Option.getD_some] at h2
    unfold shareG
    exact shareG_bd h l _ _ (fun i hi => by simpa using hb (i + 1) (by simpa using hi)) (by omega) (by omega)

theorem listed_iff {l h : List Int} : isListedB l h = true ↔ h.length = l.length ∧ ∀ i : Nat, i < h.length → 0 ≤ h[i]?.getD 0 ∧ h[i]?.getD 0 ≤ l[i]?.getD 0 := by
  unfold isListedB isListedG
  rw [Bool.and_eq_true, decide_eq_true_eq, allR_iff]
  simp only [inB, Bool.and_eq_true, decide_eq_true_eq]
  exact ⟨fun h => ⟨h.1, fun i hi => h.2 i (by omega) (by omega)⟩, fun h => ⟨h.1, fun i _ hi => h.2 i (by omega)⟩⟩

theorem share_bd {l h : List Int} (hl : isListedB l h = true) : 0 ≤ shareL l h ∧ shareL l h ≤ 100 :=
  shareG_bd h l 0 0 (listed_iff.1 hl).2 (Int.le_refl _) (Int.le_refl _)

theorem listed_bd9 {l h : List Int} (hs : ∀ x ∈ l, 0 ≤ x ∧ x ≤ 9) (hl : isListedB l h = true) (i : Nat) : 0 ≤ h[i]?.getD 0 ∧ h[i]?.getD 0 ≤ 9 := by
  obtain ⟨h1, h2⟩ := listed_iff.1 hl
  by_cases hi : i < h.length
  · have := h2 i hi
    have := hs _ (getD_mem (l := l) (k := i) (by omega))
    omega
  · simp [List.getElem?_eq_none (by omega : h.length ≤ i)]

/-- The bounds that the program answers: of a valid survey with a truth, or of one without. -/
theorem bnd_span {F : List Int → Int} {r cc : Int} {l : List Int} {sm : Int} {cs : List Cnt} (hf : faultL r cc l sm cs = 0) (hne : genP (okP cs [] cc sm) l 0 [] ≠ []) :
    ∃ lo hi, bndR F r cc l sm cs = (lo, hi, 0) ∧ Span F (genP (okP cs [] cc sm) l 0 []) lo hi := by
  refine ⟨_, _, ?_, span_rng F _ _ rfl hne⟩
  rw [bndR, if_pos hf, askV, if_pos (rngP_is' F _ hne)]

theorem bnd_none {F : List Int → Int} {r cc : Int} {l : List Int} {sm : Int} {cs : List Cnt} (hf : faultL r cc l sm cs = 0) (hne : genP (okP cs [] cc sm) l 0 [] = []) :
    bndR F r cc l sm cs = (0, 0, 9) := by
  rw [bndR, if_pos hf, hne]; rfl
end Go.Proofs.Ytlicijnaacdceaa
