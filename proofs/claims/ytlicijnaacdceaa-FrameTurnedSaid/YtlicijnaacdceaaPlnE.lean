/- Fewest places: the reference's list is the first that decides. Plain facts. No condition. -/
import Derived.Test.YtlicijnaacdceaaPlnD
import Derived.Test.YtlicijnaacdceaaLawLeaves
import Derived.Test.YtlicijnaacdceaaRefK
import Derived.Test.YtlicijnaacdceaaProZF
import Derived.Test.YtlicijnaacdceaaProZE
namespace Go.Proofs.Ytlicijnaacdceaa
open Go.RowKit

theorem mul_add_inj {x x' s a a' : Int} (h0 : 0 ≤ a) (h1 : a ≤ s) (h0' : 0 ≤ a') (h1' : a' ≤ s) (h : x * (s + 1) + a = x' * (s + 1) + a') : x = x' ∧ a = a' := by
  have e1 : (x * (s + 1) + a) % (s + 1) = a := by rw [Int.add_comm, Int.add_mul_emod_self_right, Int.emod_eq_of_lt h0 (by omega)]
  have e2 : (x' * (s + 1) + a') % (s + 1) = a' := by rw [Int.add_comm, Int.add_mul_emod_self_right, Int.emod_eq_of_lt h0' (by omega)]
  have ea : a = a' := by rw [← e1, h, e2]
  refine ⟨?_, ea⟩
  subst ea
  have : x * (s + 1) = x' * (s + 1) := by omega
  exact Int.eq_of_mul_eq_mul_right (by omega) this

theorem keyG_iff {l h h' : List Int} (places : Int) : ∀ (k : Nat) (x x' : Int), (∀ i : Nat, i < k → 0 ≤ h[i]?.getD 0 ∧ h[i]?.getD 0 ≤ l[i]?.getD 0) → (∀ i : Nat, i < k → 0 ≤ h'[i]?.getD 0 ∧ h'[i]?.getD 0 ≤ l[i]?.getD 0) →
    (keyG l h places k x = keyG l h' places k x' ↔ x = x' ∧ ∀ i, i < k → bitB places i = true → h[i]?.getD 0 = h'[i]?.getD 0)
  | 0, x, x', _, _ => by simp [keyG]
  | k + 1, x, x', hb, hb' => by
    unfold keyG
    rw [keyG_iff places k _ _ (fun i hi => hb i (by omega)) (fun i hi => hb' i (by omega))]
    have b1 := hb k (by omega)
    have b2 := hb' k (by omega)
    by_cases hp : bitB places k = true
    · simp only [hp, if_true]
      constructor
      · rintro ⟨h1, h2⟩
        have := mul_add_inj b1.1 b1.2 b2.1 b2.2 h1
        refine ⟨this.1, fun i hi hbi => ?_⟩
        by_cases e : i = k
        · subst e; exact this.2
        · exact h2 i (by omega) hbi
      · rintro ⟨rfl, h2⟩
        exact ⟨by rw [h2 k (by omega) hp], fun i hi hbi => h2 i (by omega) hbi⟩
    · simp only [hp]
      constructor
      · rintro ⟨h1, h2⟩
        refine ⟨h1, fun i hi hbi => ?_⟩
        by_cases e : i = k
        · subst e; exact absurd hbi hp
        · exact h2 i (by omega) hbi
      · rintro ⟨h1, h2⟩
        exact ⟨h1, fun i hi hbi => h2 i (by omega) hbi⟩

theorem keyG_nonneg {l h : List Int} (places : Int) : ∀ (k : Nat) (x : Int), (∀ i : Nat, i < k → 0 ≤ h[i]?.getD 0 ∧ h[i]?.getD 0 ≤ l[i]?.getD 0) → 0 ≤ x → 0 ≤ keyG l h places k x
  | 0, x, _, hx => hx
  | k + 1, x, hb, hx => by
    unfold keyG
    refine keyG_nonneg places k _ (fun i hi => hb i (by omega)) ?_
    have b1 := hb k (by omega)
    split
    · have : 0 ≤ x * (l[k]?.getD 0 + 1) := Int.mul_nonneg hx (by omega)
      omega
    · exact hx

theorem seen_iff {h h' X : List Int} : seenL h X = seenL h' X ↔ ∀ j : Nat, j < 9 → (j : Int) ∈ X → h[j]?.getD 0 = h'[j]?.getD 0 := by
  constructor
  · intro e j hj hX
    have e1 := seenL_get h X j hj
    have e2 := seenL_get h' X j hj
    rw [if_pos hX] at e1 e2
    rw [← e1, e, e2]
  · intro e
    unfold seenL
    refine List.map_congr_left fun j hj => ?_
    split
    · rename_i hX
      exact e j (by simpa using hj) hX
    · rfl

theorem key_seen {l h h' : List Int} (hl9 : l.length ≤ 9) (hh : isListedB l h = true) (hh' : isListedB l h' = true) (k : Nat) :
    (keyL l h (k : Int)).toNat = (keyL l h' (k : Int)).toNat ↔ seenL h (bitsL (k : Int)) = seenL h' (bitsL (k : Int)) := by
  obtain ⟨h1, h2⟩ := listed_iff.1 hh
  obtain ⟨h1', h2'⟩ := listed_iff.1 hh'
  rw [h1] at h2
  rw [h1'] at h2'
  have n1 := keyG_nonneg (k : Int) l.length 0 h2 (Int.le_refl _)
  have n2 := keyG_nonneg (k : Int) l.length 0 h2' (Int.le_refl _)
  have e : (keyL l h (k : Int)).toNat = (keyL l h' (k : Int)).toNat ↔ keyL l h (k : Int) = keyL l h' (k : Int) := by
    unfold keyL; omega
  rw [e, seen_iff]
  unfold keyL
  rw [keyG_iff _ _ _ _ h2 h2']
  constructor
  · rintro ⟨_, h3⟩ j hj hX
    unfold bitsL at hX
    rw [mem_bitsTo] at hX
    obtain ⟨p, hp, hbp, e⟩ := hX
    have : p = j := by omega
    subst this
    by_cases hjl : p < l.length
    · exact h3 p hjl hbp
    · rw [List.getElem?_eq_none (by omega), List.getElem?_eq_none (by omega)]
  · intro h3
    refine ⟨rfl, fun i hi hbi => h3 i (by omega) ?_⟩
    unfold bitsL
    rw [mem_bitsTo]
    exact ⟨i, by omega, hbi, rfl⟩

theorem decideG_iff (l : List Int) (part places : Int) : ∀ (T : List Int) (f g : Nat → Bool), decideG l part places T f g = true ↔
    (∀ x ∈ T, part ≤ shareL l (nthG l x) → g (keyL l (nthG l x) places).toNat = false) ∧ (∀ x ∈ T, ¬ part ≤ shareL l (nthG l x) → f (keyL l (nthG l x) places).toNat = false) ∧
    T.Pairwise fun x y => (keyL l (nthG l x) places).toNat = (keyL l (nthG l y) places).toNat → (part ≤ shareL l (nthG l x) ↔ part ≤ shareL l (nthG l y))
  | [], f, g => by simp [decideG]
  | x :: r, f, g => by
    unfold decideG
    rw [List.pairwise_cons]
    simp only [List.mem_cons, forall_eq_or_imp]
    generalize hk : (fun z => (keyL l (nthG l z) places).toNat) = K
    have hK : ∀ z, (keyL l (nthG l z) places).toNat = K z := fun z => by rw [← hk]
    simp only [hK]
    by_cases hy : part ≤ shareL l (nthG l x)
    · simp only [hy, if_true, true_iff, not_true, false_imp_iff, true_and, true_imp_iff]
      have e : (upd f (K x) (K x) && g (K x)) = g (K x) := by simp [upd]
      rw [e]
      cases hg : g (K x) with
      | true => simp
      | false =>
        simp only [Bool.false_eq_true, if_false, true_and]
        have ih := decideG_iff l part places r (upd f (K x)) g
        simp only [hK] at ih
        rw [ih]
        constructor
        · rintro ⟨a, b, c⟩
          refine ⟨a, fun z hz hz' => ?_, fun z hz e => ?_, c⟩
          · have := b z hz hz'
            unfold upd at this
            split at this
            · cases this
            · exact this
          · refine Decidable.byContradiction fun hn => ?_
            have := b z hz hn
            rw [upd, if_pos e.symm] at this
            cases this
        · rintro ⟨a, b, c, d⟩
          refine ⟨a, fun z hz hz' => ?_, d⟩
          unfold upd
          rw [if_neg (fun e => hz' (c z hz e.symm))]
          exact b z hz hz'
    · simp only [hy, if_false, false_iff, not_false_iff, true_imp_iff, false_imp_iff, true_and]
      have e : (f (K x) && upd g (K x) (K x)) = f (K x) := by simp [upd]
      rw [e]
      cases hf : f (K x) with
      | true => simp
      | false =>
        simp only [Bool.false_eq_true, if_false, true_and]
        have ih := decideG_iff l part places r f (upd g (K x))
        simp only [hK] at ih
        rw [ih]
        constructor
        · rintro ⟨a, b, c⟩
          refine ⟨fun z hz hz' => ?_, b, fun z hz e hn => ?_, c⟩
          · have := a z hz hz'
            unfold upd at this
            split at this
            · cases this
            · exact this
          · have := a z hz hn
            rw [upd, if_pos e.symm] at this
            cases this
        · rintro ⟨a, b, c, d⟩
          refine ⟨fun z hz hz' => ?_, b, d⟩
          unfold upd
          rw [if_neg (fun e => c z hz e.symm hz')]
          exact a z hz hz'

theorem pairwise_all {A : Type} {R : A → A → Prop} (hr : ∀ a, R a a) (hs : ∀ a b, R a b → R b a) : ∀ (l : List A), l.Pairwise R ↔ ∀ a ∈ l, ∀ b ∈ l, R a b
  | [] => by simp
  | x :: r => by
    rw [List.pairwise_cons, pairwise_all hr hs r]
    constructor
    · rintro ⟨h1, h2⟩ a ha b hb
      rcases List.mem_cons.1 ha with e1 | ha' <;> rcases List.mem_cons.1 hb with e2 | hb'
      · rw [e1, e2]; exact hr _
      · rw [e1]; exact h1 b hb'
      · rw [e2]; exact hs _ _ (h1 a ha')
      · exact h2 a ha' b hb'
    · intro h
      exact ⟨fun a ha => h x (by simp) a (by simp [ha]), fun a ha b hb => h a (by simp [ha]) b (by simp [hb])⟩

theorem zip_map_self {A B : Type} (g : A → B) : ∀ (T : List A), T.zip (T.map g) = T.map fun a => (a, g a)
  | [] => rfl
  | a :: r => by simp [zip_map_self g r]

/-- A list of places decides if no two truths that look the same there differ in the part. -/
theorem few_iff {cc sm part : Int} {l : List Int} {cs : List Cnt} {X : List Int} :
    fewB cc sm part l cs X = true ↔ ∀ a ∈ genP (okP cs [] cc sm) l 0 [], ∀ b ∈ genP (okP cs [] cc sm) l 0 [], seenL a X = seenL b X → (part ≤ shareL l a ↔ part ≤ shareL l b) := by
  unfold fewB
  rw [decG_iff, zip_map_self, List.pairwise_map]
  have e : ∀ (P : Prop), (∀ q ∈ List.map (fun a => (a, decide (part ≤ shareL l a))) (genP (okP cs [] cc sm) l 0 []), ∀ (v : Bool), (fun _ => none : Value → Option Bool) (hitsV (seenL q.1 X)) = some v → v = q.2) ∧ P ↔ P := by
    intro P
    simp
  rw [e, pairwise_all (fun _ _ => rfl) (fun a b h e => (h e.symm).symm)]
  simp only [decide_eq_decide]

theorem few_key {cc : Int} {l : List Int} {sm : Int} {cs : List Cnt} {T : List Int} (h : TruthsOk cc l sm cs T) (hl9 : l.length ≤ 9) (part : Int) (k : Nat) :
    decideB l T part (k : Int) = fewB cc sm part l cs (bitsL (k : Int)) := by
  rw [Bool.eq_iff_iff, few_iff, decideB, decideG_iff]
  simp only [implies_true, true_and]
  rw [pairwise_all (fun _ _ => Iff.rfl) (fun a b h e => (h e.symm).symm)]
  have hm : ∀ x ∈ T, nthG l x ∈ genP (okP cs [] cc sm) l 0 [] := fun x hx => (h.mem _).2 ⟨x, hx, rfl⟩
  constructor
  · intro h1 a ha b hb e
    obtain ⟨x, hx, rfl⟩ := (h.mem a).1 ha
    obtain ⟨y, hy, rfl⟩ := (h.mem b).1 hb
    exact h1 x hx y hy ((key_seen hl9 (genP_listed ha) (genP_listed hb) k).2 e)
  · intro h1 x hx y hy e
    exact h1 _ (hm x hx) _ (hm y hy) ((key_seen hl9 (genP_listed (hm x hx)) (genP_listed (hm y hy)) k).1 e)

theorem best_few {cc : Int} {l : List Int} {sm : Int} {cs : List Cnt} {T : List Int} (h : TruthsOk cc l sm cs T) (hl9 : l.length ≤ 9) (part : Int) :
    First (fewB cc sm part l cs) l.length (bestL (fun k => decideB l T part k) l.length) := by
  refine bestL_first (by omega) (fun k _ => few_key h hl9 part k) ?_
  show decideB l T part ((2 ^ l.length - 1 : Nat) : Int) = true
  rw [few_key h hl9, bits_all _ (by omega)]
  exact few_all hl9
end Go.Proofs.Ytlicijnaacdceaa
