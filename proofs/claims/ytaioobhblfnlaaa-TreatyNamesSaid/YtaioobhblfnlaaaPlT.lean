/- The truths of a programme, what is possible, ranges: the program and the reference say the same. No condition but a programme without an error. -/
import Derived.Test.YtaioobhblfnlaaaB13
namespace Go.Proofs.Ytaioobhblfnlaaa
open Go.RowKit

/-- Whether the reports that are not in a list are right. -/
def rightO (f : Nat → Int) (reps : List Rep) (out : List Int) : Bool := allI (fun i x => hasB out (i : Int) || rightB f x) 0 reps
theorem rightO_iff {f : Nat → Int} {reps : List Rep} {out : List Int} : rightO f reps out = true ↔ ∀ (i : Nat) x, reps[i]? = some x → (i : Int) ∉ out → rightB f x = true := by
  unfold rightO
  rw [allI_iff]
  refine forall_congr' fun i => forall_congr' fun x => imp_congr Iff.rfl ?_
  rw [Nat.zero_add, Bool.or_eq_true, hasB_mem]
  by_cases h : (i : Int) ∈ out <;> simp [h]
/-- What is paid in all truths without some reports, in the program's order. -/
def truO (p : Prg) (th : Nat → Bool) (out : List Int) : List ((Nat → Int) × Int) := ((listsL p.losses).map (paysS p.ts th)).filter fun r => rightO r.1 p.reps out
def possO (p : Prg) (th : Nat → Bool) (out : List Int) : Bool := !(truO p th out).isEmpty
theorem mem_truO {p : Prg} {th : Nat → Bool} {out : List Int} {r : (Nat → Int) × Int} : r ∈ truO p th out ↔ ∃ l, listedB p.losses l = true ∧ paysS p.ts th l = r ∧ rightO r.1 p.reps out = true := by
  unfold truO
  rw [List.mem_filter, List.mem_map]
  constructor
  · rintro ⟨⟨l, hl, rfl⟩, h⟩; exact ⟨l, mem_lists.1 hl, rfl, h⟩
  · rintro ⟨l, hl, rfl, h⟩; exact ⟨⟨l, mem_lists.2 hl, rfl⟩, h⟩
theorem possO_iff {p : Prg} {th : Nat → Bool} {out : List Int} : possO p th out = true ↔ ∃ l, listedB p.losses l = true ∧ ∀ (i : Nat) x, p.reps[i]? = some x → (i : Int) ∉ out → rightB (paysS p.ts th l).1 x = true := by
  unfold possO
  rw [Bool.not_eq_true', List.isEmpty_eq_false_iff]
  constructor
  · intro h
    obtain ⟨r, hr⟩ := List.exists_mem_of_ne_nil _ h
    obtain ⟨l, hl, rfl, h2⟩ := mem_truO.1 hr
    exact ⟨l, hl, rightO_iff.1 h2⟩
  · rintro ⟨l, hl, h⟩ e
    have : paysS p.ts th l ∈ truO p th out := mem_truO.2 ⟨l, hl, rfl, rightO_iff.2 h⟩
    rw [e] at this; simp at this
theorem poss_iff_ne {p : Prg} {th : Nat → Bool} {out : List Int} : possO p th out = true ↔ truO p th out ≠ [] := by
  unfold possO
  rw [Bool.not_eq_true', List.isEmpty_eq_false_iff]

/-- The range of some numbers: both ends are met. -/
structure IsBd (S : Int → Prop) (r : Rng) : Prop where
  lo : S r.lo
  hi : S r.hi
  all : ∀ x, S x → r.lo ≤ x ∧ x ≤ r.hi
theorem IsBd.unique {S : Int → Prop} {r q : Rng} (h : IsBd S r) (k : IsBd S q) : r = q := by
  have a := h.all _ k.lo; have b := h.all _ k.hi; have c := k.all _ h.lo; have d := k.all _ h.hi
  cases r; cases q
  simp only at *
  congr 1 <;> omega
theorem IsBd.congr {S T : Int → Prop} {r : Rng} (h : IsBd S r) (hST : ∀ x, S x ↔ T x) : IsBd T r := ⟨(hST _).1 h.lo, (hST _).1 h.hi, fun x hx => h.all x ((hST x).2 hx)⟩
theorem wider_lo (r : Rng) (n : Int) : (widerR r n).lo = minI r.lo n := rfl
theorem wider_hi (r : Rng) (n : Int) : (widerR r n).hi = if r.hi < n then n else r.hi := rfl
theorem wider_self (n : Int) : widerR ⟨n, n⟩ n = ⟨n, n⟩ := by
  unfold widerR minI; simp
theorem IsBd.wider {S : Int → Prop} {r : Rng} (h : IsBd S r) (n : Int) : IsBd (fun x => S x ∨ x = n) (widerR r n) := by
  have a := h.all _ h.lo
  refine ⟨?_, ?_, ?_⟩
  · rw [wider_lo]; unfold minI; split
    · exact .inr rfl
    · exact .inl h.lo
  · rw [wider_hi]; split
    · exact .inr rfl
    · exact .inl h.hi
  · intro x hx
    rw [wider_lo, wider_hi]
    unfold minI
    rcases hx with hx | rfl
    · have := h.all x hx; split <;> split <;> omega
    · split <;> split <;> omega
/-- The range of what f says of some things; none if there is nothing. -/
def bndStep {α : Type} (f : α → Int) (o : Option Rng) (a : α) : Option Rng := match o with
  | none => some ⟨f a, f a⟩
  | some q => some (widerR q (f a))
def bndO {α : Type} (f : α → Int) (l : List α) : Option Rng := l.foldl (bndStep f) none
theorem bndO_snoc {α : Type} (f : α → Int) (l : List α) (a : α) : bndO f (l ++ [a]) = bndStep f (bndO f l) a := by simp [bndO]
theorem bnd_fold {α : Type} (f : α → Int) : ∀ (l : List α) (q : Rng) (S : Int → Prop), IsBd S q → ∃ r, l.foldl (bndStep f) (some q) = some r ∧ IsBd (fun x => S x ∨ ∃ a ∈ l, f a = x) r
  | [], q, S, h => ⟨q, rfl, h.congr fun x => by simp⟩
  | a :: l, q, S, h => by
    obtain ⟨r, hr, hb⟩ := bnd_fold f l (widerR q (f a)) _ (h.wider (f a))
    refine ⟨r, hr, hb.congr fun x => ?_⟩
    simp only [List.mem_cons, exists_eq_or_imp]
    constructor
    · rintro ((h | h) | h)
      · exact .inl h
      · exact .inr (.inl h.symm)
      · exact .inr (.inr h)
    · rintro (h | h | h)
      · exact .inl (.inl h)
      · exact .inl (.inr h.symm)
      · exact .inr h
theorem bndO_some {α : Type} (f : α → Int) {l : List α} (h : l ≠ []) : ∃ r, bndO f l = some r ∧ IsBd (fun x => ∃ a ∈ l, f a = x) r := by
  cases l with
  | nil => exact absurd rfl h
  | cons a l =>
    obtain ⟨r, hr, hb⟩ := bnd_fold f l ⟨f a, f a⟩ (fun x => x = f a) ⟨rfl, rfl, fun x hx => by subst hx; exact ⟨Int.le_refl _, Int.le_refl _⟩⟩
    refine ⟨r, hr, hb.congr fun x => ?_⟩
    simp only [List.mem_cons, exists_eq_or_imp]
    exact or_congr ⟨Eq.symm, Eq.symm⟩ Iff.rfl
theorem bndO_nil {α : Type} (f : α → Int) : bndO f ([] : List α) = none := rfl
theorem bndO_eq {α : Type} {f : α → Int} {l : List α} {r : Rng} (h : bndO f l = some r) : IsBd (fun x => ∃ a ∈ l, f a = x) r := by
  cases l with
  | nil => cases h
  | cons a l =>
    obtain ⟨q, hq, hb⟩ := bndO_some f (l := a :: l) (by simp)
    rw [hq] at h; cases h; exact hb
/-- The reference's fold, from the empty range on. -/
theorem fold_bd {α : Type} (f : α → Int) {l : List α} (h : l ≠ []) (hb : ∀ a ∈ l, -1000000000 ≤ f a ∧ f a ≤ 1000000000) : IsBd (fun x => ∃ a ∈ l, f a = x) (l.foldl (fun q a => widerR q (f a)) emptyR) := by
  cases l with
  | nil => exact absurd rfl h
  | cons a l =>
    have h1 := hb a (by simp)
    have e : widerR emptyR (f a) = ⟨f a, f a⟩ := by
      unfold widerR emptyR minI
      simp only
      rw [if_pos (by omega), if_pos (by omega)]
    rw [List.foldl_cons, e]
    have key : ∀ (l : List α) (q : Rng), l.foldl (bndStep f) (some q) = some (l.foldl (fun q a => widerR q (f a)) q) := by
      intro l
      induction l with
      | nil => intro q; rfl
      | cons b l ih => intro q; exact ih _
    obtain ⟨r, hr, hbd⟩ := bndO_some f (l := a :: l) (by simp)
    have : bndO f (a :: l) = some (l.foldl (fun q a => widerR q (f a)) ⟨f a, f a⟩) := key l _
    rw [this] at hr
    cases hr
    exact hbd

/-- All numbers of truths are met. -/
theorem nth_mem {p : Prg} (ok : OkP p) {l : List Int} : listedB p.losses l = true ↔ ∃ m : Nat, m < (prodL p.losses).toNat ∧ nthL p.losses (m : Int) = l := by
  constructor
  · intro h
    obtain ⟨n, h0, h1, e⟩ := nth_onto ok.cnt h
    exact ⟨n.toNat, by omega, by rw [Int.toNat_of_nonneg h0]; exact e⟩
  · rintro ⟨m, _, rfl⟩
    exact nth_listed ok.cnt _ (by omega)
theorem lists_ne {p : Prg} (ok : OkP p) : ∃ l, listedB p.losses l = true := ⟨nthL p.losses 0, nth_listed ok.cnt 0 (Int.le_refl _)⟩
theorem OkP.noReps {p : Prg} (ok : OkP p) : OkP { p with reps := [] } := ⟨ok.n4, ok.m5, by simp, ok.r0, ok.r9, ok.loss, ok.tre, by simp, ok.many⟩
theorem OkP.fewer {p : Prg} (ok : OkP p) (k : Nat) : OkP { p with reps := p.reps.take k } := ⟨ok.n4, ok.m5, by have := ok.k5; simp; omega, ok.r0, ok.r9, ok.loss, ok.tre, fun r hr => ok.rep r (List.mem_of_mem_take hr), ok.many⟩
theorem kept_bd {p : Prg} (ok : OkP p) (th : Nat → Bool) {l : List Int} (h : listedB p.losses l = true) : 0 ≤ (paysS p.ts th l).2 ∧ (paysS p.ts th l).2 ≤ 4000 := by
  have a := pays_ok ok.ots th (listed_bd ok.loss h)
  have := listed_len h
  have := ok.n4
  omega
theorem pay_bd {p : Prg} (ok : OkP p) (th : Nat → Bool) {l : List Int} (h : listedB p.losses l = true) (i : Nat) : 0 ≤ (paysS p.ts th l).1 i ∧ (paysS p.ts th l).1 i ≤ 4000 := by
  have a := pays_ok ok.ots th (listed_bd ok.loss h)
  have := listed_len h
  have := ok.n4
  have := a.1.lo i; have := a.1.hi i
  omega
/-- What the society keeps with some treaties, in the program's way and in the reference's. -/
theorem kept_isBd {p : Prg} (ok : OkP p) (th : Nat → Bool) : IsBd (fun x => ∃ l, listedB p.losses l = true ∧ (paysS p.ts th l).2 = x) (keptR p th) := by
  have h := fold_bd (fun n : Nat => (paysS p.ts th (nthL p.losses n)).2) (l := List.range (prodL p.losses).toNat) (by
    have := ok.pos
    intro e
    have h9 := congrArg List.length e
    simp at h9; omega) (fun a _ => by have := kept_bd ok th (nth_listed ok.cnt (a : Int) (by omega)); omega)
  refine IsBd.congr (r := keptR p th) h fun x => ?_
  constructor
  · rintro ⟨m, _, e⟩; exact ⟨_, nth_listed ok.cnt (m : Int) (by omega), e⟩
  · rintro ⟨l, hl, e⟩
    obtain ⟨m, hm, rfl⟩ := (nth_mem ok).1 hl
    exact ⟨m, List.mem_range.2 hm, e⟩
theorem kept_law {p : Prg} (ok : OkP p) (th : Nat → Bool) : bndO (fun r : (Nat → Int) × Int => r.2) (truO { p with reps := [] } th []) = some (keptR p th) := by
  obtain ⟨l0, hl0⟩ := lists_ne ok
  have hne : truO { p with reps := [] } th [] ≠ [] := fun e => by
    have : paysS p.ts th l0 ∈ truO { p with reps := [] } th [] := mem_truO.2 ⟨l0, hl0, rfl, rightO_iff.2 (by simp)⟩
    rw [e] at this; simp at this
  obtain ⟨r, hr, hb⟩ := bndO_some (fun r : (Nat → Int) × Int => r.2) hne
  rw [hr]
  refine congrArg some (hb.unique ((kept_isBd ok th).congr fun x => ?_))
  constructor
  · rintro ⟨l, hl, e⟩; exact ⟨_, mem_truO.2 ⟨l, hl, rfl, rightO_iff.2 (by simp)⟩, e⟩
  · rintro ⟨a, ha, e⟩
    obtain ⟨l, hl, rfl, _⟩ := mem_truO.1 ha
    exact ⟨l, hl, e⟩

/-- Whether some reports are right together, as the reference finds it. -/
theorem can_iff {p : Prg} (ok : OkP p) {M : Nat} (hM : M < 2 ^ p.reps.length) : canN (allP p) M = true ↔ ∃ l, listedB p.losses l = true ∧ ∀ (i : Nat) x, p.reps[i]? = some x → M.testBit i = true → rightB (payA p l).1 x = true := by
  unfold canN
  rw [List.any_eq_true]
  constructor
  · rintro ⟨a, ha, h⟩
    rw [decide_eq_true_eq, and_self_iff] at h
    obtain ⟨m, hm, rfl⟩ := List.mem_map.1 ha
    refine ⟨nthL p.losses m, nth_listed ok.cnt _ (by omega), fun i x hx hi => ?_⟩
    have hb := h i hi
    rw [rightN, numOf_bit, Bool.and_eq_true, rightI, hx] at hb
    exact hb.2
  · rintro ⟨l, hl, h⟩
    obtain ⟨m, hm, rfl⟩ := (nth_mem ok).1 hl
    refine ⟨rightN p (nthL p.losses m), List.mem_map.2 ⟨m, List.mem_range.2 hm, rfl⟩, ?_⟩
    rw [decide_eq_true_eq, and_self_iff]
    intro i hi
    have hin : i < p.reps.length := by
      refine Nat.lt_of_not_le fun hge => ?_
      rw [Nat.testBit_lt_two_pow (Nat.lt_of_lt_of_le hM (Nat.pow_le_pow_right (by decide) hge))] at hi
      cases hi
    have hc : p.reps[i]? = some p.reps[i] := List.getElem?_eq_getElem hin
    rw [rightN, numOf_bit, Bool.and_eq_true, rightI, hc]
    exact ⟨by simpa using hin, h i _ hc hi⟩
theorem can_poss {p : Prg} (ok : OkP p) {M : Nat} (hM : M < 2 ^ p.reps.length) {out : List Int} (hb : ∀ i, i < p.reps.length → (M.testBit i = true ↔ (i : Int) ∉ out)) : canN (allP p) M = possO p allT out := by
  rw [Bool.eq_iff_iff, can_iff ok hM, possO_iff]
  refine exists_congr fun l => and_congr Iff.rfl (forall_congr' fun i => forall_congr' fun x => ?_)
  constructor
  · intro h hx ho
    exact h hx ((hb i (List.getElem?_eq_some_iff.1 hx).1).2 ho)
  · intro h hx ho
    exact h hx ((hb i (List.getElem?_eq_some_iff.1 hx).1).1 ho)
theorem can_full {p : Prg} (ok : OkP p) : canN (allP p) (2 ^ p.reps.length - 1) = possO p allT [] :=
  can_poss ok (by have := Nat.two_pow_pos p.reps.length; omega) fun i hi => by rw [every_bit]; simpa using hi
theorem take_poss {p : Prg} (ok : OkP p) {k : Nat} (hk : k ≤ p.reps.length) : canN (allP p) (2 ^ k - 1) = possO { p with reps := p.reps.take k } allT [] := by
  have hlt : 2 ^ k - 1 < 2 ^ p.reps.length := by
    have := Nat.two_pow_pos k
    have := Nat.pow_le_pow_right (n := 2) (by decide) hk
    omega
  rw [Bool.eq_iff_iff, can_iff ok hlt, possO_iff]
  refine exists_congr fun l => and_congr Iff.rfl (forall_congr' fun i => forall_congr' fun x => ?_)
  rw [every_bit]
  show _ ↔ ((p.reps.take k)[i]? = some x → _)
  rw [List.getElem?_take]
  by_cases h : i < k
  · simp [h, payA]
  · simp [h]
/-- The first wrong report. -/
def firstP (p : Prg) : Int := firstG (fun j => possO { p with reps := p.reps.take (j + 1) } allT []) 0 p.reps.length
theorem firstG_congr {f g : Nat → Bool} : ∀ (m k : Nat), (∀ i, k ≤ i → i < k + m → f i = g i) → firstG f k m = firstG g k m
  | 0, _, _ => rfl
  | m + 1, k, h => by
    rw [firstG, firstG, h k (Nat.le_refl _) (by omega), firstG_congr m (k + 1) fun i h1 h2 => h i (by omega) (by omega)]
theorem first_law {p : Prg} (ok : OkP p) : firstG (fun j => canN (allP p) (2 ^ (j + 1) - 1)) 0 p.reps.length = firstP p :=
  firstG_congr _ _ fun i _ hi => take_poss ok (by omega)
/-- The smallest set. -/
def leaveP (p : Prg) : List Int := bestL (fun b => canN (allP p) (andN (2 ^ p.reps.length - 1) b)) p.reps.length
def leaveF (p : Prg) (out : List Int) : Bool := possO p allT out
theorem poss_all {p : Prg} (ok : OkP p) {out : List Int} (h : ∀ i, i < p.reps.length → (i : Int) ∈ out) : possO p allT out = true := by
  obtain ⟨l, hl⟩ := lists_ne ok
  exact possO_iff.2 ⟨l, hl, fun i x hx ho => absurd (h i (List.getElem?_eq_some_iff.1 hx).1) ho⟩
theorem leave_first {p : Prg} (ok : OkP p) : First (leaveF p) p.reps.length (leaveP p) := by
  have hk := ok.k5
  refine bestL_first (by omega) (fun k hk2 => ?_) ?_
  · refine can_poss ok (andEvery_lt _ _) fun i hi => ?_
    rw [andN_bit, every_bit, bitsL_mem hk2 (by omega)]
    have a : i < 12 := by omega
    simp [a, hi]
  · obtain ⟨l, hl⟩ := lists_ne ok
    refine (can_iff ok (andEvery_lt _ _)).2 ⟨l, hl, fun i x hx hi => ?_⟩
    rw [andN_bit] at hi
    simp at hi
theorem leave_law {p : Prg} (ok : OkP p) : shortL (leaveF p) p.reps.length = some (leaveP p) := by
  have h2 := leave_first ok
  obtain ⟨Y, hY⟩ := short_some h2.1 h2.2.1
  rw [hY, (short_first hY).unique h2]

/-- The truths, in the reference's order. -/
def truR (p : Prg) : List (List Int) := ((List.range (prodL p.losses).toNat).filter fun m : Nat => decide (rightN p (nthL p.losses m) = 2 ^ p.reps.length - 1)).map fun m : Nat => nthL p.losses m
theorem rightN_full {p : Prg} {l : List Int} : rightN p l = 2 ^ p.reps.length - 1 ↔ rightO (payA p l).1 p.reps [] = true := by
  rw [rightO_iff]
  constructor
  · intro h i x hx _
    have := congrArg (fun n => n.testBit i) h
    simp only [rightN, numOf_bit, every_bit, rightI, hx] at this
    have hi := (List.getElem?_eq_some_iff.1 hx).1
    simpa [hi] using this
  · intro h
    refine Nat.eq_of_testBit_eq fun i => ?_
    rw [rightN, numOf_bit, every_bit]
    by_cases hi : i < p.reps.length
    · have hx : p.reps[i]? = some p.reps[i] := List.getElem?_eq_getElem hi
      have := h i _ hx (by simp)
      simp [hi, rightI, this]
    · simp [hi]
theorem mem_truR {p : Prg} (ok : OkP p) {l : List Int} : l ∈ truR p ↔ listedB p.losses l = true ∧ rightO (payA p l).1 p.reps [] = true := by
  unfold truR
  rw [List.mem_map]
  constructor
  · rintro ⟨m, hm, rfl⟩
    rw [List.mem_filter, decide_eq_true_eq, rightN_full] at hm
    exact ⟨nth_listed ok.cnt _ (by omega), hm.2⟩
  · rintro ⟨h1, h2⟩
    obtain ⟨m, hm, rfl⟩ := (nth_mem ok).1 h1
    exact ⟨m, List.mem_filter.2 ⟨List.mem_range.2 hm, by rw [decide_eq_true_eq, rightN_full]; exact h2⟩, rfl⟩
theorem truR_ne {p : Prg} (ok : OkP p) : truR p ≠ [] ↔ possO p allT [] = true := by
  rw [possO_iff]
  constructor
  · intro h
    obtain ⟨l, hl⟩ := List.exists_mem_of_ne_nil _ h
    have := (mem_truR ok).1 hl
    exact ⟨l, this.1, rightO_iff.1 this.2⟩
  · rintro ⟨l, hl, h⟩ e
    have := (mem_truR ok).2 ⟨hl, rightO_iff.2 h⟩
    rw [e] at this; simp at this
/-- Ranges in the reference's way and in the program's. -/
def bndR (g : (Nat → Int) × Int → Int) (p : Prg) (L : List (List Int)) : Rng := L.foldl (fun q l => widerR q (g (payA p l))) emptyR
theorem bnd_law {p : Prg} (ok : OkP p) (hp : possO p allT [] = true) (g : (Nat → Int) × Int → Int) (hg : ∀ l, listedB p.losses l = true → -1000000000 ≤ g (payA p l) ∧ g (payA p l) ≤ 1000000000) :
    bndO g (truO p allT []) = some (bndR g p (truR p)) := by
  obtain ⟨r, hr, hb⟩ := bndO_some g (poss_iff_ne.1 hp)
  have h2 := fold_bd (fun l => g (payA p l)) ((truR_ne ok).2 hp) (fun l hl => hg l ((mem_truR ok).1 hl).1)
  rw [hr]
  refine congrArg some (hb.unique (IsBd.congr (r := bndR g p (truR p)) h2 fun x => ?_))
  constructor
  · rintro ⟨l, hl, e⟩
    obtain ⟨h1, h2⟩ := (mem_truR ok).1 hl
    exact ⟨_, mem_truO.2 ⟨l, h1, rfl, h2⟩, e⟩
  · rintro ⟨a, ha, e⟩
    obtain ⟨l, hl, rfl, h2⟩ := mem_truO.1 ha
    exact ⟨l, (mem_truR ok).2 ⟨hl, h2⟩, e⟩
theorem bnd_none {p : Prg} (hp : possO p allT [] = false) (g : (Nat → Int) × Int → Int) : bndO g (truO p allT []) = none := by
  have : truO p allT [] = [] := by
    refine Classical.byContradiction fun h => ?_
    rw [poss_iff_ne.2 h] at hp; cases hp
  rw [this]; rfl
end Go.Proofs.Ytaioobhblfnlaaa
