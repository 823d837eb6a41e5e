/- How slices of numbers and of counts read in a world; small facts for the walks over package frame, its reference and its statements. No condition. -/
import Derived.Test.YtlicijnaacdceaaRows
import Derived.WalkKit
import Derived.WalkSpells
import Derived.WalkLawsBesides
import Derived.BigQuiet
import Derived.Deep.QuietTactic
import Derived.Deep.RegionHeld3
import Derived.Deep.Cut
namespace Go.Proofs.Ytlicijnaacdceaa
open Go.RowKit

theorem hid {p : Prop} (h : p) : Hid p := h

theorem bcell {W w1 : World} (hb : Below W.heap.size W w1) : (∀ b o, b < W.heap.size → w1.cell? ⟨b, o, none⟩ = W.cell? ⟨b, o, none⟩) ∧ (∀ b o, b < W.heap.size → w1.frozen? ⟨b, o, none⟩ = W.frozen? ⟨b, o, none⟩) :=
  ⟨fun b o h => hb.cell (p := ⟨b, o, none⟩) h, fun b o h => hb.frozen (p := ⟨b, o, none⟩) h⟩

theorem ret_int {k : IntKind} {a b : Int} (h : a = b) : Ending.returned (.int k a) = .returned (.int k b) := by rw [h]
theorem ret_bool {a b : Bool} (h : a = b) : Ending.returned (.bool a) = .returned (.bool b) := by rw [h]

/-- The slice 'p, n' reads as the numbers l. -/
def IntsAt (w : World) (p : Option Addr) (n : Nat) (l : List Int) : Prop :=
  n = l.length ∧ ∀ i, i < n → ∃ b off, p = some ⟨b, off, none⟩ ∧ w.cell? ⟨b, off + i, none⟩ = some (.int .i64 (l[i]?.getD 0))

theorem IntsAt.below {w w' : World} {p n l} (h : IntsAt w p n l) (hb : Below w.heap.size w w') : IntsAt w' p n l := by
  refine ⟨h.1, fun i hi => ?_⟩
  obtain ⟨b, off, hp, hc⟩ := h.2 i hi
  exact ⟨b, off, hp, (hb.cell (p := ⟨b, off + i, none⟩) (World.block_lt_of_cell? w _ hc)).trans hc⟩

theorem IntsAt.alloc {w : World} {p n l} (h : IntsAt w p n l) (o : Obj) : IntsAt (w.alloc o) p n l :=
  h.below ((Below.refl _ _).alloc (Nat.le_refl _) o)

theorem IntsAt.drew {w : World} {p n l} (h : IntsAt w p n l) : IntsAt w.drew p n l := h

theorem IntsAt.at {w : World} {p n l} (h : IntsAt w p n l) {i : Nat} (hi : i < n) : ∃ b off, p = some ⟨b, off, none⟩ ∧ b < w.heap.size ∧ w.cell? ⟨b, off + i, none⟩ = some (.int .i64 (l[i]?.getD 0)) := by
  obtain ⟨b, off, hp, hc⟩ := h.2 i hi
  exact ⟨b, off, hp, World.block_lt_of_cell? w _ hc, hc⟩

/-- A count of a survey: a place, the range of its hits, late or not. -/
structure Cnt where
  place : Int
  lo : Int
  hi : Int
  late : Bool

/-- The slice 'p, n' of counts reads as l. -/
def CntsAt (w : World) (p : Option Addr) (n : Nat) (l : List Cnt) : Prop :=
  n = l.length ∧ ∀ i c, l[i]? = some c → ∃ b off, p = some ⟨b, off, none⟩ ∧ b < w.heap.size ∧ w.cell? ⟨b, off + i * 4, none⟩ = some (.int .i64 c.place) ∧
    w.cell? ⟨b, off + i * 4 + 1, none⟩ = some (.int .i64 c.lo) ∧ w.cell? ⟨b, off + i * 4 + 2, none⟩ = some (.int .i64 c.hi) ∧ w.cell? ⟨b, off + i * 4 + 3, none⟩ = some (.bool c.late)

theorem CntsAt.below {w w' : World} {p n l} (h : CntsAt w p n l) (hb : Below w.heap.size w w') : CntsAt w' p n l := by
  refine ⟨h.1, fun i c hi => ?_⟩
  obtain ⟨b, off, hp, hlt, h0, h1, h2, h3⟩ := h.2 i c hi
  exact ⟨b, off, hp, Nat.lt_of_lt_of_le hlt hb.size, (hb.cell (p := ⟨b, _, none⟩) hlt).trans h0, (hb.cell (p := ⟨b, _, none⟩) hlt).trans h1,
    (hb.cell (p := ⟨b, _, none⟩) hlt).trans h2, (hb.cell (p := ⟨b, _, none⟩) hlt).trans h3⟩

theorem CntsAt.alloc {w : World} {p n l} (h : CntsAt w p n l) (o : Obj) : CntsAt (w.alloc o) p n l :=
  h.below ((Below.refl _ _).alloc (Nat.le_refl _) o)

theorem drop_at (l : List Int) (k : Nat) (h : k < l.length) : l.drop k = l[k]?.getD 0 :: l.drop (k + 1) := by
  rw [List.drop_eq_getElem_cons h]; simp [h]

/-- f at k, k + 1, .., k + m - 1. -/
def allR (f : Nat → Bool) : Nat → Nat → Bool
  | _, 0 => true
  | k, m + 1 => f k && allR f (k + 1) m

theorem allR_iff (f : Nat → Bool) (k m : Nat) : allR f k m = true ↔ ∀ i, k ≤ i → i < k + m → f i = true := by
  induction m generalizing k with
  | zero => simp [allR]; omega
  | succ m ih =>
    simp only [allR, Bool.and_eq_true, ih]
    constructor
    · rintro ⟨h1, h2⟩ i hk hi
      by_cases e : i = k
      · subst e; exact h1
      · exact h2 i (by omega) (by omega)
    · intro h
      exact ⟨h k (Nat.le_refl _) (by omega), fun i hk hi => h i (by omega) (by omega)⟩

theorem allR_go (f : Nat → Bool) (k n : Nat) (h : k < n) : allR f k (n - k) = (f k && allR f (k + 1) (n - (k + 1))) := by
  have e : n - k = (n - (k + 1)) + 1 := by omega
  rw [e]; rfl

theorem allR_end (f : Nat → Bool) (k n : Nat) (h : ¬ k < n) : allR f k (n - k) = true := by
  have e : n - k = 0 := by omega
  rw [e]; rfl

def inB (n lo hi : Int) : Bool := decide (lo ≤ n) && decide (n ≤ hi)

end Go.Proofs.Ytlicijnaacdceaa
