/- The laws: small facts. No condition. -/
import Derived.Test.YtaioobhblfnlaaaD2
import Derived.Test.YtaioobhblfnlaaaD5
namespace Go.Proofs.Ytaioobhblfnlaaa
open Go.RowKit

theorem thin_len {p : Prg} (h : thinB p = true) : p.losses.length ≤ 7 ∧ p.ts.length ≤ 8 ∧ p.reps.length ≤ 8 := by
  unfold thinB at h
  rw [Bool.and_eq_true, decide_eq_true_eq] at h
  exact h.1
theorem everyN_bd {n : Nat} (h : n ≤ 9) : 0 ≤ everyN n ∧ everyN n < 4096 := by
  obtain ⟨X, hX, hX1, hX2, _⟩ := pow_facts h
  unfold everyN; rw [hX]; omega
theorem ints_nil9 {w : World} {q : Option Addr} {k : Nat} {l : List Int} (h : IntsAt w q k l) (hl : l = []) : k = 0 := by rw [h.1, hl]; rfl
end Go.Proofs.Ytaioobhblfnlaaa
