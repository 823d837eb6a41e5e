/- The statements' first examples: the plain values. No condition. -/
import Derived.Test.YtaioobhblfnlaaaD3
import Derived.Test.YtaioobhblfnlaaaP19
import Derived.Test.YtaioobhblfnlaaaP17
namespace Go.Proofs.Ytaioobhblfnlaaa
open Go.RowKit

theorem ok_of {p : Prg} (h1 : p.losses.length ≤ 4 ∧ p.ts.length ≤ 5 ∧ p.reps.length ≤ 5 ∧ prodL p.losses ≤ 1500) (h2 : argsB p = true) : OkP p := by
  obtain ⟨a, b, c, d⟩ := args_iff.1 h2
  exact ⟨h1.1, h1.2.1, h1.2.2.1, a.1, a.2, b, c, d, h1.2.2.2⟩
theorem ok_three (m : Int) (h0 : 0 ≤ m) (h1 : m ≤ 10000) : OkP (threeP m []) := by
  refine ok_of (by show lossT.length ≤ 4 ∧ treT.length ≤ 5 ∧ 0 ≤ 5 ∧ prodL lossT ≤ 1500; decide) ?_
  show (inB m 0 10000 && _) = true
  rw [inB_iff.2 ⟨h0, h1⟩]
  show (true && (lossT.all lossB && (allI treI 0 treT && ([] : List Rep).all (repB treT.length)))) = true
  decide
theorem ok_reps : OkP (threeP 200 twoR) := ok_of (by decide) (by decide)
theorem ex_f (m : Int) (h0 : 0 ≤ m) (h1 : m ≤ 10000) : faultP (threeP m []) = 0 := fault_iff.2 (ok_three m h0 h1)
theorem ex_fr : faultP (threeP 200 twoR) = 0 := fault_iff.2 ok_reps
theorem ex_poss : possO (threeP 200 []) allT [] = true := by decide +kernel
theorem ex_err : errP (threeP 200 []) = 0 := by rw [errP_ok (ex_f 200 (by decide) (by decide)), ex_poss]; rfl
theorem ex_play : playE (threeP 200 []) [100, 300] = 0 ∧ playL (threeP 200 []) [100, 300] = [100, 100, 45] ∧ playN (threeP 200 []) [100, 300] = 200 := by
  have h : playE (threeP 200 []) [100, 300] = 0 := by rw [playE, if_pos (ex_f 200 (by decide) (by decide)), if_pos (by decide +kernel)]
  refine ⟨h, ?_, ?_⟩
  · rw [playL, if_pos h]; decide +kernel
  · rw [playN, if_pos h]; decide +kernel
theorem ex_bp : (bndPays (threeP 200 []) 0).lo = 100 ∧ (bndPays (threeP 200 []) 0).hi = 105 ∧ (bndKeeps (threeP 200 []) 0).lo = 55 ∧ (bndKeeps (threeP 200 []) 0).hi = 55 := by decide +kernel
theorem ex_bq : (bndPays (threeP 200 []) 2).lo = 45 ∧ (bndPays (threeP 200 []) 2).hi = 50 ∧ (bndKeeps (threeP 200 []) 2).lo = 45 ∧ (bndKeeps (threeP 200 []) 2).hi = 50 := by decide +kernel
theorem ex_bnds : bndsP (threeP 200 []) = bndsTo (threeP 200 []) 3 := by rw [bndsP, if_pos ex_err]; rfl
theorem ex_net : (netP (threeP 200 [])).lo = 200 ∧ (netP (threeP 200 [])).hi = 215 := by
  rw [netP, if_pos (ex_f 200 (by decide) (by decide))]; decide +kernel
theorem ex_kept : keptE (threeP 200 []) [1] = 0 ∧ (keptV (threeP 200 []) [1]).lo = 300 ∧ (keptV (threeP 200 []) [1]).hi = 320 := by
  have h : keptE (threeP 200 []) [1] = 0 := by rw [keptE, if_pos (ex_f 200 (by decide) (by decide)), if_pos (by decide +kernel)]
  refine ⟨h, ?_⟩
  rw [keptV, if_pos h]; decide +kernel
theorem ex_cheap : cheapP (threeP 300 []) = some [0, 1] := by decide +kernel
theorem ex_ch : chO (threeP 300 []) = some [0, 1] ∧ chV (threeP 300 []) = [0, 1] ∧ chE (threeP 300 []) = 0 ∧ prO (threeP 300 []).ts (chO (threeP 300 [])) = 80 := by
  have h := ex_f 300 (by decide) (by decide)
  have h2 : chO (threeP 300 []) = some [0, 1] := by rw [chO, if_pos h, ex_cheap]
  refine ⟨h2, ?_, ?_, ?_⟩
  · rw [chV, h2]; rfl
  · rw [chE, if_pos h, ex_cheap]; rfl
  · rw [h2]; decide +kernel
theorem ex_prove : proveB (threeP 300 []) [0, 1] 80 = true := by
  rw [proveB, Bool.and_eq_true]
  exact ⟨decide_eq_true (ex_f 300 (by decide) (by decide)), by decide +kernel⟩
theorem ex_first : firstV (threeP 200 twoR) = 1 ∧ firstE (threeP 200 twoR) = 0 := by
  have h : firstP (threeP 200 twoR) = 1 := by decide +kernel
  constructor
  · rw [firstV, if_pos ex_fr, h]; rfl
  · rw [firstE, if_pos ex_fr, h]; rfl
theorem ex_leave : leaveV (threeP 200 twoR) = [0] := by
  rw [leaveV, if_pos ex_fr]; decide +kernel
end Go.Proofs.Ytaioobhblfnlaaa
