/- The statements' first examples: the plain values. No condition. -/
import Derived.Test.YtfnefkenheglhaaP19
import Derived.Test.YtfnefkenheglhaaA12
import Derived.Test.YtfnefkenheglhaaP17
import Derived.Test.YtfnefkenheglhaaP14
import Derived.Test.YtfnefkenheglhaaP11
namespace Go.Proofs.Ytfnefkenheglhaa
open Go.RowKit

/-- The chapter's storm, with some of its cards. -/
def card4 : List Crd := [⟨⟨0, 0⟩, ⟨1, 1⟩, true, ⟨3, 3⟩⟩, ⟨⟨4, 4⟩, ⟨3, 3⟩, true, ⟨2, 3⟩⟩, ⟨⟨2, 2⟩, ⟨3, 3⟩, false, ⟨0, 0⟩⟩, ⟨⟨2, 2⟩, ⟨2, 2⟩, false, ⟨0, 0⟩⟩]
def fiveS (k : Nat) : Sto := ⟨5, 5, 1, ⟨0, 4⟩, ⟨0, 4⟩, ⟨1, 1⟩, ⟨3, 3⟩, card4.take k⟩
theorem ex_fault : faultS (fiveS 2) = 0 ∧ faultS (fiveS 3) = 0 ∧ faultS (fiveS 4) = 0 := by decide +kernel
theorem ex_sure : sureE (fiveS 2) true = 0 ∧ sureE (fiveS 3) true = 0 ∧ sureE (fiveS 4) true = 11 := by decide +kernel
theorem ex_bnd : (boundS (fiveS 3)).a.lo = 1 ∧ (boundS (fiveS 3)).a.hi = 1 ∧ (boundS (fiveS 3)).b.lo = 2 ∧ (boundS (fiveS 3)).b.hi = 2 ∧ (boundS (fiveS 3)).half.lo = 1 ∧ (boundS (fiveS 3)).half.hi = 1 ∧ (boundS (fiveS 3)).peak.lo = 3 ∧ (boundS (fiveS 3)).peak.hi = 3 ∧ (boundS (fiveS 3)).cards.length = 3 := by decide +kernel
theorem ex_ver1 : verdV (fiveS 3) ⟨0, 1⟩ ⟨1, 1⟩ = 1 ∧ sureE (fiveS 3) (rectB (fiveS 3) ⟨0, 1⟩ ⟨1, 1⟩) = 0 := by decide +kernel
theorem ex_ver2 : verdV (fiveS 3) ⟨0, 4⟩ ⟨4, 4⟩ = 2 ∧ sureE (fiveS 3) (rectB (fiveS 3) ⟨0, 4⟩ ⟨4, 4⟩) = 0 := by decide +kernel
theorem ex_sizes : (sizesV (fiveS 3) 4 3).lo = 2 ∧ (sizesV (fiveS 3) 4 3).hi = 2 ∧ sureE (fiveS 3) (fineS (fiveS 3) 4 3) = 0 := by decide +kernel
theorem ex_first : firstV (fiveS 4) = 3 ∧ firstE (fiveS 4) = 0 := by decide +kernel
theorem ex_leave : shortL (leaveF (fiveS 4)) 4 = some [1] := by decide +kernel
theorem ex_clash : shortL (clashF (fiveS 4)) 4 = some [0, 1, 3] ∧ clashE (fiveS 4) = 0 := by decide +kernel
theorem ex_best : (bestV (fiveS 2)).1 = 2 ∧ (bestV (fiveS 2)).2.1 = 1 ∧ (bestV (fiveS 2)).2.2 = 2 := by decide +kernel
end Go.Proofs.Ytfnefkenheglhaa
