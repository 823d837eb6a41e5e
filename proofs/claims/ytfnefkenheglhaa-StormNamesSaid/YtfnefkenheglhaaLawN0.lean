/- The statement names: the plain values. No condition. -/
import Derived.Test.YtfnefkenheglhaaLawAwake
namespace Go.Proofs.Ytfnefkenheglhaa
open Go.RowKit

theorem nm_ver : verdV (fiveS 3) ⟨0, 0⟩ ⟨0, 3⟩ = 3 ∧ sureE (fiveS 3) (rectB (fiveS 3) ⟨0, 0⟩ ⟨0, 3⟩) = 0 := by decide +kernel
theorem nm_sz1 : (sizesV (fiveS 3) 4 2).lo = 3 ∧ (sizesV (fiveS 3) 4 2).hi = 3 ∧ sureE (fiveS 3) (fineS (fiveS 3) 4 2) = 0 := by decide +kernel
theorem nm_sz2 : (sizesV (fiveS 3) 4 4).lo = 0 ∧ (sizesV (fiveS 3) 4 4).hi = 0 ∧ sureE (fiveS 3) (fineS (fiveS 3) 4 4) = 0 := by decide +kernel
theorem nm_show : (showV (fiveS 3) ⟨0, 0⟩ ⟨0, 3⟩ false).a = 1 ∧ (showV (fiveS 3) ⟨0, 0⟩ ⟨0, 3⟩ false).b = 2 ∧ (showV (fiveS 3) ⟨0, 0⟩ ⟨0, 3⟩ false).half = 1 ∧ (showV (fiveS 3) ⟨0, 0⟩ ⟨0, 3⟩ false).peak = 3 ∧ showE (fiveS 3) ⟨0, 0⟩ ⟨0, 3⟩ false = 0 := by decide +kernel
theorem nm_leave : shortL (leaveF (fiveS 3)) 3 = some [] := by decide +kernel
theorem nm_prove : provedB (fiveS 3) ⟨1, 2, 1, 3⟩ = true ∧ provedB (fiveS 4) ⟨1, 2, 1, 3⟩ = false ∧ provedB (fiveS 3) ⟨1, 3, 1, 3⟩ = false := by decide +kernel
theorem nm_err : sureE (fiveS 4) true = 11 ∧ sureE (fiveS 4) (rectB (fiveS 4) ⟨0, 5⟩ ⟨0, 0⟩) = 2 ∧ showE (fiveS 3) ⟨0, 4⟩ ⟨4, 4⟩ true = 7 ∧ sureE (fiveS 3) (fineS (fiveS 3) 0 5) = 2 ∧ firstE (fiveS 3) = 7 ∧ clashE (fiveS 3) = 7 := by decide +kernel
def nmCard : List Crd := [⟨⟨0, 5⟩, ⟨1, 1⟩, true, ⟨3, 3⟩⟩, ⟨⟨4, 4⟩, ⟨3, 3⟩, true, ⟨2, 3⟩⟩, ⟨⟨2, 2⟩, ⟨3, 3⟩, false, ⟨0, 0⟩⟩]
def nmHail : List Crd := [⟨⟨0, 0⟩, ⟨1, 1⟩, true, ⟨3, 3⟩⟩, ⟨⟨4, 4⟩, ⟨3, 3⟩, true, ⟨2, 3⟩⟩, ⟨⟨2, 2⟩, ⟨3, 3⟩, false, ⟨0, 1⟩⟩]
theorem nm_fault : faultS ⟨13, 5, 1, ⟨0, 4⟩, ⟨0, 4⟩, ⟨1, 1⟩, ⟨3, 3⟩, card4.take 3⟩ = 3 ∧ faultS ⟨5, 4, 1, ⟨0, 4⟩, ⟨0, 4⟩, ⟨1, 1⟩, ⟨3, 3⟩, card4.take 3⟩ = 1 ∧ faultS ⟨1, 5, 1, ⟨0, 4⟩, ⟨0, 4⟩, ⟨1, 1⟩, ⟨3, 3⟩, card4.take 3⟩ = 1
    ∧ faultS ⟨5, 5, 1, ⟨0, 4⟩, ⟨0, 4⟩, ⟨1, 1⟩, ⟨3, 3⟩, nmCard⟩ = 1 ∧ faultS ⟨5, 5, 1, ⟨0, 4⟩, ⟨0, 4⟩, ⟨1, 1⟩, ⟨3, 3⟩, nmHail⟩ = 1 ∧ faultS ⟨5, 5, 1, ⟨0, 4⟩, ⟨0, 4⟩, ⟨1, 1⟩, ⟨0, 3⟩, card4.take 3⟩ = 1
    ∧ faultS ⟨5, 5, 1, ⟨0, 4⟩, ⟨0, 4⟩, ⟨1, 1⟩, ⟨3, 3⟩, List.replicate 7 ⟨⟨0, 0⟩, ⟨0, 0⟩, false, ⟨0, 0⟩⟩⟩ = 3 ∧ faultS ⟨12, 12, 0, ⟨0, 11⟩, ⟨0, 11⟩, ⟨0, 3⟩, ⟨1, 4⟩, []⟩ = 3 ∧ faultS ⟨0, 0, 0, ⟨0, 0⟩, ⟨0, 0⟩, ⟨0, 0⟩, ⟨0, 0⟩, []⟩ = 1 := by decide +kernel
end Go.Proofs.Ytfnefkenheglhaa
