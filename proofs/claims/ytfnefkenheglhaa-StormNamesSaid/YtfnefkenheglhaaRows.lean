/-
  No cell of these rows narrows 'for every input' (looked for: loops, veiled, ifaces, maps, wideKeys, modest, calm, conditions, laid).
  DERIVED. THE GIVEN ROWS OF THIS SEAT. 14 by the template 'for every input the law returns true; each argument reads behind the call as it read before'; 0 by the template 'total and deterministic' (their statements: YtfnefkenheglhaaTotals.lean).
  GIVEN WITH THE SEED: the statements are not yours to turn. If you find one false, say at which input.
  Laid BY PROGRAM, IN A SANDBOX (cutbox-rows.mjs): the forced cells as the released guide's own fill.sh prints them over the translation 5ac95e04c31fadef… (all of the seat's roots in one cut). By AI agents, Wed Nov 11 2026. No macro, syntax, notation, axiom, sorry.
-/
import Derived.Test.YtfnefkenheglhaaChecked
import GoSem.Claim
import GoSem.ClaimJoined
import GoSem.ClaimMapViews
import Derived.JoinedTies
import Derived.KernelRfl
namespace Go.Proofs.Ytfnefkenheglhaa
/- THE CELL 'sum', in the pinned program and in every row, IS THE sha256 OF THE DUMP (.gsa) THAT YtfnefkenheglhaaProg.lean LOADS. Nothing in Lean hashes anything: it is a label: what it is worth is what the hold of that sum in a sandbox is worth. -/
noncomputable def Try.pinned : Pinned := { name := "ytfnefkenheglhaa", sum := "5ac95e04c31fadef7cd967b34062d4b3ba12971922f2b1fd079f4552453e4642", checked := Try.checked }
namespace Rows
def none {H : Type} : Left H := { results := [], args := [] }

/-- 'hailstonelaw02.StormSizes': WHATEVER THE INPUT: true; the input reads as it did. -/
def stormSizesSpec : ChangeSpec := { name := "stormSizes", fn := fun _ => fun
  | [d1, d2, d3] => { results := [.lit (.bool true)], args := [d1, d2, d3] }
  | _ => none }
def stormSizesRow : OpenClaim := { program := "ytfnefkenheglhaa", sum := "5ac95e04c31fadef7cd967b34062d4b3ba12971922f2b1fd079f4552453e4642", func := "hailstone/hailstonelaw02.StormSizes", spec := "stormSizes", unfollowed := true, recurses := true, plainKeys := false, apart := false }
def StormSizesSaid : Prop := stormSizesRow.holds Try.pinned (OpenSpec.ofChange stormSizesSpec)

/-- ITS FALSE NEIGHBOUR: 'it returns false'. Refute it at one input. -/
def stormSizesWrong : ChangeSpec := { name := "stormSizes", fn := fun _ => fun
  | [d1, d2, d3] => { results := [.lit (.bool false)], args := [d1, d2, d3] }
  | _ => none }
def StormSizesWrongFalsely : Prop := stormSizesRow.holds Try.pinned (OpenSpec.ofChange stormSizesWrong)

/-- 'hailstonelaw02.StormLeaves': WHATEVER THE INPUT: true; the input reads as it did. -/
def stormLeavesSpec : ChangeSpec := { name := "stormLeaves", fn := fun _ => fun
  | [d] => { results := [.lit (.bool true)], args := [d] }
  | _ => none }
def stormLeavesRow : OpenClaim := { program := "ytfnefkenheglhaa", sum := "5ac95e04c31fadef7cd967b34062d4b3ba12971922f2b1fd079f4552453e4642", func := "hailstone/hailstonelaw02.StormLeaves", spec := "stormLeaves", unfollowed := true, recurses := true, plainKeys := false, apart := false }
def StormLeavesSaid : Prop := stormLeavesRow.holds Try.pinned (OpenSpec.ofChange stormLeavesSpec)

/-- ITS FALSE NEIGHBOUR: 'it returns false'. Refute it at one input. -/
def stormLeavesWrong : ChangeSpec := { name := "stormLeaves", fn := fun _ => fun
  | [d] => { results := [.lit (.bool false)], args := [d] }
  | _ => none }
def StormLeavesWrongFalsely : Prop := stormLeavesRow.holds Try.pinned (OpenSpec.ofChange stormLeavesWrong)

/-- 'hailstonelaw02.StormMore': WHATEVER THE INPUT: true; the input reads as it did. -/
def stormMoreSpec : ChangeSpec := { name := "stormMore", fn := fun _ => fun
  | [d1, d2, d3] => { results := [.lit (.bool true)], args := [d1, d2, d3] }
  | _ => none }
def stormMoreRow : OpenClaim := { program := "ytfnefkenheglhaa", sum := "5ac95e04c31fadef7cd967b34062d4b3ba12971922f2b1fd079f4552453e4642", func := "hailstone/hailstonelaw02.StormMore", spec := "stormMore", unfollowed := true, recurses := true, plainKeys := false, apart := false }
def StormMoreSaid : Prop := stormMoreRow.holds Try.pinned (OpenSpec.ofChange stormMoreSpec)

/-- ITS FALSE NEIGHBOUR: 'it returns false'. Refute it at one input. -/
def stormMoreWrong : ChangeSpec := { name := "stormMore", fn := fun _ => fun
  | [d1, d2, d3] => { results := [.lit (.bool false)], args := [d1, d2, d3] }
  | _ => none }
def StormMoreWrongFalsely : Prop := stormMoreRow.holds Try.pinned (OpenSpec.ofChange stormMoreWrong)

/-- 'hailstonelaw02.StormWider': WHATEVER THE INPUT: true; the input reads as it did. -/
def stormWiderSpec : ChangeSpec := { name := "stormWider", fn := fun _ => fun
  | [d1, d2, d3, d4] => { results := [.lit (.bool true)], args := [d1, d2, d3, d4] }
  | _ => none }
def stormWiderRow : OpenClaim := { program := "ytfnefkenheglhaa", sum := "5ac95e04c31fadef7cd967b34062d4b3ba12971922f2b1fd079f4552453e4642", func := "hailstone/hailstonelaw02.StormWider", spec := "stormWider", unfollowed := true, recurses := true, plainKeys := false, apart := false }
def StormWiderSaid : Prop := stormWiderRow.holds Try.pinned (OpenSpec.ofChange stormWiderSpec)

/-- ITS FALSE NEIGHBOUR: 'it returns false'. Refute it at one input. -/
def stormWiderWrong : ChangeSpec := { name := "stormWider", fn := fun _ => fun
  | [d1, d2, d3, d4] => { results := [.lit (.bool false)], args := [d1, d2, d3, d4] }
  | _ => none }
def StormWiderWrongFalsely : Prop := stormWiderRow.holds Try.pinned (OpenSpec.ofChange stormWiderWrong)

/-- 'hailstonelaw02.StormFirst': WHATEVER THE INPUT: true; the input reads as it did. -/
def stormFirstSpec : ChangeSpec := { name := "stormFirst", fn := fun _ => fun
  | [d] => { results := [.lit (.bool true)], args := [d] }
  | _ => none }
def stormFirstRow : OpenClaim := { program := "ytfnefkenheglhaa", sum := "5ac95e04c31fadef7cd967b34062d4b3ba12971922f2b1fd079f4552453e4642", func := "hailstone/hailstonelaw02.StormFirst", spec := "stormFirst", unfollowed := true, recurses := true, plainKeys := false, apart := false }
def StormFirstSaid : Prop := stormFirstRow.holds Try.pinned (OpenSpec.ofChange stormFirstSpec)

/-- ITS FALSE NEIGHBOUR: 'it returns false'. Refute it at one input. -/
def stormFirstWrong : ChangeSpec := { name := "stormFirst", fn := fun _ => fun
  | [d] => { results := [.lit (.bool false)], args := [d] }
  | _ => none }
def StormFirstWrongFalsely : Prop := stormFirstRow.holds Try.pinned (OpenSpec.ofChange stormFirstWrong)

/-- 'hailstonelaw02.StormClashes': WHATEVER THE INPUT: true; the input reads as it did. -/
def stormClashesSpec : ChangeSpec := { name := "stormClashes", fn := fun _ => fun
  | [d1, d2] => { results := [.lit (.bool true)], args := [d1, d2] }
  | _ => none }
def stormClashesRow : OpenClaim := { program := "ytfnefkenheglhaa", sum := "5ac95e04c31fadef7cd967b34062d4b3ba12971922f2b1fd079f4552453e4642", func := "hailstone/hailstonelaw02.StormClashes", spec := "stormClashes", unfollowed := true, recurses := true, plainKeys := false, apart := false }
def StormClashesSaid : Prop := stormClashesRow.holds Try.pinned (OpenSpec.ofChange stormClashesSpec)

/-- ITS FALSE NEIGHBOUR: 'it returns false'. Refute it at one input. -/
def stormClashesWrong : ChangeSpec := { name := "stormClashes", fn := fun _ => fun
  | [d1, d2] => { results := [.lit (.bool false)], args := [d1, d2] }
  | _ => none }
def StormClashesWrongFalsely : Prop := stormClashesRow.holds Try.pinned (OpenSpec.ofChange stormClashesWrong)

/-- 'hailstonelaw02.StormLeft': WHATEVER THE INPUT: true; the input reads as it did. -/
def stormLeftSpec : ChangeSpec := { name := "stormLeft", fn := fun _ => fun
  | [d1, d2] => { results := [.lit (.bool true)], args := [d1, d2] }
  | _ => none }
def stormLeftRow : OpenClaim := { program := "ytfnefkenheglhaa", sum := "5ac95e04c31fadef7cd967b34062d4b3ba12971922f2b1fd079f4552453e4642", func := "hailstone/hailstonelaw02.StormLeft", spec := "stormLeft", unfollowed := true, recurses := true, plainKeys := false, apart := false }
def StormLeftSaid : Prop := stormLeftRow.holds Try.pinned (OpenSpec.ofChange stormLeftSpec)

/-- ITS FALSE NEIGHBOUR: 'it returns false'. Refute it at one input. -/
def stormLeftWrong : ChangeSpec := { name := "stormLeft", fn := fun _ => fun
  | [d1, d2] => { results := [.lit (.bool false)], args := [d1, d2] }
  | _ => none }
def StormLeftWrongFalsely : Prop := stormLeftRow.holds Try.pinned (OpenSpec.ofChange stormLeftWrong)

/-- 'hailstonelaw02.StormParts': WHATEVER THE INPUT: true; the input reads as it did. -/
def stormPartsSpec : ChangeSpec := { name := "stormParts", fn := fun _ => fun
  | [d1, d2, d3] => { results := [.lit (.bool true)], args := [d1, d2, d3] }
  | _ => none }
def stormPartsRow : OpenClaim := { program := "ytfnefkenheglhaa", sum := "5ac95e04c31fadef7cd967b34062d4b3ba12971922f2b1fd079f4552453e4642", func := "hailstone/hailstonelaw02.StormParts", spec := "stormParts", unfollowed := true, recurses := true, plainKeys := false, apart := false }
def StormPartsSaid : Prop := stormPartsRow.holds Try.pinned (OpenSpec.ofChange stormPartsSpec)

/-- ITS FALSE NEIGHBOUR: 'it returns false'. Refute it at one input. -/
def stormPartsWrong : ChangeSpec := { name := "stormParts", fn := fun _ => fun
  | [d1, d2, d3] => { results := [.lit (.bool false)], args := [d1, d2, d3] }
  | _ => none }
def StormPartsWrongFalsely : Prop := stormPartsRow.holds Try.pinned (OpenSpec.ofChange stormPartsWrong)

/-- 'hailstonelaw02.StormBest': WHATEVER THE INPUT: true; the input reads as it did. -/
def stormBestSpec : ChangeSpec := { name := "stormBest", fn := fun _ => fun
  | [d1, d2] => { results := [.lit (.bool true)], args := [d1, d2] }
  | _ => none }
def stormBestRow : OpenClaim := { program := "ytfnefkenheglhaa", sum := "5ac95e04c31fadef7cd967b34062d4b3ba12971922f2b1fd079f4552453e4642", func := "hailstone/hailstonelaw02.StormBest", spec := "stormBest", unfollowed := true, recurses := true, plainKeys := false, apart := false }
def StormBestSaid : Prop := stormBestRow.holds Try.pinned (OpenSpec.ofChange stormBestSpec)

/-- ITS FALSE NEIGHBOUR: 'it returns false'. Refute it at one input. -/
def stormBestWrong : ChangeSpec := { name := "stormBest", fn := fun _ => fun
  | [d1, d2] => { results := [.lit (.bool false)], args := [d1, d2] }
  | _ => none }
def StormBestWrongFalsely : Prop := stormBestRow.holds Try.pinned (OpenSpec.ofChange stormBestWrong)

/-- 'hailstonelaw02.StormMirror': WHATEVER THE INPUT: true; the input reads as it did. -/
def stormMirrorSpec : ChangeSpec := { name := "stormMirror", fn := fun _ => fun
  | [d1, d2] => { results := [.lit (.bool true)], args := [d1, d2] }
  | _ => none }
def stormMirrorRow : OpenClaim := { program := "ytfnefkenheglhaa", sum := "5ac95e04c31fadef7cd967b34062d4b3ba12971922f2b1fd079f4552453e4642", func := "hailstone/hailstonelaw02.StormMirror", spec := "stormMirror", unfollowed := true, recurses := true, plainKeys := false, apart := false }
def StormMirrorSaid : Prop := stormMirrorRow.holds Try.pinned (OpenSpec.ofChange stormMirrorSpec)

/-- ITS FALSE NEIGHBOUR: 'it returns false'. Refute it at one input. -/
def stormMirrorWrong : ChangeSpec := { name := "stormMirror", fn := fun _ => fun
  | [d1, d2] => { results := [.lit (.bool false)], args := [d1, d2] }
  | _ => none }
def StormMirrorWrongFalsely : Prop := stormMirrorRow.holds Try.pinned (OpenSpec.ofChange stormMirrorWrong)

/-- 'hailstonelaw02.StormBounds': WHATEVER THE INPUT: true; the input reads as it did. -/
def stormBoundsSpec : ChangeSpec := { name := "stormBounds", fn := fun _ => fun
  | [d1, d2] => { results := [.lit (.bool true)], args := [d1, d2] }
  | _ => none }
def stormBoundsRow : OpenClaim := { program := "ytfnefkenheglhaa", sum := "5ac95e04c31fadef7cd967b34062d4b3ba12971922f2b1fd079f4552453e4642", func := "hailstone/hailstonelaw02.StormBounds", spec := "stormBounds", unfollowed := true, recurses := true, plainKeys := false, apart := false }
def StormBoundsSaid : Prop := stormBoundsRow.holds Try.pinned (OpenSpec.ofChange stormBoundsSpec)

/-- ITS FALSE NEIGHBOUR: 'it returns false'. Refute it at one input. -/
def stormBoundsWrong : ChangeSpec := { name := "stormBounds", fn := fun _ => fun
  | [d1, d2] => { results := [.lit (.bool false)], args := [d1, d2] }
  | _ => none }
def StormBoundsWrongFalsely : Prop := stormBoundsRow.holds Try.pinned (OpenSpec.ofChange stormBoundsWrong)

/-- 'hailstonelaw02.StormTruth': WHATEVER THE INPUT: true; the input reads as it did. -/
def stormTruthSpec : ChangeSpec := { name := "stormTruth", fn := fun _ => fun
  | [d1, d2, d3, d4] => { results := [.lit (.bool true)], args := [d1, d2, d3, d4] }
  | _ => none }
def stormTruthRow : OpenClaim := { program := "ytfnefkenheglhaa", sum := "5ac95e04c31fadef7cd967b34062d4b3ba12971922f2b1fd079f4552453e4642", func := "hailstone/hailstonelaw02.StormTruth", spec := "stormTruth", unfollowed := true, recurses := true, plainKeys := false, apart := false }
def StormTruthSaid : Prop := stormTruthRow.holds Try.pinned (OpenSpec.ofChange stormTruthSpec)

/-- ITS FALSE NEIGHBOUR: 'it returns false'. Refute it at one input. -/
def stormTruthWrong : ChangeSpec := { name := "stormTruth", fn := fun _ => fun
  | [d1, d2, d3, d4] => { results := [.lit (.bool false)], args := [d1, d2, d3, d4] }
  | _ => none }
def StormTruthWrongFalsely : Prop := stormTruthRow.holds Try.pinned (OpenSpec.ofChange stormTruthWrong)

/-- 'hailstonelaw02.StormVerdicts': WHATEVER THE INPUT: true; the input reads as it did. -/
def stormVerdictsSpec : ChangeSpec := { name := "stormVerdicts", fn := fun _ => fun
  | [d1, d2, d3] => { results := [.lit (.bool true)], args := [d1, d2, d3] }
  | _ => none }
def stormVerdictsRow : OpenClaim := { program := "ytfnefkenheglhaa", sum := "5ac95e04c31fadef7cd967b34062d4b3ba12971922f2b1fd079f4552453e4642", func := "hailstone/hailstonelaw02.StormVerdicts", spec := "stormVerdicts", unfollowed := true, recurses := true, plainKeys := false, apart := false }
def StormVerdictsSaid : Prop := stormVerdictsRow.holds Try.pinned (OpenSpec.ofChange stormVerdictsSpec)

/-- ITS FALSE NEIGHBOUR: 'it returns false'. Refute it at one input. -/
def stormVerdictsWrong : ChangeSpec := { name := "stormVerdicts", fn := fun _ => fun
  | [d1, d2, d3] => { results := [.lit (.bool false)], args := [d1, d2, d3] }
  | _ => none }
def StormVerdictsWrongFalsely : Prop := stormVerdictsRow.holds Try.pinned (OpenSpec.ofChange stormVerdictsWrong)

/-- 'hailstonelaw02.StormNames': WHATEVER THE INPUT: true; the input reads as it did. -/
def stormNamesSpec : ChangeSpec := { name := "stormNames", fn := fun _ => fun
  | [] => { results := [.lit (.bool true)], args := [] }
  | _ => none }
def stormNamesRow : OpenClaim := { program := "ytfnefkenheglhaa", sum := "5ac95e04c31fadef7cd967b34062d4b3ba12971922f2b1fd079f4552453e4642", func := "hailstone/hailstonelaw02.StormNames", spec := "stormNames", unfollowed := true, recurses := true, plainKeys := false, apart := false }
def StormNamesSaid : Prop := stormNamesRow.holds Try.pinned (OpenSpec.ofChange stormNamesSpec)

/-- ITS FALSE NEIGHBOUR: 'it returns false'. Refute it at one input. -/
def stormNamesWrong : ChangeSpec := { name := "stormNames", fn := fun _ => fun
  | [] => { results := [.lit (.bool false)], args := [] }
  | _ => none }
def StormNamesWrongFalsely : Prop := stormNamesRow.holds Try.pinned (OpenSpec.ofChange stormNamesWrong)

/- THE SECOND FORM. 'bulk': how many values and letters a reading holds, each counted each time it is reached (what is shared counts as often as it is met; a slice's spare places count too). A statement '..UptoSaid' is the law's where the arguments, and the package variables that the reading takes, are together of bulk at most 1048576: NARROWER than '..Said'. Prove '..Said' where nothing that the law and all that it calls make is longer than what came in: it says more and counts as full. Else prove '..UptoSaid'. A law counts once. -/
mutual
def uptoBulk {H : Type} : DataW H → Nat
  | .lit (.string bytes) => bytes.length + 1
  | .lit _ => 1
  | .nil => 1
  | .ptr d => uptoBulk d + 1
  | .slice elems spare => uptoBulkAll elems + uptoBulkAll spare + 1
  | .agg parts => uptoBulkAll parts + 1
  | .iface _ d => uptoBulk d + 1
  | .map entries => uptoBulkEntries entries + 1
  | .held _ => 1
def uptoBulkAll {H : Type} : List (DataW H) → Nat
  | [] => 0
  | d :: r => uptoBulk d + uptoBulkAll r
def uptoBulkEntries {H : Type} : List (Lit × DataW H) → Nat
  | [] => 0
  | x :: r => uptoBulkEntry x + uptoBulkEntries r
def uptoBulkEntry {H : Type} : Lit × DataW H → Nat
  | (.string bytes, d) => bytes.length + uptoBulk d + 1
  | (_, d) => uptoBulk d + 1
 end
def uptoSmall : (H : Type) → List (DataW H) → Bool := fun _ ds => decide (uptoBulkAll ds ≤ 1048576)
def OpenSpec.upto (s : _root_.Go.ChangeSpec) : _root_.Go.OpenSpec := { _root_.Go.OpenSpec.ofChange s with cond := some uptoSmall }

/-- 'hailstonelaw02.StormSizes', WHERE WHAT IT READS IS OF BULK AT MOST 1048576: true; the input reads as it did. -/
def stormSizesUptoRow : OpenClaim := { program := "ytfnefkenheglhaa", sum := "5ac95e04c31fadef7cd967b34062d4b3ba12971922f2b1fd079f4552453e4642", func := "hailstone/hailstonelaw02.StormSizes", spec := "stormSizes", unfollowed := true, recurses := true, plainKeys := false, apart := false, narrowed := true }
def StormSizesUptoSaid : Prop := stormSizesUptoRow.holds Try.pinned (OpenSpec.upto stormSizesSpec)

/-- 'hailstonelaw02.StormLeaves', WHERE WHAT IT READS IS OF BULK AT MOST 1048576: true; the input reads as it did. -/
def stormLeavesUptoRow : OpenClaim := { program := "ytfnefkenheglhaa", sum := "5ac95e04c31fadef7cd967b34062d4b3ba12971922f2b1fd079f4552453e4642", func := "hailstone/hailstonelaw02.StormLeaves", spec := "stormLeaves", unfollowed := true, recurses := true, plainKeys := false, apart := false, narrowed := true }
def StormLeavesUptoSaid : Prop := stormLeavesUptoRow.holds Try.pinned (OpenSpec.upto stormLeavesSpec)

/-- 'hailstonelaw02.StormMore', WHERE WHAT IT READS IS OF BULK AT MOST 1048576: true; the input reads as it did. -/
def stormMoreUptoRow : OpenClaim := { program := "ytfnefkenheglhaa", sum := "5ac95e04c31fadef7cd967b34062d4b3ba12971922f2b1fd079f4552453e4642", func := "hailstone/hailstonelaw02.StormMore", spec := "stormMore", unfollowed := true, recurses := true, plainKeys := false, apart := false, narrowed := true }
def StormMoreUptoSaid : Prop := stormMoreUptoRow.holds Try.pinned (OpenSpec.upto stormMoreSpec)

/-- 'hailstonelaw02.StormWider', WHERE WHAT IT READS IS OF BULK AT MOST 1048576: true; the input reads as it did. -/
def stormWiderUptoRow : OpenClaim := { program := "ytfnefkenheglhaa", sum := "5ac95e04c31fadef7cd967b34062d4b3ba12971922f2b1fd079f4552453e4642", func := "hailstone/hailstonelaw02.StormWider", spec := "stormWider", unfollowed := true, recurses := true, plainKeys := false, apart := false, narrowed := true }
def StormWiderUptoSaid : Prop := stormWiderUptoRow.holds Try.pinned (OpenSpec.upto stormWiderSpec)

/-- 'hailstonelaw02.StormFirst', WHERE WHAT IT READS IS OF BULK AT MOST 1048576: true; the input reads as it did. -/
def stormFirstUptoRow : OpenClaim := { program := "ytfnefkenheglhaa", sum := "5ac95e04c31fadef7cd967b34062d4b3ba12971922f2b1fd079f4552453e4642", func := "hailstone/hailstonelaw02.StormFirst", spec := "stormFirst", unfollowed := true, recurses := true, plainKeys := false, apart := false, narrowed := true }
def StormFirstUptoSaid : Prop := stormFirstUptoRow.holds Try.pinned (OpenSpec.upto stormFirstSpec)

/-- 'hailstonelaw02.StormClashes', WHERE WHAT IT READS IS OF BULK AT MOST 1048576: true; the input reads as it did. -/
def stormClashesUptoRow : OpenClaim := { program := "ytfnefkenheglhaa", sum := "5ac95e04c31fadef7cd967b34062d4b3ba12971922f2b1fd079f4552453e4642", func := "hailstone/hailstonelaw02.StormClashes", spec := "stormClashes", unfollowed := true, recurses := true, plainKeys := false, apart := false, narrowed := true }
def StormClashesUptoSaid : Prop := stormClashesUptoRow.holds Try.pinned (OpenSpec.upto stormClashesSpec)

/-- 'hailstonelaw02.StormLeft', WHERE WHAT IT READS IS OF BULK AT MOST 1048576: true; the input reads as it did. -/
def stormLeftUptoRow : OpenClaim := { program := "ytfnefkenheglhaa", sum := "5ac95e04c31fadef7cd967b34062d4b3ba12971922f2b1fd079f4552453e4642", func := "hailstone/hailstonelaw02.StormLeft", spec := "stormLeft", unfollowed := true, recurses := true, plainKeys := false, apart := false, narrowed := true }
def StormLeftUptoSaid : Prop := stormLeftUptoRow.holds Try.pinned (OpenSpec.upto stormLeftSpec)

/-- 'hailstonelaw02.StormParts', WHERE WHAT IT READS IS OF BULK AT MOST 1048576: true; the input reads as it did. -/
def stormPartsUptoRow : OpenClaim := { program := "ytfnefkenheglhaa", sum := "5ac95e04c31fadef7cd967b34062d4b3ba12971922f2b1fd079f4552453e4642", func := "hailstone/hailstonelaw02.StormParts", spec := "stormParts", unfollowed := true, recurses := true, plainKeys := false, apart := false, narrowed := true }
def StormPartsUptoSaid : Prop := stormPartsUptoRow.holds Try.pinned (OpenSpec.upto stormPartsSpec)

/-- 'hailstonelaw02.StormBest', WHERE WHAT IT READS IS OF BULK AT MOST 1048576: true; the input reads as it did. -/
def stormBestUptoRow : OpenClaim := { program := "ytfnefkenheglhaa", sum := "5ac95e04c31fadef7cd967b34062d4b3ba12971922f2b1fd079f4552453e4642", func := "hailstone/hailstonelaw02.StormBest", spec := "stormBest", unfollowed := true, recurses := true, plainKeys := false, apart := false, narrowed := true }
def StormBestUptoSaid : Prop := stormBestUptoRow.holds Try.pinned (OpenSpec.upto stormBestSpec)

/-- 'hailstonelaw02.StormMirror', WHERE WHAT IT READS IS OF BULK AT MOST 1048576: true; the input reads as it did. -/
def stormMirrorUptoRow : OpenClaim := { program := "ytfnefkenheglhaa", sum := "5ac95e04c31fadef7cd967b34062d4b3ba12971922f2b1fd079f4552453e4642", func := "hailstone/hailstonelaw02.StormMirror", spec := "stormMirror", unfollowed := true, recurses := true, plainKeys := false, apart := false, narrowed := true }
def StormMirrorUptoSaid : Prop := stormMirrorUptoRow.holds Try.pinned (OpenSpec.upto stormMirrorSpec)

/-- 'hailstonelaw02.StormBounds', WHERE WHAT IT READS IS OF BULK AT MOST 1048576: true; the input reads as it did. -/
def stormBoundsUptoRow : OpenClaim := { program := "ytfnefkenheglhaa", sum := "5ac95e04c31fadef7cd967b34062d4b3ba12971922f2b1fd079f4552453e4642", func := "hailstone/hailstonelaw02.StormBounds", spec := "stormBounds", unfollowed := true, recurses := true, plainKeys := false, apart := false, narrowed := true }
def StormBoundsUptoSaid : Prop := stormBoundsUptoRow.holds Try.pinned (OpenSpec.upto stormBoundsSpec)

/-- 'hailstonelaw02.StormTruth', WHERE WHAT IT READS IS OF BULK AT MOST 1048576: true; the input reads as it did. -/
def stormTruthUptoRow : OpenClaim := { program := "ytfnefkenheglhaa", sum := "5ac95e04c31fadef7cd967b34062d4b3ba12971922f2b1fd079f4552453e4642", func := "hailstone/hailstonelaw02.StormTruth", spec := "stormTruth", unfollowed := true, recurses := true, plainKeys := false, apart := false, narrowed := true }
def StormTruthUptoSaid : Prop := stormTruthUptoRow.holds Try.pinned (OpenSpec.upto stormTruthSpec)

/-- 'hailstonelaw02.StormVerdicts', WHERE WHAT IT READS IS OF BULK AT MOST 1048576: true; the input reads as it did. -/
def stormVerdictsUptoRow : OpenClaim := { program := "ytfnefkenheglhaa", sum := "5ac95e04c31fadef7cd967b34062d4b3ba12971922f2b1fd079f4552453e4642", func := "hailstone/hailstonelaw02.StormVerdicts", spec := "stormVerdicts", unfollowed := true, recurses := true, plainKeys := false, apart := false, narrowed := true }
def StormVerdictsUptoSaid : Prop := stormVerdictsUptoRow.holds Try.pinned (OpenSpec.upto stormVerdictsSpec)

/-- 'hailstonelaw02.StormNames', WHERE WHAT IT READS IS OF BULK AT MOST 1048576: true; the input reads as it did. -/
def stormNamesUptoRow : OpenClaim := { program := "ytfnefkenheglhaa", sum := "5ac95e04c31fadef7cd967b34062d4b3ba12971922f2b1fd079f4552453e4642", func := "hailstone/hailstonelaw02.StormNames", spec := "stormNames", unfollowed := true, recurses := true, plainKeys := false, apart := false, narrowed := true }
def StormNamesUptoSaid : Prop := stormNamesUptoRow.holds Try.pinned (OpenSpec.upto stormNamesSpec)

end Rows
end Go.Proofs.Ytfnefkenheglhaa
