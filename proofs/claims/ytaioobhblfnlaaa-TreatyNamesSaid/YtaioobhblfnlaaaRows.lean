/-
  No cell of these rows narrows 'for every input' (looked for: loops, veiled, ifaces, maps, wideKeys, modest, calm, conditions, laid).
  DERIVED. THE GIVEN ROWS OF THIS SEAT. 15 by the template 'for every input the law returns true; each argument reads behind the call as it read before'; 0 by the template 'total and deterministic' (their statements: YtaioobhblfnlaaaTotals.lean).
  GIVEN WITH THE SEED: the statements are not yours to turn. If you find one false, say at which input.
  Laid BY PROGRAM, IN A SANDBOX (cutbox-rows.mjs): the forced cells as the released guide's own fill.sh prints them over the translation b66c5d5bc41f6bb8… (all of the seat's roots in one cut). By AI agents, Wed Nov 11 2026. No macro, syntax, notation, axiom, sorry.
-/
import Derived.Test.YtaioobhblfnlaaaChecked
import GoSem.Claim
import GoSem.ClaimJoined
import GoSem.ClaimMapViews
import Derived.JoinedTies
import Derived.KernelRfl
namespace Go.Proofs.Ytaioobhblfnlaaa
/- THE CELL 'sum', in the pinned program and in every row, IS THE sha256 OF THE DUMP (.gsa) THAT YtaioobhblfnlaaaProg.lean LOADS. Nothing in Lean hashes anything: it is a label: what it is worth is what the hold of that sum in a sandbox is worth. -/
noncomputable def Try.pinned : Pinned := { name := "ytaioobhblfnlaaa", sum := "b66c5d5bc41f6bb8e1cac3c37a604c1ffcbf012453b37f77eaedfe7c76dba646", checked := Try.checked }
namespace Rows
def none {H : Type} : Left H := { results := [], args := [] }

/-- 'hailstonelaw10.TreatyPlays': WHATEVER THE INPUT: true; the input reads as it did. -/
def treatyPlaysSpec : ChangeSpec := { name := "treatyPlays", fn := fun _ => fun
  | [d1, d2] => { results := [.lit (.bool true)], args := [d1, d2] }
  | _ => none }
def treatyPlaysRow : OpenClaim := { program := "ytaioobhblfnlaaa", sum := "b66c5d5bc41f6bb8e1cac3c37a604c1ffcbf012453b37f77eaedfe7c76dba646", func := "hailstone/hailstonelaw10.TreatyPlays", spec := "treatyPlays", unfollowed := true, recurses := true, plainKeys := false, apart := false }
def TreatyPlaysSaid : Prop := treatyPlaysRow.holds Try.pinned (OpenSpec.ofChange treatyPlaysSpec)

/-- ITS FALSE NEIGHBOUR: 'it returns false'. Refute it at one input. -/
def treatyPlaysWrong : ChangeSpec := { name := "treatyPlays", fn := fun _ => fun
  | [d1, d2] => { results := [.lit (.bool false)], args := [d1, d2] }
  | _ => none }
def TreatyPlaysWrongFalsely : Prop := treatyPlaysRow.holds Try.pinned (OpenSpec.ofChange treatyPlaysWrong)

/-- 'hailstonelaw10.TreatyBounds': WHATEVER THE INPUT: true; the input reads as it did. -/
def treatyBoundsSpec : ChangeSpec := { name := "treatyBounds", fn := fun _ => fun
  | [d] => { results := [.lit (.bool true)], args := [d] }
  | _ => none }
def treatyBoundsRow : OpenClaim := { program := "ytaioobhblfnlaaa", sum := "b66c5d5bc41f6bb8e1cac3c37a604c1ffcbf012453b37f77eaedfe7c76dba646", func := "hailstone/hailstonelaw10.TreatyBounds", spec := "treatyBounds", unfollowed := true, recurses := true, plainKeys := false, apart := false }
def TreatyBoundsSaid : Prop := treatyBoundsRow.holds Try.pinned (OpenSpec.ofChange treatyBoundsSpec)

/-- ITS FALSE NEIGHBOUR: 'it returns false'. Refute it at one input. -/
def treatyBoundsWrong : ChangeSpec := { name := "treatyBounds", fn := fun _ => fun
  | [d] => { results := [.lit (.bool false)], args := [d] }
  | _ => none }
def TreatyBoundsWrongFalsely : Prop := treatyBoundsRow.holds Try.pinned (OpenSpec.ofChange treatyBoundsWrong)

/-- 'hailstonelaw10.TreatyKept': WHATEVER THE INPUT: true; the input reads as it did. -/
def treatyKeptSpec : ChangeSpec := { name := "treatyKept", fn := fun _ => fun
  | [d1, d2, d3] => { results := [.lit (.bool true)], args := [d1, d2, d3] }
  | _ => none }
def treatyKeptRow : OpenClaim := { program := "ytaioobhblfnlaaa", sum := "b66c5d5bc41f6bb8e1cac3c37a604c1ffcbf012453b37f77eaedfe7c76dba646", func := "hailstone/hailstonelaw10.TreatyKept", spec := "treatyKept", unfollowed := true, recurses := true, plainKeys := false, apart := false }
def TreatyKeptSaid : Prop := treatyKeptRow.holds Try.pinned (OpenSpec.ofChange treatyKeptSpec)

/-- ITS FALSE NEIGHBOUR: 'it returns false'. Refute it at one input. -/
def treatyKeptWrong : ChangeSpec := { name := "treatyKept", fn := fun _ => fun
  | [d1, d2, d3] => { results := [.lit (.bool false)], args := [d1, d2, d3] }
  | _ => none }
def TreatyKeptWrongFalsely : Prop := treatyKeptRow.holds Try.pinned (OpenSpec.ofChange treatyKeptWrong)

/-- 'hailstonelaw10.TreatyCheapest': WHATEVER THE INPUT: true; the input reads as it did. -/
def treatyCheapestSpec : ChangeSpec := { name := "treatyCheapest", fn := fun _ => fun
  | [d] => { results := [.lit (.bool true)], args := [d] }
  | _ => none }
def treatyCheapestRow : OpenClaim := { program := "ytaioobhblfnlaaa", sum := "b66c5d5bc41f6bb8e1cac3c37a604c1ffcbf012453b37f77eaedfe7c76dba646", func := "hailstone/hailstonelaw10.TreatyCheapest", spec := "treatyCheapest", unfollowed := true, recurses := true, plainKeys := false, apart := false }
def TreatyCheapestSaid : Prop := treatyCheapestRow.holds Try.pinned (OpenSpec.ofChange treatyCheapestSpec)

/-- ITS FALSE NEIGHBOUR: 'it returns false'. Refute it at one input. -/
def treatyCheapestWrong : ChangeSpec := { name := "treatyCheapest", fn := fun _ => fun
  | [d] => { results := [.lit (.bool false)], args := [d] }
  | _ => none }
def TreatyCheapestWrongFalsely : Prop := treatyCheapestRow.holds Try.pinned (OpenSpec.ofChange treatyCheapestWrong)

/-- 'hailstonelaw10.TreatyLeaves': WHATEVER THE INPUT: true; the input reads as it did. -/
def treatyLeavesSpec : ChangeSpec := { name := "treatyLeaves", fn := fun _ => fun
  | [d] => { results := [.lit (.bool true)], args := [d] }
  | _ => none }
def treatyLeavesRow : OpenClaim := { program := "ytaioobhblfnlaaa", sum := "b66c5d5bc41f6bb8e1cac3c37a604c1ffcbf012453b37f77eaedfe7c76dba646", func := "hailstone/hailstonelaw10.TreatyLeaves", spec := "treatyLeaves", unfollowed := true, recurses := true, plainKeys := false, apart := false }
def TreatyLeavesSaid : Prop := treatyLeavesRow.holds Try.pinned (OpenSpec.ofChange treatyLeavesSpec)

/-- ITS FALSE NEIGHBOUR: 'it returns false'. Refute it at one input. -/
def treatyLeavesWrong : ChangeSpec := { name := "treatyLeaves", fn := fun _ => fun
  | [d] => { results := [.lit (.bool false)], args := [d] }
  | _ => none }
def TreatyLeavesWrongFalsely : Prop := treatyLeavesRow.holds Try.pinned (OpenSpec.ofChange treatyLeavesWrong)

/-- 'hailstonelaw10.TreatyNames': WHATEVER THE INPUT: true; the input reads as it did. -/
def treatyNamesSpec : ChangeSpec := { name := "treatyNames", fn := fun _ => fun
  | [] => { results := [.lit (.bool true)], args := [] }
  | _ => none }
def treatyNamesRow : OpenClaim := { program := "ytaioobhblfnlaaa", sum := "b66c5d5bc41f6bb8e1cac3c37a604c1ffcbf012453b37f77eaedfe7c76dba646", func := "hailstone/hailstonelaw10.TreatyNames", spec := "treatyNames", unfollowed := true, recurses := true, plainKeys := false, apart := false }
def TreatyNamesSaid : Prop := treatyNamesRow.holds Try.pinned (OpenSpec.ofChange treatyNamesSpec)

/-- ITS FALSE NEIGHBOUR: 'it returns false'. Refute it at one input. -/
def treatyNamesWrong : ChangeSpec := { name := "treatyNames", fn := fun _ => fun
  | [] => { results := [.lit (.bool false)], args := [] }
  | _ => none }
def TreatyNamesWrongFalsely : Prop := treatyNamesRow.holds Try.pinned (OpenSpec.ofChange treatyNamesWrong)

/-- 'hailstonelaw10.TreatyTruth': WHATEVER THE INPUT: true; the input reads as it did. -/
def treatyTruthSpec : ChangeSpec := { name := "treatyTruth", fn := fun _ => fun
  | [d1, d2, d3] => { results := [.lit (.bool true)], args := [d1, d2, d3] }
  | _ => none }
def treatyTruthRow : OpenClaim := { program := "ytaioobhblfnlaaa", sum := "b66c5d5bc41f6bb8e1cac3c37a604c1ffcbf012453b37f77eaedfe7c76dba646", func := "hailstone/hailstonelaw10.TreatyTruth", spec := "treatyTruth", unfollowed := true, recurses := true, plainKeys := false, apart := false }
def TreatyTruthSaid : Prop := treatyTruthRow.holds Try.pinned (OpenSpec.ofChange treatyTruthSpec)

/-- ITS FALSE NEIGHBOUR: 'it returns false'. Refute it at one input. -/
def treatyTruthWrong : ChangeSpec := { name := "treatyTruth", fn := fun _ => fun
  | [d1, d2, d3] => { results := [.lit (.bool false)], args := [d1, d2, d3] }
  | _ => none }
def TreatyTruthWrongFalsely : Prop := treatyTruthRow.holds Try.pinned (OpenSpec.ofChange treatyTruthWrong)

/-- 'hailstonelaw10.TreatyEnds': WHATEVER THE INPUT: true; the input reads as it did. -/
def treatyEndsSpec : ChangeSpec := { name := "treatyEnds", fn := fun _ => fun
  | [d1, d2] => { results := [.lit (.bool true)], args := [d1, d2] }
  | _ => none }
def treatyEndsRow : OpenClaim := { program := "ytaioobhblfnlaaa", sum := "b66c5d5bc41f6bb8e1cac3c37a604c1ffcbf012453b37f77eaedfe7c76dba646", func := "hailstone/hailstonelaw10.TreatyEnds", spec := "treatyEnds", unfollowed := true, recurses := true, plainKeys := false, apart := false }
def TreatyEndsSaid : Prop := treatyEndsRow.holds Try.pinned (OpenSpec.ofChange treatyEndsSpec)

/-- ITS FALSE NEIGHBOUR: 'it returns false'. Refute it at one input. -/
def treatyEndsWrong : ChangeSpec := { name := "treatyEnds", fn := fun _ => fun
  | [d1, d2] => { results := [.lit (.bool false)], args := [d1, d2] }
  | _ => none }
def TreatyEndsWrongFalsely : Prop := treatyEndsRow.holds Try.pinned (OpenSpec.ofChange treatyEndsWrong)

/-- 'hailstonelaw10.TreatyQuota': WHATEVER THE INPUT: true; the input reads as it did. -/
def treatyQuotaSpec : ChangeSpec := { name := "treatyQuota", fn := fun _ => fun
  | [d1, d2, d3] => { results := [.lit (.bool true)], args := [d1, d2, d3] }
  | _ => none }
def treatyQuotaRow : OpenClaim := { program := "ytaioobhblfnlaaa", sum := "b66c5d5bc41f6bb8e1cac3c37a604c1ffcbf012453b37f77eaedfe7c76dba646", func := "hailstone/hailstonelaw10.TreatyQuota", spec := "treatyQuota", unfollowed := true, recurses := true, plainKeys := false, apart := false }
def TreatyQuotaSaid : Prop := treatyQuotaRow.holds Try.pinned (OpenSpec.ofChange treatyQuotaSpec)

/-- ITS FALSE NEIGHBOUR: 'it returns false'. Refute it at one input. -/
def treatyQuotaWrong : ChangeSpec := { name := "treatyQuota", fn := fun _ => fun
  | [d1, d2, d3] => { results := [.lit (.bool false)], args := [d1, d2, d3] }
  | _ => none }
def TreatyQuotaWrongFalsely : Prop := treatyQuotaRow.holds Try.pinned (OpenSpec.ofChange treatyQuotaWrong)

/-- 'hailstonelaw10.TreatyMore': WHATEVER THE INPUT: true; the input reads as it did. -/
def treatyMoreSpec : ChangeSpec := { name := "treatyMore", fn := fun _ => fun
  | [d1, d2] => { results := [.lit (.bool true)], args := [d1, d2] }
  | _ => none }
def treatyMoreRow : OpenClaim := { program := "ytaioobhblfnlaaa", sum := "b66c5d5bc41f6bb8e1cac3c37a604c1ffcbf012453b37f77eaedfe7c76dba646", func := "hailstone/hailstonelaw10.TreatyMore", spec := "treatyMore", unfollowed := true, recurses := true, plainKeys := false, apart := false }
def TreatyMoreSaid : Prop := treatyMoreRow.holds Try.pinned (OpenSpec.ofChange treatyMoreSpec)

/-- ITS FALSE NEIGHBOUR: 'it returns false'. Refute it at one input. -/
def treatyMoreWrong : ChangeSpec := { name := "treatyMore", fn := fun _ => fun
  | [d1, d2] => { results := [.lit (.bool false)], args := [d1, d2] }
  | _ => none }
def TreatyMoreWrongFalsely : Prop := treatyMoreRow.holds Try.pinned (OpenSpec.ofChange treatyMoreWrong)

/-- 'hailstonelaw10.TreatyWider': WHATEVER THE INPUT: true; the input reads as it did. -/
def treatyWiderSpec : ChangeSpec := { name := "treatyWider", fn := fun _ => fun
  | [d1, d2, d3, d4] => { results := [.lit (.bool true)], args := [d1, d2, d3, d4] }
  | _ => none }
def treatyWiderRow : OpenClaim := { program := "ytaioobhblfnlaaa", sum := "b66c5d5bc41f6bb8e1cac3c37a604c1ffcbf012453b37f77eaedfe7c76dba646", func := "hailstone/hailstonelaw10.TreatyWider", spec := "treatyWider", unfollowed := true, recurses := true, plainKeys := false, apart := false }
def TreatyWiderSaid : Prop := treatyWiderRow.holds Try.pinned (OpenSpec.ofChange treatyWiderSpec)

/-- ITS FALSE NEIGHBOUR: 'it returns false'. Refute it at one input. -/
def treatyWiderWrong : ChangeSpec := { name := "treatyWider", fn := fun _ => fun
  | [d1, d2, d3, d4] => { results := [.lit (.bool false)], args := [d1, d2, d3, d4] }
  | _ => none }
def TreatyWiderWrongFalsely : Prop := treatyWiderRow.holds Try.pinned (OpenSpec.ofChange treatyWiderWrong)

/-- 'hailstonelaw10.TreatyFirst': WHATEVER THE INPUT: true; the input reads as it did. -/
def treatyFirstSpec : ChangeSpec := { name := "treatyFirst", fn := fun _ => fun
  | [d] => { results := [.lit (.bool true)], args := [d] }
  | _ => none }
def treatyFirstRow : OpenClaim := { program := "ytaioobhblfnlaaa", sum := "b66c5d5bc41f6bb8e1cac3c37a604c1ffcbf012453b37f77eaedfe7c76dba646", func := "hailstone/hailstonelaw10.TreatyFirst", spec := "treatyFirst", unfollowed := true, recurses := true, plainKeys := false, apart := false }
def TreatyFirstSaid : Prop := treatyFirstRow.holds Try.pinned (OpenSpec.ofChange treatyFirstSpec)

/-- ITS FALSE NEIGHBOUR: 'it returns false'. Refute it at one input. -/
def treatyFirstWrong : ChangeSpec := { name := "treatyFirst", fn := fun _ => fun
  | [d] => { results := [.lit (.bool false)], args := [d] }
  | _ => none }
def TreatyFirstWrongFalsely : Prop := treatyFirstRow.holds Try.pinned (OpenSpec.ofChange treatyFirstWrong)

/-- 'hailstonelaw10.TreatyLeft': WHATEVER THE INPUT: true; the input reads as it did. -/
def treatyLeftSpec : ChangeSpec := { name := "treatyLeft", fn := fun _ => fun
  | [d1, d2] => { results := [.lit (.bool true)], args := [d1, d2] }
  | _ => none }
def treatyLeftRow : OpenClaim := { program := "ytaioobhblfnlaaa", sum := "b66c5d5bc41f6bb8e1cac3c37a604c1ffcbf012453b37f77eaedfe7c76dba646", func := "hailstone/hailstonelaw10.TreatyLeft", spec := "treatyLeft", unfollowed := true, recurses := true, plainKeys := false, apart := false }
def TreatyLeftSaid : Prop := treatyLeftRow.holds Try.pinned (OpenSpec.ofChange treatyLeftSpec)

/-- ITS FALSE NEIGHBOUR: 'it returns false'. Refute it at one input. -/
def treatyLeftWrong : ChangeSpec := { name := "treatyLeft", fn := fun _ => fun
  | [d1, d2] => { results := [.lit (.bool false)], args := [d1, d2] }
  | _ => none }
def TreatyLeftWrongFalsely : Prop := treatyLeftRow.holds Try.pinned (OpenSpec.ofChange treatyLeftWrong)

/-- 'hailstonelaw10.TreatyNoCheaper': WHATEVER THE INPUT: true; the input reads as it did. -/
def treatyNoCheaperSpec : ChangeSpec := { name := "treatyNoCheaper", fn := fun _ => fun
  | [d1, d2, d3] => { results := [.lit (.bool true)], args := [d1, d2, d3] }
  | _ => none }
def treatyNoCheaperRow : OpenClaim := { program := "ytaioobhblfnlaaa", sum := "b66c5d5bc41f6bb8e1cac3c37a604c1ffcbf012453b37f77eaedfe7c76dba646", func := "hailstone/hailstonelaw10.TreatyNoCheaper", spec := "treatyNoCheaper", unfollowed := true, recurses := true, plainKeys := false, apart := false }
def TreatyNoCheaperSaid : Prop := treatyNoCheaperRow.holds Try.pinned (OpenSpec.ofChange treatyNoCheaperSpec)

/-- ITS FALSE NEIGHBOUR: 'it returns false'. Refute it at one input. -/
def treatyNoCheaperWrong : ChangeSpec := { name := "treatyNoCheaper", fn := fun _ => fun
  | [d1, d2, d3] => { results := [.lit (.bool false)], args := [d1, d2, d3] }
  | _ => none }
def TreatyNoCheaperWrongFalsely : Prop := treatyNoCheaperRow.holds Try.pinned (OpenSpec.ofChange treatyNoCheaperWrong)

/-- 'hailstonelaw10.TreatyOthers': WHATEVER THE INPUT: true; the input reads as it did. -/
def treatyOthersSpec : ChangeSpec := { name := "treatyOthers", fn := fun _ => fun
  | [d1, d2, d3, d4] => { results := [.lit (.bool true)], args := [d1, d2, d3, d4] }
  | _ => none }
def treatyOthersRow : OpenClaim := { program := "ytaioobhblfnlaaa", sum := "b66c5d5bc41f6bb8e1cac3c37a604c1ffcbf012453b37f77eaedfe7c76dba646", func := "hailstone/hailstonelaw10.TreatyOthers", spec := "treatyOthers", unfollowed := true, recurses := true, plainKeys := false, apart := false }
def TreatyOthersSaid : Prop := treatyOthersRow.holds Try.pinned (OpenSpec.ofChange treatyOthersSpec)

/-- ITS FALSE NEIGHBOUR: 'it returns false'. Refute it at one input. -/
def treatyOthersWrong : ChangeSpec := { name := "treatyOthers", fn := fun _ => fun
  | [d1, d2, d3, d4] => { results := [.lit (.bool false)], args := [d1, d2, d3, d4] }
  | _ => none }
def TreatyOthersWrongFalsely : Prop := treatyOthersRow.holds Try.pinned (OpenSpec.ofChange treatyOthersWrong)

/- THE SECOND FORM. 'bulk': how many values and letters a reading holds, each counted each time it is reached (what is shared counts as often as it is met; a slice's spare places count too). A statement '..UptoSaid' is the law's where the arguments, and the package variables that the reading takes, are together of bulk at most 1048576: NARROWER than '..Said'. Prove '..Said' where nothing that the law and all that it calls make is longer than what came in: it says more and counts as full. Else prove '..UptoSaid'. A law counts once. -/
mutual
def uptoBulk {H : Type} : DataW H → Nat
  | .lit (.string bytes) => bytes.length + 1
  | .lit _ => 1
  | .nil => 1
  | .ptr d => uptoBulk d + 1
  | .slice elems spare => uptoBulkAll elems + uptoBulkAll spare + 1
  | .agg parts => uptoBulkAll parts + 1
  | .iface _ d => uptoBulk d + 1
  | .map entries => uptoBulkEntries entries + 1
  | .held _ => 1
def uptoBulkAll {H : Type} : List (DataW H) → Nat
  | [] => 0
  | d :: r => uptoBulk d + uptoBulkAll r
def uptoBulkEntries {H : Type} : List (Lit × DataW H) → Nat
  | [] => 0
  | x :: r => uptoBulkEntry x + uptoBulkEntries r
def uptoBulkEntry {H : Type} : Lit × DataW H → Nat
  | (.string bytes, d) => bytes.length + uptoBulk d + 1
  | (_, d) => uptoBulk d + 1
 end
def uptoSmall : (H : Type) → List (DataW H) → Bool := fun _ ds => decide (uptoBulkAll ds ≤ 1048576)
def OpenSpec.upto (s : _root_.Go.ChangeSpec) : _root_.Go.OpenSpec := { _root_.Go.OpenSpec.ofChange s with cond := some uptoSmall }

/-- 'hailstonelaw10.TreatyPlays', WHERE WHAT IT READS IS OF BULK AT MOST 1048576: true; the input reads as it did. -/
def treatyPlaysUptoRow : OpenClaim := { program := "ytaioobhblfnlaaa", sum := "b66c5d5bc41f6bb8e1cac3c37a604c1ffcbf012453b37f77eaedfe7c76dba646", func := "hailstone/hailstonelaw10.TreatyPlays", spec := "treatyPlays", unfollowed := true, recurses := true, plainKeys := false, apart := false, narrowed := true }
def TreatyPlaysUptoSaid : Prop := treatyPlaysUptoRow.holds Try.pinned (OpenSpec.upto treatyPlaysSpec)

/-- 'hailstonelaw10.TreatyBounds', WHERE WHAT IT READS IS OF BULK AT MOST 1048576: true; the input reads as it did. -/
def treatyBoundsUptoRow : OpenClaim := { program := "ytaioobhblfnlaaa", sum := "b66c5d5bc41f6bb8e1cac3c37a604c1ffcbf012453b37f77eaedfe7c76dba646", func := "hailstone/hailstonelaw10.TreatyBounds", spec := "treatyBounds", unfollowed := true, recurses := true, plainKeys := false, apart := false, narrowed := true }
def TreatyBoundsUptoSaid : Prop := treatyBoundsUptoRow.holds Try.pinned (OpenSpec.upto treatyBoundsSpec)

/-- 'hailstonelaw10.TreatyKept', WHERE WHAT IT READS IS OF BULK AT MOST 1048576: true; the input reads as it did. -/
def treatyKeptUptoRow : OpenClaim := { program := "ytaioobhblfnlaaa", sum := "b66c5d5bc41f6bb8e1cac3c37a604c1ffcbf012453b37f77eaedfe7c76dba646", func := "hailstone/hailstonelaw10.TreatyKept", spec := "treatyKept", unfollowed := true, recurses := true, plainKeys := false, apart := false, narrowed := true }
def TreatyKeptUptoSaid : Prop := treatyKeptUptoRow.holds Try.pinned (OpenSpec.upto treatyKeptSpec)

/-- 'hailstonelaw10.TreatyCheapest', WHERE WHAT IT READS IS OF BULK AT MOST 1048576: true; the input reads as it did. -/
def treatyCheapestUptoRow : OpenClaim := { program := "ytaioobhblfnlaaa", sum := "b66c5d5bc41f6bb8e1cac3c37a604c1ffcbf012453b37f77eaedfe7c76dba646", func := "hailstone/hailstonelaw10.TreatyCheapest", spec := "treatyCheapest", unfollowed := true, recurses := true, plainKeys := false, apart := false, narrowed := true }
def TreatyCheapestUptoSaid : Prop := treatyCheapestUptoRow.holds Try.pinned (OpenSpec.upto treatyCheapestSpec)

/-- 'hailstonelaw10.TreatyLeaves', WHERE WHAT IT READS IS OF BULK AT MOST 1048576: true; the input reads as it did. -/
def treatyLeavesUptoRow : OpenClaim := { program := "ytaioobhblfnlaaa", sum := "b66c5d5bc41f6bb8e1cac3c37a604c1ffcbf012453b37f77eaedfe7c76dba646", func := "hailstone/hailstonelaw10.TreatyLeaves", spec := "treatyLeaves", unfollowed := true, recurses := true, plainKeys := false, apart := false, narrowed := true }
def TreatyLeavesUptoSaid : Prop := treatyLeavesUptoRow.holds Try.pinned (OpenSpec.upto treatyLeavesSpec)

/-- 'hailstonelaw10.TreatyNames', WHERE WHAT IT READS IS OF BULK AT MOST 1048576: true; the input reads as it did. -/
def treatyNamesUptoRow : OpenClaim := { program := "ytaioobhblfnlaaa", sum := "b66c5d5bc41f6bb8e1cac3c37a604c1ffcbf012453b37f77eaedfe7c76dba646", func := "hailstone/hailstonelaw10.TreatyNames", spec := "treatyNames", unfollowed := true, recurses := true, plainKeys := false, apart := false, narrowed := true }
def TreatyNamesUptoSaid : Prop := treatyNamesUptoRow.holds Try.pinned (OpenSpec.upto treatyNamesSpec)

/-- 'hailstonelaw10.TreatyTruth', WHERE WHAT IT READS IS OF BULK AT MOST 1048576: true; the input reads as it did. -/
def treatyTruthUptoRow : OpenClaim := { program := "ytaioobhblfnlaaa", sum := "b66c5d5bc41f6bb8e1cac3c37a604c1ffcbf012453b37f77eaedfe7c76dba646", func := "hailstone/hailstonelaw10.TreatyTruth", spec := "treatyTruth", unfollowed := true, recurses := true, plainKeys := false, apart := false, narrowed := true }
def TreatyTruthUptoSaid : Prop := treatyTruthUptoRow.holds Try.pinned (OpenSpec.upto treatyTruthSpec)

/-- 'hailstonelaw10.TreatyEnds', WHERE WHAT IT READS IS OF BULK AT MOST 1048576: true; the input reads as it did. -/
def treatyEndsUptoRow : OpenClaim := { program := "ytaioobhblfnlaaa", sum := "b66c5d5bc41f6bb8e1cac3c37a604c1ffcbf012453b37f77eaedfe7c76dba646", func := "hailstone/hailstonelaw10.TreatyEnds", spec := "treatyEnds", unfollowed := true, recurses := true, plainKeys := false, apart := false, narrowed := true }
def TreatyEndsUptoSaid : Prop := treatyEndsUptoRow.holds Try.pinned (OpenSpec.upto treatyEndsSpec)

/-- 'hailstonelaw10.TreatyQuota', WHERE WHAT IT READS IS OF BULK AT MOST 1048576: true; the input reads as it did. -/
def treatyQuotaUptoRow : OpenClaim := { program := "ytaioobhblfnlaaa", sum := "b66c5d5bc41f6bb8e1cac3c37a604c1ffcbf012453b37f77eaedfe7c76dba646", func := "hailstone/hailstonelaw10.TreatyQuota", spec := "treatyQuota", unfollowed := true, recurses := true, plainKeys := false, apart := false, narrowed := true }
def TreatyQuotaUptoSaid : Prop := treatyQuotaUptoRow.holds Try.pinned (OpenSpec.upto treatyQuotaSpec)

/-- 'hailstonelaw10.TreatyMore', WHERE WHAT IT READS IS OF BULK AT MOST 1048576: true; the input reads as it did. -/
def treatyMoreUptoRow : OpenClaim := { program := "ytaioobhblfnlaaa", sum := "b66c5d5bc41f6bb8e1cac3c37a604c1ffcbf012453b37f77eaedfe7c76dba646", func := "hailstone/hailstonelaw10.TreatyMore", spec := "treatyMore", unfollowed := true, recurses := true, plainKeys := false, apart := false, narrowed := true }
def TreatyMoreUptoSaid : Prop := treatyMoreUptoRow.holds Try.pinned (OpenSpec.upto treatyMoreSpec)

/-- 'hailstonelaw10.TreatyWider', WHERE WHAT IT READS IS OF BULK AT MOST 1048576: true; the input reads as it did. -/
def treatyWiderUptoRow : OpenClaim := { program := "ytaioobhblfnlaaa", sum := "b66c5d5bc41f6bb8e1cac3c37a604c1ffcbf012453b37f77eaedfe7c76dba646", func := "hailstone/hailstonelaw10.TreatyWider", spec := "treatyWider", unfollowed := true, recurses := true, plainKeys := false, apart := false, narrowed := true }
def TreatyWiderUptoSaid : Prop := treatyWiderUptoRow.holds Try.pinned (OpenSpec.upto treatyWiderSpec)

/-- 'hailstonelaw10.TreatyFirst', WHERE WHAT IT READS IS OF BULK AT MOST 1048576: true; the input reads as it did. -/
def treatyFirstUptoRow : OpenClaim := { program := "ytaioobhblfnlaaa", sum := "b66c5d5bc41f6bb8e1cac3c37a604c1ffcbf012453b37f77eaedfe7c76dba646", func := "hailstone/hailstonelaw10.TreatyFirst", spec := "treatyFirst", unfollowed := true, recurses := true, plainKeys := false, apart := false, narrowed := true }
def TreatyFirstUptoSaid : Prop := treatyFirstUptoRow.holds Try.pinned (OpenSpec.upto treatyFirstSpec)

/-- 'hailstonelaw10.TreatyLeft', WHERE WHAT IT READS IS OF BULK AT MOST 1048576: true; the input reads as it did. -/
def treatyLeftUptoRow : OpenClaim := { program := "ytaioobhblfnlaaa", sum := "b66c5d5bc41f6bb8e1cac3c37a604c1ffcbf012453b37f77eaedfe7c76dba646", func := "hailstone/hailstonelaw10.TreatyLeft", spec := "treatyLeft", unfollowed := true, recurses := true, plainKeys := false, apart := false, narrowed := true }
def TreatyLeftUptoSaid : Prop := treatyLeftUptoRow.holds Try.pinned (OpenSpec.upto treatyLeftSpec)

/-- 'hailstonelaw10.TreatyNoCheaper', WHERE WHAT IT READS IS OF BULK AT MOST 1048576: true; the input reads as it did. -/
def treatyNoCheaperUptoRow : OpenClaim := { program := "ytaioobhblfnlaaa", sum := "b66c5d5bc41f6bb8e1cac3c37a604c1ffcbf012453b37f77eaedfe7c76dba646", func := "hailstone/hailstonelaw10.TreatyNoCheaper", spec := "treatyNoCheaper", unfollowed := true, recurses := true, plainKeys := false, apart := false, narrowed := true }
def TreatyNoCheaperUptoSaid : Prop := treatyNoCheaperUptoRow.holds Try.pinned (OpenSpec.upto treatyNoCheaperSpec)

/-- 'hailstonelaw10.TreatyOthers', WHERE WHAT IT READS IS OF BULK AT MOST 1048576: true; the input reads as it did. -/
def treatyOthersUptoRow : OpenClaim := { program := "ytaioobhblfnlaaa", sum := "b66c5d5bc41f6bb8e1cac3c37a604c1ffcbf012453b37f77eaedfe7c76dba646", func := "hailstone/hailstonelaw10.TreatyOthers", spec := "treatyOthers", unfollowed := true, recurses := true, plainKeys := false, apart := false, narrowed := true }
def TreatyOthersUptoSaid : Prop := treatyOthersUptoRow.holds Try.pinned (OpenSpec.upto treatyOthersSpec)

end Rows
end Go.Proofs.Ytaioobhblfnlaaa
