/-
  No cell of these rows narrows 'for every input' (looked for: loops, veiled, ifaces, maps, wideKeys, modest, calm, conditions, laid).
  DERIVED. THE GIVEN ROWS OF THIS SEAT. 16 by the template 'for every input the law returns true; each argument reads behind the call as it read before'; 0 by the template 'total and deterministic' (their statements: YtlicijnaacdceaaTotals.lean).
  GIVEN WITH THE SEED: the statements are not yours to turn. If you find one false, say at which input.
  Laid BY PROGRAM, IN A SANDBOX (cutbox-rows.mjs): the forced cells as the released guide's own fill.sh prints them over the translation 62495729e525b125… (all of the seat's roots in one cut). By AI agents, Wed Nov 11 2026. No macro, syntax, notation, axiom, sorry.
-/
import Derived.Test.YtlicijnaacdceaaChecked
import GoSem.Claim
import GoSem.ClaimJoined
import GoSem.ClaimMapViews
import Derived.JoinedTies
import Derived.KernelRfl
namespace Go.Proofs.Ytlicijnaacdceaa
/- THE CELL 'sum', in the pinned program and in every row, IS THE sha256 OF THE DUMP (.gsa) THAT YtlicijnaacdceaaProg.lean LOADS. Nothing in Lean hashes anything: it is a label: what it is worth is what the hold of that sum in a sandbox is worth. -/
noncomputable def Try.pinned : Pinned := { name := "ytlicijnaacdceaa", sum := "62495729e525b1254faa9ac8ba29d739d98c30c887f72aab7941971acc727403", checked := Try.checked }
namespace Rows
def none {H : Type} : Left H := { results := [], args := [] }

/-- 'hailstonelaw03.FrameDecides': WHATEVER THE INPUT: true; the input reads as it did. -/
def frameDecidesSpec : ChangeSpec := { name := "frameDecides", fn := fun _ => fun
  | [d1, d2] => { results := [.lit (.bool true)], args := [d1, d2] }
  | _ => none }
def frameDecidesRow : OpenClaim := { program := "ytlicijnaacdceaa", sum := "62495729e525b1254faa9ac8ba29d739d98c30c887f72aab7941971acc727403", func := "hailstone/hailstonelaw03.FrameDecides", spec := "frameDecides", unfollowed := true, recurses := true, plainKeys := false, apart := false }
def FrameDecidesSaid : Prop := frameDecidesRow.holds Try.pinned (OpenSpec.ofChange frameDecidesSpec)

/-- ITS FALSE NEIGHBOUR: 'it returns false'. Refute it at one input. -/
def frameDecidesWrong : ChangeSpec := { name := "frameDecides", fn := fun _ => fun
  | [d1, d2] => { results := [.lit (.bool false)], args := [d1, d2] }
  | _ => none }
def FrameDecidesWrongFalsely : Prop := frameDecidesRow.holds Try.pinned (OpenSpec.ofChange frameDecidesWrong)

/-- 'hailstonelaw03.FrameLeaves': WHATEVER THE INPUT: true; the input reads as it did. -/
def frameLeavesSpec : ChangeSpec := { name := "frameLeaves", fn := fun _ => fun
  | [d] => { results := [.lit (.bool true)], args := [d] }
  | _ => none }
def frameLeavesRow : OpenClaim := { program := "ytlicijnaacdceaa", sum := "62495729e525b1254faa9ac8ba29d739d98c30c887f72aab7941971acc727403", func := "hailstone/hailstonelaw03.FrameLeaves", spec := "frameLeaves", unfollowed := true, recurses := true, plainKeys := false, apart := false }
def FrameLeavesSaid : Prop := frameLeavesRow.holds Try.pinned (OpenSpec.ofChange frameLeavesSpec)

/-- ITS FALSE NEIGHBOUR: 'it returns false'. Refute it at one input. -/
def frameLeavesWrong : ChangeSpec := { name := "frameLeaves", fn := fun _ => fun
  | [d] => { results := [.lit (.bool false)], args := [d] }
  | _ => none }
def FrameLeavesWrongFalsely : Prop := frameLeavesRow.holds Try.pinned (OpenSpec.ofChange frameLeavesWrong)

/-- 'hailstonelaw03.FrameDecided': WHATEVER THE INPUT: true; the input reads as it did. -/
def frameDecidedSpec : ChangeSpec := { name := "frameDecided", fn := fun _ => fun
  | [d1, d2, d3, d4] => { results := [.lit (.bool true)], args := [d1, d2, d3, d4] }
  | _ => none }
def frameDecidedRow : OpenClaim := { program := "ytlicijnaacdceaa", sum := "62495729e525b1254faa9ac8ba29d739d98c30c887f72aab7941971acc727403", func := "hailstone/hailstonelaw03.FrameDecided", spec := "frameDecided", unfollowed := true, recurses := true, plainKeys := false, apart := false }
def FrameDecidedSaid : Prop := frameDecidedRow.holds Try.pinned (OpenSpec.ofChange frameDecidedSpec)

/-- ITS FALSE NEIGHBOUR: 'it returns false'. Refute it at one input. -/
def frameDecidedWrong : ChangeSpec := { name := "frameDecided", fn := fun _ => fun
  | [d1, d2, d3, d4] => { results := [.lit (.bool false)], args := [d1, d2, d3, d4] }
  | _ => none }
def FrameDecidedWrongFalsely : Prop := frameDecidedRow.holds Try.pinned (OpenSpec.ofChange frameDecidedWrong)

/-- 'hailstonelaw03.FrameTurned': WHATEVER THE INPUT: true; the input reads as it did. -/
def frameTurnedSpec : ChangeSpec := { name := "frameTurned", fn := fun _ => fun
  | [d1, d2] => { results := [.lit (.bool true)], args := [d1, d2] }
  | _ => none }
def frameTurnedRow : OpenClaim := { program := "ytlicijnaacdceaa", sum := "62495729e525b1254faa9ac8ba29d739d98c30c887f72aab7941971acc727403", func := "hailstone/hailstonelaw03.FrameTurned", spec := "frameTurned", unfollowed := true, recurses := true, plainKeys := false, apart := false }
def FrameTurnedSaid : Prop := frameTurnedRow.holds Try.pinned (OpenSpec.ofChange frameTurnedSpec)

/-- ITS FALSE NEIGHBOUR: 'it returns false'. Refute it at one input. -/
def frameTurnedWrong : ChangeSpec := { name := "frameTurned", fn := fun _ => fun
  | [d1, d2] => { results := [.lit (.bool false)], args := [d1, d2] }
  | _ => none }
def FrameTurnedWrongFalsely : Prop := frameTurnedRow.holds Try.pinned (OpenSpec.ofChange frameTurnedWrong)

/-- 'hailstonelaw03.FrameParts': WHATEVER THE INPUT: true; the input reads as it did. -/
def framePartsSpec : ChangeSpec := { name := "frameParts", fn := fun _ => fun
  | [d1, d2, d3] => { results := [.lit (.bool true)], args := [d1, d2, d3] }
  | _ => none }
def framePartsRow : OpenClaim := { program := "ytlicijnaacdceaa", sum := "62495729e525b1254faa9ac8ba29d739d98c30c887f72aab7941971acc727403", func := "hailstone/hailstonelaw03.FrameParts", spec := "frameParts", unfollowed := true, recurses := true, plainKeys := false, apart := false }
def FramePartsSaid : Prop := framePartsRow.holds Try.pinned (OpenSpec.ofChange framePartsSpec)

/-- ITS FALSE NEIGHBOUR: 'it returns false'. Refute it at one input. -/
def framePartsWrong : ChangeSpec := { name := "frameParts", fn := fun _ => fun
  | [d1, d2, d3] => { results := [.lit (.bool false)], args := [d1, d2, d3] }
  | _ => none }
def FramePartsWrongFalsely : Prop := framePartsRow.holds Try.pinned (OpenSpec.ofChange framePartsWrong)

/-- 'hailstonelaw03.FrameLeft': WHATEVER THE INPUT: true; the input reads as it did. -/
def frameLeftSpec : ChangeSpec := { name := "frameLeft", fn := fun _ => fun
  | [d1, d2] => { results := [.lit (.bool true)], args := [d1, d2] }
  | _ => none }
def frameLeftRow : OpenClaim := { program := "ytlicijnaacdceaa", sum := "62495729e525b1254faa9ac8ba29d739d98c30c887f72aab7941971acc727403", func := "hailstone/hailstonelaw03.FrameLeft", spec := "frameLeft", unfollowed := true, recurses := true, plainKeys := false, apart := false }
def FrameLeftSaid : Prop := frameLeftRow.holds Try.pinned (OpenSpec.ofChange frameLeftSpec)

/-- ITS FALSE NEIGHBOUR: 'it returns false'. Refute it at one input. -/
def frameLeftWrong : ChangeSpec := { name := "frameLeft", fn := fun _ => fun
  | [d1, d2] => { results := [.lit (.bool false)], args := [d1, d2] }
  | _ => none }
def FrameLeftWrongFalsely : Prop := frameLeftRow.holds Try.pinned (OpenSpec.ofChange frameLeftWrong)

/-- 'hailstonelaw03.FrameLate': WHATEVER THE INPUT: true; the input reads as it did. -/
def frameLateSpec : ChangeSpec := { name := "frameLate", fn := fun _ => fun
  | [d1, d2] => { results := [.lit (.bool true)], args := [d1, d2] }
  | _ => none }
def frameLateRow : OpenClaim := { program := "ytlicijnaacdceaa", sum := "62495729e525b1254faa9ac8ba29d739d98c30c887f72aab7941971acc727403", func := "hailstone/hailstonelaw03.FrameLate", spec := "frameLate", unfollowed := true, recurses := true, plainKeys := false, apart := false }
def FrameLateSaid : Prop := frameLateRow.holds Try.pinned (OpenSpec.ofChange frameLateSpec)

/-- ITS FALSE NEIGHBOUR: 'it returns false'. Refute it at one input. -/
def frameLateWrong : ChangeSpec := { name := "frameLate", fn := fun _ => fun
  | [d1, d2] => { results := [.lit (.bool false)], args := [d1, d2] }
  | _ => none }
def FrameLateWrongFalsely : Prop := frameLateRow.holds Try.pinned (OpenSpec.ofChange frameLateWrong)

/-- 'hailstonelaw03.FrameBounds': WHATEVER THE INPUT: true; the input reads as it did. -/
def frameBoundsSpec : ChangeSpec := { name := "frameBounds", fn := fun _ => fun
  | [d1, d2] => { results := [.lit (.bool true)], args := [d1, d2] }
  | _ => none }
def frameBoundsRow : OpenClaim := { program := "ytlicijnaacdceaa", sum := "62495729e525b1254faa9ac8ba29d739d98c30c887f72aab7941971acc727403", func := "hailstone/hailstonelaw03.FrameBounds", spec := "frameBounds", unfollowed := true, recurses := true, plainKeys := false, apart := false }
def FrameBoundsSaid : Prop := frameBoundsRow.holds Try.pinned (OpenSpec.ofChange frameBoundsSpec)

/-- ITS FALSE NEIGHBOUR: 'it returns false'. Refute it at one input. -/
def frameBoundsWrong : ChangeSpec := { name := "frameBounds", fn := fun _ => fun
  | [d1, d2] => { results := [.lit (.bool false)], args := [d1, d2] }
  | _ => none }
def FrameBoundsWrongFalsely : Prop := frameBoundsRow.holds Try.pinned (OpenSpec.ofChange frameBoundsWrong)

/-- 'hailstonelaw03.FrameEnds': WHATEVER THE INPUT: true; the input reads as it did. -/
def frameEndsSpec : ChangeSpec := { name := "frameEnds", fn := fun _ => fun
  | [d1, d2] => { results := [.lit (.bool true)], args := [d1, d2] }
  | _ => none }
def frameEndsRow : OpenClaim := { program := "ytlicijnaacdceaa", sum := "62495729e525b1254faa9ac8ba29d739d98c30c887f72aab7941971acc727403", func := "hailstone/hailstonelaw03.FrameEnds", spec := "frameEnds", unfollowed := true, recurses := true, plainKeys := false, apart := false }
def FrameEndsSaid : Prop := frameEndsRow.holds Try.pinned (OpenSpec.ofChange frameEndsSpec)

/-- ITS FALSE NEIGHBOUR: 'it returns false'. Refute it at one input. -/
def frameEndsWrong : ChangeSpec := { name := "frameEnds", fn := fun _ => fun
  | [d1, d2] => { results := [.lit (.bool false)], args := [d1, d2] }
  | _ => none }
def FrameEndsWrongFalsely : Prop := frameEndsRow.holds Try.pinned (OpenSpec.ofChange frameEndsWrong)

/-- 'hailstonelaw03.FrameMore': WHATEVER THE INPUT: true; the input reads as it did. -/
def frameMoreSpec : ChangeSpec := { name := "frameMore", fn := fun _ => fun
  | [d1, d2, d3, d4] => { results := [.lit (.bool true)], args := [d1, d2, d3, d4] }
  | _ => none }
def frameMoreRow : OpenClaim := { program := "ytlicijnaacdceaa", sum := "62495729e525b1254faa9ac8ba29d739d98c30c887f72aab7941971acc727403", func := "hailstone/hailstonelaw03.FrameMore", spec := "frameMore", unfollowed := true, recurses := true, plainKeys := false, apart := false }
def FrameMoreSaid : Prop := frameMoreRow.holds Try.pinned (OpenSpec.ofChange frameMoreSpec)

/-- ITS FALSE NEIGHBOUR: 'it returns false'. Refute it at one input. -/
def frameMoreWrong : ChangeSpec := { name := "frameMore", fn := fun _ => fun
  | [d1, d2, d3, d4] => { results := [.lit (.bool false)], args := [d1, d2, d3, d4] }
  | _ => none }
def FrameMoreWrongFalsely : Prop := frameMoreRow.holds Try.pinned (OpenSpec.ofChange frameMoreWrong)

/-- 'hailstonelaw03.FrameSmooth': WHATEVER THE INPUT: true; the input reads as it did. -/
def frameSmoothSpec : ChangeSpec := { name := "frameSmooth", fn := fun _ => fun
  | [d1, d2, d3] => { results := [.lit (.bool true)], args := [d1, d2, d3] }
  | _ => none }
def frameSmoothRow : OpenClaim := { program := "ytlicijnaacdceaa", sum := "62495729e525b1254faa9ac8ba29d739d98c30c887f72aab7941971acc727403", func := "hailstone/hailstonelaw03.FrameSmooth", spec := "frameSmooth", unfollowed := true, recurses := true, plainKeys := false, apart := false }
def FrameSmoothSaid : Prop := frameSmoothRow.holds Try.pinned (OpenSpec.ofChange frameSmoothSpec)

/-- ITS FALSE NEIGHBOUR: 'it returns false'. Refute it at one input. -/
def frameSmoothWrong : ChangeSpec := { name := "frameSmooth", fn := fun _ => fun
  | [d1, d2, d3] => { results := [.lit (.bool false)], args := [d1, d2, d3] }
  | _ => none }
def FrameSmoothWrongFalsely : Prop := frameSmoothRow.holds Try.pinned (OpenSpec.ofChange frameSmoothWrong)

/-- 'hailstonelaw03.FrameShares': WHATEVER THE INPUT: true; the input reads as it did. -/
def frameSharesSpec : ChangeSpec := { name := "frameShares", fn := fun _ => fun
  | [d1, d2] => { results := [.lit (.bool true)], args := [d1, d2] }
  | _ => none }
def frameSharesRow : OpenClaim := { program := "ytlicijnaacdceaa", sum := "62495729e525b1254faa9ac8ba29d739d98c30c887f72aab7941971acc727403", func := "hailstone/hailstonelaw03.FrameShares", spec := "frameShares", unfollowed := true, recurses := true, plainKeys := false, apart := false }
def FrameSharesSaid : Prop := frameSharesRow.holds Try.pinned (OpenSpec.ofChange frameSharesSpec)

/-- ITS FALSE NEIGHBOUR: 'it returns false'. Refute it at one input. -/
def frameSharesWrong : ChangeSpec := { name := "frameShares", fn := fun _ => fun
  | [d1, d2] => { results := [.lit (.bool false)], args := [d1, d2] }
  | _ => none }
def FrameSharesWrongFalsely : Prop := frameSharesRow.holds Try.pinned (OpenSpec.ofChange frameSharesWrong)

/-- 'hailstonelaw03.FrameTruth': WHATEVER THE INPUT: true; the input reads as it did. -/
def frameTruthSpec : ChangeSpec := { name := "frameTruth", fn := fun _ => fun
  | [d1, d2, d3] => { results := [.lit (.bool true)], args := [d1, d2, d3] }
  | _ => none }
def frameTruthRow : OpenClaim := { program := "ytlicijnaacdceaa", sum := "62495729e525b1254faa9ac8ba29d739d98c30c887f72aab7941971acc727403", func := "hailstone/hailstonelaw03.FrameTruth", spec := "frameTruth", unfollowed := true, recurses := true, plainKeys := false, apart := false }
def FrameTruthSaid : Prop := frameTruthRow.holds Try.pinned (OpenSpec.ofChange frameTruthSpec)

/-- ITS FALSE NEIGHBOUR: 'it returns false'. Refute it at one input. -/
def frameTruthWrong : ChangeSpec := { name := "frameTruth", fn := fun _ => fun
  | [d1, d2, d3] => { results := [.lit (.bool false)], args := [d1, d2, d3] }
  | _ => none }
def FrameTruthWrongFalsely : Prop := frameTruthRow.holds Try.pinned (OpenSpec.ofChange frameTruthWrong)

/-- 'hailstonelaw03.FrameLots': WHATEVER THE INPUT: true; the input reads as it did. -/
def frameLotsSpec : ChangeSpec := { name := "frameLots", fn := fun _ => fun
  | [d1, d2, d3] => { results := [.lit (.bool true)], args := [d1, d2, d3] }
  | _ => none }
def frameLotsRow : OpenClaim := { program := "ytlicijnaacdceaa", sum := "62495729e525b1254faa9ac8ba29d739d98c30c887f72aab7941971acc727403", func := "hailstone/hailstonelaw03.FrameLots", spec := "frameLots", unfollowed := true, recurses := true, plainKeys := false, apart := false }
def FrameLotsSaid : Prop := frameLotsRow.holds Try.pinned (OpenSpec.ofChange frameLotsSpec)

/-- ITS FALSE NEIGHBOUR: 'it returns false'. Refute it at one input. -/
def frameLotsWrong : ChangeSpec := { name := "frameLots", fn := fun _ => fun
  | [d1, d2, d3] => { results := [.lit (.bool false)], args := [d1, d2, d3] }
  | _ => none }
def FrameLotsWrongFalsely : Prop := frameLotsRow.holds Try.pinned (OpenSpec.ofChange frameLotsWrong)

/-- 'hailstonelaw03.FrameDraws': WHATEVER THE INPUT: true; the input reads as it did. -/
def frameDrawsSpec : ChangeSpec := { name := "frameDraws", fn := fun _ => fun
  | [d1, d2] => { results := [.lit (.bool true)], args := [d1, d2] }
  | _ => none }
def frameDrawsRow : OpenClaim := { program := "ytlicijnaacdceaa", sum := "62495729e525b1254faa9ac8ba29d739d98c30c887f72aab7941971acc727403", func := "hailstone/hailstonelaw03.FrameDraws", spec := "frameDraws", unfollowed := true, recurses := true, plainKeys := false, apart := false }
def FrameDrawsSaid : Prop := frameDrawsRow.holds Try.pinned (OpenSpec.ofChange frameDrawsSpec)

/-- ITS FALSE NEIGHBOUR: 'it returns false'. Refute it at one input. -/
def frameDrawsWrong : ChangeSpec := { name := "frameDraws", fn := fun _ => fun
  | [d1, d2] => { results := [.lit (.bool false)], args := [d1, d2] }
  | _ => none }
def FrameDrawsWrongFalsely : Prop := frameDrawsRow.holds Try.pinned (OpenSpec.ofChange frameDrawsWrong)

/-- 'hailstonelaw03.FrameNames': WHATEVER THE INPUT: true; the input reads as it did. -/
def frameNamesSpec : ChangeSpec := { name := "frameNames", fn := fun _ => fun
  | [] => { results := [.lit (.bool true)], args := [] }
  | _ => none }
def frameNamesRow : OpenClaim := { program := "ytlicijnaacdceaa", sum := "62495729e525b1254faa9ac8ba29d739d98c30c887f72aab7941971acc727403", func := "hailstone/hailstonelaw03.FrameNames", spec := "frameNames", unfollowed := true, recurses := true, plainKeys := false, apart := false }
def FrameNamesSaid : Prop := frameNamesRow.holds Try.pinned (OpenSpec.ofChange frameNamesSpec)

/-- ITS FALSE NEIGHBOUR: 'it returns false'. Refute it at one input. -/
def frameNamesWrong : ChangeSpec := { name := "frameNames", fn := fun _ => fun
  | [] => { results := [.lit (.bool false)], args := [] }
  | _ => none }
def FrameNamesWrongFalsely : Prop := frameNamesRow.holds Try.pinned (OpenSpec.ofChange frameNamesWrong)

/- THE SECOND FORM. 'bulk': how many values and letters a reading holds, each counted each time it is reached (what is shared counts as often as it is met; a slice's spare places count too). A statement '..UptoSaid' is the law's where the arguments, and the package variables that the reading takes, are together of bulk at most 1048576: NARROWER than '..Said'. Prove '..Said' where nothing that the law and all that it calls make is longer than what came in: it says more and counts as full. Else prove '..UptoSaid'. A law counts once. -/
mutual
def uptoBulk {H : Type} : DataW H → Nat
  | .lit (.string bytes) => bytes.length + 1
  | .lit _ => 1
  | .nil => 1
  | .ptr d => uptoBulk d + 1
  | .slice elems spare => uptoBulkAll elems + uptoBulkAll spare + 1
  | .agg parts => uptoBulkAll parts + 1
  | .iface _ d => uptoBulk d + 1
  | .map entries => uptoBulkEntries entries + 1
  | .held _ => 1
def uptoBulkAll {H : Type} : List (DataW H) → Nat
  | [] => 0
  | d :: r => uptoBulk d + uptoBulkAll r
def uptoBulkEntries {H : Type} : List (Lit × DataW H) → Nat
  | [] => 0
  | x :: r => uptoBulkEntry x + uptoBulkEntries r
def uptoBulkEntry {H : Type} : Lit × DataW H → Nat
  | (.string bytes, d) => bytes.length + uptoBulk d + 1
  | (_, d) => uptoBulk d + 1
 end
def uptoSmall : (H : Type) → List (DataW H) → Bool := fun _ ds => decide (uptoBulkAll ds ≤ 1048576)
def OpenSpec.upto (s : _root_.Go.ChangeSpec) : _root_.Go.OpenSpec := { _root_.Go.OpenSpec.ofChange s with cond := some uptoSmall }

/-- 'hailstonelaw03.FrameDecides', WHERE WHAT IT READS IS OF BULK AT MOST 1048576: true; the input reads as it did. -/
def frameDecidesUptoRow : OpenClaim := { program := "ytlicijnaacdceaa", sum := "62495729e525b1254faa9ac8ba29d739d98c30c887f72aab7941971acc727403", func := "hailstone/hailstonelaw03.FrameDecides", spec := "frameDecides", unfollowed := true, recurses := true, plainKeys := false, apart := false, narrowed := true }
def FrameDecidesUptoSaid : Prop := frameDecidesUptoRow.holds Try.pinned (OpenSpec.upto frameDecidesSpec)

/-- 'hailstonelaw03.FrameLeaves', WHERE WHAT IT READS IS OF BULK AT MOST 1048576: true; the input reads as it did. -/
def frameLeavesUptoRow : OpenClaim := { program := "ytlicijnaacdceaa", sum := "62495729e525b1254faa9ac8ba29d739d98c30c887f72aab7941971acc727403", func := "hailstone/hailstonelaw03.FrameLeaves", spec := "frameLeaves", unfollowed := true, recurses := true, plainKeys := false, apart := false, narrowed := true }
def FrameLeavesUptoSaid : Prop := frameLeavesUptoRow.holds Try.pinned (OpenSpec.upto frameLeavesSpec)

/-- 'hailstonelaw03.FrameDecided', WHERE WHAT IT READS IS OF BULK AT MOST 1048576: true; the input reads as it did. -/
def frameDecidedUptoRow : OpenClaim := { program := "ytlicijnaacdceaa", sum := "62495729e525b1254faa9ac8ba29d739d98c30c887f72aab7941971acc727403", func := "hailstone/hailstonelaw03.FrameDecided", spec := "frameDecided", unfollowed := true, recurses := true, plainKeys := false, apart := false, narrowed := true }
def FrameDecidedUptoSaid : Prop := frameDecidedUptoRow.holds Try.pinned (OpenSpec.upto frameDecidedSpec)

/-- 'hailstonelaw03.FrameTurned', WHERE WHAT IT READS IS OF BULK AT MOST 1048576: true; the input reads as it did. -/
def frameTurnedUptoRow : OpenClaim := { program := "ytlicijnaacdceaa", sum := "62495729e525b1254faa9ac8ba29d739d98c30c887f72aab7941971acc727403", func := "hailstone/hailstonelaw03.FrameTurned", spec := "frameTurned", unfollowed := true, recurses := true, plainKeys := false, apart := false, narrowed := true }
def FrameTurnedUptoSaid : Prop := frameTurnedUptoRow.holds Try.pinned (OpenSpec.upto frameTurnedSpec)

/-- 'hailstonelaw03.FrameParts', WHERE WHAT IT READS IS OF BULK AT MOST 1048576: true; the input reads as it did. -/
def framePartsUptoRow : OpenClaim := { program := "ytlicijnaacdceaa", sum := "62495729e525b1254faa9ac8ba29d739d98c30c887f72aab7941971acc727403", func := "hailstone/hailstonelaw03.FrameParts", spec := "frameParts", unfollowed := true, recurses := true, plainKeys := false, apart := false, narrowed := true }
def FramePartsUptoSaid : Prop := framePartsUptoRow.holds Try.pinned (OpenSpec.upto framePartsSpec)

/-- 'hailstonelaw03.FrameLeft', WHERE WHAT IT READS IS OF BULK AT MOST 1048576: true; the input reads as it did. -/
def frameLeftUptoRow : OpenClaim := { program := "ytlicijnaacdceaa", sum := "62495729e525b1254faa9ac8ba29d739d98c30c887f72aab7941971acc727403", func := "hailstone/hailstonelaw03.FrameLeft", spec := "frameLeft", unfollowed := true, recurses := true, plainKeys := false, apart := false, narrowed := true }
def FrameLeftUptoSaid : Prop := frameLeftUptoRow.holds Try.pinned (OpenSpec.upto frameLeftSpec)

/-- 'hailstonelaw03.FrameLate', WHERE WHAT IT READS IS OF BULK AT MOST 1048576: true; the input reads as it did. -/
def frameLateUptoRow : OpenClaim := { program := "ytlicijnaacdceaa", sum := "62495729e525b1254faa9ac8ba29d739d98c30c887f72aab7941971acc727403", func := "hailstone/hailstonelaw03.FrameLate", spec := "frameLate", unfollowed := true, recurses := true, plainKeys := false, apart := false, narrowed := true }
def FrameLateUptoSaid : Prop := frameLateUptoRow.holds Try.pinned (OpenSpec.upto frameLateSpec)

/-- 'hailstonelaw03.FrameBounds', WHERE WHAT IT READS IS OF BULK AT MOST 1048576: true; the input reads as it did. -/
def frameBoundsUptoRow : OpenClaim := { program := "ytlicijnaacdceaa", sum := "62495729e525b1254faa9ac8ba29d739d98c30c887f72aab7941971acc727403", func := "hailstone/hailstonelaw03.FrameBounds", spec := "frameBounds", unfollowed := true, recurses := true, plainKeys := false, apart := false, narrowed := true }
def FrameBoundsUptoSaid : Prop := frameBoundsUptoRow.holds Try.pinned (OpenSpec.upto frameBoundsSpec)

/-- 'hailstonelaw03.FrameEnds', WHERE WHAT IT READS IS OF BULK AT MOST 1048576: true; the input reads as it did. -/
def frameEndsUptoRow : OpenClaim := { program := "ytlicijnaacdceaa", sum := "62495729e525b1254faa9ac8ba29d739d98c30c887f72aab7941971acc727403", func := "hailstone/hailstonelaw03.FrameEnds", spec := "frameEnds", unfollowed := true, recurses := true, plainKeys := false, apart := false, narrowed := true }
def FrameEndsUptoSaid : Prop := frameEndsUptoRow.holds Try.pinned (OpenSpec.upto frameEndsSpec)

/-- 'hailstonelaw03.FrameMore', WHERE WHAT IT READS IS OF BULK AT MOST 1048576: true; the input reads as it did. -/
def frameMoreUptoRow : OpenClaim := { program := "ytlicijnaacdceaa", sum := "62495729e525b1254faa9ac8ba29d739d98c30c887f72aab7941971acc727403", func := "hailstone/hailstonelaw03.FrameMore", spec := "frameMore", unfollowed := true, recurses := true, plainKeys := false, apart := false, narrowed := true }
def FrameMoreUptoSaid : Prop := frameMoreUptoRow.holds Try.pinned (OpenSpec.upto frameMoreSpec)

/-- 'hailstonelaw03.FrameSmooth', WHERE WHAT IT READS IS OF BULK AT MOST 1048576: true; the input reads as it did. -/
def frameSmoothUptoRow : OpenClaim := { program := "ytlicijnaacdceaa", sum := "62495729e525b1254faa9ac8ba29d739d98c30c887f72aab7941971acc727403", func := "hailstone/hailstonelaw03.FrameSmooth", spec := "frameSmooth", unfollowed := true, recurses := true, plainKeys := false, apart := false, narrowed := true }
def FrameSmoothUptoSaid : Prop := frameSmoothUptoRow.holds Try.pinned (OpenSpec.upto frameSmoothSpec)

/-- 'hailstonelaw03.FrameShares', WHERE WHAT IT READS IS OF BULK AT MOST 1048576: true; the input reads as it did. -/
def frameSharesUptoRow : OpenClaim := { program := "ytlicijnaacdceaa", sum := "62495729e525b1254faa9ac8ba29d739d98c30c887f72aab7941971acc727403", func := "hailstone/hailstonelaw03.FrameShares", spec := "frameShares", unfollowed := true, recurses := true, plainKeys := false, apart := false, narrowed := true }
def FrameSharesUptoSaid : Prop := frameSharesUptoRow.holds Try.pinned (OpenSpec.upto frameSharesSpec)

/-- 'hailstonelaw03.FrameTruth', WHERE WHAT IT READS IS OF BULK AT MOST 1048576: true; the input reads as it did. -/
def frameTruthUptoRow : OpenClaim := { program := "ytlicijnaacdceaa", sum := "62495729e525b1254faa9ac8ba29d739d98c30c887f72aab7941971acc727403", func := "hailstone/hailstonelaw03.FrameTruth", spec := "frameTruth", unfollowed := true, recurses := true, plainKeys := false, apart := false, narrowed := true }
def FrameTruthUptoSaid : Prop := frameTruthUptoRow.holds Try.pinned (OpenSpec.upto frameTruthSpec)

/-- 'hailstonelaw03.FrameLots', WHERE WHAT IT READS IS OF BULK AT MOST 1048576: true; the input reads as it did. -/
def frameLotsUptoRow : OpenClaim := { program := "ytlicijnaacdceaa", sum := "62495729e525b1254faa9ac8ba29d739d98c30c887f72aab7941971acc727403", func := "hailstone/hailstonelaw03.FrameLots", spec := "frameLots", unfollowed := true, recurses := true, plainKeys := false, apart := false, narrowed := true }
def FrameLotsUptoSaid : Prop := frameLotsUptoRow.holds Try.pinned (OpenSpec.upto frameLotsSpec)

/-- 'hailstonelaw03.FrameDraws', WHERE WHAT IT READS IS OF BULK AT MOST 1048576: true; the input reads as it did. -/
def frameDrawsUptoRow : OpenClaim := { program := "ytlicijnaacdceaa", sum := "62495729e525b1254faa9ac8ba29d739d98c30c887f72aab7941971acc727403", func := "hailstone/hailstonelaw03.FrameDraws", spec := "frameDraws", unfollowed := true, recurses := true, plainKeys := false, apart := false, narrowed := true }
def FrameDrawsUptoSaid : Prop := frameDrawsUptoRow.holds Try.pinned (OpenSpec.upto frameDrawsSpec)

/-- 'hailstonelaw03.FrameNames', WHERE WHAT IT READS IS OF BULK AT MOST 1048576: true; the input reads as it did. -/
def frameNamesUptoRow : OpenClaim := { program := "ytlicijnaacdceaa", sum := "62495729e525b1254faa9ac8ba29d739d98c30c887f72aab7941971acc727403", func := "hailstone/hailstonelaw03.FrameNames", spec := "frameNames", unfollowed := true, recurses := true, plainKeys := false, apart := false, narrowed := true }
def FrameNamesUptoSaid : Prop := frameNamesUptoRow.holds Try.pinned (OpenSpec.upto frameNamesSpec)

end Rows
end Go.Proofs.Ytlicijnaacdceaa
