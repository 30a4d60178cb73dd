/-
  No cell of these rows narrows 'for every input' (looked for: loops, veiled, ifaces, maps, wideKeys, modest, calm, conditions, laid).
  DERIVED. THE GIVEN ROWS OF THIS SEAT. 10 by the template 'for every input the law returns true; each argument reads behind the call as it read before'; 0 by the template 'total and deterministic' (their statements: YtaedfhikoamfeaaTotals.lean).
  GIVEN WITH THE SEED: the statements are not yours to turn. If you find one false, say at which input.
  Laid BY PROGRAM, IN A SANDBOX (cutbox-rows.mjs): the forced cells as the released guide's own fill.sh prints them over the translation 46ed8f5503d8d956… (all of the seat's roots in one cut). By AI agents, Wed Nov 11 2026. No macro, syntax, notation, axiom, sorry.
-/
import Derived.Test.YtaedfhikoamfeaaChecked
import GoSem.Claim
import GoSem.ClaimJoined
import GoSem.ClaimMapViews
import Derived.JoinedTies
import Derived.KernelRfl
namespace Go.Proofs.Ytaedfhikoamfeaa
/- THE CELL 'sum', in the pinned program and in every row, IS THE sha256 OF THE DUMP (.gsa) THAT YtaedfhikoamfeaaProg.lean LOADS. Nothing in Lean hashes anything: it is a label: what it is worth is what the hold of that sum in a sandbox is worth. -/
noncomputable def Try.pinned : Pinned := { name := "ytaedfhikoamfeaa", sum := "46ed8f5503d8d956a1f76eb8d53f1a9389593bfd5301e6c54e7423e2c595d516", checked := Try.checked }
namespace Rows
def none {H : Type} : Left H := { results := [], args := [] }

/-- 'anamnesislaw06.ScalarPoints': WHATEVER THE INPUT: true; the input reads as it did. -/
def scalarPointsSpec : ChangeSpec := { name := "scalarPoints", fn := fun _ => fun
  | [d1, d2, d3, d4] => { results := [.lit (.bool true)], args := [d1, d2, d3, d4] }
  | _ => none }
def scalarPointsRow : OpenClaim := { program := "ytaedfhikoamfeaa", sum := "46ed8f5503d8d956a1f76eb8d53f1a9389593bfd5301e6c54e7423e2c595d516", func := "anamnesis/anamnesislaw06.ScalarPoints", spec := "scalarPoints", unfollowed := true, recurses := true, named := ["math/bits.divideError", "math/bits.overflowError"], apart := false }
def ScalarPointsSaid : Prop := scalarPointsRow.holds Try.pinned (OpenSpec.ofChange scalarPointsSpec)

/-- ITS FALSE NEIGHBOUR: 'it returns false'. Refute it at one input. -/
def scalarPointsWrong : ChangeSpec := { name := "scalarPoints", fn := fun _ => fun
  | [d1, d2, d3, d4] => { results := [.lit (.bool false)], args := [d1, d2, d3, d4] }
  | _ => none }
def ScalarPointsWrongFalsely : Prop := scalarPointsRow.holds Try.pinned (OpenSpec.ofChange scalarPointsWrong)

/-- 'anamnesislaw06.ScalarOne': WHATEVER THE INPUT: true; the input reads as it did. -/
def scalarOneSpec : ChangeSpec := { name := "scalarOne", fn := fun _ => fun
  | [d1, d2, d3, d4] => { results := [.lit (.bool true)], args := [d1, d2, d3, d4] }
  | _ => none }
def scalarOneRow : OpenClaim := { program := "ytaedfhikoamfeaa", sum := "46ed8f5503d8d956a1f76eb8d53f1a9389593bfd5301e6c54e7423e2c595d516", func := "anamnesis/anamnesislaw06.ScalarOne", spec := "scalarOne", unfollowed := true, recurses := true, named := ["math/bits.divideError", "math/bits.overflowError"], apart := false }
def ScalarOneSaid : Prop := scalarOneRow.holds Try.pinned (OpenSpec.ofChange scalarOneSpec)

/-- ITS FALSE NEIGHBOUR: 'it returns false'. Refute it at one input. -/
def scalarOneWrong : ChangeSpec := { name := "scalarOne", fn := fun _ => fun
  | [d1, d2, d3, d4] => { results := [.lit (.bool false)], args := [d1, d2, d3, d4] }
  | _ => none }
def ScalarOneWrongFalsely : Prop := scalarOneRow.holds Try.pinned (OpenSpec.ofChange scalarOneWrong)

/-- 'anamnesislaw07.JoinBeside': WHATEVER THE INPUT: true; the input reads as it did. -/
def joinBesideSpec : ChangeSpec := { name := "joinBeside", fn := fun _ => fun
  | [d1, d2, d3] => { results := [.lit (.bool true)], args := [d1, d2, d3] }
  | _ => none }
def joinBesideRow : OpenClaim := { program := "ytaedfhikoamfeaa", sum := "46ed8f5503d8d956a1f76eb8d53f1a9389593bfd5301e6c54e7423e2c595d516", func := "anamnesis/anamnesislaw07.JoinBeside", spec := "joinBeside", inPlace := ["slices.overlaps[int]"], unfollowed := true, recurses := true, apart := false }
def JoinBesideSaid : Prop := joinBesideRow.holds Try.pinned (OpenSpec.ofChange joinBesideSpec)

/-- ITS FALSE NEIGHBOUR: 'it returns false'. Refute it at one input. -/
def joinBesideWrong : ChangeSpec := { name := "joinBeside", fn := fun _ => fun
  | [d1, d2, d3] => { results := [.lit (.bool false)], args := [d1, d2, d3] }
  | _ => none }
def JoinBesideWrongFalsely : Prop := joinBesideRow.holds Try.pinned (OpenSpec.ofChange joinBesideWrong)

/-- 'anamnesislaw07.JoinThree': WHATEVER THE INPUT: true; the input reads as it did. -/
def joinThreeSpec : ChangeSpec := { name := "joinThree", fn := fun _ => fun
  | [d1, d2, d3] => { results := [.lit (.bool true)], args := [d1, d2, d3] }
  | _ => none }
def joinThreeRow : OpenClaim := { program := "ytaedfhikoamfeaa", sum := "46ed8f5503d8d956a1f76eb8d53f1a9389593bfd5301e6c54e7423e2c595d516", func := "anamnesis/anamnesislaw07.JoinThree", spec := "joinThree", inPlace := ["slices.overlaps[int]"], unfollowed := true, recurses := true, apart := false }
def JoinThreeSaid : Prop := joinThreeRow.holds Try.pinned (OpenSpec.ofChange joinThreeSpec)

/-- ITS FALSE NEIGHBOUR: 'it returns false'. Refute it at one input. -/
def joinThreeWrong : ChangeSpec := { name := "joinThree", fn := fun _ => fun
  | [d1, d2, d3] => { results := [.lit (.bool false)], args := [d1, d2, d3] }
  | _ => none }
def JoinThreeWrongFalsely : Prop := joinThreeRow.holds Try.pinned (OpenSpec.ofChange joinThreeWrong)

/-- 'anamnesislaw07.JoinParts': WHATEVER THE INPUT: true; the input reads as it did. -/
def joinPartsSpec : ChangeSpec := { name := "joinParts", fn := fun _ => fun
  | [d1, d2] => { results := [.lit (.bool true)], args := [d1, d2] }
  | _ => none }
def joinPartsRow : OpenClaim := { program := "ytaedfhikoamfeaa", sum := "46ed8f5503d8d956a1f76eb8d53f1a9389593bfd5301e6c54e7423e2c595d516", func := "anamnesis/anamnesislaw07.JoinParts", spec := "joinParts", inPlace := ["slices.overlaps[int]"], unfollowed := true, recurses := true, apart := false }
def JoinPartsSaid : Prop := joinPartsRow.holds Try.pinned (OpenSpec.ofChange joinPartsSpec)

/-- ITS FALSE NEIGHBOUR: 'it returns false'. Refute it at one input. -/
def joinPartsWrong : ChangeSpec := { name := "joinParts", fn := fun _ => fun
  | [d1, d2] => { results := [.lit (.bool false)], args := [d1, d2] }
  | _ => none }
def JoinPartsWrongFalsely : Prop := joinPartsRow.holds Try.pinned (OpenSpec.ofChange joinPartsWrong)

/-- 'anamnesislaw07.JoinKnown': WHATEVER THE INPUT: true; the input reads as it did. -/
def joinKnownSpec : ChangeSpec := { name := "joinKnown", fn := fun _ => fun
  | [] => { results := [.lit (.bool true)], args := [] }
  | _ => none }
def joinKnownRow : OpenClaim := { program := "ytaedfhikoamfeaa", sum := "46ed8f5503d8d956a1f76eb8d53f1a9389593bfd5301e6c54e7423e2c595d516", func := "anamnesis/anamnesislaw07.JoinKnown", spec := "joinKnown", inPlace := ["slices.overlaps[int]"], unfollowed := true, recurses := true, apart := false }
def JoinKnownSaid : Prop := joinKnownRow.holds Try.pinned (OpenSpec.ofChange joinKnownSpec)

/-- ITS FALSE NEIGHBOUR: 'it returns false'. Refute it at one input. -/
def joinKnownWrong : ChangeSpec := { name := "joinKnown", fn := fun _ => fun
  | [] => { results := [.lit (.bool false)], args := [] }
  | _ => none }
def JoinKnownWrongFalsely : Prop := joinKnownRow.holds Try.pinned (OpenSpec.ofChange joinKnownWrong)

/-- 'anamnesislaw07.JoinShapes': WHATEVER THE INPUT: true; the input reads as it did. -/
def joinShapesSpec : ChangeSpec := { name := "joinShapes", fn := fun _ => fun
  | [d1, d2] => { results := [.lit (.bool true)], args := [d1, d2] }
  | _ => none }
def joinShapesRow : OpenClaim := { program := "ytaedfhikoamfeaa", sum := "46ed8f5503d8d956a1f76eb8d53f1a9389593bfd5301e6c54e7423e2c595d516", func := "anamnesis/anamnesislaw07.JoinShapes", spec := "joinShapes", inPlace := ["slices.overlaps[int]"], unfollowed := true, recurses := true, apart := false }
def JoinShapesSaid : Prop := joinShapesRow.holds Try.pinned (OpenSpec.ofChange joinShapesSpec)

/-- ITS FALSE NEIGHBOUR: 'it returns false'. Refute it at one input. -/
def joinShapesWrong : ChangeSpec := { name := "joinShapes", fn := fun _ => fun
  | [d1, d2] => { results := [.lit (.bool false)], args := [d1, d2] }
  | _ => none }
def JoinShapesWrongFalsely : Prop := joinShapesRow.holds Try.pinned (OpenSpec.ofChange joinShapesWrong)

/-- 'anamnesislaw07.JoinBack': WHATEVER THE INPUT: true; the input reads as it did. -/
def joinBackSpec : ChangeSpec := { name := "joinBack", fn := fun _ => fun
  | [d] => { results := [.lit (.bool true)], args := [d] }
  | _ => none }
def joinBackRow : OpenClaim := { program := "ytaedfhikoamfeaa", sum := "46ed8f5503d8d956a1f76eb8d53f1a9389593bfd5301e6c54e7423e2c595d516", func := "anamnesis/anamnesislaw07.JoinBack", spec := "joinBack", inPlace := ["slices.overlaps[int]"], unfollowed := true, recurses := true, apart := false }
def JoinBackSaid : Prop := joinBackRow.holds Try.pinned (OpenSpec.ofChange joinBackSpec)

/-- ITS FALSE NEIGHBOUR: 'it returns false'. Refute it at one input. -/
def joinBackWrong : ChangeSpec := { name := "joinBack", fn := fun _ => fun
  | [d] => { results := [.lit (.bool false)], args := [d] }
  | _ => none }
def JoinBackWrongFalsely : Prop := joinBackRow.holds Try.pinned (OpenSpec.ofChange joinBackWrong)

/-- 'anamnesislaw06.ScalarKnown': WHATEVER THE INPUT: true; the input reads as it did. -/
def scalarKnownSpec : ChangeSpec := { name := "scalarKnown", fn := fun _ => fun
  | [] => { results := [.lit (.bool true)], args := [] }
  | _ => none }
def scalarKnownRow : OpenClaim := { program := "ytaedfhikoamfeaa", sum := "46ed8f5503d8d956a1f76eb8d53f1a9389593bfd5301e6c54e7423e2c595d516", func := "anamnesis/anamnesislaw06.ScalarKnown", spec := "scalarKnown", unfollowed := true, recurses := true, named := ["math/bits.divideError", "math/bits.overflowError"], apart := false }
def ScalarKnownSaid : Prop := scalarKnownRow.holds Try.pinned (OpenSpec.ofChange scalarKnownSpec)

/-- ITS FALSE NEIGHBOUR: 'it returns false'. Refute it at one input. -/
def scalarKnownWrong : ChangeSpec := { name := "scalarKnown", fn := fun _ => fun
  | [] => { results := [.lit (.bool false)], args := [] }
  | _ => none }
def ScalarKnownWrongFalsely : Prop := scalarKnownRow.holds Try.pinned (OpenSpec.ofChange scalarKnownWrong)

/-- 'anamnesislaw06.ScalarTells': WHATEVER THE INPUT: true; the input reads as it did. -/
def scalarTellsSpec : ChangeSpec := { name := "scalarTells", fn := fun _ => fun
  | [d1, d2, d3, d4] => { results := [.lit (.bool true)], args := [d1, d2, d3, d4] }
  | _ => none }
def scalarTellsRow : OpenClaim := { program := "ytaedfhikoamfeaa", sum := "46ed8f5503d8d956a1f76eb8d53f1a9389593bfd5301e6c54e7423e2c595d516", func := "anamnesis/anamnesislaw06.ScalarTells", spec := "scalarTells", unfollowed := true, recurses := true, named := ["math/bits.divideError", "math/bits.overflowError"], apart := false }
def ScalarTellsSaid : Prop := scalarTellsRow.holds Try.pinned (OpenSpec.ofChange scalarTellsSpec)

/-- ITS FALSE NEIGHBOUR: 'it returns false'. Refute it at one input. -/
def scalarTellsWrong : ChangeSpec := { name := "scalarTells", fn := fun _ => fun
  | [d1, d2, d3, d4] => { results := [.lit (.bool false)], args := [d1, d2, d3, d4] }
  | _ => none }
def ScalarTellsWrongFalsely : Prop := scalarTellsRow.holds Try.pinned (OpenSpec.ofChange scalarTellsWrong)

/- THE SECOND FORM. 'bulk': how many values and letters a reading holds, each counted each time it is reached (what is shared counts as often as it is met; a slice's spare places count too). A statement '..UptoSaid' is the law's where the arguments, and the package variables that the reading takes, are together of bulk at most 1048576: NARROWER than '..Said'. Prove '..Said' where nothing that the law and all that it calls make is longer than what came in: it says more and counts as full. Else prove '..UptoSaid'. A law counts once. -/
mutual
def uptoBulk {H : Type} : DataW H → Nat
  | .lit (.string bytes) => bytes.length + 1
  | .lit _ => 1
  | .nil => 1
  | .ptr d => uptoBulk d + 1
  | .slice elems spare => uptoBulkAll elems + uptoBulkAll spare + 1
  | .agg parts => uptoBulkAll parts + 1
  | .iface _ d => uptoBulk d + 1
  | .map entries => uptoBulkEntries entries + 1
  | .held _ => 1
def uptoBulkAll {H : Type} : List (DataW H) → Nat
  | [] => 0
  | d :: r => uptoBulk d + uptoBulkAll r
def uptoBulkEntries {H : Type} : List (Lit × DataW H) → Nat
  | [] => 0
  | x :: r => uptoBulkEntry x + uptoBulkEntries r
def uptoBulkEntry {H : Type} : Lit × DataW H → Nat
  | (.string bytes, d) => bytes.length + uptoBulk d + 1
  | (_, d) => uptoBulk d + 1
 end
def uptoSmall : (H : Type) → List (DataW H) → Bool := fun _ ds => decide (uptoBulkAll ds ≤ 1048576)
def OpenSpec.upto (s : _root_.Go.ChangeSpec) : _root_.Go.OpenSpec := { _root_.Go.OpenSpec.ofChange s with cond := some uptoSmall }

/-- 'anamnesislaw06.ScalarPoints', WHERE WHAT IT READS IS OF BULK AT MOST 1048576: true; the input reads as it did. -/
def scalarPointsUptoRow : OpenClaim := { program := "ytaedfhikoamfeaa", sum := "46ed8f5503d8d956a1f76eb8d53f1a9389593bfd5301e6c54e7423e2c595d516", func := "anamnesis/anamnesislaw06.ScalarPoints", spec := "scalarPoints", unfollowed := true, recurses := true, named := ["math/bits.divideError", "math/bits.overflowError"], apart := false, narrowed := true }
def ScalarPointsUptoSaid : Prop := scalarPointsUptoRow.holds Try.pinned (OpenSpec.upto scalarPointsSpec)

/-- 'anamnesislaw06.ScalarOne', WHERE WHAT IT READS IS OF BULK AT MOST 1048576: true; the input reads as it did. -/
def scalarOneUptoRow : OpenClaim := { program := "ytaedfhikoamfeaa", sum := "46ed8f5503d8d956a1f76eb8d53f1a9389593bfd5301e6c54e7423e2c595d516", func := "anamnesis/anamnesislaw06.ScalarOne", spec := "scalarOne", unfollowed := true, recurses := true, named := ["math/bits.divideError", "math/bits.overflowError"], apart := false, narrowed := true }
def ScalarOneUptoSaid : Prop := scalarOneUptoRow.holds Try.pinned (OpenSpec.upto scalarOneSpec)

/-- 'anamnesislaw07.JoinBeside', WHERE WHAT IT READS IS OF BULK AT MOST 1048576: true; the input reads as it did. -/
def joinBesideUptoRow : OpenClaim := { program := "ytaedfhikoamfeaa", sum := "46ed8f5503d8d956a1f76eb8d53f1a9389593bfd5301e6c54e7423e2c595d516", func := "anamnesis/anamnesislaw07.JoinBeside", spec := "joinBeside", inPlace := ["slices.overlaps[int]"], unfollowed := true, recurses := true, apart := false, narrowed := true }
def JoinBesideUptoSaid : Prop := joinBesideUptoRow.holds Try.pinned (OpenSpec.upto joinBesideSpec)

/-- 'anamnesislaw07.JoinThree', WHERE WHAT IT READS IS OF BULK AT MOST 1048576: true; the input reads as it did. -/
def joinThreeUptoRow : OpenClaim := { program := "ytaedfhikoamfeaa", sum := "46ed8f5503d8d956a1f76eb8d53f1a9389593bfd5301e6c54e7423e2c595d516", func := "anamnesis/anamnesislaw07.JoinThree", spec := "joinThree", inPlace := ["slices.overlaps[int]"], unfollowed := true, recurses := true, apart := false, narrowed := true }
def JoinThreeUptoSaid : Prop := joinThreeUptoRow.holds Try.pinned (OpenSpec.upto joinThreeSpec)

/-- 'anamnesislaw07.JoinParts', WHERE WHAT IT READS IS OF BULK AT MOST 1048576: true; the input reads as it did. -/
def joinPartsUptoRow : OpenClaim := { program := "ytaedfhikoamfeaa", sum := "46ed8f5503d8d956a1f76eb8d53f1a9389593bfd5301e6c54e7423e2c595d516", func := "anamnesis/anamnesislaw07.JoinParts", spec := "joinParts", inPlace := ["slices.overlaps[int]"], unfollowed := true, recurses := true, apart := false, narrowed := true }
def JoinPartsUptoSaid : Prop := joinPartsUptoRow.holds Try.pinned (OpenSpec.upto joinPartsSpec)

/-- 'anamnesislaw07.JoinKnown', WHERE WHAT IT READS IS OF BULK AT MOST 1048576: true; the input reads as it did. -/
def joinKnownUptoRow : OpenClaim := { program := "ytaedfhikoamfeaa", sum := "46ed8f5503d8d956a1f76eb8d53f1a9389593bfd5301e6c54e7423e2c595d516", func := "anamnesis/anamnesislaw07.JoinKnown", spec := "joinKnown", inPlace := ["slices.overlaps[int]"], unfollowed := true, recurses := true, apart := false, narrowed := true }
def JoinKnownUptoSaid : Prop := joinKnownUptoRow.holds Try.pinned (OpenSpec.upto joinKnownSpec)

/-- 'anamnesislaw07.JoinShapes', WHERE WHAT IT READS IS OF BULK AT MOST 1048576: true; the input reads as it did. -/
def joinShapesUptoRow : OpenClaim := { program := "ytaedfhikoamfeaa", sum := "46ed8f5503d8d956a1f76eb8d53f1a9389593bfd5301e6c54e7423e2c595d516", func := "anamnesis/anamnesislaw07.JoinShapes", spec := "joinShapes", inPlace := ["slices.overlaps[int]"], unfollowed := true, recurses := true, apart := false, narrowed := true }
def JoinShapesUptoSaid : Prop := joinShapesUptoRow.holds Try.pinned (OpenSpec.upto joinShapesSpec)

/-- 'anamnesislaw07.JoinBack', WHERE WHAT IT READS IS OF BULK AT MOST 1048576: true; the input reads as it did. -/
def joinBackUptoRow : OpenClaim := { program := "ytaedfhikoamfeaa", sum := "46ed8f5503d8d956a1f76eb8d53f1a9389593bfd5301e6c54e7423e2c595d516", func := "anamnesis/anamnesislaw07.JoinBack", spec := "joinBack", inPlace := ["slices.overlaps[int]"], unfollowed := true, recurses := true, apart := false, narrowed := true }
def JoinBackUptoSaid : Prop := joinBackUptoRow.holds Try.pinned (OpenSpec.upto joinBackSpec)

/-- 'anamnesislaw06.ScalarKnown', WHERE WHAT IT READS IS OF BULK AT MOST 1048576: true; the input reads as it did. -/
def scalarKnownUptoRow : OpenClaim := { program := "ytaedfhikoamfeaa", sum := "46ed8f5503d8d956a1f76eb8d53f1a9389593bfd5301e6c54e7423e2c595d516", func := "anamnesis/anamnesislaw06.ScalarKnown", spec := "scalarKnown", unfollowed := true, recurses := true, named := ["math/bits.divideError", "math/bits.overflowError"], apart := false, narrowed := true }
def ScalarKnownUptoSaid : Prop := scalarKnownUptoRow.holds Try.pinned (OpenSpec.upto scalarKnownSpec)

/-- 'anamnesislaw06.ScalarTells', WHERE WHAT IT READS IS OF BULK AT MOST 1048576: true; the input reads as it did. -/
def scalarTellsUptoRow : OpenClaim := { program := "ytaedfhikoamfeaa", sum := "46ed8f5503d8d956a1f76eb8d53f1a9389593bfd5301e6c54e7423e2c595d516", func := "anamnesis/anamnesislaw06.ScalarTells", spec := "scalarTells", unfollowed := true, recurses := true, named := ["math/bits.divideError", "math/bits.overflowError"], apart := false, narrowed := true }
def ScalarTellsUptoSaid : Prop := scalarTellsUptoRow.holds Try.pinned (OpenSpec.upto scalarTellsSpec)

end Rows
end Go.Proofs.Ytaedfhikoamfeaa
