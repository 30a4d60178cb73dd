/-
  No cell of these rows narrows 'for every input' (looked for: loops, veiled, ifaces, maps, wideKeys, modest, calm, conditions, laid).
  DERIVED. THE GIVEN ROWS OF THIS SEAT. 11 by the template 'for every input the law returns true; each argument reads behind the call as it read before'; 0 by the template 'total and deterministic' (their statements: YtmelmiffgkippaaTotals.lean).
  GIVEN WITH THE SEED: the statements are not yours to turn. If you find one false, say at which input.
  Laid BY PROGRAM, IN A SANDBOX (cutbox-rows.mjs): the forced cells as the released guide's own fill.sh prints them over the translation 1c19826f36076ae9… (all of the seat's roots in one cut). By AI agents, Wed Nov 11 2026. No macro, syntax, notation, axiom, sorry.
-/
import Derived.Test.YtmelmiffgkippaaChecked
import GoSem.Claim
import GoSem.ClaimJoined
import GoSem.ClaimMapViews
import Derived.JoinedTies
import Derived.KernelRfl
namespace Go.Proofs.Ytmelmiffgkippaa
/- THE CELL 'sum', in the pinned program and in every row, IS THE sha256 OF THE DUMP (.gsa) THAT YtmelmiffgkippaaProg.lean LOADS. Nothing in Lean hashes anything: it is a label: what it is worth is what the hold of that sum in a sandbox is worth. -/
noncomputable def Try.pinned : Pinned := { name := "ytmelmiffgkippaa", sum := "1c19826f36076ae9b708cca14a1129c0a87c14412db18c5722d28a485ca3d24f", checked := Try.checked }
namespace Rows
def none {H : Type} : Left H := { results := [], args := [] }

/-- 'anamnesislaw09.PickAlong': WHATEVER THE INPUT: true; the input reads as it did. -/
def pickAlongSpec : ChangeSpec := { name := "pickAlong", fn := fun _ => fun
  | [d1, d2, d3] => { results := [.lit (.bool true)], args := [d1, d2, d3] }
  | _ => none }
def pickAlongRow : OpenClaim := { program := "ytmelmiffgkippaa", sum := "1c19826f36076ae9b708cca14a1129c0a87c14412db18c5722d28a485ca3d24f", func := "anamnesis/anamnesislaw09.PickAlong", spec := "pickAlong", unfollowed := true, recurses := true, apart := false }
def PickAlongSaid : Prop := pickAlongRow.holds Try.pinned (OpenSpec.ofChange pickAlongSpec)

/-- ITS FALSE NEIGHBOUR: 'it returns false'. Refute it at one input. -/
def pickAlongWrong : ChangeSpec := { name := "pickAlong", fn := fun _ => fun
  | [d1, d2, d3] => { results := [.lit (.bool false)], args := [d1, d2, d3] }
  | _ => none }
def PickAlongWrongFalsely : Prop := pickAlongRow.holds Try.pinned (OpenSpec.ofChange pickAlongWrong)

/-- 'anamnesislaw09.PickBack': WHATEVER THE INPUT: true; the input reads as it did. -/
def pickBackSpec : ChangeSpec := { name := "pickBack", fn := fun _ => fun
  | [d1, d2, d3] => { results := [.lit (.bool true)], args := [d1, d2, d3] }
  | _ => none }
def pickBackRow : OpenClaim := { program := "ytmelmiffgkippaa", sum := "1c19826f36076ae9b708cca14a1129c0a87c14412db18c5722d28a485ca3d24f", func := "anamnesis/anamnesislaw09.PickBack", spec := "pickBack", unfollowed := true, recurses := true, apart := false }
def PickBackSaid : Prop := pickBackRow.holds Try.pinned (OpenSpec.ofChange pickBackSpec)

/-- ITS FALSE NEIGHBOUR: 'it returns false'. Refute it at one input. -/
def pickBackWrong : ChangeSpec := { name := "pickBack", fn := fun _ => fun
  | [d1, d2, d3] => { results := [.lit (.bool false)], args := [d1, d2, d3] }
  | _ => none }
def PickBackWrongFalsely : Prop := pickBackRow.holds Try.pinned (OpenSpec.ofChange pickBackWrong)

/-- 'anamnesislaw09.PickShapes': WHATEVER THE INPUT: true; the input reads as it did. -/
def pickShapesSpec : ChangeSpec := { name := "pickShapes", fn := fun _ => fun
  | [d1, d2] => { results := [.lit (.bool true)], args := [d1, d2] }
  | _ => none }
def pickShapesRow : OpenClaim := { program := "ytmelmiffgkippaa", sum := "1c19826f36076ae9b708cca14a1129c0a87c14412db18c5722d28a485ca3d24f", func := "anamnesis/anamnesislaw09.PickShapes", spec := "pickShapes", unfollowed := true, recurses := true, apart := false }
def PickShapesSaid : Prop := pickShapesRow.holds Try.pinned (OpenSpec.ofChange pickShapesSpec)

/-- ITS FALSE NEIGHBOUR: 'it returns false'. Refute it at one input. -/
def pickShapesWrong : ChangeSpec := { name := "pickShapes", fn := fun _ => fun
  | [d1, d2] => { results := [.lit (.bool false)], args := [d1, d2] }
  | _ => none }
def PickShapesWrongFalsely : Prop := pickShapesRow.holds Try.pinned (OpenSpec.ofChange pickShapesWrong)

/-- 'anamnesislaw08.TurnKnown': WHATEVER THE INPUT: true; the input reads as it did. -/
def turnKnownSpec : ChangeSpec := { name := "turnKnown", fn := fun _ => fun
  | [] => { results := [.lit (.bool true)], args := [] }
  | _ => none }
def turnKnownRow : OpenClaim := { program := "ytmelmiffgkippaa", sum := "1c19826f36076ae9b708cca14a1129c0a87c14412db18c5722d28a485ca3d24f", func := "anamnesis/anamnesislaw08.TurnKnown", spec := "turnKnown", unfollowed := true, recurses := true, apart := false }
def TurnKnownSaid : Prop := turnKnownRow.holds Try.pinned (OpenSpec.ofChange turnKnownSpec)

/-- ITS FALSE NEIGHBOUR: 'it returns false'. Refute it at one input. -/
def turnKnownWrong : ChangeSpec := { name := "turnKnown", fn := fun _ => fun
  | [] => { results := [.lit (.bool false)], args := [] }
  | _ => none }
def TurnKnownWrongFalsely : Prop := turnKnownRow.holds Try.pinned (OpenSpec.ofChange turnKnownWrong)

/-- 'anamnesislaw08.TurnTells': WHATEVER THE INPUT: true; the input reads as it did. -/
def turnTellsSpec : ChangeSpec := { name := "turnTells", fn := fun _ => fun
  | [d1, d2, d3] => { results := [.lit (.bool true)], args := [d1, d2, d3] }
  | _ => none }
def turnTellsRow : OpenClaim := { program := "ytmelmiffgkippaa", sum := "1c19826f36076ae9b708cca14a1129c0a87c14412db18c5722d28a485ca3d24f", func := "anamnesis/anamnesislaw08.TurnTells", spec := "turnTells", unfollowed := true, recurses := true, apart := false }
def TurnTellsSaid : Prop := turnTellsRow.holds Try.pinned (OpenSpec.ofChange turnTellsSpec)

/-- ITS FALSE NEIGHBOUR: 'it returns false'. Refute it at one input. -/
def turnTellsWrong : ChangeSpec := { name := "turnTells", fn := fun _ => fun
  | [d1, d2, d3] => { results := [.lit (.bool false)], args := [d1, d2, d3] }
  | _ => none }
def TurnTellsWrongFalsely : Prop := turnTellsRow.holds Try.pinned (OpenSpec.ofChange turnTellsWrong)

/-- 'anamnesislaw08.TurnBack': WHATEVER THE INPUT: true; the input reads as it did. -/
def turnBackSpec : ChangeSpec := { name := "turnBack", fn := fun _ => fun
  | [d1, d2, d3, d4] => { results := [.lit (.bool true)], args := [d1, d2, d3, d4] }
  | _ => none }
def turnBackRow : OpenClaim := { program := "ytmelmiffgkippaa", sum := "1c19826f36076ae9b708cca14a1129c0a87c14412db18c5722d28a485ca3d24f", func := "anamnesis/anamnesislaw08.TurnBack", spec := "turnBack", unfollowed := true, recurses := true, apart := false }
def TurnBackSaid : Prop := turnBackRow.holds Try.pinned (OpenSpec.ofChange turnBackSpec)

/-- ITS FALSE NEIGHBOUR: 'it returns false'. Refute it at one input. -/
def turnBackWrong : ChangeSpec := { name := "turnBack", fn := fun _ => fun
  | [d1, d2, d3, d4] => { results := [.lit (.bool false)], args := [d1, d2, d3, d4] }
  | _ => none }
def TurnBackWrongFalsely : Prop := turnBackRow.holds Try.pinned (OpenSpec.ofChange turnBackWrong)

/-- 'anamnesislaw08.TurnWays': WHATEVER THE INPUT: true; the input reads as it did. -/
def turnWaysSpec : ChangeSpec := { name := "turnWays", fn := fun _ => fun
  | [d1, d2] => { results := [.lit (.bool true)], args := [d1, d2] }
  | _ => none }
def turnWaysRow : OpenClaim := { program := "ytmelmiffgkippaa", sum := "1c19826f36076ae9b708cca14a1129c0a87c14412db18c5722d28a485ca3d24f", func := "anamnesis/anamnesislaw08.TurnWays", spec := "turnWays", unfollowed := true, recurses := true, apart := false }
def TurnWaysSaid : Prop := turnWaysRow.holds Try.pinned (OpenSpec.ofChange turnWaysSpec)

/-- ITS FALSE NEIGHBOUR: 'it returns false'. Refute it at one input. -/
def turnWaysWrong : ChangeSpec := { name := "turnWays", fn := fun _ => fun
  | [d1, d2] => { results := [.lit (.bool false)], args := [d1, d2] }
  | _ => none }
def TurnWaysWrongFalsely : Prop := turnWaysRow.holds Try.pinned (OpenSpec.ofChange turnWaysWrong)

/-- 'anamnesislaw08.TurnPlane': WHATEVER THE INPUT: true; the input reads as it did. -/
def turnPlaneSpec : ChangeSpec := { name := "turnPlane", fn := fun _ => fun
  | [d1, d2, d3, d4] => { results := [.lit (.bool true)], args := [d1, d2, d3, d4] }
  | _ => none }
def turnPlaneRow : OpenClaim := { program := "ytmelmiffgkippaa", sum := "1c19826f36076ae9b708cca14a1129c0a87c14412db18c5722d28a485ca3d24f", func := "anamnesis/anamnesislaw08.TurnPlane", spec := "turnPlane", unfollowed := true, recurses := true, apart := false }
def TurnPlaneSaid : Prop := turnPlaneRow.holds Try.pinned (OpenSpec.ofChange turnPlaneSpec)

/-- ITS FALSE NEIGHBOUR: 'it returns false'. Refute it at one input. -/
def turnPlaneWrong : ChangeSpec := { name := "turnPlane", fn := fun _ => fun
  | [d1, d2, d3, d4] => { results := [.lit (.bool false)], args := [d1, d2, d3, d4] }
  | _ => none }
def TurnPlaneWrongFalsely : Prop := turnPlaneRow.holds Try.pinned (OpenSpec.ofChange turnPlaneWrong)

/-- 'anamnesislaw09.PickEnds': WHATEVER THE INPUT: true; the input reads as it did. -/
def pickEndsSpec : ChangeSpec := { name := "pickEnds", fn := fun _ => fun
  | [d1, d2] => { results := [.lit (.bool true)], args := [d1, d2] }
  | _ => none }
def pickEndsRow : OpenClaim := { program := "ytmelmiffgkippaa", sum := "1c19826f36076ae9b708cca14a1129c0a87c14412db18c5722d28a485ca3d24f", func := "anamnesis/anamnesislaw09.PickEnds", spec := "pickEnds", unfollowed := true, recurses := true, apart := false }
def PickEndsSaid : Prop := pickEndsRow.holds Try.pinned (OpenSpec.ofChange pickEndsSpec)

/-- ITS FALSE NEIGHBOUR: 'it returns false'. Refute it at one input. -/
def pickEndsWrong : ChangeSpec := { name := "pickEnds", fn := fun _ => fun
  | [d1, d2] => { results := [.lit (.bool false)], args := [d1, d2] }
  | _ => none }
def PickEndsWrongFalsely : Prop := pickEndsRow.holds Try.pinned (OpenSpec.ofChange pickEndsWrong)

/-- 'anamnesislaw09.PickKnown': WHATEVER THE INPUT: true; the input reads as it did. -/
def pickKnownSpec : ChangeSpec := { name := "pickKnown", fn := fun _ => fun
  | [] => { results := [.lit (.bool true)], args := [] }
  | _ => none }
def pickKnownRow : OpenClaim := { program := "ytmelmiffgkippaa", sum := "1c19826f36076ae9b708cca14a1129c0a87c14412db18c5722d28a485ca3d24f", func := "anamnesis/anamnesislaw09.PickKnown", spec := "pickKnown", unfollowed := true, recurses := true, apart := false }
def PickKnownSaid : Prop := pickKnownRow.holds Try.pinned (OpenSpec.ofChange pickKnownSpec)

/-- ITS FALSE NEIGHBOUR: 'it returns false'. Refute it at one input. -/
def pickKnownWrong : ChangeSpec := { name := "pickKnown", fn := fun _ => fun
  | [] => { results := [.lit (.bool false)], args := [] }
  | _ => none }
def PickKnownWrongFalsely : Prop := pickKnownRow.holds Try.pinned (OpenSpec.ofChange pickKnownWrong)

/-- 'anamnesislaw09.PickBoth': WHATEVER THE INPUT: true; the input reads as it did. -/
def pickBothSpec : ChangeSpec := { name := "pickBoth", fn := fun _ => fun
  | [d1, d2] => { results := [.lit (.bool true)], args := [d1, d2] }
  | _ => none }
def pickBothRow : OpenClaim := { program := "ytmelmiffgkippaa", sum := "1c19826f36076ae9b708cca14a1129c0a87c14412db18c5722d28a485ca3d24f", func := "anamnesis/anamnesislaw09.PickBoth", spec := "pickBoth", inPlace := ["slices.overlaps[int]"], unfollowed := true, recurses := true, apart := false }
def PickBothSaid : Prop := pickBothRow.holds Try.pinned (OpenSpec.ofChange pickBothSpec)

/-- ITS FALSE NEIGHBOUR: 'it returns false'. Refute it at one input. -/
def pickBothWrong : ChangeSpec := { name := "pickBoth", fn := fun _ => fun
  | [d1, d2] => { results := [.lit (.bool false)], args := [d1, d2] }
  | _ => none }
def PickBothWrongFalsely : Prop := pickBothRow.holds Try.pinned (OpenSpec.ofChange pickBothWrong)

/- THE SECOND FORM. 'bulk': how many values and letters a reading holds, each counted each time it is reached (what is shared counts as often as it is met; a slice's spare places count too). A statement '..UptoSaid' is the law's where the arguments, and the package variables that the reading takes, are together of bulk at most 1048576: NARROWER than '..Said'. Prove '..Said' where nothing that the law and all that it calls make is longer than what came in: it says more and counts as full. Else prove '..UptoSaid'. A law counts once. -/
mutual
def uptoBulk {H : Type} : DataW H → Nat
  | .lit (.string bytes) => bytes.length + 1
  | .lit _ => 1
  | .nil => 1
  | .ptr d => uptoBulk d + 1
  | .slice elems spare => uptoBulkAll elems + uptoBulkAll spare + 1
  | .agg parts => uptoBulkAll parts + 1
  | .iface _ d => uptoBulk d + 1
  | .map entries => uptoBulkEntries entries + 1
  | .held _ => 1
def uptoBulkAll {H : Type} : List (DataW H) → Nat
  | [] => 0
  | d :: r => uptoBulk d + uptoBulkAll r
def uptoBulkEntries {H : Type} : List (Lit × DataW H) → Nat
  | [] => 0
  | x :: r => uptoBulkEntry x + uptoBulkEntries r
def uptoBulkEntry {H : Type} : Lit × DataW H → Nat
  | (.string bytes, d) => bytes.length + uptoBulk d + 1
  | (_, d) => uptoBulk d + 1
 end
def uptoSmall : (H : Type) → List (DataW H) → Bool := fun _ ds => decide (uptoBulkAll ds ≤ 1048576)
def OpenSpec.upto (s : _root_.Go.ChangeSpec) : _root_.Go.OpenSpec := { _root_.Go.OpenSpec.ofChange s with cond := some uptoSmall }

/-- 'anamnesislaw09.PickAlong', WHERE WHAT IT READS IS OF BULK AT MOST 1048576: true; the input reads as it did. -/
def pickAlongUptoRow : OpenClaim := { program := "ytmelmiffgkippaa", sum := "1c19826f36076ae9b708cca14a1129c0a87c14412db18c5722d28a485ca3d24f", func := "anamnesis/anamnesislaw09.PickAlong", spec := "pickAlong", unfollowed := true, recurses := true, apart := false, narrowed := true }
def PickAlongUptoSaid : Prop := pickAlongUptoRow.holds Try.pinned (OpenSpec.upto pickAlongSpec)

/-- 'anamnesislaw09.PickBack', WHERE WHAT IT READS IS OF BULK AT MOST 1048576: true; the input reads as it did. -/
def pickBackUptoRow : OpenClaim := { program := "ytmelmiffgkippaa", sum := "1c19826f36076ae9b708cca14a1129c0a87c14412db18c5722d28a485ca3d24f", func := "anamnesis/anamnesislaw09.PickBack", spec := "pickBack", unfollowed := true, recurses := true, apart := false, narrowed := true }
def PickBackUptoSaid : Prop := pickBackUptoRow.holds Try.pinned (OpenSpec.upto pickBackSpec)

/-- 'anamnesislaw09.PickShapes', WHERE WHAT IT READS IS OF BULK AT MOST 1048576: true; the input reads as it did. -/
def pickShapesUptoRow : OpenClaim := { program := "ytmelmiffgkippaa", sum := "1c19826f36076ae9b708cca14a1129c0a87c14412db18c5722d28a485ca3d24f", func := "anamnesis/anamnesislaw09.PickShapes", spec := "pickShapes", unfollowed := true, recurses := true, apart := false, narrowed := true }
def PickShapesUptoSaid : Prop := pickShapesUptoRow.holds Try.pinned (OpenSpec.upto pickShapesSpec)

/-- 'anamnesislaw08.TurnKnown', WHERE WHAT IT READS IS OF BULK AT MOST 1048576: true; the input reads as it did. -/
def turnKnownUptoRow : OpenClaim := { program := "ytmelmiffgkippaa", sum := "1c19826f36076ae9b708cca14a1129c0a87c14412db18c5722d28a485ca3d24f", func := "anamnesis/anamnesislaw08.TurnKnown", spec := "turnKnown", unfollowed := true, recurses := true, apart := false, narrowed := true }
def TurnKnownUptoSaid : Prop := turnKnownUptoRow.holds Try.pinned (OpenSpec.upto turnKnownSpec)

/-- 'anamnesislaw08.TurnTells', WHERE WHAT IT READS IS OF BULK AT MOST 1048576: true; the input reads as it did. -/
def turnTellsUptoRow : OpenClaim := { program := "ytmelmiffgkippaa", sum := "1c19826f36076ae9b708cca14a1129c0a87c14412db18c5722d28a485ca3d24f", func := "anamnesis/anamnesislaw08.TurnTells", spec := "turnTells", unfollowed := true, recurses := true, apart := false, narrowed := true }
def TurnTellsUptoSaid : Prop := turnTellsUptoRow.holds Try.pinned (OpenSpec.upto turnTellsSpec)

/-- 'anamnesislaw08.TurnBack', WHERE WHAT IT READS IS OF BULK AT MOST 1048576: true; the input reads as it did. -/
def turnBackUptoRow : OpenClaim := { program := "ytmelmiffgkippaa", sum := "1c19826f36076ae9b708cca14a1129c0a87c14412db18c5722d28a485ca3d24f", func := "anamnesis/anamnesislaw08.TurnBack", spec := "turnBack", unfollowed := true, recurses := true, apart := false, narrowed := true }
def TurnBackUptoSaid : Prop := turnBackUptoRow.holds Try.pinned (OpenSpec.upto turnBackSpec)

/-- 'anamnesislaw08.TurnWays', WHERE WHAT IT READS IS OF BULK AT MOST 1048576: true; the input reads as it did. -/
def turnWaysUptoRow : OpenClaim := { program := "ytmelmiffgkippaa", sum := "1c19826f36076ae9b708cca14a1129c0a87c14412db18c5722d28a485ca3d24f", func := "anamnesis/anamnesislaw08.TurnWays", spec := "turnWays", unfollowed := true, recurses := true, apart := false, narrowed := true }
def TurnWaysUptoSaid : Prop := turnWaysUptoRow.holds Try.pinned (OpenSpec.upto turnWaysSpec)

/-- 'anamnesislaw08.TurnPlane', WHERE WHAT IT READS IS OF BULK AT MOST 1048576: true; the input reads as it did. -/
def turnPlaneUptoRow : OpenClaim := { program := "ytmelmiffgkippaa", sum := "1c19826f36076ae9b708cca14a1129c0a87c14412db18c5722d28a485ca3d24f", func := "anamnesis/anamnesislaw08.TurnPlane", spec := "turnPlane", unfollowed := true, recurses := true, apart := false, narrowed := true }
def TurnPlaneUptoSaid : Prop := turnPlaneUptoRow.holds Try.pinned (OpenSpec.upto turnPlaneSpec)

/-- 'anamnesislaw09.PickEnds', WHERE WHAT IT READS IS OF BULK AT MOST 1048576: true; the input reads as it did. -/
def pickEndsUptoRow : OpenClaim := { program := "ytmelmiffgkippaa", sum := "1c19826f36076ae9b708cca14a1129c0a87c14412db18c5722d28a485ca3d24f", func := "anamnesis/anamnesislaw09.PickEnds", spec := "pickEnds", unfollowed := true, recurses := true, apart := false, narrowed := true }
def PickEndsUptoSaid : Prop := pickEndsUptoRow.holds Try.pinned (OpenSpec.upto pickEndsSpec)

/-- 'anamnesislaw09.PickKnown', WHERE WHAT IT READS IS OF BULK AT MOST 1048576: true; the input reads as it did. -/
def pickKnownUptoRow : OpenClaim := { program := "ytmelmiffgkippaa", sum := "1c19826f36076ae9b708cca14a1129c0a87c14412db18c5722d28a485ca3d24f", func := "anamnesis/anamnesislaw09.PickKnown", spec := "pickKnown", unfollowed := true, recurses := true, apart := false, narrowed := true }
def PickKnownUptoSaid : Prop := pickKnownUptoRow.holds Try.pinned (OpenSpec.upto pickKnownSpec)

/-- 'anamnesislaw09.PickBoth', WHERE WHAT IT READS IS OF BULK AT MOST 1048576: true; the input reads as it did. -/
def pickBothUptoRow : OpenClaim := { program := "ytmelmiffgkippaa", sum := "1c19826f36076ae9b708cca14a1129c0a87c14412db18c5722d28a485ca3d24f", func := "anamnesis/anamnesislaw09.PickBoth", spec := "pickBoth", inPlace := ["slices.overlaps[int]"], unfollowed := true, recurses := true, apart := false, narrowed := true }
def PickBothUptoSaid : Prop := pickBothUptoRow.holds Try.pinned (OpenSpec.upto pickBothSpec)

end Rows
end Go.Proofs.Ytmelmiffgkippaa
