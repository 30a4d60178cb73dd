/-
  No cell of these rows narrows 'for every input' (looked for: loops, veiled, ifaces, maps, wideKeys, modest, calm, conditions, laid).
  DERIVED. THE GIVEN ROWS OF THIS SEAT. 5 by the template 'for every input the law returns true; each argument reads behind the call as it read before'; 0 by the template 'total and deterministic' (their statements: YteoojnahehgakaaTotals.lean).
  GIVEN WITH THE SEED: the statements are not yours to turn. If you find one false, say at which input.
  Laid BY PROGRAM, IN A SANDBOX (cutbox-rows.mjs): the forced cells as the released guide's own fill.sh prints them over the translation 9316b24bff4dde64… (all of the seat's roots in one cut). By AI agents, Wed Nov 11 2026. No macro, syntax, notation, axiom, sorry.
-/
import Derived.Test.YteoojnahehgakaaChecked
import GoSem.Claim
import GoSem.ClaimJoined
import GoSem.ClaimMapViews
import Derived.JoinedTies
import Derived.KernelRfl
namespace Go.Proofs.Yteoojnahehgakaa
/- THE CELL 'sum', in the pinned program and in every row, IS THE sha256 OF THE DUMP (.gsa) THAT YteoojnahehgakaaProg.lean LOADS. Nothing in Lean hashes anything: it is a label: what it is worth is what the hold of that sum in a sandbox is worth. -/
noncomputable def Try.pinned : Pinned := { name := "yteoojnahehgakaa", sum := "9316b24bff4dde64736bb8cb370ff2b9494f344a7948c9d511773aba819bfebc", checked := Try.checked }
namespace Rows
def none {H : Type} : Left H := { results := [], args := [] }

/-- 'anamnesislaw08.TurnKnown': WHATEVER THE INPUT: true; the input reads as it did. -/
def turnKnownSpec : ChangeSpec := { name := "turnKnown", fn := fun _ => fun
  | [] => { results := [.lit (.bool true)], args := [] }
  | _ => none }
def turnKnownRow : OpenClaim := { program := "yteoojnahehgakaa", sum := "9316b24bff4dde64736bb8cb370ff2b9494f344a7948c9d511773aba819bfebc", func := "anamnesis/anamnesislaw08.TurnKnown", spec := "turnKnown", unfollowed := true, recurses := true, apart := false }
def TurnKnownSaid : Prop := turnKnownRow.holds Try.pinned (OpenSpec.ofChange turnKnownSpec)

/-- ITS FALSE NEIGHBOUR: 'it returns false'. Refute it at one input. -/
def turnKnownWrong : ChangeSpec := { name := "turnKnown", fn := fun _ => fun
  | [] => { results := [.lit (.bool false)], args := [] }
  | _ => none }
def TurnKnownWrongFalsely : Prop := turnKnownRow.holds Try.pinned (OpenSpec.ofChange turnKnownWrong)

/-- 'anamnesislaw08.TurnTells': WHATEVER THE INPUT: true; the input reads as it did. -/
def turnTellsSpec : ChangeSpec := { name := "turnTells", fn := fun _ => fun
  | [d1, d2, d3] => { results := [.lit (.bool true)], args := [d1, d2, d3] }
  | _ => none }
def turnTellsRow : OpenClaim := { program := "yteoojnahehgakaa", sum := "9316b24bff4dde64736bb8cb370ff2b9494f344a7948c9d511773aba819bfebc", func := "anamnesis/anamnesislaw08.TurnTells", spec := "turnTells", unfollowed := true, recurses := true, apart := false }
def TurnTellsSaid : Prop := turnTellsRow.holds Try.pinned (OpenSpec.ofChange turnTellsSpec)

/-- ITS FALSE NEIGHBOUR: 'it returns false'. Refute it at one input. -/
def turnTellsWrong : ChangeSpec := { name := "turnTells", fn := fun _ => fun
  | [d1, d2, d3] => { results := [.lit (.bool false)], args := [d1, d2, d3] }
  | _ => none }
def TurnTellsWrongFalsely : Prop := turnTellsRow.holds Try.pinned (OpenSpec.ofChange turnTellsWrong)

/-- 'anamnesislaw08.TurnBack': WHATEVER THE INPUT: true; the input reads as it did. -/
def turnBackSpec : ChangeSpec := { name := "turnBack", fn := fun _ => fun
  | [d1, d2, d3, d4] => { results := [.lit (.bool true)], args := [d1, d2, d3, d4] }
  | _ => none }
def turnBackRow : OpenClaim := { program := "yteoojnahehgakaa", sum := "9316b24bff4dde64736bb8cb370ff2b9494f344a7948c9d511773aba819bfebc", func := "anamnesis/anamnesislaw08.TurnBack", spec := "turnBack", unfollowed := true, recurses := true, apart := false }
def TurnBackSaid : Prop := turnBackRow.holds Try.pinned (OpenSpec.ofChange turnBackSpec)

/-- ITS FALSE NEIGHBOUR: 'it returns false'. Refute it at one input. -/
def turnBackWrong : ChangeSpec := { name := "turnBack", fn := fun _ => fun
  | [d1, d2, d3, d4] => { results := [.lit (.bool false)], args := [d1, d2, d3, d4] }
  | _ => none }
def TurnBackWrongFalsely : Prop := turnBackRow.holds Try.pinned (OpenSpec.ofChange turnBackWrong)

/-- 'anamnesislaw08.TurnWays': WHATEVER THE INPUT: true; the input reads as it did. -/
def turnWaysSpec : ChangeSpec := { name := "turnWays", fn := fun _ => fun
  | [d1, d2] => { results := [.lit (.bool true)], args := [d1, d2] }
  | _ => none }
def turnWaysRow : OpenClaim := { program := "yteoojnahehgakaa", sum := "9316b24bff4dde64736bb8cb370ff2b9494f344a7948c9d511773aba819bfebc", func := "anamnesis/anamnesislaw08.TurnWays", spec := "turnWays", unfollowed := true, recurses := true, apart := false }
def TurnWaysSaid : Prop := turnWaysRow.holds Try.pinned (OpenSpec.ofChange turnWaysSpec)

/-- ITS FALSE NEIGHBOUR: 'it returns false'. Refute it at one input. -/
def turnWaysWrong : ChangeSpec := { name := "turnWays", fn := fun _ => fun
  | [d1, d2] => { results := [.lit (.bool false)], args := [d1, d2] }
  | _ => none }
def TurnWaysWrongFalsely : Prop := turnWaysRow.holds Try.pinned (OpenSpec.ofChange turnWaysWrong)

/-- 'anamnesislaw08.TurnPlane': WHATEVER THE INPUT: true; the input reads as it did. -/
def turnPlaneSpec : ChangeSpec := { name := "turnPlane", fn := fun _ => fun
  | [d1, d2, d3, d4] => { results := [.lit (.bool true)], args := [d1, d2, d3, d4] }
  | _ => none }
def turnPlaneRow : OpenClaim := { program := "yteoojnahehgakaa", sum := "9316b24bff4dde64736bb8cb370ff2b9494f344a7948c9d511773aba819bfebc", func := "anamnesis/anamnesislaw08.TurnPlane", spec := "turnPlane", unfollowed := true, recurses := true, apart := false }
def TurnPlaneSaid : Prop := turnPlaneRow.holds Try.pinned (OpenSpec.ofChange turnPlaneSpec)

/-- ITS FALSE NEIGHBOUR: 'it returns false'. Refute it at one input. -/
def turnPlaneWrong : ChangeSpec := { name := "turnPlane", fn := fun _ => fun
  | [d1, d2, d3, d4] => { results := [.lit (.bool false)], args := [d1, d2, d3, d4] }
  | _ => none }
def TurnPlaneWrongFalsely : Prop := turnPlaneRow.holds Try.pinned (OpenSpec.ofChange turnPlaneWrong)

/- THE SECOND FORM. 'bulk': how many values and letters a reading holds, each counted each time it is reached (what is shared counts as often as it is met; a slice's spare places count too). A statement '..UptoSaid' is the law's where the arguments, and the package variables that the reading takes, are together of bulk at most 1048576: NARROWER than '..Said'. Prove '..Said' where nothing that the law and all that it calls make is longer than what came in: it says more and counts as full. Else prove '..UptoSaid'. A law counts once. -/
mutual
def uptoBulk {H : Type} : DataW H → Nat
  | .lit (.string bytes) => bytes.length + 1
  | .lit _ => 1
  | .nil => 1
  | .ptr d => uptoBulk d + 1
  | .slice elems spare => uptoBulkAll elems + uptoBulkAll spare + 1
  | .agg parts => uptoBulkAll parts + 1
  | .iface _ d => uptoBulk d + 1
  | .map entries => uptoBulkEntries entries + 1
  | .held _ => 1
def uptoBulkAll {H : Type} : List (DataW H) → Nat
  | [] => 0
  | d :: r => uptoBulk d + uptoBulkAll r
def uptoBulkEntries {H : Type} : List (Lit × DataW H) → Nat
  | [] => 0
  | x :: r => uptoBulkEntry x + uptoBulkEntries r
def uptoBulkEntry {H : Type} : Lit × DataW H → Nat
  | (.string bytes, d) => bytes.length + uptoBulk d + 1
  | (_, d) => uptoBulk d + 1
 end
def uptoSmall : (H : Type) → List (DataW H) → Bool := fun _ ds => decide (uptoBulkAll ds ≤ 1048576)
def OpenSpec.upto (s : _root_.Go.ChangeSpec) : _root_.Go.OpenSpec := { _root_.Go.OpenSpec.ofChange s with cond := some uptoSmall }

/-- 'anamnesislaw08.TurnKnown', WHERE WHAT IT READS IS OF BULK AT MOST 1048576: true; the input reads as it did. -/
def turnKnownUptoRow : OpenClaim := { program := "yteoojnahehgakaa", sum := "9316b24bff4dde64736bb8cb370ff2b9494f344a7948c9d511773aba819bfebc", func := "anamnesis/anamnesislaw08.TurnKnown", spec := "turnKnown", unfollowed := true, recurses := true, apart := false, narrowed := true }
def TurnKnownUptoSaid : Prop := turnKnownUptoRow.holds Try.pinned (OpenSpec.upto turnKnownSpec)

/-- 'anamnesislaw08.TurnTells', WHERE WHAT IT READS IS OF BULK AT MOST 1048576: true; the input reads as it did. -/
def turnTellsUptoRow : OpenClaim := { program := "yteoojnahehgakaa", sum := "9316b24bff4dde64736bb8cb370ff2b9494f344a7948c9d511773aba819bfebc", func := "anamnesis/anamnesislaw08.TurnTells", spec := "turnTells", unfollowed := true, recurses := true, apart := false, narrowed := true }
def TurnTellsUptoSaid : Prop := turnTellsUptoRow.holds Try.pinned (OpenSpec.upto turnTellsSpec)

/-- 'anamnesislaw08.TurnBack', WHERE WHAT IT READS IS OF BULK AT MOST 1048576: true; the input reads as it did. -/
def turnBackUptoRow : OpenClaim := { program := "yteoojnahehgakaa", sum := "9316b24bff4dde64736bb8cb370ff2b9494f344a7948c9d511773aba819bfebc", func := "anamnesis/anamnesislaw08.TurnBack", spec := "turnBack", unfollowed := true, recurses := true, apart := false, narrowed := true }
def TurnBackUptoSaid : Prop := turnBackUptoRow.holds Try.pinned (OpenSpec.upto turnBackSpec)

/-- 'anamnesislaw08.TurnWays', WHERE WHAT IT READS IS OF BULK AT MOST 1048576: true; the input reads as it did. -/
def turnWaysUptoRow : OpenClaim := { program := "yteoojnahehgakaa", sum := "9316b24bff4dde64736bb8cb370ff2b9494f344a7948c9d511773aba819bfebc", func := "anamnesis/anamnesislaw08.TurnWays", spec := "turnWays", unfollowed := true, recurses := true, apart := false, narrowed := true }
def TurnWaysUptoSaid : Prop := turnWaysUptoRow.holds Try.pinned (OpenSpec.upto turnWaysSpec)

/-- 'anamnesislaw08.TurnPlane', WHERE WHAT IT READS IS OF BULK AT MOST 1048576: true; the input reads as it did. -/
def turnPlaneUptoRow : OpenClaim := { program := "yteoojnahehgakaa", sum := "9316b24bff4dde64736bb8cb370ff2b9494f344a7948c9d511773aba819bfebc", func := "anamnesis/anamnesislaw08.TurnPlane", spec := "turnPlane", unfollowed := true, recurses := true, apart := false, narrowed := true }
def TurnPlaneUptoSaid : Prop := turnPlaneUptoRow.holds Try.pinned (OpenSpec.upto turnPlaneSpec)

end Rows
end Go.Proofs.Yteoojnahehgakaa
