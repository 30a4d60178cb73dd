/-
  No cell of these rows narrows 'for every input' (looked for: loops, veiled, ifaces, maps, wideKeys, modest, calm, conditions, laid).
  DERIVED. THE GIVEN ROWS OF THIS SEAT. 11 by the template 'for every input the law returns true; each argument reads behind the call as it read before'; 0 by the template 'total and deterministic' (their statements: YtlcpnakgolfofaaTotals.lean).
  GIVEN WITH THE SEED: the statements are not yours to turn. If you find one false, say at which input.
  Laid BY PROGRAM, IN A SANDBOX (cutbox-rows.mjs): the forced cells as the released guide's own fill.sh prints them over the translation c42b05b376862f62… (all of the seat's roots in one cut). By AI agents, Wed Nov 11 2026. No macro, syntax, notation, axiom, sorry.
-/
import Derived.Test.YtlcpnakgolfofaaChecked
import GoSem.Claim
import GoSem.ClaimJoined
import GoSem.ClaimMapViews
import Derived.JoinedTies
import Derived.KernelRfl
namespace Go.Proofs.Ytlcpnakgolfofaa
/- THE CELL 'sum', in the pinned program and in every row, IS THE sha256 OF THE DUMP (.gsa) THAT YtlcpnakgolfofaaProg.lean LOADS. Nothing in Lean hashes anything: it is a label: what it is worth is what the hold of that sum in a sandbox is worth. -/
noncomputable def Try.pinned : Pinned := { name := "ytlcpnakgolfofaa", sum := "c42b05b376862f62d72056df1df768bd096fcce2151547d532910f0da3443668", checked := Try.checked }
namespace Rows
def none {H : Type} : Left H := { results := [], args := [] }

/-- 'anamnesislaw03.ShapePlaces': WHATEVER THE INPUT: true; the input reads as it did. -/
def shapePlacesSpec : ChangeSpec := { name := "shapePlaces", fn := fun _ => fun
  | [d1, d2, d3] => { results := [.lit (.bool true)], args := [d1, d2, d3] }
  | _ => none }
def shapePlacesRow : OpenClaim := { program := "ytlcpnakgolfofaa", sum := "c42b05b376862f62d72056df1df768bd096fcce2151547d532910f0da3443668", func := "anamnesis/anamnesislaw03.ShapePlaces", spec := "shapePlaces", unfollowed := true, recurses := true, apart := false }
def ShapePlacesSaid : Prop := shapePlacesRow.holds Try.pinned (OpenSpec.ofChange shapePlacesSpec)

/-- ITS FALSE NEIGHBOUR: 'it returns false'. Refute it at one input. -/
def shapePlacesWrong : ChangeSpec := { name := "shapePlaces", fn := fun _ => fun
  | [d1, d2, d3] => { results := [.lit (.bool false)], args := [d1, d2, d3] }
  | _ => none }
def ShapePlacesWrongFalsely : Prop := shapePlacesRow.holds Try.pinned (OpenSpec.ofChange shapePlacesWrong)

/-- 'anamnesislaw03.ShapeBack': WHATEVER THE INPUT: true; the input reads as it did. -/
def shapeBackSpec : ChangeSpec := { name := "shapeBack", fn := fun _ => fun
  | [d1, d2] => { results := [.lit (.bool true)], args := [d1, d2] }
  | _ => none }
def shapeBackRow : OpenClaim := { program := "ytlcpnakgolfofaa", sum := "c42b05b376862f62d72056df1df768bd096fcce2151547d532910f0da3443668", func := "anamnesis/anamnesislaw03.ShapeBack", spec := "shapeBack", unfollowed := true, recurses := true, apart := false }
def ShapeBackSaid : Prop := shapeBackRow.holds Try.pinned (OpenSpec.ofChange shapeBackSpec)

/-- ITS FALSE NEIGHBOUR: 'it returns false'. Refute it at one input. -/
def shapeBackWrong : ChangeSpec := { name := "shapeBack", fn := fun _ => fun
  | [d1, d2] => { results := [.lit (.bool false)], args := [d1, d2] }
  | _ => none }
def ShapeBackWrongFalsely : Prop := shapeBackRow.holds Try.pinned (OpenSpec.ofChange shapeBackWrong)

/-- 'anamnesislaw03.ShapeSplits': WHATEVER THE INPUT: true; the input reads as it did. -/
def shapeSplitsSpec : ChangeSpec := { name := "shapeSplits", fn := fun _ => fun
  | [d1, d2] => { results := [.lit (.bool true)], args := [d1, d2] }
  | _ => none }
def shapeSplitsRow : OpenClaim := { program := "ytlcpnakgolfofaa", sum := "c42b05b376862f62d72056df1df768bd096fcce2151547d532910f0da3443668", func := "anamnesis/anamnesislaw03.ShapeSplits", spec := "shapeSplits", unfollowed := true, recurses := true, apart := false }
def ShapeSplitsSaid : Prop := shapeSplitsRow.holds Try.pinned (OpenSpec.ofChange shapeSplitsSpec)

/-- ITS FALSE NEIGHBOUR: 'it returns false'. Refute it at one input. -/
def shapeSplitsWrong : ChangeSpec := { name := "shapeSplits", fn := fun _ => fun
  | [d1, d2] => { results := [.lit (.bool false)], args := [d1, d2] }
  | _ => none }
def ShapeSplitsWrongFalsely : Prop := shapeSplitsRow.holds Try.pinned (OpenSpec.ofChange shapeSplitsWrong)

/-- 'anamnesislaw04.PlaneApplies': WHATEVER THE INPUT: true; the input reads as it did. -/
def planeAppliesSpec : ChangeSpec := { name := "planeApplies", fn := fun _ => fun
  | [d1, d2, d3] => { results := [.lit (.bool true)], args := [d1, d2, d3] }
  | _ => none }
def planeAppliesRow : OpenClaim := { program := "ytlcpnakgolfofaa", sum := "c42b05b376862f62d72056df1df768bd096fcce2151547d532910f0da3443668", func := "anamnesis/anamnesislaw04.PlaneApplies", spec := "planeApplies", unfollowed := true, recurses := true, apart := false }
def PlaneAppliesSaid : Prop := planeAppliesRow.holds Try.pinned (OpenSpec.ofChange planeAppliesSpec)

/-- ITS FALSE NEIGHBOUR: 'it returns false'. Refute it at one input. -/
def planeAppliesWrong : ChangeSpec := { name := "planeApplies", fn := fun _ => fun
  | [d1, d2, d3] => { results := [.lit (.bool false)], args := [d1, d2, d3] }
  | _ => none }
def PlaneAppliesWrongFalsely : Prop := planeAppliesRow.holds Try.pinned (OpenSpec.ofChange planeAppliesWrong)

/-- 'anamnesislaw04.PlaneHalf': WHATEVER THE INPUT: true; the input reads as it did. -/
def planeHalfSpec : ChangeSpec := { name := "planeHalf", fn := fun _ => fun
  | [d] => { results := [.lit (.bool true)], args := [d] }
  | _ => none }
def planeHalfRow : OpenClaim := { program := "ytlcpnakgolfofaa", sum := "c42b05b376862f62d72056df1df768bd096fcce2151547d532910f0da3443668", func := "anamnesis/anamnesislaw04.PlaneHalf", spec := "planeHalf", unfollowed := true, recurses := true, apart := false }
def PlaneHalfSaid : Prop := planeHalfRow.holds Try.pinned (OpenSpec.ofChange planeHalfSpec)

/-- ITS FALSE NEIGHBOUR: 'it returns false'. Refute it at one input. -/
def planeHalfWrong : ChangeSpec := { name := "planeHalf", fn := fun _ => fun
  | [d] => { results := [.lit (.bool false)], args := [d] }
  | _ => none }
def PlaneHalfWrongFalsely : Prop := planeHalfRow.holds Try.pinned (OpenSpec.ofChange planeHalfWrong)

/-- 'anamnesislaw03.ShapeKnown': WHATEVER THE INPUT: true; the input reads as it did. -/
def shapeKnownSpec : ChangeSpec := { name := "shapeKnown", fn := fun _ => fun
  | [] => { results := [.lit (.bool true)], args := [] }
  | _ => none }
def shapeKnownRow : OpenClaim := { program := "ytlcpnakgolfofaa", sum := "c42b05b376862f62d72056df1df768bd096fcce2151547d532910f0da3443668", func := "anamnesis/anamnesislaw03.ShapeKnown", spec := "shapeKnown", unfollowed := true, recurses := true, apart := false }
def ShapeKnownSaid : Prop := shapeKnownRow.holds Try.pinned (OpenSpec.ofChange shapeKnownSpec)

/-- ITS FALSE NEIGHBOUR: 'it returns false'. Refute it at one input. -/
def shapeKnownWrong : ChangeSpec := { name := "shapeKnown", fn := fun _ => fun
  | [] => { results := [.lit (.bool false)], args := [] }
  | _ => none }
def ShapeKnownWrongFalsely : Prop := shapeKnownRow.holds Try.pinned (OpenSpec.ofChange shapeKnownWrong)

/-- 'anamnesislaw03.ShapeTells': WHATEVER THE INPUT: true; the input reads as it did. -/
def shapeTellsSpec : ChangeSpec := { name := "shapeTells", fn := fun _ => fun
  | [d1, d2] => { results := [.lit (.bool true)], args := [d1, d2] }
  | _ => none }
def shapeTellsRow : OpenClaim := { program := "ytlcpnakgolfofaa", sum := "c42b05b376862f62d72056df1df768bd096fcce2151547d532910f0da3443668", func := "anamnesis/anamnesislaw03.ShapeTells", spec := "shapeTells", unfollowed := true, recurses := true, apart := false }
def ShapeTellsSaid : Prop := shapeTellsRow.holds Try.pinned (OpenSpec.ofChange shapeTellsSpec)

/-- ITS FALSE NEIGHBOUR: 'it returns false'. Refute it at one input. -/
def shapeTellsWrong : ChangeSpec := { name := "shapeTells", fn := fun _ => fun
  | [d1, d2] => { results := [.lit (.bool false)], args := [d1, d2] }
  | _ => none }
def ShapeTellsWrongFalsely : Prop := shapeTellsRow.holds Try.pinned (OpenSpec.ofChange shapeTellsWrong)

/-- 'anamnesislaw04.PlaneKnown': WHATEVER THE INPUT: true; the input reads as it did. -/
def planeKnownSpec : ChangeSpec := { name := "planeKnown", fn := fun _ => fun
  | [] => { results := [.lit (.bool true)], args := [] }
  | _ => none }
def planeKnownRow : OpenClaim := { program := "ytlcpnakgolfofaa", sum := "c42b05b376862f62d72056df1df768bd096fcce2151547d532910f0da3443668", func := "anamnesis/anamnesislaw04.PlaneKnown", spec := "planeKnown", unfollowed := true, recurses := true, apart := false }
def PlaneKnownSaid : Prop := planeKnownRow.holds Try.pinned (OpenSpec.ofChange planeKnownSpec)

/-- ITS FALSE NEIGHBOUR: 'it returns false'. Refute it at one input. -/
def planeKnownWrong : ChangeSpec := { name := "planeKnown", fn := fun _ => fun
  | [] => { results := [.lit (.bool false)], args := [] }
  | _ => none }
def PlaneKnownWrongFalsely : Prop := planeKnownRow.holds Try.pinned (OpenSpec.ofChange planeKnownWrong)

/-- 'anamnesislaw04.PlaneGroup': WHATEVER THE INPUT: true; the input reads as it did. -/
def planeGroupSpec : ChangeSpec := { name := "planeGroup", fn := fun _ => fun
  | [d1, d2, d3, d4, d5, d6] => { results := [.lit (.bool true)], args := [d1, d2, d3, d4, d5, d6] }
  | _ => none }
def planeGroupRow : OpenClaim := { program := "ytlcpnakgolfofaa", sum := "c42b05b376862f62d72056df1df768bd096fcce2151547d532910f0da3443668", func := "anamnesis/anamnesislaw04.PlaneGroup", spec := "planeGroup", unfollowed := true, recurses := true, apart := false }
def PlaneGroupSaid : Prop := planeGroupRow.holds Try.pinned (OpenSpec.ofChange planeGroupSpec)

/-- ITS FALSE NEIGHBOUR: 'it returns false'. Refute it at one input. -/
def planeGroupWrong : ChangeSpec := { name := "planeGroup", fn := fun _ => fun
  | [d1, d2, d3, d4, d5, d6] => { results := [.lit (.bool false)], args := [d1, d2, d3, d4, d5, d6] }
  | _ => none }
def PlaneGroupWrongFalsely : Prop := planeGroupRow.holds Try.pinned (OpenSpec.ofChange planeGroupWrong)

/-- 'anamnesislaw04.PlaneThen': WHATEVER THE INPUT: true; the input reads as it did. -/
def planeThenSpec : ChangeSpec := { name := "planeThen", fn := fun _ => fun
  | [d1, d2, d3, d4, d5] => { results := [.lit (.bool true)], args := [d1, d2, d3, d4, d5] }
  | _ => none }
def planeThenRow : OpenClaim := { program := "ytlcpnakgolfofaa", sum := "c42b05b376862f62d72056df1df768bd096fcce2151547d532910f0da3443668", func := "anamnesis/anamnesislaw04.PlaneThen", spec := "planeThen", unfollowed := true, recurses := true, apart := false }
def PlaneThenSaid : Prop := planeThenRow.holds Try.pinned (OpenSpec.ofChange planeThenSpec)

/-- ITS FALSE NEIGHBOUR: 'it returns false'. Refute it at one input. -/
def planeThenWrong : ChangeSpec := { name := "planeThen", fn := fun _ => fun
  | [d1, d2, d3, d4, d5] => { results := [.lit (.bool false)], args := [d1, d2, d3, d4, d5] }
  | _ => none }
def PlaneThenWrongFalsely : Prop := planeThenRow.holds Try.pinned (OpenSpec.ofChange planeThenWrong)

/-- 'anamnesislaw04.PlaneGlyphs': WHATEVER THE INPUT: true; the input reads as it did. -/
def planeGlyphsSpec : ChangeSpec := { name := "planeGlyphs", fn := fun _ => fun
  | [] => { results := [.lit (.bool true)], args := [] }
  | _ => none }
def planeGlyphsRow : OpenClaim := { program := "ytlcpnakgolfofaa", sum := "c42b05b376862f62d72056df1df768bd096fcce2151547d532910f0da3443668", func := "anamnesis/anamnesislaw04.PlaneGlyphs", spec := "planeGlyphs", unfollowed := true, recurses := true, apart := false }
def PlaneGlyphsSaid : Prop := planeGlyphsRow.holds Try.pinned (OpenSpec.ofChange planeGlyphsSpec)

/-- ITS FALSE NEIGHBOUR: 'it returns false'. Refute it at one input. -/
def planeGlyphsWrong : ChangeSpec := { name := "planeGlyphs", fn := fun _ => fun
  | [] => { results := [.lit (.bool false)], args := [] }
  | _ => none }
def PlaneGlyphsWrongFalsely : Prop := planeGlyphsRow.holds Try.pinned (OpenSpec.ofChange planeGlyphsWrong)

/- THE SECOND FORM. 'bulk': how many values and letters a reading holds, each counted each time it is reached (what is shared counts as often as it is met; a slice's spare places count too). A statement '..UptoSaid' is the law's where the arguments, and the package variables that the reading takes, are together of bulk at most 1048576: NARROWER than '..Said'. Prove '..Said' where nothing that the law and all that it calls make is longer than what came in: it says more and counts as full. Else prove '..UptoSaid'. A law counts once. -/
mutual
def uptoBulk {H : Type} : DataW H → Nat
  | .lit (.string bytes) => bytes.length + 1
  | .lit _ => 1
  | .nil => 1
  | .ptr d => uptoBulk d + 1
  | .slice elems spare => uptoBulkAll elems + uptoBulkAll spare + 1
  | .agg parts => uptoBulkAll parts + 1
  | .iface _ d => uptoBulk d + 1
  | .map entries => uptoBulkEntries entries + 1
  | .held _ => 1
def uptoBulkAll {H : Type} : List (DataW H) → Nat
  | [] => 0
  | d :: r => uptoBulk d + uptoBulkAll r
def uptoBulkEntries {H : Type} : List (Lit × DataW H) → Nat
  | [] => 0
  | x :: r => uptoBulkEntry x + uptoBulkEntries r
def uptoBulkEntry {H : Type} : Lit × DataW H → Nat
  | (.string bytes, d) => bytes.length + uptoBulk d + 1
  | (_, d) => uptoBulk d + 1
 end
def uptoSmall : (H : Type) → List (DataW H) → Bool := fun _ ds => decide (uptoBulkAll ds ≤ 1048576)
def OpenSpec.upto (s : _root_.Go.ChangeSpec) : _root_.Go.OpenSpec := { _root_.Go.OpenSpec.ofChange s with cond := some uptoSmall }

/-- 'anamnesislaw03.ShapePlaces', WHERE WHAT IT READS IS OF BULK AT MOST 1048576: true; the input reads as it did. -/
def shapePlacesUptoRow : OpenClaim := { program := "ytlcpnakgolfofaa", sum := "c42b05b376862f62d72056df1df768bd096fcce2151547d532910f0da3443668", func := "anamnesis/anamnesislaw03.ShapePlaces", spec := "shapePlaces", unfollowed := true, recurses := true, apart := false, narrowed := true }
def ShapePlacesUptoSaid : Prop := shapePlacesUptoRow.holds Try.pinned (OpenSpec.upto shapePlacesSpec)

/-- 'anamnesislaw03.ShapeBack', WHERE WHAT IT READS IS OF BULK AT MOST 1048576: true; the input reads as it did. -/
def shapeBackUptoRow : OpenClaim := { program := "ytlcpnakgolfofaa", sum := "c42b05b376862f62d72056df1df768bd096fcce2151547d532910f0da3443668", func := "anamnesis/anamnesislaw03.ShapeBack", spec := "shapeBack", unfollowed := true, recurses := true, apart := false, narrowed := true }
def ShapeBackUptoSaid : Prop := shapeBackUptoRow.holds Try.pinned (OpenSpec.upto shapeBackSpec)

/-- 'anamnesislaw03.ShapeSplits', WHERE WHAT IT READS IS OF BULK AT MOST 1048576: true; the input reads as it did. -/
def shapeSplitsUptoRow : OpenClaim := { program := "ytlcpnakgolfofaa", sum := "c42b05b376862f62d72056df1df768bd096fcce2151547d532910f0da3443668", func := "anamnesis/anamnesislaw03.ShapeSplits", spec := "shapeSplits", unfollowed := true, recurses := true, apart := false, narrowed := true }
def ShapeSplitsUptoSaid : Prop := shapeSplitsUptoRow.holds Try.pinned (OpenSpec.upto shapeSplitsSpec)

/-- 'anamnesislaw04.PlaneApplies', WHERE WHAT IT READS IS OF BULK AT MOST 1048576: true; the input reads as it did. -/
def planeAppliesUptoRow : OpenClaim := { program := "ytlcpnakgolfofaa", sum := "c42b05b376862f62d72056df1df768bd096fcce2151547d532910f0da3443668", func := "anamnesis/anamnesislaw04.PlaneApplies", spec := "planeApplies", unfollowed := true, recurses := true, apart := false, narrowed := true }
def PlaneAppliesUptoSaid : Prop := planeAppliesUptoRow.holds Try.pinned (OpenSpec.upto planeAppliesSpec)

/-- 'anamnesislaw04.PlaneHalf', WHERE WHAT IT READS IS OF BULK AT MOST 1048576: true; the input reads as it did. -/
def planeHalfUptoRow : OpenClaim := { program := "ytlcpnakgolfofaa", sum := "c42b05b376862f62d72056df1df768bd096fcce2151547d532910f0da3443668", func := "anamnesis/anamnesislaw04.PlaneHalf", spec := "planeHalf", unfollowed := true, recurses := true, apart := false, narrowed := true }
def PlaneHalfUptoSaid : Prop := planeHalfUptoRow.holds Try.pinned (OpenSpec.upto planeHalfSpec)

/-- 'anamnesislaw03.ShapeKnown', WHERE WHAT IT READS IS OF BULK AT MOST 1048576: true; the input reads as it did. -/
def shapeKnownUptoRow : OpenClaim := { program := "ytlcpnakgolfofaa", sum := "c42b05b376862f62d72056df1df768bd096fcce2151547d532910f0da3443668", func := "anamnesis/anamnesislaw03.ShapeKnown", spec := "shapeKnown", unfollowed := true, recurses := true, apart := false, narrowed := true }
def ShapeKnownUptoSaid : Prop := shapeKnownUptoRow.holds Try.pinned (OpenSpec.upto shapeKnownSpec)

/-- 'anamnesislaw03.ShapeTells', WHERE WHAT IT READS IS OF BULK AT MOST 1048576: true; the input reads as it did. -/
def shapeTellsUptoRow : OpenClaim := { program := "ytlcpnakgolfofaa", sum := "c42b05b376862f62d72056df1df768bd096fcce2151547d532910f0da3443668", func := "anamnesis/anamnesislaw03.ShapeTells", spec := "shapeTells", unfollowed := true, recurses := true, apart := false, narrowed := true }
def ShapeTellsUptoSaid : Prop := shapeTellsUptoRow.holds Try.pinned (OpenSpec.upto shapeTellsSpec)

/-- 'anamnesislaw04.PlaneKnown', WHERE WHAT IT READS IS OF BULK AT MOST 1048576: true; the input reads as it did. -/
def planeKnownUptoRow : OpenClaim := { program := "ytlcpnakgolfofaa", sum := "c42b05b376862f62d72056df1df768bd096fcce2151547d532910f0da3443668", func := "anamnesis/anamnesislaw04.PlaneKnown", spec := "planeKnown", unfollowed := true, recurses := true, apart := false, narrowed := true }
def PlaneKnownUptoSaid : Prop := planeKnownUptoRow.holds Try.pinned (OpenSpec.upto planeKnownSpec)

/-- 'anamnesislaw04.PlaneGroup', WHERE WHAT IT READS IS OF BULK AT MOST 1048576: true; the input reads as it did. -/
def planeGroupUptoRow : OpenClaim := { program := "ytlcpnakgolfofaa", sum := "c42b05b376862f62d72056df1df768bd096fcce2151547d532910f0da3443668", func := "anamnesis/anamnesislaw04.PlaneGroup", spec := "planeGroup", unfollowed := true, recurses := true, apart := false, narrowed := true }
def PlaneGroupUptoSaid : Prop := planeGroupUptoRow.holds Try.pinned (OpenSpec.upto planeGroupSpec)

/-- 'anamnesislaw04.PlaneThen', WHERE WHAT IT READS IS OF BULK AT MOST 1048576: true; the input reads as it did. -/
def planeThenUptoRow : OpenClaim := { program := "ytlcpnakgolfofaa", sum := "c42b05b376862f62d72056df1df768bd096fcce2151547d532910f0da3443668", func := "anamnesis/anamnesislaw04.PlaneThen", spec := "planeThen", unfollowed := true, recurses := true, apart := false, narrowed := true }
def PlaneThenUptoSaid : Prop := planeThenUptoRow.holds Try.pinned (OpenSpec.upto planeThenSpec)

/-- 'anamnesislaw04.PlaneGlyphs', WHERE WHAT IT READS IS OF BULK AT MOST 1048576: true; the input reads as it did. -/
def planeGlyphsUptoRow : OpenClaim := { program := "ytlcpnakgolfofaa", sum := "c42b05b376862f62d72056df1df768bd096fcce2151547d532910f0da3443668", func := "anamnesis/anamnesislaw04.PlaneGlyphs", spec := "planeGlyphs", unfollowed := true, recurses := true, apart := false, narrowed := true }
def PlaneGlyphsUptoSaid : Prop := planeGlyphsUptoRow.holds Try.pinned (OpenSpec.upto planeGlyphsSpec)

end Rows
end Go.Proofs.Ytlcpnakgolfofaa
