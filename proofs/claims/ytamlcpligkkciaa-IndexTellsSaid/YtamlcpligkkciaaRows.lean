/-
  No cell of these rows narrows 'for every input' (looked for: loops, veiled, ifaces, maps, wideKeys, modest, calm, conditions, laid).
  DERIVED. THE GIVEN ROWS OF THIS SEAT. 8 by the template 'for every input the law returns true; each argument reads behind the call as it read before'; 0 by the template 'total and deterministic' (their statements: YtamlcpligkkciaaTotals.lean).
  GIVEN WITH THE SEED: the statements are not yours to turn. If you find one false, say at which input.
  Laid BY PROGRAM, IN A SANDBOX (cutbox-rows.mjs): the forced cells as the released guide's own fill.sh prints them over the translation 923f08fc6711e5ab… (all of the seat's roots in one cut). By AI agents, Wed Nov 11 2026. No macro, syntax, notation, axiom, sorry.
-/
import Derived.Test.YtamlcpligkkciaaChecked
import GoSem.Claim
import GoSem.ClaimJoined
import GoSem.ClaimMapViews
import Derived.JoinedTies
import Derived.KernelRfl
namespace Go.Proofs.Ytamlcpligkkciaa
/- THE CELL 'sum', in the pinned program and in every row, IS THE sha256 OF THE DUMP (.gsa) THAT YtamlcpligkkciaaProg.lean LOADS. Nothing in Lean hashes anything: it is a label: what it is worth is what the hold of that sum in a sandbox is worth. -/
noncomputable def Try.pinned : Pinned := { name := "ytamlcpligkkciaa", sum := "923f08fc6711e5ab948682f2c5311360e919bb158a0c8cc710dc25c3bdaa79f5", checked := Try.checked }
namespace Rows
def none {H : Type} : Left H := { results := [], args := [] }

/-- 'anamnesislaw11.IndexTells': WHATEVER THE INPUT: true; the input reads as it did. -/
def indexTellsSpec : ChangeSpec := { name := "indexTells", fn := fun _ => fun
  | [d1, d2, d3] => { results := [.lit (.bool true)], args := [d1, d2, d3] }
  | _ => none }
def indexTellsRow : OpenClaim := { program := "ytamlcpligkkciaa", sum := "923f08fc6711e5ab948682f2c5311360e919bb158a0c8cc710dc25c3bdaa79f5", func := "anamnesis/anamnesislaw11.IndexTells", spec := "indexTells", unfollowed := true, recurses := true, apart := false }
def IndexTellsSaid : Prop := indexTellsRow.holds Try.pinned (OpenSpec.ofChange indexTellsSpec)

/-- ITS FALSE NEIGHBOUR: 'it returns false'. Refute it at one input. -/
def indexTellsWrong : ChangeSpec := { name := "indexTells", fn := fun _ => fun
  | [d1, d2, d3] => { results := [.lit (.bool false)], args := [d1, d2, d3] }
  | _ => none }
def IndexTellsWrongFalsely : Prop := indexTellsRow.holds Try.pinned (OpenSpec.ofChange indexTellsWrong)

/-- 'anamnesislaw11.IndexBack': WHATEVER THE INPUT: true; the input reads as it did. -/
def indexBackSpec : ChangeSpec := { name := "indexBack", fn := fun _ => fun
  | [d1, d2, d3] => { results := [.lit (.bool true)], args := [d1, d2, d3] }
  | _ => none }
def indexBackRow : OpenClaim := { program := "ytamlcpligkkciaa", sum := "923f08fc6711e5ab948682f2c5311360e919bb158a0c8cc710dc25c3bdaa79f5", func := "anamnesis/anamnesislaw11.IndexBack", spec := "indexBack", unfollowed := true, recurses := true, apart := false }
def IndexBackSaid : Prop := indexBackRow.holds Try.pinned (OpenSpec.ofChange indexBackSpec)

/-- ITS FALSE NEIGHBOUR: 'it returns false'. Refute it at one input. -/
def indexBackWrong : ChangeSpec := { name := "indexBack", fn := fun _ => fun
  | [d1, d2, d3] => { results := [.lit (.bool false)], args := [d1, d2, d3] }
  | _ => none }
def IndexBackWrongFalsely : Prop := indexBackRow.holds Try.pinned (OpenSpec.ofChange indexBackWrong)

/-- 'anamnesislaw11.IndexAll': WHATEVER THE INPUT: true; the input reads as it did. -/
def indexAllSpec : ChangeSpec := { name := "indexAll", fn := fun _ => fun
  | [d1, d2] => { results := [.lit (.bool true)], args := [d1, d2] }
  | _ => none }
def indexAllRow : OpenClaim := { program := "ytamlcpligkkciaa", sum := "923f08fc6711e5ab948682f2c5311360e919bb158a0c8cc710dc25c3bdaa79f5", func := "anamnesis/anamnesislaw11.IndexAll", spec := "indexAll", unfollowed := true, recurses := true, apart := false }
def IndexAllSaid : Prop := indexAllRow.holds Try.pinned (OpenSpec.ofChange indexAllSpec)

/-- ITS FALSE NEIGHBOUR: 'it returns false'. Refute it at one input. -/
def indexAllWrong : ChangeSpec := { name := "indexAll", fn := fun _ => fun
  | [d1, d2] => { results := [.lit (.bool false)], args := [d1, d2] }
  | _ => none }
def IndexAllWrongFalsely : Prop := indexAllRow.holds Try.pinned (OpenSpec.ofChange indexAllWrong)

/-- 'anamnesislaw11.IndexKnown': WHATEVER THE INPUT: true; the input reads as it did. -/
def indexKnownSpec : ChangeSpec := { name := "indexKnown", fn := fun _ => fun
  | [] => { results := [.lit (.bool true)], args := [] }
  | _ => none }
def indexKnownRow : OpenClaim := { program := "ytamlcpligkkciaa", sum := "923f08fc6711e5ab948682f2c5311360e919bb158a0c8cc710dc25c3bdaa79f5", func := "anamnesis/anamnesislaw11.IndexKnown", spec := "indexKnown", unfollowed := true, recurses := true, apart := false }
def IndexKnownSaid : Prop := indexKnownRow.holds Try.pinned (OpenSpec.ofChange indexKnownSpec)

/-- ITS FALSE NEIGHBOUR: 'it returns false'. Refute it at one input. -/
def indexKnownWrong : ChangeSpec := { name := "indexKnown", fn := fun _ => fun
  | [] => { results := [.lit (.bool false)], args := [] }
  | _ => none }
def IndexKnownWrongFalsely : Prop := indexKnownRow.holds Try.pinned (OpenSpec.ofChange indexKnownWrong)

/-- 'anamnesislaw01.IntsTurns': WHATEVER THE INPUT: true; the input reads as it did. -/
def intsTurnsSpec : ChangeSpec := { name := "intsTurns", fn := fun _ => fun
  | [d1, d2] => { results := [.lit (.bool true)], args := [d1, d2] }
  | _ => none }
def intsTurnsRow : OpenClaim := { program := "ytamlcpligkkciaa", sum := "923f08fc6711e5ab948682f2c5311360e919bb158a0c8cc710dc25c3bdaa79f5", func := "anamnesis/anamnesislaw01.IntsTurns", spec := "intsTurns", unfollowed := true, recurses := true, named := ["math/bits.divideError", "math/bits.overflowError"], apart := false }
def IntsTurnsSaid : Prop := intsTurnsRow.holds Try.pinned (OpenSpec.ofChange intsTurnsSpec)

/-- ITS FALSE NEIGHBOUR: 'it returns false'. Refute it at one input. -/
def intsTurnsWrong : ChangeSpec := { name := "intsTurns", fn := fun _ => fun
  | [d1, d2] => { results := [.lit (.bool false)], args := [d1, d2] }
  | _ => none }
def IntsTurnsWrongFalsely : Prop := intsTurnsRow.holds Try.pinned (OpenSpec.ofChange intsTurnsWrong)

/-- 'anamnesislaw01.IntsRest': WHATEVER THE INPUT: true; the input reads as it did. -/
def intsRestSpec : ChangeSpec := { name := "intsRest", fn := fun _ => fun
  | [d1, d2] => { results := [.lit (.bool true)], args := [d1, d2] }
  | _ => none }
def intsRestRow : OpenClaim := { program := "ytamlcpligkkciaa", sum := "923f08fc6711e5ab948682f2c5311360e919bb158a0c8cc710dc25c3bdaa79f5", func := "anamnesis/anamnesislaw01.IntsRest", spec := "intsRest", unfollowed := true, recurses := true, named := ["math/bits.divideError", "math/bits.overflowError"], apart := false }
def IntsRestSaid : Prop := intsRestRow.holds Try.pinned (OpenSpec.ofChange intsRestSpec)

/-- ITS FALSE NEIGHBOUR: 'it returns false'. Refute it at one input. -/
def intsRestWrong : ChangeSpec := { name := "intsRest", fn := fun _ => fun
  | [d1, d2] => { results := [.lit (.bool false)], args := [d1, d2] }
  | _ => none }
def IntsRestWrongFalsely : Prop := intsRestRow.holds Try.pinned (OpenSpec.ofChange intsRestWrong)

/-- 'anamnesislaw01.IntsKnown': WHATEVER THE INPUT: true; the input reads as it did. -/
def intsKnownSpec : ChangeSpec := { name := "intsKnown", fn := fun _ => fun
  | [] => { results := [.lit (.bool true)], args := [] }
  | _ => none }
def intsKnownRow : OpenClaim := { program := "ytamlcpligkkciaa", sum := "923f08fc6711e5ab948682f2c5311360e919bb158a0c8cc710dc25c3bdaa79f5", func := "anamnesis/anamnesislaw01.IntsKnown", spec := "intsKnown", unfollowed := true, recurses := true, named := ["math/bits.divideError", "math/bits.overflowError"], apart := false }
def IntsKnownSaid : Prop := intsKnownRow.holds Try.pinned (OpenSpec.ofChange intsKnownSpec)

/-- ITS FALSE NEIGHBOUR: 'it returns false'. Refute it at one input. -/
def intsKnownWrong : ChangeSpec := { name := "intsKnown", fn := fun _ => fun
  | [] => { results := [.lit (.bool false)], args := [] }
  | _ => none }
def IntsKnownWrongFalsely : Prop := intsKnownRow.holds Try.pinned (OpenSpec.ofChange intsKnownWrong)

/-- 'anamnesislaw01.IntsNothing': WHATEVER THE INPUT: true; the input reads as it did. -/
def intsNothingSpec : ChangeSpec := { name := "intsNothing", fn := fun _ => fun
  | [d] => { results := [.lit (.bool true)], args := [d] }
  | _ => none }
def intsNothingRow : OpenClaim := { program := "ytamlcpligkkciaa", sum := "923f08fc6711e5ab948682f2c5311360e919bb158a0c8cc710dc25c3bdaa79f5", func := "anamnesis/anamnesislaw01.IntsNothing", spec := "intsNothing", unfollowed := true, recurses := true, named := ["math/bits.divideError", "math/bits.overflowError"], apart := false }
def IntsNothingSaid : Prop := intsNothingRow.holds Try.pinned (OpenSpec.ofChange intsNothingSpec)

/-- ITS FALSE NEIGHBOUR: 'it returns false'. Refute it at one input. -/
def intsNothingWrong : ChangeSpec := { name := "intsNothing", fn := fun _ => fun
  | [d] => { results := [.lit (.bool false)], args := [d] }
  | _ => none }
def IntsNothingWrongFalsely : Prop := intsNothingRow.holds Try.pinned (OpenSpec.ofChange intsNothingWrong)

/- THE SECOND FORM. 'bulk': how many values and letters a reading holds, each counted each time it is reached (what is shared counts as often as it is met; a slice's spare places count too). A statement '..UptoSaid' is the law's where the arguments, and the package variables that the reading takes, are together of bulk at most 1048576: NARROWER than '..Said'. Prove '..Said' where nothing that the law and all that it calls make is longer than what came in: it says more and counts as full. Else prove '..UptoSaid'. A law counts once. -/
mutual
def uptoBulk {H : Type} : DataW H → Nat
  | .lit (.string bytes) => bytes.length + 1
  | .lit _ => 1
  | .nil => 1
  | .ptr d => uptoBulk d + 1
  | .slice elems spare => uptoBulkAll elems + uptoBulkAll spare + 1
  | .agg parts => uptoBulkAll parts + 1
  | .iface _ d => uptoBulk d + 1
  | .map entries => uptoBulkEntries entries + 1
  | .held _ => 1
def uptoBulkAll {H : Type} : List (DataW H) → Nat
  | [] => 0
  | d :: r => uptoBulk d + uptoBulkAll r
def uptoBulkEntries {H : Type} : List (Lit × DataW H) → Nat
  | [] => 0
  | x :: r => uptoBulkEntry x + uptoBulkEntries r
def uptoBulkEntry {H : Type} : Lit × DataW H → Nat
  | (.string bytes, d) => bytes.length + uptoBulk d + 1
  | (_, d) => uptoBulk d + 1
 end
def uptoSmall : (H : Type) → List (DataW H) → Bool := fun _ ds => decide (uptoBulkAll ds ≤ 1048576)
def OpenSpec.upto (s : _root_.Go.ChangeSpec) : _root_.Go.OpenSpec := { _root_.Go.OpenSpec.ofChange s with cond := some uptoSmall }

/-- 'anamnesislaw11.IndexTells', WHERE WHAT IT READS IS OF BULK AT MOST 1048576: true; the input reads as it did. -/
def indexTellsUptoRow : OpenClaim := { program := "ytamlcpligkkciaa", sum := "923f08fc6711e5ab948682f2c5311360e919bb158a0c8cc710dc25c3bdaa79f5", func := "anamnesis/anamnesislaw11.IndexTells", spec := "indexTells", unfollowed := true, recurses := true, apart := false, narrowed := true }
def IndexTellsUptoSaid : Prop := indexTellsUptoRow.holds Try.pinned (OpenSpec.upto indexTellsSpec)

/-- 'anamnesislaw11.IndexBack', WHERE WHAT IT READS IS OF BULK AT MOST 1048576: true; the input reads as it did. -/
def indexBackUptoRow : OpenClaim := { program := "ytamlcpligkkciaa", sum := "923f08fc6711e5ab948682f2c5311360e919bb158a0c8cc710dc25c3bdaa79f5", func := "anamnesis/anamnesislaw11.IndexBack", spec := "indexBack", unfollowed := true, recurses := true, apart := false, narrowed := true }
def IndexBackUptoSaid : Prop := indexBackUptoRow.holds Try.pinned (OpenSpec.upto indexBackSpec)

/-- 'anamnesislaw11.IndexAll', WHERE WHAT IT READS IS OF BULK AT MOST 1048576: true; the input reads as it did. -/
def indexAllUptoRow : OpenClaim := { program := "ytamlcpligkkciaa", sum := "923f08fc6711e5ab948682f2c5311360e919bb158a0c8cc710dc25c3bdaa79f5", func := "anamnesis/anamnesislaw11.IndexAll", spec := "indexAll", unfollowed := true, recurses := true, apart := false, narrowed := true }
def IndexAllUptoSaid : Prop := indexAllUptoRow.holds Try.pinned (OpenSpec.upto indexAllSpec)

/-- 'anamnesislaw11.IndexKnown', WHERE WHAT IT READS IS OF BULK AT MOST 1048576: true; the input reads as it did. -/
def indexKnownUptoRow : OpenClaim := { program := "ytamlcpligkkciaa", sum := "923f08fc6711e5ab948682f2c5311360e919bb158a0c8cc710dc25c3bdaa79f5", func := "anamnesis/anamnesislaw11.IndexKnown", spec := "indexKnown", unfollowed := true, recurses := true, apart := false, narrowed := true }
def IndexKnownUptoSaid : Prop := indexKnownUptoRow.holds Try.pinned (OpenSpec.upto indexKnownSpec)

/-- 'anamnesislaw01.IntsTurns', WHERE WHAT IT READS IS OF BULK AT MOST 1048576: true; the input reads as it did. -/
def intsTurnsUptoRow : OpenClaim := { program := "ytamlcpligkkciaa", sum := "923f08fc6711e5ab948682f2c5311360e919bb158a0c8cc710dc25c3bdaa79f5", func := "anamnesis/anamnesislaw01.IntsTurns", spec := "intsTurns", unfollowed := true, recurses := true, named := ["math/bits.divideError", "math/bits.overflowError"], apart := false, narrowed := true }
def IntsTurnsUptoSaid : Prop := intsTurnsUptoRow.holds Try.pinned (OpenSpec.upto intsTurnsSpec)

/-- 'anamnesislaw01.IntsRest', WHERE WHAT IT READS IS OF BULK AT MOST 1048576: true; the input reads as it did. -/
def intsRestUptoRow : OpenClaim := { program := "ytamlcpligkkciaa", sum := "923f08fc6711e5ab948682f2c5311360e919bb158a0c8cc710dc25c3bdaa79f5", func := "anamnesis/anamnesislaw01.IntsRest", spec := "intsRest", unfollowed := true, recurses := true, named := ["math/bits.divideError", "math/bits.overflowError"], apart := false, narrowed := true }
def IntsRestUptoSaid : Prop := intsRestUptoRow.holds Try.pinned (OpenSpec.upto intsRestSpec)

/-- 'anamnesislaw01.IntsKnown', WHERE WHAT IT READS IS OF BULK AT MOST 1048576: true; the input reads as it did. -/
def intsKnownUptoRow : OpenClaim := { program := "ytamlcpligkkciaa", sum := "923f08fc6711e5ab948682f2c5311360e919bb158a0c8cc710dc25c3bdaa79f5", func := "anamnesis/anamnesislaw01.IntsKnown", spec := "intsKnown", unfollowed := true, recurses := true, named := ["math/bits.divideError", "math/bits.overflowError"], apart := false, narrowed := true }
def IntsKnownUptoSaid : Prop := intsKnownUptoRow.holds Try.pinned (OpenSpec.upto intsKnownSpec)

/-- 'anamnesislaw01.IntsNothing', WHERE WHAT IT READS IS OF BULK AT MOST 1048576: true; the input reads as it did. -/
def intsNothingUptoRow : OpenClaim := { program := "ytamlcpligkkciaa", sum := "923f08fc6711e5ab948682f2c5311360e919bb158a0c8cc710dc25c3bdaa79f5", func := "anamnesis/anamnesislaw01.IntsNothing", spec := "intsNothing", unfollowed := true, recurses := true, named := ["math/bits.divideError", "math/bits.overflowError"], apart := false, narrowed := true }
def IntsNothingUptoSaid : Prop := intsNothingUptoRow.holds Try.pinned (OpenSpec.upto intsNothingSpec)

end Rows
end Go.Proofs.Ytamlcpligkkciaa
