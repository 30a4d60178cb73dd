/-
  No cell of these rows narrows 'for every input' (looked for: loops, veiled, ifaces, maps, wideKeys, modest, calm, conditions, laid).
  DERIVED. THE GIVEN ROWS OF THIS SEAT. 6 by the template 'for every input the law returns true; each argument reads behind the call as it read before'; 0 by the template 'total and deterministic' (their statements: YtblgdjpeedgnoaaTotals.lean).
  GIVEN WITH THE SEED: the statements are not yours to turn. If you find one false, say at which input.
  Laid BY PROGRAM, IN A SANDBOX (cutbox-rows.mjs): the forced cells as the released guide's own fill.sh prints them over the translation 78f8695fae304f3b… (all of the seat's roots in one cut). By AI agents, Wed Nov 11 2026. No macro, syntax, notation, axiom, sorry.
-/
import Derived.Test.YtblgdjpeedgnoaaChecked
import GoSem.Claim
import GoSem.ClaimJoined
import GoSem.ClaimMapViews
import Derived.JoinedTies
import Derived.KernelRfl
namespace Go.Proofs.Ytblgdjpeedgnoaa
/- THE CELL 'sum', in the pinned program and in every row, IS THE sha256 OF THE DUMP (.gsa) THAT YtblgdjpeedgnoaaProg.lean LOADS. Nothing in Lean hashes anything: it is a label: what it is worth is what the hold of that sum in a sandbox is worth. -/
noncomputable def Try.pinned : Pinned := { name := "ytblgdjpeedgnoaa", sum := "78f8695fae304f3bfea4aad6db8cd2b2fc0f6b34e6e4c07099b40d30a84e21a2", checked := Try.checked }
namespace Rows
def none {H : Type} : Left H := { results := [], args := [] }

/-- 'anamnesislaw12.OverAxes': WHATEVER THE INPUT: true; the input reads as it did. -/
def overAxesSpec : ChangeSpec := { name := "overAxes", fn := fun _ => fun
  | [d1, d2, d3] => { results := [.lit (.bool true)], args := [d1, d2, d3] }
  | _ => none }
def overAxesRow : OpenClaim := { program := "ytblgdjpeedgnoaa", sum := "78f8695fae304f3bfea4aad6db8cd2b2fc0f6b34e6e4c07099b40d30a84e21a2", func := "anamnesis/anamnesislaw12.OverAxes", spec := "overAxes", unfollowed := true, recurses := true, named := ["math/bits.divideError", "math/bits.overflowError"], apart := false }
def OverAxesSaid : Prop := overAxesRow.holds Try.pinned (OpenSpec.ofChange overAxesSpec)

/-- ITS FALSE NEIGHBOUR: 'it returns false'. Refute it at one input. -/
def overAxesWrong : ChangeSpec := { name := "overAxes", fn := fun _ => fun
  | [d1, d2, d3] => { results := [.lit (.bool false)], args := [d1, d2, d3] }
  | _ => none }
def OverAxesWrongFalsely : Prop := overAxesRow.holds Try.pinned (OpenSpec.ofChange overAxesWrong)

/-- 'anamnesislaw12.OverTwo': WHATEVER THE INPUT: true; the input reads as it did. -/
def overTwoSpec : ChangeSpec := { name := "overTwo", fn := fun _ => fun
  | [d1, d2, d3, d4] => { results := [.lit (.bool true)], args := [d1, d2, d3, d4] }
  | _ => none }
def overTwoRow : OpenClaim := { program := "ytblgdjpeedgnoaa", sum := "78f8695fae304f3bfea4aad6db8cd2b2fc0f6b34e6e4c07099b40d30a84e21a2", func := "anamnesis/anamnesislaw12.OverTwo", spec := "overTwo", unfollowed := true, recurses := true, named := ["math/bits.divideError", "math/bits.overflowError"], apart := false }
def OverTwoSaid : Prop := overTwoRow.holds Try.pinned (OpenSpec.ofChange overTwoSpec)

/-- ITS FALSE NEIGHBOUR: 'it returns false'. Refute it at one input. -/
def overTwoWrong : ChangeSpec := { name := "overTwo", fn := fun _ => fun
  | [d1, d2, d3, d4] => { results := [.lit (.bool false)], args := [d1, d2, d3, d4] }
  | _ => none }
def OverTwoWrongFalsely : Prop := overTwoRow.holds Try.pinned (OpenSpec.ofChange overTwoWrong)

/-- 'anamnesislaw12.OverScalar': WHATEVER THE INPUT: true; the input reads as it did. -/
def overScalarSpec : ChangeSpec := { name := "overScalar", fn := fun _ => fun
  | [d1, d2, d3] => { results := [.lit (.bool true)], args := [d1, d2, d3] }
  | _ => none }
def overScalarRow : OpenClaim := { program := "ytblgdjpeedgnoaa", sum := "78f8695fae304f3bfea4aad6db8cd2b2fc0f6b34e6e4c07099b40d30a84e21a2", func := "anamnesis/anamnesislaw12.OverScalar", spec := "overScalar", unfollowed := true, recurses := true, named := ["math/bits.divideError", "math/bits.overflowError"], apart := false }
def OverScalarSaid : Prop := overScalarRow.holds Try.pinned (OpenSpec.ofChange overScalarSpec)

/-- ITS FALSE NEIGHBOUR: 'it returns false'. Refute it at one input. -/
def overScalarWrong : ChangeSpec := { name := "overScalar", fn := fun _ => fun
  | [d1, d2, d3] => { results := [.lit (.bool false)], args := [d1, d2, d3] }
  | _ => none }
def OverScalarWrongFalsely : Prop := overScalarRow.holds Try.pinned (OpenSpec.ofChange overScalarWrong)

/-- 'anamnesislaw12.OverKnown': WHATEVER THE INPUT: true; the input reads as it did. -/
def overKnownSpec : ChangeSpec := { name := "overKnown", fn := fun _ => fun
  | [] => { results := [.lit (.bool true)], args := [] }
  | _ => none }
def overKnownRow : OpenClaim := { program := "ytblgdjpeedgnoaa", sum := "78f8695fae304f3bfea4aad6db8cd2b2fc0f6b34e6e4c07099b40d30a84e21a2", func := "anamnesis/anamnesislaw12.OverKnown", spec := "overKnown", unfollowed := true, recurses := true, named := ["math/bits.divideError", "math/bits.overflowError"], apart := false }
def OverKnownSaid : Prop := overKnownRow.holds Try.pinned (OpenSpec.ofChange overKnownSpec)

/-- ITS FALSE NEIGHBOUR: 'it returns false'. Refute it at one input. -/
def overKnownWrong : ChangeSpec := { name := "overKnown", fn := fun _ => fun
  | [] => { results := [.lit (.bool false)], args := [] }
  | _ => none }
def OverKnownWrongFalsely : Prop := overKnownRow.holds Try.pinned (OpenSpec.ofChange overKnownWrong)

/-- 'anamnesislaw12.OverLast': WHATEVER THE INPUT: true; the input reads as it did. -/
def overLastSpec : ChangeSpec := { name := "overLast", fn := fun _ => fun
  | [d1, d2, d3] => { results := [.lit (.bool true)], args := [d1, d2, d3] }
  | _ => none }
def overLastRow : OpenClaim := { program := "ytblgdjpeedgnoaa", sum := "78f8695fae304f3bfea4aad6db8cd2b2fc0f6b34e6e4c07099b40d30a84e21a2", func := "anamnesis/anamnesislaw12.OverLast", spec := "overLast", unfollowed := true, recurses := true, named := ["math/bits.divideError", "math/bits.overflowError"], apart := false }
def OverLastSaid : Prop := overLastRow.holds Try.pinned (OpenSpec.ofChange overLastSpec)

/-- ITS FALSE NEIGHBOUR: 'it returns false'. Refute it at one input. -/
def overLastWrong : ChangeSpec := { name := "overLast", fn := fun _ => fun
  | [d1, d2, d3] => { results := [.lit (.bool false)], args := [d1, d2, d3] }
  | _ => none }
def OverLastWrongFalsely : Prop := overLastRow.holds Try.pinned (OpenSpec.ofChange overLastWrong)

/-- 'anamnesislaw12.OverInner': WHATEVER THE INPUT: true; the input reads as it did. -/
def overInnerSpec : ChangeSpec := { name := "overInner", fn := fun _ => fun
  | [d1, d2, d3, d4, d5, d6, d7] => { results := [.lit (.bool true)], args := [d1, d2, d3, d4, d5, d6, d7] }
  | _ => none }
def overInnerRow : OpenClaim := { program := "ytblgdjpeedgnoaa", sum := "78f8695fae304f3bfea4aad6db8cd2b2fc0f6b34e6e4c07099b40d30a84e21a2", func := "anamnesis/anamnesislaw12.OverInner", spec := "overInner", unfollowed := true, recurses := true, named := ["math/bits.divideError", "math/bits.overflowError"], apart := false }
def OverInnerSaid : Prop := overInnerRow.holds Try.pinned (OpenSpec.ofChange overInnerSpec)

/-- ITS FALSE NEIGHBOUR: 'it returns false'. Refute it at one input. -/
def overInnerWrong : ChangeSpec := { name := "overInner", fn := fun _ => fun
  | [d1, d2, d3, d4, d5, d6, d7] => { results := [.lit (.bool false)], args := [d1, d2, d3, d4, d5, d6, d7] }
  | _ => none }
def OverInnerWrongFalsely : Prop := overInnerRow.holds Try.pinned (OpenSpec.ofChange overInnerWrong)

/- THE SECOND FORM. 'bulk': how many values and letters a reading holds, each counted each time it is reached (what is shared counts as often as it is met; a slice's spare places count too). A statement '..UptoSaid' is the law's where the arguments, and the package variables that the reading takes, are together of bulk at most 1048576: NARROWER than '..Said'. Prove '..Said' where nothing that the law and all that it calls make is longer than what came in: it says more and counts as full. Else prove '..UptoSaid'. A law counts once. -/
mutual
def uptoBulk {H : Type} : DataW H → Nat
  | .lit (.string bytes) => bytes.length + 1
  | .lit _ => 1
  | .nil => 1
  | .ptr d => uptoBulk d + 1
  | .slice elems spare => uptoBulkAll elems + uptoBulkAll spare + 1
  | .agg parts => uptoBulkAll parts + 1
  | .iface _ d => uptoBulk d + 1
  | .map entries => uptoBulkEntries entries + 1
  | .held _ => 1
def uptoBulkAll {H : Type} : List (DataW H) → Nat
  | [] => 0
  | d :: r => uptoBulk d + uptoBulkAll r
def uptoBulkEntries {H : Type} : List (Lit × DataW H) → Nat
  | [] => 0
  | x :: r => uptoBulkEntry x + uptoBulkEntries r
def uptoBulkEntry {H : Type} : Lit × DataW H → Nat
  | (.string bytes, d) => bytes.length + uptoBulk d + 1
  | (_, d) => uptoBulk d + 1
 end
def uptoSmall : (H : Type) → List (DataW H) → Bool := fun _ ds => decide (uptoBulkAll ds ≤ 1048576)
def OpenSpec.upto (s : _root_.Go.ChangeSpec) : _root_.Go.OpenSpec := { _root_.Go.OpenSpec.ofChange s with cond := some uptoSmall }

/-- 'anamnesislaw12.OverAxes', WHERE WHAT IT READS IS OF BULK AT MOST 1048576: true; the input reads as it did. -/
def overAxesUptoRow : OpenClaim := { program := "ytblgdjpeedgnoaa", sum := "78f8695fae304f3bfea4aad6db8cd2b2fc0f6b34e6e4c07099b40d30a84e21a2", func := "anamnesis/anamnesislaw12.OverAxes", spec := "overAxes", unfollowed := true, recurses := true, named := ["math/bits.divideError", "math/bits.overflowError"], apart := false, narrowed := true }
def OverAxesUptoSaid : Prop := overAxesUptoRow.holds Try.pinned (OpenSpec.upto overAxesSpec)

/-- 'anamnesislaw12.OverTwo', WHERE WHAT IT READS IS OF BULK AT MOST 1048576: true; the input reads as it did. -/
def overTwoUptoRow : OpenClaim := { program := "ytblgdjpeedgnoaa", sum := "78f8695fae304f3bfea4aad6db8cd2b2fc0f6b34e6e4c07099b40d30a84e21a2", func := "anamnesis/anamnesislaw12.OverTwo", spec := "overTwo", unfollowed := true, recurses := true, named := ["math/bits.divideError", "math/bits.overflowError"], apart := false, narrowed := true }
def OverTwoUptoSaid : Prop := overTwoUptoRow.holds Try.pinned (OpenSpec.upto overTwoSpec)

/-- 'anamnesislaw12.OverScalar', WHERE WHAT IT READS IS OF BULK AT MOST 1048576: true; the input reads as it did. -/
def overScalarUptoRow : OpenClaim := { program := "ytblgdjpeedgnoaa", sum := "78f8695fae304f3bfea4aad6db8cd2b2fc0f6b34e6e4c07099b40d30a84e21a2", func := "anamnesis/anamnesislaw12.OverScalar", spec := "overScalar", unfollowed := true, recurses := true, named := ["math/bits.divideError", "math/bits.overflowError"], apart := false, narrowed := true }
def OverScalarUptoSaid : Prop := overScalarUptoRow.holds Try.pinned (OpenSpec.upto overScalarSpec)

/-- 'anamnesislaw12.OverKnown', WHERE WHAT IT READS IS OF BULK AT MOST 1048576: true; the input reads as it did. -/
def overKnownUptoRow : OpenClaim := { program := "ytblgdjpeedgnoaa", sum := "78f8695fae304f3bfea4aad6db8cd2b2fc0f6b34e6e4c07099b40d30a84e21a2", func := "anamnesis/anamnesislaw12.OverKnown", spec := "overKnown", unfollowed := true, recurses := true, named := ["math/bits.divideError", "math/bits.overflowError"], apart := false, narrowed := true }
def OverKnownUptoSaid : Prop := overKnownUptoRow.holds Try.pinned (OpenSpec.upto overKnownSpec)

/-- 'anamnesislaw12.OverLast', WHERE WHAT IT READS IS OF BULK AT MOST 1048576: true; the input reads as it did. -/
def overLastUptoRow : OpenClaim := { program := "ytblgdjpeedgnoaa", sum := "78f8695fae304f3bfea4aad6db8cd2b2fc0f6b34e6e4c07099b40d30a84e21a2", func := "anamnesis/anamnesislaw12.OverLast", spec := "overLast", unfollowed := true, recurses := true, named := ["math/bits.divideError", "math/bits.overflowError"], apart := false, narrowed := true }
def OverLastUptoSaid : Prop := overLastUptoRow.holds Try.pinned (OpenSpec.upto overLastSpec)

/-- 'anamnesislaw12.OverInner', WHERE WHAT IT READS IS OF BULK AT MOST 1048576: true; the input reads as it did. -/
def overInnerUptoRow : OpenClaim := { program := "ytblgdjpeedgnoaa", sum := "78f8695fae304f3bfea4aad6db8cd2b2fc0f6b34e6e4c07099b40d30a84e21a2", func := "anamnesis/anamnesislaw12.OverInner", spec := "overInner", unfollowed := true, recurses := true, named := ["math/bits.divideError", "math/bits.overflowError"], apart := false, narrowed := true }
def OverInnerUptoSaid : Prop := overInnerUptoRow.holds Try.pinned (OpenSpec.upto overInnerSpec)

end Rows
end Go.Proofs.Ytblgdjpeedgnoaa
