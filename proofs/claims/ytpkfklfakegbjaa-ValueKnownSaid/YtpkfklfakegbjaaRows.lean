/-
  No cell of these rows narrows 'for every input' (looked for: loops, veiled, ifaces, maps, wideKeys, modest, calm, conditions, laid).
  DERIVED. THE GIVEN ROWS OF THIS SEAT. 9 by the template 'for every input the law returns true; each argument reads behind the call as it read before'; 0 by the template 'total and deterministic' (their statements: YtpkfklfakegbjaaTotals.lean).
  GIVEN WITH THE SEED: the statements are not yours to turn. If you find one false, say at which input.
  Laid BY PROGRAM, IN A SANDBOX (cutbox-rows.mjs): the forced cells as the released guide's own fill.sh prints them over the translation 85fd564b7975c6c0… (all of the seat's roots in one cut). By AI agents, Wed Nov 11 2026. No macro, syntax, notation, axiom, sorry.
-/
import Derived.Test.YtpkfklfakegbjaaChecked
import GoSem.Claim
import GoSem.ClaimJoined
import GoSem.ClaimMapViews
import Derived.JoinedTies
import Derived.KernelRfl
namespace Go.Proofs.Ytpkfklfakegbjaa
/- THE CELL 'sum', in the pinned program and in every row, IS THE sha256 OF THE DUMP (.gsa) THAT YtpkfklfakegbjaaProg.lean LOADS. Nothing in Lean hashes anything: it is a label: what it is worth is what the hold of that sum in a sandbox is worth. -/
noncomputable def Try.pinned : Pinned := { name := "ytpkfklfakegbjaa", sum := "85fd564b7975c6c079894e1ddd3cf4e937ddef084ea6a2e373208c8d672d6318", checked := Try.checked }
namespace Rows
def none {H : Type} : Left H := { results := [], args := [] }

/-- 'anamnesislaw13.RandKnown': WHATEVER THE INPUT: true; the input reads as it did. -/
def randKnownSpec : ChangeSpec := { name := "randKnown", fn := fun _ => fun
  | [] => { results := [.lit (.bool true)], args := [] }
  | _ => none }
def randKnownRow : OpenClaim := { program := "ytpkfklfakegbjaa", sum := "85fd564b7975c6c079894e1ddd3cf4e937ddef084ea6a2e373208c8d672d6318", func := "anamnesis/anamnesislaw13.RandKnown", spec := "randKnown", unfollowed := true, recurses := true, apart := false }
def RandKnownSaid : Prop := randKnownRow.holds Try.pinned (OpenSpec.ofChange randKnownSpec)

/-- ITS FALSE NEIGHBOUR: 'it returns false'. Refute it at one input. -/
def randKnownWrong : ChangeSpec := { name := "randKnown", fn := fun _ => fun
  | [] => { results := [.lit (.bool false)], args := [] }
  | _ => none }
def RandKnownWrongFalsely : Prop := randKnownRow.holds Try.pinned (OpenSpec.ofChange randKnownWrong)

/-- 'anamnesislaw13.RandTells': WHATEVER THE INPUT: true; the input reads as it did. -/
def randTellsSpec : ChangeSpec := { name := "randTells", fn := fun _ => fun
  | [d1, d2, d3, d4] => { results := [.lit (.bool true)], args := [d1, d2, d3, d4] }
  | _ => none }
def randTellsRow : OpenClaim := { program := "ytpkfklfakegbjaa", sum := "85fd564b7975c6c079894e1ddd3cf4e937ddef084ea6a2e373208c8d672d6318", func := "anamnesis/anamnesislaw13.RandTells", spec := "randTells", unfollowed := true, recurses := true, apart := false }
def RandTellsSaid : Prop := randTellsRow.holds Try.pinned (OpenSpec.ofChange randTellsSpec)

/-- ITS FALSE NEIGHBOUR: 'it returns false'. Refute it at one input. -/
def randTellsWrong : ChangeSpec := { name := "randTells", fn := fun _ => fun
  | [d1, d2, d3, d4] => { results := [.lit (.bool false)], args := [d1, d2, d3, d4] }
  | _ => none }
def RandTellsWrongFalsely : Prop := randTellsRow.holds Try.pinned (OpenSpec.ofChange randTellsWrong)

/-- 'anamnesislaw13.RandDeals': WHATEVER THE INPUT: true; the input reads as it did. -/
def randDealsSpec : ChangeSpec := { name := "randDeals", fn := fun _ => fun
  | [d1, d2, d3, d4] => { results := [.lit (.bool true)], args := [d1, d2, d3, d4] }
  | _ => none }
def randDealsRow : OpenClaim := { program := "ytpkfklfakegbjaa", sum := "85fd564b7975c6c079894e1ddd3cf4e937ddef084ea6a2e373208c8d672d6318", func := "anamnesis/anamnesislaw13.RandDeals", spec := "randDeals", unfollowed := true, recurses := true, apart := false }
def RandDealsSaid : Prop := randDealsRow.holds Try.pinned (OpenSpec.ofChange randDealsSpec)

/-- ITS FALSE NEIGHBOUR: 'it returns false'. Refute it at one input. -/
def randDealsWrong : ChangeSpec := { name := "randDeals", fn := fun _ => fun
  | [d1, d2, d3, d4] => { results := [.lit (.bool false)], args := [d1, d2, d3, d4] }
  | _ => none }
def RandDealsWrongFalsely : Prop := randDealsRow.holds Try.pinned (OpenSpec.ofChange randDealsWrong)

/-- 'anamnesislaw13.RandRolls': WHATEVER THE INPUT: true; the input reads as it did. -/
def randRollsSpec : ChangeSpec := { name := "randRolls", fn := fun _ => fun
  | [d1, d2, d3, d4] => { results := [.lit (.bool true)], args := [d1, d2, d3, d4] }
  | _ => none }
def randRollsRow : OpenClaim := { program := "ytpkfklfakegbjaa", sum := "85fd564b7975c6c079894e1ddd3cf4e937ddef084ea6a2e373208c8d672d6318", func := "anamnesis/anamnesislaw13.RandRolls", spec := "randRolls", unfollowed := true, recurses := true, apart := false }
def RandRollsSaid : Prop := randRollsRow.holds Try.pinned (OpenSpec.ofChange randRollsSpec)

/-- ITS FALSE NEIGHBOUR: 'it returns false'. Refute it at one input. -/
def randRollsWrong : ChangeSpec := { name := "randRolls", fn := fun _ => fun
  | [d1, d2, d3, d4] => { results := [.lit (.bool false)], args := [d1, d2, d3, d4] }
  | _ => none }
def RandRollsWrongFalsely : Prop := randRollsRow.holds Try.pinned (OpenSpec.ofChange randRollsWrong)

/-- 'anamnesislaw02.ValueTexts': WHATEVER THE INPUT: true; the input reads as it did. -/
def valueTextsSpec : ChangeSpec := { name := "valueTexts", fn := fun _ => fun
  | [d] => { results := [.lit (.bool true)], args := [d] }
  | _ => none }
def valueTextsRow : OpenClaim := { program := "ytpkfklfakegbjaa", sum := "85fd564b7975c6c079894e1ddd3cf4e937ddef084ea6a2e373208c8d672d6318", func := "anamnesis/anamnesislaw02.ValueTexts", spec := "valueTexts", unfollowed := true, recurses := true, apart := false }
def ValueTextsSaid : Prop := valueTextsRow.holds Try.pinned (OpenSpec.ofChange valueTextsSpec)

/-- ITS FALSE NEIGHBOUR: 'it returns false'. Refute it at one input. -/
def valueTextsWrong : ChangeSpec := { name := "valueTexts", fn := fun _ => fun
  | [d] => { results := [.lit (.bool false)], args := [d] }
  | _ => none }
def ValueTextsWrongFalsely : Prop := valueTextsRow.holds Try.pinned (OpenSpec.ofChange valueTextsWrong)

/-- 'anamnesislaw02.ValueTells': WHATEVER THE INPUT: true; the input reads as it did. -/
def valueTellsSpec : ChangeSpec := { name := "valueTells", fn := fun _ => fun
  | [d1, d2] => { results := [.lit (.bool true)], args := [d1, d2] }
  | _ => none }
def valueTellsRow : OpenClaim := { program := "ytpkfklfakegbjaa", sum := "85fd564b7975c6c079894e1ddd3cf4e937ddef084ea6a2e373208c8d672d6318", func := "anamnesis/anamnesislaw02.ValueTells", spec := "valueTells", unfollowed := true, recurses := true, apart := false }
def ValueTellsSaid : Prop := valueTellsRow.holds Try.pinned (OpenSpec.ofChange valueTellsSpec)

/-- ITS FALSE NEIGHBOUR: 'it returns false'. Refute it at one input. -/
def valueTellsWrong : ChangeSpec := { name := "valueTells", fn := fun _ => fun
  | [d1, d2] => { results := [.lit (.bool false)], args := [d1, d2] }
  | _ => none }
def ValueTellsWrongFalsely : Prop := valueTellsRow.holds Try.pinned (OpenSpec.ofChange valueTellsWrong)

/-- 'anamnesislaw02.ValueKnown': WHATEVER THE INPUT: true; the input reads as it did. -/
def valueKnownSpec : ChangeSpec := { name := "valueKnown", fn := fun _ => fun
  | [] => { results := [.lit (.bool true)], args := [] }
  | _ => none }
def valueKnownRow : OpenClaim := { program := "ytpkfklfakegbjaa", sum := "85fd564b7975c6c079894e1ddd3cf4e937ddef084ea6a2e373208c8d672d6318", func := "anamnesis/anamnesislaw02.ValueKnown", spec := "valueKnown", unfollowed := true, recurses := true, apart := false }
def ValueKnownSaid : Prop := valueKnownRow.holds Try.pinned (OpenSpec.ofChange valueKnownSpec)

/-- ITS FALSE NEIGHBOUR: 'it returns false'. Refute it at one input. -/
def valueKnownWrong : ChangeSpec := { name := "valueKnown", fn := fun _ => fun
  | [] => { results := [.lit (.bool false)], args := [] }
  | _ => none }
def ValueKnownWrongFalsely : Prop := valueKnownRow.holds Try.pinned (OpenSpec.ofChange valueKnownWrong)

/-- 'anamnesislaw02.ValueSame': WHATEVER THE INPUT: true; the input reads as it did. -/
def valueSameSpec : ChangeSpec := { name := "valueSame", fn := fun _ => fun
  | [d1, d2, d3] => { results := [.lit (.bool true)], args := [d1, d2, d3] }
  | _ => none }
def valueSameRow : OpenClaim := { program := "ytpkfklfakegbjaa", sum := "85fd564b7975c6c079894e1ddd3cf4e937ddef084ea6a2e373208c8d672d6318", func := "anamnesis/anamnesislaw02.ValueSame", spec := "valueSame", unfollowed := true, recurses := true, apart := false }
def ValueSameSaid : Prop := valueSameRow.holds Try.pinned (OpenSpec.ofChange valueSameSpec)

/-- ITS FALSE NEIGHBOUR: 'it returns false'. Refute it at one input. -/
def valueSameWrong : ChangeSpec := { name := "valueSame", fn := fun _ => fun
  | [d1, d2, d3] => { results := [.lit (.bool false)], args := [d1, d2, d3] }
  | _ => none }
def ValueSameWrongFalsely : Prop := valueSameRow.holds Try.pinned (OpenSpec.ofChange valueSameWrong)

/-- 'anamnesislaw02.ValueBack': WHATEVER THE INPUT: true; the input reads as it did. -/
def valueBackSpec : ChangeSpec := { name := "valueBack", fn := fun _ => fun
  | [d1, d2, d3] => { results := [.lit (.bool true)], args := [d1, d2, d3] }
  | _ => none }
def valueBackRow : OpenClaim := { program := "ytpkfklfakegbjaa", sum := "85fd564b7975c6c079894e1ddd3cf4e937ddef084ea6a2e373208c8d672d6318", func := "anamnesis/anamnesislaw02.ValueBack", spec := "valueBack", unfollowed := true, recurses := true, apart := false }
def ValueBackSaid : Prop := valueBackRow.holds Try.pinned (OpenSpec.ofChange valueBackSpec)

/-- ITS FALSE NEIGHBOUR: 'it returns false'. Refute it at one input. -/
def valueBackWrong : ChangeSpec := { name := "valueBack", fn := fun _ => fun
  | [d1, d2, d3] => { results := [.lit (.bool false)], args := [d1, d2, d3] }
  | _ => none }
def ValueBackWrongFalsely : Prop := valueBackRow.holds Try.pinned (OpenSpec.ofChange valueBackWrong)

/- THE SECOND FORM. 'bulk': how many values and letters a reading holds, each counted each time it is reached (what is shared counts as often as it is met; a slice's spare places count too). A statement '..UptoSaid' is the law's where the arguments, and the package variables that the reading takes, are together of bulk at most 1048576: NARROWER than '..Said'. Prove '..Said' where nothing that the law and all that it calls make is longer than what came in: it says more and counts as full. Else prove '..UptoSaid'. A law counts once. -/
mutual
def uptoBulk {H : Type} : DataW H → Nat
  | .lit (.string bytes) => bytes.length + 1
  | .lit _ => 1
  | .nil => 1
  | .ptr d => uptoBulk d + 1
  | .slice elems spare => uptoBulkAll elems + uptoBulkAll spare + 1
  | .agg parts => uptoBulkAll parts + 1
  | .iface _ d => uptoBulk d + 1
  | .map entries => uptoBulkEntries entries + 1
  | .held _ => 1
def uptoBulkAll {H : Type} : List (DataW H) → Nat
  | [] => 0
  | d :: r => uptoBulk d + uptoBulkAll r
def uptoBulkEntries {H : Type} : List (Lit × DataW H) → Nat
  | [] => 0
  | x :: r => uptoBulkEntry x + uptoBulkEntries r
def uptoBulkEntry {H : Type} : Lit × DataW H → Nat
  | (.string bytes, d) => bytes.length + uptoBulk d + 1
  | (_, d) => uptoBulk d + 1
 end
def uptoSmall : (H : Type) → List (DataW H) → Bool := fun _ ds => decide (uptoBulkAll ds ≤ 1048576)
def OpenSpec.upto (s : _root_.Go.ChangeSpec) : _root_.Go.OpenSpec := { _root_.Go.OpenSpec.ofChange s with cond := some uptoSmall }

/-- 'anamnesislaw13.RandKnown', WHERE WHAT IT READS IS OF BULK AT MOST 1048576: true; the input reads as it did. -/
def randKnownUptoRow : OpenClaim := { program := "ytpkfklfakegbjaa", sum := "85fd564b7975c6c079894e1ddd3cf4e937ddef084ea6a2e373208c8d672d6318", func := "anamnesis/anamnesislaw13.RandKnown", spec := "randKnown", unfollowed := true, recurses := true, apart := false, narrowed := true }
def RandKnownUptoSaid : Prop := randKnownUptoRow.holds Try.pinned (OpenSpec.upto randKnownSpec)

/-- 'anamnesislaw13.RandTells', WHERE WHAT IT READS IS OF BULK AT MOST 1048576: true; the input reads as it did. -/
def randTellsUptoRow : OpenClaim := { program := "ytpkfklfakegbjaa", sum := "85fd564b7975c6c079894e1ddd3cf4e937ddef084ea6a2e373208c8d672d6318", func := "anamnesis/anamnesislaw13.RandTells", spec := "randTells", unfollowed := true, recurses := true, apart := false, narrowed := true }
def RandTellsUptoSaid : Prop := randTellsUptoRow.holds Try.pinned (OpenSpec.upto randTellsSpec)

/-- 'anamnesislaw13.RandDeals', WHERE WHAT IT READS IS OF BULK AT MOST 1048576: true; the input reads as it did. -/
def randDealsUptoRow : OpenClaim := { program := "ytpkfklfakegbjaa", sum := "85fd564b7975c6c079894e1ddd3cf4e937ddef084ea6a2e373208c8d672d6318", func := "anamnesis/anamnesislaw13.RandDeals", spec := "randDeals", unfollowed := true, recurses := true, apart := false, narrowed := true }
def RandDealsUptoSaid : Prop := randDealsUptoRow.holds Try.pinned (OpenSpec.upto randDealsSpec)

/-- 'anamnesislaw13.RandRolls', WHERE WHAT IT READS IS OF BULK AT MOST 1048576: true; the input reads as it did. -/
def randRollsUptoRow : OpenClaim := { program := "ytpkfklfakegbjaa", sum := "85fd564b7975c6c079894e1ddd3cf4e937ddef084ea6a2e373208c8d672d6318", func := "anamnesis/anamnesislaw13.RandRolls", spec := "randRolls", unfollowed := true, recurses := true, apart := false, narrowed := true }
def RandRollsUptoSaid : Prop := randRollsUptoRow.holds Try.pinned (OpenSpec.upto randRollsSpec)

/-- 'anamnesislaw02.ValueTexts', WHERE WHAT IT READS IS OF BULK AT MOST 1048576: true; the input reads as it did. -/
def valueTextsUptoRow : OpenClaim := { program := "ytpkfklfakegbjaa", sum := "85fd564b7975c6c079894e1ddd3cf4e937ddef084ea6a2e373208c8d672d6318", func := "anamnesis/anamnesislaw02.ValueTexts", spec := "valueTexts", unfollowed := true, recurses := true, apart := false, narrowed := true }
def ValueTextsUptoSaid : Prop := valueTextsUptoRow.holds Try.pinned (OpenSpec.upto valueTextsSpec)

/-- 'anamnesislaw02.ValueTells', WHERE WHAT IT READS IS OF BULK AT MOST 1048576: true; the input reads as it did. -/
def valueTellsUptoRow : OpenClaim := { program := "ytpkfklfakegbjaa", sum := "85fd564b7975c6c079894e1ddd3cf4e937ddef084ea6a2e373208c8d672d6318", func := "anamnesis/anamnesislaw02.ValueTells", spec := "valueTells", unfollowed := true, recurses := true, apart := false, narrowed := true }
def ValueTellsUptoSaid : Prop := valueTellsUptoRow.holds Try.pinned (OpenSpec.upto valueTellsSpec)

/-- 'anamnesislaw02.ValueKnown', WHERE WHAT IT READS IS OF BULK AT MOST 1048576: true; the input reads as it did. -/
def valueKnownUptoRow : OpenClaim := { program := "ytpkfklfakegbjaa", sum := "85fd564b7975c6c079894e1ddd3cf4e937ddef084ea6a2e373208c8d672d6318", func := "anamnesis/anamnesislaw02.ValueKnown", spec := "valueKnown", unfollowed := true, recurses := true, apart := false, narrowed := true }
def ValueKnownUptoSaid : Prop := valueKnownUptoRow.holds Try.pinned (OpenSpec.upto valueKnownSpec)

/-- 'anamnesislaw02.ValueSame', WHERE WHAT IT READS IS OF BULK AT MOST 1048576: true; the input reads as it did. -/
def valueSameUptoRow : OpenClaim := { program := "ytpkfklfakegbjaa", sum := "85fd564b7975c6c079894e1ddd3cf4e937ddef084ea6a2e373208c8d672d6318", func := "anamnesis/anamnesislaw02.ValueSame", spec := "valueSame", unfollowed := true, recurses := true, apart := false, narrowed := true }
def ValueSameUptoSaid : Prop := valueSameUptoRow.holds Try.pinned (OpenSpec.upto valueSameSpec)

/-- 'anamnesislaw02.ValueBack', WHERE WHAT IT READS IS OF BULK AT MOST 1048576: true; the input reads as it did. -/
def valueBackUptoRow : OpenClaim := { program := "ytpkfklfakegbjaa", sum := "85fd564b7975c6c079894e1ddd3cf4e937ddef084ea6a2e373208c8d672d6318", func := "anamnesis/anamnesislaw02.ValueBack", spec := "valueBack", unfollowed := true, recurses := true, apart := false, narrowed := true }
def ValueBackUptoSaid : Prop := valueBackUptoRow.holds Try.pinned (OpenSpec.upto valueBackSpec)

end Rows
end Go.Proofs.Ytpkfklfakegbjaa
