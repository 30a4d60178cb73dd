/- ValueKnown: the call returns true, and turns nothing that was there. -/
import Derived.Test.YtpkfklfakegbjaaAmE
import Derived.Test.YtpkfklfakegbjaaWValueKnowna
set_option linter.unusedVariables false
set_option linter.unusedSimpArgs false
namespace Go.Proofs.Ytpkfklfakegbjaa.valueKnown
open Go Go.Am
open Go.ChangeShapes Go.WideShapes Go.ChangeAt Go.RowKit
def ora : FuncId → Bool := fun f => f == 28
theorem awake28 : runsTrue Try.prog 3000 60 28 = true := by kernel_rfl
theorem oraOk : OraOk Try.prog ora := ⟨fun f h => by
  obtain rfl : f = 28 := by simpa [ora] using h
  exact ⟨_, Try.func28, rfl⟩, fun f h w => by
  obtain rfl : f = 28 := by simpa [ora] using h
  exact closedK awake28 w⟩
theorem walk (w : World) : Calls Try.prog 9 #[] w fun e w' => e = .returned (.bool true) ∧ Below w.heap.size w w' := by
  have hI : Kn 0 _ [] [] := (OpSt.empty w).kn (fun _ h => by cases h)
  exact law_calls progOk oraOk (OpSt.empty w).hr (lrel.nil _) (wk9 (by simp [ora]) (by simp [ora]) hI valueKnown_true)

set_option maxRecDepth 100000 in
theorem lifted (os : Os) (started : os.Started) (H : Type) (enc : TypeId × Value → H) :
    ReturnsInHanded {} Try.checked os 9 .any (Rows.valueKnownSpec.pre6 enc Try.prog Try.f9 Rows.valueKnownRow.domain false) (Rows.valueKnownSpec.post enc Try.prog Try.f9 false true false false) := by
  refine returnsInHanded_of_change (C := Try.checked) Go.Am.own started (by kernel_rfl) Try.func9
    (ChangeSpec.witness6 (enc := enc) (C := Try.checked) false ⟨#[], #[], []⟩ 8 (by kernel_rfl) (by kernel_rfl) (by kernel_rfl) (by kernel_rfl)) ?_
  intro W base args ds gs before hval0 hW hcnd _
  have hval : ∀ (j : Nat) t v, Try.f9.params[j]? = some t → args[j]? = some v → Value.okWide Try.prog W .any base t v := hval0
  have hW' := hW
  obtain ⟨p, q, hA0, hV, rfl, hfz, hnd⟩ := hW
  have hA : DataW.TrodAll enc Try.prog W 0 (fun _ => true) true Try.f9.params.toList args.toList ds p := hA0
  rw [Try.params9] at hA hval
  obtain ⟨rfl, rfl, rfl⟩ := trodAll_none hA
  obtain ⟨rfl, rfl⟩ := trodVars_none hV
  clear hA0 hval0
  simp only [List.append_nil] at hW'
  refine (walk W).mono fun e W' ⟨he, bel⟩ => ?_
  subst he
  exact ⟨_, rfl, _, _, _, [], [], [], hW', trodAll_mk1 (shut_bool Try.underlying4 _), trodAll_mk0, rfl, bel.frame _, fun h => by cases h⟩

theorem over : Rows.valueKnownRow.holds Try.pinned (OpenSpec.ofChange Rows.valueKnownSpec) :=
  OpenClaim.holds_of_wide 9 Try.f9 rfl rfl rfl rfl rfl rfl rfl ⟨rfl, rfl, rfl, rfl, rfl⟩ rfl rfl rfl rfl rfl (by kernel_rfl) Try.func9 (by kernel_rfl)
    (of_decide_eq_true (by kernel_rfl)) (by unfold Func.isWrapper; first | (rw [if_pos (by decide +kernel)]; kernel_rfl) | (rw [if_neg (by decide +kernel)]; exact ⟨rfl, rfl⟩))
    (fun os started H enc _ => lifted os started H enc)

/-- The statement. -/
theorem proved : Rows.ValueKnownSaid := over
#print axioms proved
end Go.Proofs.Ytpkfklfakegbjaa.valueKnown
