/- PickKnown: the call returns true, and turns nothing that was there. -/
import Derived.Test.YtmelmiffgkippaaAmE
import Derived.Test.YtmelmiffgkippaaWPickKnownc
set_option linter.unusedVariables false
set_option linter.unusedSimpArgs false
namespace Go.Proofs.Ytmelmiffgkippaa.pickKnown
open Go Go.Am
open Go.ChangeShapes Go.WideShapes Go.ChangeAt Go.RowKit
def ora : FuncId → Bool := fun f => f == 15
theorem awake15 : runsTrue Try.prog 3000 60 15 = true := by kernel_rfl
theorem oraOk : OraOk Try.prog ora := ⟨fun f h => by
  obtain rfl : f = 15 := by simpa [ora] using h
  exact ⟨_, Try.func15, rfl⟩, fun f h w => by
  obtain rfl : f = 15 := by simpa [ora] using h
  exact closedK awake15 w⟩
theorem walk (w : World) : Calls Try.prog 12 #[] w fun e w' => e = .returned (.bool true) ∧ Below w.heap.size w w' := by
  have hI : Kn 0 _ [] [] := (OpSt.empty w).kn (fun _ h => by cases h)
  exact law_calls progOk oraOk (OpSt.empty w).hr (lrel.nil _) (wk12 (by simp [ora]) (by simp [ora]) (by simp [ora]) hI pickKnown_true)

set_option maxRecDepth 100000 in
theorem lifted (os : Os) (started : os.Started) (H : Type) (enc : TypeId × Value → H) :
    ReturnsInHanded {} Try.checked os 12 .any (Rows.pickKnownSpec.pre6 enc Try.prog Try.f12 Rows.pickKnownRow.domain false) (Rows.pickKnownSpec.post enc Try.prog Try.f12 false true false false) := by
  refine returnsInHanded_of_change (C := Try.checked) Go.Am.own started (by kernel_rfl) Try.func12
    (ChangeSpec.witness6 (enc := enc) (C := Try.checked) false ⟨#[], #[], []⟩ 8 (by kernel_rfl) (by kernel_rfl) (by kernel_rfl) (by kernel_rfl)) ?_
  intro W base args ds gs before hval0 hW hcnd _
  have hval : ∀ (j : Nat) t v, Try.f12.params[j]? = some t → args[j]? = some v → Value.okWide Try.prog W .any base t v := hval0
  have hW' := hW
  obtain ⟨p, q, hA0, hV, rfl, hfz, hnd⟩ := hW
  have hA : DataW.TrodAll enc Try.prog W 0 (fun _ => true) true Try.f12.params.toList args.toList ds p := hA0
  rw [Try.params12] at hA hval
  obtain ⟨rfl, rfl, rfl⟩ := trodAll_none hA
  obtain ⟨rfl, rfl⟩ := trodVars_none hV
  clear hA0 hval0
  simp only [List.append_nil] at hW'
  refine (walk W).mono fun e W' ⟨he, bel⟩ => ?_
  subst he
  exact ⟨_, rfl, _, _, _, [], [], [], hW', trodAll_mk1 (shut_bool Try.underlying4 _), trodAll_mk0, rfl, bel.frame _, fun h => by cases h⟩

theorem over : Rows.pickKnownRow.holds Try.pinned (OpenSpec.ofChange Rows.pickKnownSpec) :=
  OpenClaim.holds_of_wide 12 Try.f12 rfl rfl rfl rfl rfl rfl rfl ⟨rfl, rfl, rfl, rfl, rfl⟩ rfl rfl rfl rfl rfl (by kernel_rfl) Try.func12 (by kernel_rfl)
    (of_decide_eq_true (by kernel_rfl)) (by unfold Func.isWrapper; first | (rw [if_pos (by decide +kernel)]; kernel_rfl) | (rw [if_neg (by decide +kernel)]; exact ⟨rfl, rfl⟩))
    (fun os started H enc _ => lifted os started H enc)

/-- The statement. -/
theorem proved : Rows.PickKnownSaid := over
#print axioms proved
end Go.Proofs.Ytmelmiffgkippaa.pickKnown
