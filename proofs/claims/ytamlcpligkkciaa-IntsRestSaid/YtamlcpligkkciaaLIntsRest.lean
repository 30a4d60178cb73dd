/- IntsRest: the call returns true for every input, and turns nothing that was there. -/
import Derived.Test.YtamlcpligkkciaaAmE
import Derived.Test.YtamlcpligkkciaaWIntsRestb
import Derived.ChangeMaps5
set_option linter.unusedVariables false
set_option linter.unusedSimpArgs false
namespace Go.Proofs.Ytamlcpligkkciaa.intsRest
open Go Go.Am
open Go.ChangeShapes Go.WideShapes Go.ChangeAt Go.RowKit
def ora : FuncId → Bool := fun f => f == 32
theorem awake32 : runsTrue Try.prog 3000 60 32 = true := by kernel_rfl
theorem oraOk : OraOk Try.prog ora := ⟨fun f h => by
  obtain rfl : f = 32 := by simpa [ora] using h
  exact ⟨_, Try.func32, rfl⟩, fun f h w => by
  obtain rfl : f = 32 := by simpa [ora] using h
  exact closedK awake32 w⟩

set_option maxRecDepth 100000 in
theorem lifted (os : Os) (started : os.Started) (H : Type) (enc : TypeId × Value → H) :
    ReturnsInHanded {} Try.checked os 8 .any (Rows.intsRestSpec.pre6 enc Try.prog Try.f8 Rows.intsRestRow.domain false) (Rows.intsRestSpec.post enc Try.prog Try.f8 false true false false) := by
  refine returnsInHanded_of_change (C := Try.checked) Go.Am.own started (by kernel_rfl) Try.func8
    (ChangeSpec.witness6 (enc := enc) (C := Try.checked) false ⟨#[], #[.int .i64 0, .int .i64 0], []⟩ 8 (by kernel_rfl) (by kernel_rfl) (by kernel_rfl) (by kernel_rfl)) ?_
  intro W base args ds gs before hval0 hW hcnd _
  have hval : ∀ (j : Nat) t v, Try.f8.params[j]? = some t → args[j]? = some v → Value.okWide Try.prog W .any base t v := hval0
  have hW' := hW
  obtain ⟨p, q, hA0, hV, rfl, hfz, hnd⟩ := hW
  have hA : DataW.TrodAll enc Try.prog W 0 (fun _ => true) true Try.f8.params.toList args.toList ds p := hA0
  rw [Try.params8] at hA hval
  have hA1 := hA
  obtain ⟨v0, vs0, d0, ds0, p0, q_0, hargs, rfl, rfl, h0, r0⟩ := trodAll_cons hA
  obtain ⟨v1, vs1, d1, ds1, p1, q_1, rfl, rfl, rfl, h1, r1⟩ := trodAll_cons r0
  obtain ⟨rfl, rfl, rfl⟩ := trodAll_nil r1
  obtain rfl : args = #[v0, v1] := by cases args; simp_all
  obtain ⟨rfl, rfl⟩ := trodVars_none hV
  clear hA0 hval0
  simp only [List.append_nil] at hW'
  obtain ⟨x0, hv0, _, _, g0⟩ := open_int Try.underlying2 (hval 0 2 v0 rfl rfl) h0
  subst hv0
  obtain ⟨x1, hv1, _, _, g1⟩ := open_int Try.underlying2 (hval 1 2 v1 rfl rfl) h1
  subst hv1
  have hI : Kn 0 _ [] [] := (OpSt.empty W).kn (fun _ h => by cases h)
  refine (law_calls progOk oraOk (OpSt.empty W).hr (lrel.cons vr_int (lrel.cons vr_int (lrel.nil _))) (wk8 (by simp [ora]) (by simp [ora]) x0 x1  hI (intsRest_true x0 x1 g0 g1))).mono fun e W' ⟨he, bel⟩ => ?_
  subst he
  exact ⟨_, rfl, _, _, _, [], _, [], hW', trodAll_mk1 (shut_bool Try.underlying4 _), below_all Go.Am.laidOut bel (by kernel_rfl) hA1 (fun x hx => hW'.lt x (by simpa using hx)), rfl, bel.frame _, fun h => by cases h⟩

theorem over : Rows.intsRestRow.holds Try.pinned (OpenSpec.ofChange Rows.intsRestSpec) :=
  OpenClaim.holds_of_wide 8 Try.f8 rfl rfl rfl rfl rfl rfl rfl ⟨rfl, rfl, rfl, rfl, rfl⟩ rfl rfl rfl rfl rfl (by kernel_rfl) Try.func8 (by kernel_rfl)
    (of_decide_eq_true (by kernel_rfl)) (by unfold Func.isWrapper; first | (rw [if_pos (by decide +kernel)]; kernel_rfl) | (rw [if_neg (by decide +kernel)]; exact ⟨rfl, rfl⟩))
    (fun os started H enc _ => lifted os started H enc)

/-- The statement. -/
theorem proved : Rows.IntsRestSaid := over
#print axioms proved
end Go.Proofs.Ytamlcpligkkciaa.intsRest
