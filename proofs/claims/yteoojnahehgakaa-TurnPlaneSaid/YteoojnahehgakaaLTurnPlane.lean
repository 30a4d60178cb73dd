/- TurnPlane: the call returns true for every input, and turns nothing that was there. -/
import Derived.Test.YteoojnahehgakaaAmE
import Derived.Test.YteoojnahehgakaaWTurnPlaneb
import Derived.ChangeMaps5
set_option linter.unusedVariables false
set_option linter.unusedSimpArgs false
namespace Go.Proofs.Yteoojnahehgakaa.turnPlane
open Go Go.Am
open Go.ChangeShapes Go.WideShapes Go.ChangeAt Go.RowKit
def ora : FuncId → Bool := fun f => f == 17
theorem awake17 : runsTrue Try.prog 3000 60 17 = true := by kernel_rfl
theorem oraOk : OraOk Try.prog ora := ⟨fun f h => by
  obtain rfl : f = 17 := by simpa [ora] using h
  exact ⟨_, Try.func17, rfl⟩, fun f h w => by
  obtain rfl : f = 17 := by simpa [ora] using h
  exact closedK awake17 w⟩

set_option maxRecDepth 100000 in
theorem lifted (os : Os) (started : os.Started) (H : Type) (enc : TypeId × Value → H) :
    ReturnsInHanded {} Try.checked os 7 .any (Rows.turnPlaneSpec.pre6 enc Try.prog Try.f7 Rows.turnPlaneRow.domain false) (Rows.turnPlaneSpec.post enc Try.prog Try.f7 false true false false) := by
  refine returnsInHanded_of_change (C := Try.checked) Go.Am.own started (by kernel_rfl) Try.func7
    (ChangeSpec.witness6 (enc := enc) (C := Try.checked) false ⟨#[], #[.int .u8 0, .int .u8 0, .bool false, .slice none 0 0], []⟩ 8 (by kernel_rfl) (by kernel_rfl) (by kernel_rfl) (by kernel_rfl)) ?_
  intro W base args ds gs before hval0 hW hcnd _
  have hval : ∀ (j : Nat) t v, Try.f7.params[j]? = some t → args[j]? = some v → Value.okWide Try.prog W .any base t v := hval0
  have hW' := hW
  obtain ⟨p, q, hA0, hV, rfl, hfz, hnd⟩ := hW
  have hA : DataW.TrodAll enc Try.prog W 0 (fun _ => true) true Try.f7.params.toList args.toList ds p := hA0
  rw [Try.params7] at hA hval
  have hA1 := hA
  obtain ⟨v0, vs0, d0, ds0, p0, q_0, hargs, rfl, rfl, h0, r0⟩ := trodAll_cons hA
  obtain ⟨v1, vs1, d1, ds1, p1, q_1, rfl, rfl, rfl, h1, r1⟩ := trodAll_cons r0
  obtain ⟨v2, vs2, d2, ds2, p2, q_2, rfl, rfl, rfl, h2, r2⟩ := trodAll_cons r1
  obtain ⟨v3, vs3, d3, ds3, p3, q_3, rfl, rfl, rfl, h3, r3⟩ := trodAll_cons r2
  obtain ⟨rfl, rfl, rfl⟩ := trodAll_nil r3
  obtain rfl : args = #[v0, v1, v2, v3] := by cases args; simp_all
  obtain ⟨rfl, rfl⟩ := trodVars_none hV
  clear hA0 hval0
  simp only [List.append_nil] at hW'
  obtain ⟨x0, hv0, _, _, g0⟩ := open_int Try.underlying5 (hval 0 5 v0 rfl rfl) h0
  subst hv0
  obtain ⟨x1, hv1, _, _, g1⟩ := open_int Try.underlying5 (hval 1 5 v1 rfl rfl) h1
  subst hv1
  obtain ⟨x2, hv2, _, _⟩ := open_bool Try.underlying4 (hval 2 4 v2 rfl rfl) h2
  subst hv2
  obtain ⟨m3, H3, Z3, a3, x3, st3, le3, zle3, s3, vr3, g3, n3⟩ := open_slice_arg Try.underlying48 (cell1_int Try.underlying5 (by kernel_rfl)) (OpSt.empty W) (hval 3 48 v3 rfl rfl) h3
  have hI : Kn 0 _ [.fz (rI .u8) a3 x3] [] := st3.kn (List.forall_mem_cons.mpr ⟨⟨s3, rfl⟩, (fun _ h => by cases h)⟩)
  refine (law_calls progOk oraOk st3.hr (lrel.cons vr_int (lrel.cons vr_int (lrel.cons vr_bool (lrel.cons vr3 (lrel.nil _))))) (wk7 (by simp [ora]) (by simp [ora]) x0 x1 x2 x3 a3 hI (turnPlane_true x0 x1 x2 x3 g0 g1 g3 n3))).mono fun e W' ⟨he, bel⟩ => ?_
  subst he
  exact ⟨_, rfl, _, _, _, [], _, [], hW', trodAll_mk1 (shut_bool Try.underlying4 _), below_all Go.Am.laidOut bel (by kernel_rfl) hA1 (fun x hx => hW'.lt x (by simpa using hx)), rfl, bel.frame _, fun h => by cases h⟩

theorem over : Rows.turnPlaneRow.holds Try.pinned (OpenSpec.ofChange Rows.turnPlaneSpec) :=
  OpenClaim.holds_of_wide 7 Try.f7 rfl rfl rfl rfl rfl rfl rfl ⟨rfl, rfl, rfl, rfl, rfl⟩ rfl rfl rfl rfl rfl (by kernel_rfl) Try.func7 (by kernel_rfl)
    (of_decide_eq_true (by kernel_rfl)) (by unfold Func.isWrapper; first | (rw [if_pos (by decide +kernel)]; kernel_rfl) | (rw [if_neg (by decide +kernel)]; exact ⟨rfl, rfl⟩))
    (fun os started H enc _ => lifted os started H enc)

/-- The statement. -/
theorem proved : Rows.TurnPlaneSaid := over
#print axioms proved
end Go.Proofs.Yteoojnahehgakaa.turnPlane
