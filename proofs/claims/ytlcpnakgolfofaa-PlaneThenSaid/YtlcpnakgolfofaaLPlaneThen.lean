/- PlaneThen: the call returns true for every input, and turns nothing that was there. -/
import Derived.Test.YtlcpnakgolfofaaAmE
import Derived.Test.YtlcpnakgolfofaaWPlaneThena
import Derived.ChangeMaps5
set_option linter.unusedVariables false
set_option linter.unusedSimpArgs false
namespace Go.Proofs.Ytlcpnakgolfofaa.planeThen
open Go Go.Am
open Go.ChangeShapes Go.WideShapes Go.ChangeAt Go.RowKit
def ora : FuncId → Bool := fun f => f == 25
theorem awake25 : runsTrue Try.prog 3000 60 25 = true := by kernel_rfl
theorem oraOk : OraOk Try.prog ora := ⟨fun f h => by
  obtain rfl : f = 25 := by simpa [ora] using h
  exact ⟨_, Try.func25, rfl⟩, fun f h w => by
  obtain rfl : f = 25 := by simpa [ora] using h
  exact closedK awake25 w⟩
theorem valTy42 : ValTy Try.prog 42 4 22 40 3 2 :=
  ⟨⟨_, _, _, Try.underlying42, rfl, rfl, rfl, rfl, rfl, rfl⟩, by kernel_rfl, by kernel_rfl, by kernel_rfl, by kernel_rfl, Try.underlying4, Try.underlying22, Try.underlying40, (cell1_int Try.underlying3 (by kernel_rfl)), (cell1_int Try.underlying2 (by kernel_rfl)), by kernel_rfl⟩

set_option maxRecDepth 100000 in
theorem lifted (os : Os) (started : os.Started) (H : Type) (enc : TypeId × Value → H) :
    ReturnsInHanded {} Try.checked os 12 .any (Rows.planeThenSpec.pre6 enc Try.prog Try.f12 Rows.planeThenRow.domain false) (Rows.planeThenSpec.post enc Try.prog Try.f12 false true false false) := by
  refine returnsInHanded_of_change (C := Try.checked) Go.Am.own started (by kernel_rfl) Try.func12
    (ChangeSpec.witness6 (enc := enc) (C := Try.checked) false ⟨#[], #[.int .i64 0, .int .i64 0, .bool false, .bool false, .agg #[.bool false, .slice none 0 0, .slice none 0 0]], []⟩ 8 (by kernel_rfl) (by kernel_rfl) (by kernel_rfl) (by kernel_rfl)) ?_
  intro W base args ds gs before hval0 hW hcnd _
  have hval : ∀ (j : Nat) t v, Try.f12.params[j]? = some t → args[j]? = some v → Value.okWide Try.prog W .any base t v := hval0
  have hW' := hW
  obtain ⟨p, q, hA0, hV, rfl, hfz, hnd⟩ := hW
  have hA : DataW.TrodAll enc Try.prog W 0 (fun _ => true) true Try.f12.params.toList args.toList ds p := hA0
  rw [Try.params12] at hA hval
  have hA1 := hA
  obtain ⟨v0, vs0, d0, ds0, p0, q_0, hargs, rfl, rfl, h0, r0⟩ := trodAll_cons hA
  obtain ⟨v1, vs1, d1, ds1, p1, q_1, rfl, rfl, rfl, h1, r1⟩ := trodAll_cons r0
  obtain ⟨v2, vs2, d2, ds2, p2, q_2, rfl, rfl, rfl, h2, r2⟩ := trodAll_cons r1
  obtain ⟨v3, vs3, d3, ds3, p3, q_3, rfl, rfl, rfl, h3, r3⟩ := trodAll_cons r2
  obtain ⟨v4, vs4, d4, ds4, p4, q_4, rfl, rfl, rfl, h4, r4⟩ := trodAll_cons r3
  obtain ⟨rfl, rfl, rfl⟩ := trodAll_nil r4
  obtain rfl : args = #[v0, v1, v2, v3, v4] := by cases args; simp_all
  obtain ⟨rfl, rfl⟩ := trodVars_none hV
  clear hA0 hval0
  simp only [List.append_nil] at hW'
  obtain ⟨x0, hv0, _, _, g0⟩ := open_int Try.underlying3 (hval 0 3 v0 rfl rfl) h0
  subst hv0
  obtain ⟨x1, hv1, _, _, g1⟩ := open_int Try.underlying3 (hval 1 3 v1 rfl rfl) h1
  subst hv1
  obtain ⟨x2, hv2, _, _⟩ := open_bool Try.underlying4 (hval 2 4 v2 rfl rfl) h2
  subst hv2
  obtain ⟨x3, hv3, _, _⟩ := open_bool Try.underlying4 (hval 3 4 v3 rfl rfl) h3
  subst hv3
  obtain ⟨m4, H4, Z4, a4, b4, x4, st4, le4, zle4, s4, q4, vr4, g4⟩ := open_val_arg valTy42 (OpSt.empty W) (hval 4 42 v4 rfl rfl) h4
  have hI : Kn 0 _ [.fz (rI .i64) a4 x4.Shape, .fz (rI .i64) b4 x4.Data] [] := st4.kn (List.forall_mem_cons.mpr ⟨⟨s4, rfl⟩, (List.forall_mem_cons.mpr ⟨⟨q4, rfl⟩, (fun _ h => by cases h)⟩)⟩)
  refine (law_calls progOk oraOk st4.hr (lrel.cons vr_int (lrel.cons vr_int (lrel.cons vr_bool (lrel.cons vr_bool (lrel.cons vr4 (lrel.nil _)))))) (wk12 (by simp [ora]) x0 x1 x2 x3 x4 a4 b4 hI (planeThen_true x0 x1 x2 x3 x4 g0 g1 g4))).mono fun e W' ⟨he, bel⟩ => ?_
  subst he
  exact ⟨_, rfl, _, _, _, [], _, [], hW', trodAll_mk1 (shut_bool Try.underlying4 _), below_all Go.Am.laidOut bel (by kernel_rfl) hA1 (fun x hx => hW'.lt x (by simpa using hx)), rfl, bel.frame _, fun h => by cases h⟩

theorem over : Rows.planeThenRow.holds Try.pinned (OpenSpec.ofChange Rows.planeThenSpec) :=
  OpenClaim.holds_of_wide 12 Try.f12 rfl rfl rfl rfl rfl rfl rfl ⟨rfl, rfl, rfl, rfl, rfl⟩ rfl rfl rfl rfl rfl (by kernel_rfl) Try.func12 (by kernel_rfl)
    (of_decide_eq_true (by kernel_rfl)) (by unfold Func.isWrapper; first | (rw [if_pos (by decide +kernel)]; kernel_rfl) | (rw [if_neg (by decide +kernel)]; exact ⟨rfl, rfl⟩))
    (fun os started H enc _ => lifted os started H enc)

/-- The statement. -/
theorem proved : Rows.PlaneThenSaid := over
#print axioms proved
end Go.Proofs.Ytlcpnakgolfofaa.planeThen
