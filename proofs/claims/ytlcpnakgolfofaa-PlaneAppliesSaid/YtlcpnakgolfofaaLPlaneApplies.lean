/- PlaneApplies: the call returns true for every input, and turns nothing that was there. -/
import Derived.Test.YtlcpnakgolfofaaAmE
import Derived.Test.YtlcpnakgolfofaaWPlaneAppliesa
import Derived.ChangeMaps5
set_option linter.unusedVariables false
set_option linter.unusedSimpArgs false
namespace Go.Proofs.Ytlcpnakgolfofaa.planeApplies
open Go Go.Am
open Go.ChangeShapes Go.WideShapes Go.ChangeAt Go.RowKit
def ora : FuncId → Bool := fun f => f == 25
theorem awake25 : runsTrue Try.prog 3000 60 25 = true := by kernel_rfl
theorem oraOk : OraOk Try.prog ora := ⟨fun f h => by
  obtain rfl : f = 25 := by simpa [ora] using h
  exact ⟨_, Try.func25, rfl⟩, fun f h w => by
  obtain rfl : f = 25 := by simpa [ora] using h
  exact closedK awake25 w⟩
theorem valTy42 : ValTy Try.prog 42 4 22 40 3 2 :=
  ⟨⟨_, _, _, Try.underlying42, rfl, rfl, rfl, rfl, rfl, rfl⟩, by kernel_rfl, by kernel_rfl, by kernel_rfl, by kernel_rfl, Try.underlying4, Try.underlying22, Try.underlying40, (cell1_int Try.underlying3 (by kernel_rfl)), (cell1_int Try.underlying2 (by kernel_rfl)), by kernel_rfl⟩

set_option maxRecDepth 100000 in
theorem lifted (os : Os) (started : os.Started) (H : Type) (enc : TypeId × Value → H) :
    ReturnsInHanded {} Try.checked os 6 .any (Rows.planeAppliesSpec.pre6 enc Try.prog Try.f6 Rows.planeAppliesRow.domain false) (Rows.planeAppliesSpec.post enc Try.prog Try.f6 false true false false) := by
  refine returnsInHanded_of_change (C := Try.checked) Go.Am.own started (by kernel_rfl) Try.func6
    (ChangeSpec.witness6 (enc := enc) (C := Try.checked) false ⟨#[], #[.int .i64 0, .bool false, .agg #[.bool false, .slice none 0 0, .slice none 0 0]], []⟩ 8 (by kernel_rfl) (by kernel_rfl) (by kernel_rfl) (by kernel_rfl)) ?_
  intro W base args ds gs before hval0 hW hcnd _
  have hval : ∀ (j : Nat) t v, Try.f6.params[j]? = some t → args[j]? = some v → Value.okWide Try.prog W .any base t v := hval0
  have hW' := hW
  obtain ⟨p, q, hA0, hV, rfl, hfz, hnd⟩ := hW
  have hA : DataW.TrodAll enc Try.prog W 0 (fun _ => true) true Try.f6.params.toList args.toList ds p := hA0
  rw [Try.params6] at hA hval
  have hA1 := hA
  obtain ⟨v0, vs0, d0, ds0, p0, q_0, hargs, rfl, rfl, h0, r0⟩ := trodAll_cons hA
  obtain ⟨v1, vs1, d1, ds1, p1, q_1, rfl, rfl, rfl, h1, r1⟩ := trodAll_cons r0
  obtain ⟨v2, vs2, d2, ds2, p2, q_2, rfl, rfl, rfl, h2, r2⟩ := trodAll_cons r1
  obtain ⟨rfl, rfl, rfl⟩ := trodAll_nil r2
  obtain rfl : args = #[v0, v1, v2] := by cases args; simp_all
  obtain ⟨rfl, rfl⟩ := trodVars_none hV
  clear hA0 hval0
  simp only [List.append_nil] at hW'
  obtain ⟨x0, hv0, _, _, g0⟩ := open_int Try.underlying3 (hval 0 3 v0 rfl rfl) h0
  subst hv0
  obtain ⟨x1, hv1, _, _⟩ := open_bool Try.underlying4 (hval 1 4 v1 rfl rfl) h1
  subst hv1
  obtain ⟨m2, H2, Z2, a2, b2, x2, st2, le2, zle2, s2, q2, vr2, g2⟩ := open_val_arg valTy42 (OpSt.empty W) (hval 2 42 v2 rfl rfl) h2
  have hI : Kn 0 _ [.fz (rI .i64) a2 x2.Shape, .fz (rI .i64) b2 x2.Data] [] := st2.kn (List.forall_mem_cons.mpr ⟨⟨s2, rfl⟩, (List.forall_mem_cons.mpr ⟨⟨q2, rfl⟩, (fun _ h => by cases h)⟩)⟩)
  refine (law_calls progOk oraOk st2.hr (lrel.cons vr_int (lrel.cons vr_bool (lrel.cons vr2 (lrel.nil _)))) (wk6 (by simp [ora]) x0 x1 x2 a2 b2 hI (planeApplies_true x0 x1 x2 g0 g2))).mono fun e W' ⟨he, bel⟩ => ?_
  subst he
  exact ⟨_, rfl, _, _, _, [], _, [], hW', trodAll_mk1 (shut_bool Try.underlying4 _), below_all Go.Am.laidOut bel (by kernel_rfl) hA1 (fun x hx => hW'.lt x (by simpa using hx)), rfl, bel.frame _, fun h => by cases h⟩

theorem over : Rows.planeAppliesRow.holds Try.pinned (OpenSpec.ofChange Rows.planeAppliesSpec) :=
  OpenClaim.holds_of_wide 6 Try.f6 rfl rfl rfl rfl rfl rfl rfl ⟨rfl, rfl, rfl, rfl, rfl⟩ rfl rfl rfl rfl rfl (by kernel_rfl) Try.func6 (by kernel_rfl)
    (of_decide_eq_true (by kernel_rfl)) (by unfold Func.isWrapper; first | (rw [if_pos (by decide +kernel)]; kernel_rfl) | (rw [if_neg (by decide +kernel)]; exact ⟨rfl, rfl⟩))
    (fun os started H enc _ => lifted os started H enc)

/-- The statement. -/
theorem proved : Rows.PlaneAppliesSaid := over
#print axioms proved
end Go.Proofs.Ytlcpnakgolfofaa.planeApplies
