/- PlaneGroup: the call returns true for every input, and turns nothing that was there. -/
import Derived.Test.YtlcpnakgolfofaaAmE
import Derived.Test.YtlcpnakgolfofaaWPlaneGroupa
import Derived.ChangeMaps5
set_option linter.unusedVariables false
set_option linter.unusedSimpArgs false
namespace Go.Proofs.Ytlcpnakgolfofaa.planeGroup
open Go Go.Am
open Go.ChangeShapes Go.WideShapes Go.ChangeAt Go.RowKit
def ora : FuncId → Bool := fun f => f == 25
theorem awake25 : runsTrue Try.prog 3000 60 25 = true := by kernel_rfl
theorem oraOk : OraOk Try.prog ora := ⟨fun f h => by
  obtain rfl : f = 25 := by simpa [ora] using h
  exact ⟨_, Try.func25, rfl⟩, fun f h w => by
  obtain rfl : f = 25 := by simpa [ora] using h
  exact closedK awake25 w⟩

set_option maxRecDepth 100000 in
theorem lifted (os : Os) (started : os.Started) (H : Type) (enc : TypeId × Value → H) :
    ReturnsInHanded {} Try.checked os 11 .any (Rows.planeGroupSpec.pre6 enc Try.prog Try.f11 Rows.planeGroupRow.domain false) (Rows.planeGroupSpec.post enc Try.prog Try.f11 false true false false) := by
  refine returnsInHanded_of_change (C := Try.checked) Go.Am.own started (by kernel_rfl) Try.func11
    (ChangeSpec.witness6 (enc := enc) (C := Try.checked) false ⟨#[], #[.int .i64 0, .int .i64 0, .int .i64 0, .bool false, .bool false, .bool false], []⟩ 8 (by kernel_rfl) (by kernel_rfl) (by kernel_rfl) (by kernel_rfl)) ?_
  intro W base args ds gs before hval0 hW hcnd _
  have hval : ∀ (j : Nat) t v, Try.f11.params[j]? = some t → args[j]? = some v → Value.okWide Try.prog W .any base t v := hval0
  have hW' := hW
  obtain ⟨p, q, hA0, hV, rfl, hfz, hnd⟩ := hW
  have hA : DataW.TrodAll enc Try.prog W 0 (fun _ => true) true Try.f11.params.toList args.toList ds p := hA0
  rw [Try.params11] at hA hval
  have hA1 := hA
  obtain ⟨v0, vs0, d0, ds0, p0, q_0, hargs, rfl, rfl, h0, r0⟩ := trodAll_cons hA
  obtain ⟨v1, vs1, d1, ds1, p1, q_1, rfl, rfl, rfl, h1, r1⟩ := trodAll_cons r0
  obtain ⟨v2, vs2, d2, ds2, p2, q_2, rfl, rfl, rfl, h2, r2⟩ := trodAll_cons r1
  obtain ⟨v3, vs3, d3, ds3, p3, q_3, rfl, rfl, rfl, h3, r3⟩ := trodAll_cons r2
  obtain ⟨v4, vs4, d4, ds4, p4, q_4, rfl, rfl, rfl, h4, r4⟩ := trodAll_cons r3
  obtain ⟨v5, vs5, d5, ds5, p5, q_5, rfl, rfl, rfl, h5, r5⟩ := trodAll_cons r4
  obtain ⟨rfl, rfl, rfl⟩ := trodAll_nil r5
  obtain rfl : args = #[v0, v1, v2, v3, v4, v5] := by cases args; simp_all
  obtain ⟨rfl, rfl⟩ := trodVars_none hV
  clear hA0 hval0
  simp only [List.append_nil] at hW'
  obtain ⟨x0, hv0, _, _, g0⟩ := open_int Try.underlying3 (hval 0 3 v0 rfl rfl) h0
  subst hv0
  obtain ⟨x1, hv1, _, _, g1⟩ := open_int Try.underlying3 (hval 1 3 v1 rfl rfl) h1
  subst hv1
  obtain ⟨x2, hv2, _, _, g2⟩ := open_int Try.underlying3 (hval 2 3 v2 rfl rfl) h2
  subst hv2
  obtain ⟨x3, hv3, _, _⟩ := open_bool Try.underlying4 (hval 3 4 v3 rfl rfl) h3
  subst hv3
  obtain ⟨x4, hv4, _, _⟩ := open_bool Try.underlying4 (hval 4 4 v4 rfl rfl) h4
  subst hv4
  obtain ⟨x5, hv5, _, _⟩ := open_bool Try.underlying4 (hval 5 4 v5 rfl rfl) h5
  subst hv5
  have hI : Kn 0 _ [] [] := (OpSt.empty W).kn (fun _ h => by cases h)
  refine (law_calls progOk oraOk (OpSt.empty W).hr (lrel.cons vr_int (lrel.cons vr_int (lrel.cons vr_int (lrel.cons vr_bool (lrel.cons vr_bool (lrel.cons vr_bool (lrel.nil _))))))) (w11 (by simp [ora]) (by simp [ora]) x0 x1 x2 x3 x4 x5  hI (planeGroup_true x0 x1 x2 x3 x4 x5 g0 g1 g2))).mono fun e W' ⟨he, bel⟩ => ?_
  subst he
  exact ⟨_, rfl, _, _, _, [], _, [], hW', trodAll_mk1 (shut_bool Try.underlying4 _), below_all Go.Am.laidOut bel (by kernel_rfl) hA1 (fun x hx => hW'.lt x (by simpa using hx)), rfl, bel.frame _, fun h => by cases h⟩

theorem over : Rows.planeGroupRow.holds Try.pinned (OpenSpec.ofChange Rows.planeGroupSpec) :=
  OpenClaim.holds_of_wide 11 Try.f11 rfl rfl rfl rfl rfl rfl rfl ⟨rfl, rfl, rfl, rfl, rfl⟩ rfl rfl rfl rfl rfl (by kernel_rfl) Try.func11 (by kernel_rfl)
    (of_decide_eq_true (by kernel_rfl)) (by unfold Func.isWrapper; first | (rw [if_pos (by decide +kernel)]; kernel_rfl) | (rw [if_neg (by decide +kernel)]; exact ⟨rfl, rfl⟩))
    (fun os started H enc _ => lifted os started H enc)

/-- The statement. -/
theorem proved : Rows.PlaneGroupSaid := over
#print axioms proved
end Go.Proofs.Ytlcpnakgolfofaa.planeGroup
