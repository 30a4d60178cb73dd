/- PickBoth: the call returns true for every input, and turns nothing that was there. -/
import Derived.Test.YtmelmiffgkippaaAmE
import Derived.Test.YtmelmiffgkippaaWPickBothb
import Derived.ChangeMaps5
set_option linter.unusedVariables false
set_option linter.unusedSimpArgs false
namespace Go.Proofs.Ytmelmiffgkippaa.pickBoth
open Go Go.Am
open Go.ChangeShapes Go.WideShapes Go.ChangeAt Go.RowKit
def ora : FuncId → Bool := fun f => f == 15
theorem awake15 : runsTrue Try.prog 3000 60 15 = true := by kernel_rfl
theorem oraOk : OraOk Try.prog ora := ⟨fun f h => by
  obtain rfl : f = 15 := by simpa [ora] using h
  exact ⟨_, Try.func15, rfl⟩, fun f h w => by
  obtain rfl : f = 15 := by simpa [ora] using h
  exact closedK awake15 w⟩

set_option maxRecDepth 100000 in
theorem lifted (os : Os) (started : os.Started) (H : Type) (enc : TypeId × Value → H) :
    ReturnsInHanded {} Try.checked os 13 .any (Rows.pickBothSpec.pre6 enc Try.prog Try.f13 Rows.pickBothRow.domain false) (Rows.pickBothSpec.post enc Try.prog Try.f13 false true false false) := by
  refine returnsInHanded_of_change (C := Try.checked) Go.Am.own started (by kernel_rfl) Try.func13
    (ChangeSpec.witness6 (enc := enc) (C := Try.checked) false ⟨#[], #[.slice none 0 0, .int .u16 0], []⟩ 8 (by kernel_rfl) (by kernel_rfl) (by kernel_rfl) (by kernel_rfl)) ?_
  intro W base args ds gs before hval0 hW hcnd _
  have hval : ∀ (j : Nat) t v, Try.f13.params[j]? = some t → args[j]? = some v → Value.okWide Try.prog W .any base t v := hval0
  have hW' := hW
  obtain ⟨p, q, hA0, hV, rfl, hfz, hnd⟩ := hW
  have hA : DataW.TrodAll enc Try.prog W 0 (fun _ => true) true Try.f13.params.toList args.toList ds p := hA0
  rw [Try.params13] at hA hval
  have hA1 := hA
  obtain ⟨v0, vs0, d0, ds0, p0, q_0, hargs, rfl, rfl, h0, r0⟩ := trodAll_cons hA
  obtain ⟨v1, vs1, d1, ds1, p1, q_1, rfl, rfl, rfl, h1, r1⟩ := trodAll_cons r0
  obtain ⟨rfl, rfl, rfl⟩ := trodAll_nil r1
  obtain rfl : args = #[v0, v1] := by cases args; simp_all
  obtain ⟨rfl, rfl⟩ := trodVars_none hV
  clear hA0 hval0
  simp only [List.append_nil] at hW'
  obtain ⟨m0, H0, Z0, a0, x0, st0, le0, zle0, s0, vr0, g0, n0⟩ := open_slice_arg Try.underlying23 (cell1_int Try.underlying2 (by kernel_rfl)) (OpSt.empty W) (hval 0 23 v0 rfl rfl) h0
  obtain ⟨x1, hv1, _, _, g1⟩ := open_int Try.underlying69 (hval 1 69 v1 rfl rfl) h1
  subst hv1
  have hI : Kn 0 _ [.fz (rI .i64) a0 x0] [] := st0.kn (List.forall_mem_cons.mpr ⟨⟨s0, rfl⟩, (fun _ h => by cases h)⟩)
  refine (law_calls progOk oraOk st0.hr (lrel.cons vr0 (lrel.cons vr_int (lrel.nil _))) (wk13 (by simp [ora]) x0 x1 a0 hI (pickBoth_true x0 x1 g0 n0 g1))).mono fun e W' ⟨he, bel⟩ => ?_
  subst he
  exact ⟨_, rfl, _, _, _, [], _, [], hW', trodAll_mk1 (shut_bool Try.underlying4 _), below_all Go.Am.laidOut bel (by kernel_rfl) hA1 (fun x hx => hW'.lt x (by simpa using hx)), rfl, bel.frame _, fun h => by cases h⟩

theorem over : Rows.pickBothRow.holds Try.pinned (OpenSpec.ofChange Rows.pickBothSpec) :=
  OpenClaim.holds_of_wide 13 Try.f13 rfl rfl rfl rfl rfl rfl rfl ⟨rfl, rfl, rfl, rfl, rfl⟩ rfl rfl rfl rfl rfl (by kernel_rfl) Try.func13 (by kernel_rfl)
    (of_decide_eq_true (by kernel_rfl)) (by unfold Func.isWrapper; first | (rw [if_pos (by decide +kernel)]; kernel_rfl) | (rw [if_neg (by decide +kernel)]; exact ⟨rfl, rfl⟩))
    (fun os started H enc _ => lifted os started H enc)

/-- The statement. -/
theorem proved : Rows.PickBothSaid := over
#print axioms proved
end Go.Proofs.Ytmelmiffgkippaa.pickBoth
