/- OverAxes: the call returns true for every input, and turns nothing that was there. -/
import Derived.Test.YtblgdjpeedgnoaaAmE
import Derived.Test.YtblgdjpeedgnoaaWOverAxesc
import Derived.ChangeMaps5
set_option linter.unusedVariables false
set_option linter.unusedSimpArgs false
namespace Go.Proofs.Ytblgdjpeedgnoaa.overAxes
open Go Go.Am
open Go.ChangeShapes Go.WideShapes Go.ChangeAt Go.RowKit
def ora : FuncId → Bool := fun f => f == 9
theorem awake9 : runsTrue Try.prog 3000 60 9 = true := by kernel_rfl
theorem oraOk : OraOk Try.prog ora := ⟨fun f h => by
  obtain rfl : f = 9 := by simpa [ora] using h
  exact ⟨_, Try.func9, rfl⟩, fun f h w => by
  obtain rfl : f = 9 := by simpa [ora] using h
  exact closedK awake9 w⟩
theorem valTy25 : ValTy Try.prog 25 4 22 23 3 2 :=
  ⟨⟨_, _, _, Try.underlying25, rfl, rfl, rfl, rfl, rfl, rfl⟩, by kernel_rfl, by kernel_rfl, by kernel_rfl, by kernel_rfl, Try.underlying4, Try.underlying22, Try.underlying23, (cell1_int Try.underlying3 (by kernel_rfl)), (cell1_int Try.underlying2 (by kernel_rfl)), by kernel_rfl⟩

set_option maxRecDepth 100000 in
theorem lifted (os : Os) (started : os.Started) (H : Type) (enc : TypeId × Value → H) :
    ReturnsInHanded {} Try.checked os 3 .any (Rows.overAxesSpec.pre6 enc Try.prog Try.f3 Rows.overAxesRow.domain false) (Rows.overAxesSpec.post enc Try.prog Try.f3 false true false false) := by
  refine returnsInHanded_of_change (C := Try.checked) Go.Am.own started (by kernel_rfl) Try.func3
    (ChangeSpec.witness6 (enc := enc) (C := Try.checked) false ⟨#[], #[.agg #[.bool false, .slice none 0 0, .slice none 0 0], .int .u8 0, .slice none 0 0], []⟩ 8 (by kernel_rfl) (by kernel_rfl) (by kernel_rfl) (by kernel_rfl)) ?_
  intro W base args ds gs before hval0 hW hcnd _
  have hval : ∀ (j : Nat) t v, Try.f3.params[j]? = some t → args[j]? = some v → Value.okWide Try.prog W .any base t v := hval0
  have hW' := hW
  obtain ⟨p, q, hA0, hV, rfl, hfz, hnd⟩ := hW
  have hA : DataW.TrodAll enc Try.prog W 0 (fun _ => true) true Try.f3.params.toList args.toList ds p := hA0
  rw [Try.params3] at hA hval
  have hA1 := hA
  obtain ⟨v0, vs0, d0, ds0, p0, q_0, hargs, rfl, rfl, h0, r0⟩ := trodAll_cons hA
  obtain ⟨v1, vs1, d1, ds1, p1, q_1, rfl, rfl, rfl, h1, r1⟩ := trodAll_cons r0
  obtain ⟨v2, vs2, d2, ds2, p2, q_2, rfl, rfl, rfl, h2, r2⟩ := trodAll_cons r1
  obtain ⟨rfl, rfl, rfl⟩ := trodAll_nil r2
  obtain rfl : args = #[v0, v1, v2] := by cases args; simp_all
  obtain ⟨rfl, rfl⟩ := trodVars_none hV
  clear hA0 hval0
  simp only [List.append_nil] at hW'
  obtain ⟨m0, H0, Z0, a0, b0, x0, st0, le0, zle0, s0, q0, vr0, g0⟩ := open_val_arg valTy25 (OpSt.empty W) (hval 0 25 v0 rfl rfl) h0
  obtain ⟨x1, hv1, _, _, g1⟩ := open_int Try.underlying5 (hval 1 5 v1 rfl rfl) h1
  subst hv1
  obtain ⟨m2, H2, Z2, a2, x2, st2, le2, zle2, s2, vr2, g2, n2⟩ := open_slice_arg Try.underlying26 (cell1_int Try.underlying5 (by kernel_rfl)) st0 (hval 2 26 v2 rfl rfl) h2
  replace s0 := s0.mono zle2
  replace q0 := q0.mono zle2
  replace vr0 := vr0.mono le2
  have hI : Kn 0 _ [.fz (rI .i64) a0 x0.Shape, .fz (rI .i64) b0 x0.Data, .fz (rI .u8) a2 x2] [] := st2.kn (List.forall_mem_cons.mpr ⟨⟨s0, rfl⟩, (List.forall_mem_cons.mpr ⟨⟨q0, rfl⟩, (List.forall_mem_cons.mpr ⟨⟨s2, rfl⟩, (fun _ h => by cases h)⟩)⟩)⟩)
  refine (law_calls progOk oraOk st2.hr (lrel.cons vr0 (lrel.cons vr_int (lrel.cons vr2 (lrel.nil _)))) (wk3 (by simp [ora]) (by simp [ora]) x0 x1 x2 a0 b0 a2 hI (overAxes_true x0 x1 x2 g0 g1 g2 n2))).mono fun e W' ⟨he, bel⟩ => ?_
  subst he
  exact ⟨_, rfl, _, _, _, [], _, [], hW', trodAll_mk1 (shut_bool Try.underlying4 _), below_all Go.Am.laidOut bel (by kernel_rfl) hA1 (fun x hx => hW'.lt x (by simpa using hx)), rfl, bel.frame _, fun h => by cases h⟩

theorem over : Rows.overAxesRow.holds Try.pinned (OpenSpec.ofChange Rows.overAxesSpec) :=
  OpenClaim.holds_of_wide 3 Try.f3 rfl rfl rfl rfl rfl rfl rfl ⟨rfl, rfl, rfl, rfl, rfl⟩ rfl rfl rfl rfl rfl (by kernel_rfl) Try.func3 (by kernel_rfl)
    (of_decide_eq_true (by kernel_rfl)) (by unfold Func.isWrapper; first | (rw [if_pos (by decide +kernel)]; kernel_rfl) | (rw [if_neg (by decide +kernel)]; exact ⟨rfl, rfl⟩))
    (fun os started H enc _ => lifted os started H enc)

/-- The statement. -/
theorem proved : Rows.OverAxesSaid := over
#print axioms proved
end Go.Proofs.Ytblgdjpeedgnoaa.overAxes
