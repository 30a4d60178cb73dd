/- JoinBeside: the call returns true for every input, and turns nothing that was there. -/
import Derived.Test.YtaedfhikoamfeaaAmE
import Derived.Test.YtaedfhikoamfeaaWJoinBesideb
import Derived.ChangeMaps5
set_option linter.unusedVariables false
set_option linter.unusedSimpArgs false
namespace Go.Proofs.Ytaedfhikoamfeaa.joinBeside
open Go Go.Am
open Go.ChangeShapes Go.WideShapes Go.ChangeAt Go.RowKit
def ora : FuncId → Bool := fun f => f == 21
def insR : Go.Shelf.Ren := ⟨fun x => if x = 21 then 109 else if x = 27 then 131 else if x = 28 then 132 else if x = 35 then 146 else if x = 39 then 148 else 0, fun x => if x = 0 then 0 else if x = 3 then 3 else if x = 4 then 4 else if x = 22 then 22 else 0, fun x => x⟩
theorem insLay : Go.Proofs.Lays2.n21 Try.prog insR where
  mixed := by decide +kernel
  f21 := by kernel_rfl
  f27 := by kernel_rfl
  f28 := by kernel_rfl
  f35 := by kernel_rfl
  f39 := by kernel_rfl
  t0 := by kernel_rfl
  a0 := fun w => rAgg (t := 0) (d := .tuple #[]) (by kernel_rfl)
  z0 := fun w => rSize (t := 0) (by kernel_rfl)
  v0 := fun w => rZero (t := 0) (by kernel_rfl)
  t3 := by kernel_rfl
  a3 := fun w => rAgg (t := 3) (d := .int .i64) (by kernel_rfl)
  z3 := fun w => rSize (t := 3) (by kernel_rfl)
  v3 := fun w => rZero (t := 3) (by kernel_rfl)
  t4 := by kernel_rfl
  a4 := fun w => rAgg (t := 4) (d := .bool) (by kernel_rfl)
  z4 := fun w => rSize (t := 4) (by kernel_rfl)
  v4 := fun w => rZero (t := 4) (by kernel_rfl)
  t22 := by kernel_rfl
  a22 := fun w => rAgg (t := 22) (d := .slice 3) (by kernel_rfl)
  z22 := fun w => rSize (t := 22) (by kernel_rfl)
  v22 := fun w => rZero (t := 22) (by kernel_rfl)
  i3 := by kernel_rfl
theorem insOk : ∀ f fn, Try.prog.funcs[f]? = some fn → isInsF fn = true → IsIns Try.prog f := ins_of (k := 109) ⟨insR, insLay, rfl⟩ (by decide +kernel)
theorem awake21 : runsTrue Try.prog 3000 60 21 = true := by kernel_rfl
theorem oraOk : OraOk Try.prog ora := ⟨fun f h => by
  obtain rfl : f = 21 := by simpa [ora] using h
  exact ⟨_, Try.func21, rfl⟩, insOk, fun f h w => by
  obtain rfl : f = 21 := by simpa [ora] using h
  exact closedK awake21 w⟩
theorem valTy27 : ValTy Try.prog 27 4 22 23 3 2 :=
  ⟨⟨_, _, _, Try.underlying27, rfl, rfl, rfl, rfl, rfl, rfl⟩, by kernel_rfl, by kernel_rfl, by kernel_rfl, by kernel_rfl, Try.underlying4, Try.underlying22, Try.underlying23, (cell1_int Try.underlying3 (by kernel_rfl)), (cell1_int Try.underlying2 (by kernel_rfl)), by kernel_rfl⟩

set_option maxRecDepth 100000 in
theorem lifted (os : Os) (started : os.Started) (H : Type) (enc : TypeId × Value → H) :
    ReturnsInHanded {} Try.checked os 5 .any (Rows.joinBesideSpec.pre6 enc Try.prog Try.f5 Rows.joinBesideRow.domain false) (Rows.joinBesideSpec.post enc Try.prog Try.f5 false true false false) := by
  refine returnsInHanded_of_change (C := Try.checked) Go.Am.own started (by kernel_rfl) Try.func5
    (ChangeSpec.witness6 (enc := enc) (C := Try.checked) false ⟨#[], #[.agg #[.bool false, .slice none 0 0, .slice none 0 0], .agg #[.bool false, .slice none 0 0, .slice none 0 0], .int .i64 0], []⟩ 8 (by kernel_rfl) (by kernel_rfl) (by kernel_rfl) (by kernel_rfl)) ?_
  intro W base args ds gs before hval0 hW hcnd _
  have hval : ∀ (j : Nat) t v, Try.f5.params[j]? = some t → args[j]? = some v → Value.okWide Try.prog W .any base t v := hval0
  have hW' := hW
  obtain ⟨p, q, hA0, hV, rfl, hfz, hnd⟩ := hW
  have hA : DataW.TrodAll enc Try.prog W 0 (fun _ => true) true Try.f5.params.toList args.toList ds p := hA0
  rw [Try.params5] at hA hval
  have hA1 := hA
  obtain ⟨v0, vs0, d0, ds0, p0, q_0, hargs, rfl, rfl, h0, r0⟩ := trodAll_cons hA
  obtain ⟨v1, vs1, d1, ds1, p1, q_1, rfl, rfl, rfl, h1, r1⟩ := trodAll_cons r0
  obtain ⟨v2, vs2, d2, ds2, p2, q_2, rfl, rfl, rfl, h2, r2⟩ := trodAll_cons r1
  obtain ⟨rfl, rfl, rfl⟩ := trodAll_nil r2
  obtain rfl : args = #[v0, v1, v2] := by cases args; simp_all
  obtain ⟨rfl, rfl⟩ := trodVars_none hV
  clear hA0 hval0
  simp only [List.append_nil] at hW'
  obtain ⟨m0, H0, Z0, a0, b0, x0, st0, le0, zle0, s0, q0, vr0, g0⟩ := open_val_arg valTy27 (OpSt.empty W) (hval 0 27 v0 rfl rfl) h0
  obtain ⟨m1, H1, Z1, a1, b1, x1, st1, le1, zle1, s1, q1, vr1, g1⟩ := open_val_arg valTy27 st0 (hval 1 27 v1 rfl rfl) h1
  replace s0 := s0.mono zle1
  replace q0 := q0.mono zle1
  replace vr0 := vr0.mono le1
  obtain ⟨x2, hv2, _, _, g2⟩ := open_int Try.underlying3 (hval 2 3 v2 rfl rfl) h2
  subst hv2
  have hI : Kn 0 _ [.fz (rI .i64) a0 x0.Shape, .fz (rI .i64) b0 x0.Data, .fz (rI .i64) a1 x1.Shape, .fz (rI .i64) b1 x1.Data] [] := st1.kn (List.forall_mem_cons.mpr ⟨⟨s0, rfl⟩, (List.forall_mem_cons.mpr ⟨⟨q0, rfl⟩, (List.forall_mem_cons.mpr ⟨⟨s1, rfl⟩, (List.forall_mem_cons.mpr ⟨⟨q1, rfl⟩, (fun _ h => by cases h)⟩)⟩)⟩)⟩)
  refine (law_calls progOk oraOk st1.hr (lrel.cons vr0 (lrel.cons vr1 (lrel.cons vr_int (lrel.nil _)))) (wk5 (by simp [ora]) x0 x1 x2 a0 b0 a1 b1 hI (joinBeside_true x0 x1 x2 g0 g1 g2))).mono fun e W' ⟨he, bel⟩ => ?_
  subst he
  exact ⟨_, rfl, _, _, _, [], _, [], hW', trodAll_mk1 (shut_bool Try.underlying4 _), below_all Go.Am.laidOut bel (by kernel_rfl) hA1 (fun x hx => hW'.lt x (by simpa using hx)), rfl, bel.frame _, fun h => by cases h⟩

theorem over : Rows.joinBesideRow.holds Try.pinned (OpenSpec.ofChange Rows.joinBesideSpec) :=
  OpenClaim.holds_of_wide 5 Try.f5 rfl rfl rfl rfl rfl rfl rfl ⟨rfl, rfl, rfl, rfl, rfl⟩ rfl rfl rfl rfl rfl (by kernel_rfl) Try.func5 (by kernel_rfl)
    (of_decide_eq_true (by kernel_rfl)) (by unfold Func.isWrapper; first | (rw [if_pos (by decide +kernel)]; kernel_rfl) | (rw [if_neg (by decide +kernel)]; exact ⟨rfl, rfl⟩))
    (fun os started H enc _ => lifted os started H enc)

/-- The statement. -/
theorem proved : Rows.JoinBesideSaid := over
#print axioms proved
end Go.Proofs.Ytaedfhikoamfeaa.joinBeside
