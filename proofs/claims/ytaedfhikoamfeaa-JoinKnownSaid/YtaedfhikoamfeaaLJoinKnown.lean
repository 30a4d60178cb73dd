/- JoinKnown: the call returns true, and turns nothing that was there: the abstract machine's run of it, carried out by the kernel. -/
import Derived.Test.YtaedfhikoamfeaaAmE
import Derived.Test.YtaedfhikoamfeaaAmK
namespace Go.Proofs.Ytaedfhikoamfeaa.joinKnown
open Go.ChangeShapes Go.WideShapes Go.ChangeAt Go.RowKit
set_option linter.unusedVariables false

open Go.Am
def insR : Go.Shelf.Ren := ⟨fun x => if x = 21 then 109 else if x = 27 then 131 else if x = 28 then 132 else if x = 35 then 146 else if x = 39 then 148 else 0, fun x => if x = 0 then 0 else if x = 3 then 3 else if x = 4 then 4 else if x = 22 then 22 else 0, fun x => x⟩
theorem insLay : Go.Proofs.Lays2.n21 Try.prog insR where
  mixed := by decide +kernel
  f21 := by kernel_rfl
  f27 := by kernel_rfl
  f28 := by kernel_rfl
  f35 := by kernel_rfl
  f39 := by kernel_rfl
  t0 := by kernel_rfl
  a0 := fun w => rAgg (t := 0) (d := .tuple #[]) (by kernel_rfl)
  z0 := fun w => rSize (t := 0) (by kernel_rfl)
  v0 := fun w => rZero (t := 0) (by kernel_rfl)
  t3 := by kernel_rfl
  a3 := fun w => rAgg (t := 3) (d := .int .i64) (by kernel_rfl)
  z3 := fun w => rSize (t := 3) (by kernel_rfl)
  v3 := fun w => rZero (t := 3) (by kernel_rfl)
  t4 := by kernel_rfl
  a4 := fun w => rAgg (t := 4) (d := .bool) (by kernel_rfl)
  z4 := fun w => rSize (t := 4) (by kernel_rfl)
  v4 := fun w => rZero (t := 4) (by kernel_rfl)
  t22 := by kernel_rfl
  a22 := fun w => rAgg (t := 22) (d := .slice 3) (by kernel_rfl)
  z22 := fun w => rSize (t := 22) (by kernel_rfl)
  v22 := fun w => rZero (t := 22) (by kernel_rfl)
  i3 := by kernel_rfl
theorem insOk : ∀ f fn, Try.prog.funcs[f]? = some fn → isInsF fn = true → IsIns Try.prog f := ins_of (k := 109) ⟨insR, insLay, rfl⟩ (by decide +kernel)
theorem oraOk : OraOk Try.prog (fun _ => false) := ⟨fun f h => (by cases h), insOk, fun f h w => (by cases h)⟩

theorem run : runsTrueX Try.prog 2000 109 60 8 = true := by kernel_rfl

theorem walk (w : World) : Calls Try.prog 8 #[] w fun e w' => e = .returned (.bool true) ∧ Below w.heap.size w w' := by
  obtain ⟨H', h'⟩ := runsTrueX_some (by kernel_rfl) (ins_beq (k := 109) (by decide +kernel)) run
  exact returnsX progOk oraOk h' (HR.empty w) (lrel.nil _)

set_option maxRecDepth 100000 in
theorem lifted (os : Os) (started : os.Started) (H : Type) (enc : TypeId × Value → H) :
    ReturnsInHanded {} Try.checked os 8 .any (Rows.joinKnownSpec.pre6 enc Try.prog Try.f8 Rows.joinKnownRow.domain false) (Rows.joinKnownSpec.post enc Try.prog Try.f8 false true false false) := by
  refine returnsInHanded_of_change (C := Try.checked) Go.Am.own started (by kernel_rfl) Try.func8
    (ChangeSpec.witness6 (enc := enc) (C := Try.checked) false ⟨#[], #[], []⟩ 8 (by kernel_rfl) (by kernel_rfl) (by kernel_rfl) (by kernel_rfl)) ?_
  intro W base args ds gs before hval0 hW hcnd _
  have hval : ∀ (j : Nat) t v, Try.f8.params[j]? = some t → args[j]? = some v → Value.okWide Try.prog W .any base t v := hval0
  have hW' := hW
  obtain ⟨p, q, hA0, hV, rfl, hfz, hnd⟩ := hW
  have hA : DataW.TrodAll enc Try.prog W 0 (fun _ => true) true Try.f8.params.toList args.toList ds p := hA0
  rw [Try.params8] at hA hval
  obtain ⟨rfl, rfl, rfl⟩ := trodAll_none hA
  obtain ⟨rfl, rfl⟩ := trodVars_none hV
  clear hA0 hval0
  simp only [List.append_nil] at hW'
  refine (walk W).mono fun e W' ⟨he, bel⟩ => ?_
  subst he
  exact ⟨_, rfl, _, _, _, [], [], [], hW', trodAll_mk1 (shut_bool Try.underlying4 _), trodAll_mk0, rfl, bel.frame _, fun h => by cases h⟩

theorem over : Rows.joinKnownRow.holds Try.pinned (OpenSpec.ofChange Rows.joinKnownSpec) :=
  OpenClaim.holds_of_wide 8 Try.f8 rfl rfl rfl rfl rfl rfl rfl ⟨rfl, rfl, rfl, rfl, rfl⟩ rfl rfl rfl rfl rfl (by kernel_rfl) Try.func8 (by kernel_rfl)
    (of_decide_eq_true (by kernel_rfl)) (by unfold Func.isWrapper; first | (rw [if_pos (by decide +kernel)]; kernel_rfl) | (rw [if_neg (by decide +kernel)]; exact ⟨rfl, rfl⟩))
    (fun os started H enc _ => lifted os started H enc)

/-- The statement. -/
theorem proved : Rows.JoinKnownSaid := over
#print axioms proved
end Go.Proofs.Ytaedfhikoamfeaa.joinKnown
