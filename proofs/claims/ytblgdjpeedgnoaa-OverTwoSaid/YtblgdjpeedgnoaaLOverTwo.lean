/- OverTwo: the call returns true for every input, and turns nothing that was there. -/
import Derived.Test.YtblgdjpeedgnoaaAmE
import Derived.Test.YtblgdjpeedgnoaaWOverTwoc
import Derived.ChangeMaps5
import Derived.Test.YtblgdjpeedgnoaaMOverTwo2
set_option linter.unusedVariables false
set_option linter.unusedSimpArgs false
namespace Go.Proofs.Ytblgdjpeedgnoaa.overTwo
open Go Go.Am
open Go.ChangeShapes Go.WideShapes Go.ChangeAt Go.RowKit
def ora : FuncId → Bool := fun f => f == 9
theorem awake9 : runsTrue Try.prog 3000 60 9 = true := by kernel_rfl
theorem oraOk : OraOk Try.prog ora := ⟨fun f h => by
  obtain rfl : f = 9 := by simpa [ora] using h
  exact ⟨_, Try.func9, rfl⟩, fun f h w => by
  obtain rfl : f = 9 := by simpa [ora] using h
  exact closedK awake9 w⟩
theorem valTy25 : ValTy Try.prog 25 4 22 23 3 2 :=
  ⟨⟨_, _, _, Try.underlying25, rfl, rfl, rfl, rfl, rfl, rfl⟩, by kernel_rfl, by kernel_rfl, by kernel_rfl, by kernel_rfl, Try.underlying4, Try.underlying22, Try.underlying23, (cell1_int Try.underlying3 (by kernel_rfl)), (cell1_int Try.underlying2 (by kernel_rfl)), by kernel_rfl⟩
set_option maxRecDepth 100000 in
theorem lifted (os : Os) (started : os.Started) (H : Type) (enc : TypeId × Value → H) :
    ReturnsInHanded {} Try.checked os 4 .any (Rows.overTwoSpec.pre6 enc Try.prog Try.f4 Rows.overTwoRow.domain false) (Rows.overTwoSpec.post enc Try.prog Try.f4 false true false false) := by
  refine returnsInHanded_of_change (C := Try.checked) Go.Am.own started (by kernel_rfl) Try.func4
    (ChangeSpec.witness6 (enc := enc) (C := Try.checked) false ⟨#[], #[.string ⟨#[]⟩, .string ⟨#[]⟩, .agg #[.bool false, .slice none 0 0, .slice none 0 0], .agg #[.bool false, .slice none 0 0, .slice none 0 0]], []⟩ 8 (by kernel_rfl) (by kernel_rfl) (by kernel_rfl) (by kernel_rfl)) ?_
  intro W base args ds gs before hval0 hW hcnd _
  have hval : ∀ (j : Nat) t v, Try.f4.params[j]? = some t → args[j]? = some v → Value.okWide Try.prog W .any base t v := hval0
  have hW' := hW
  obtain ⟨p, q, hA0, hV, rfl, hfz, hnd⟩ := hW
  have hA : DataW.TrodAll enc Try.prog W 0 (fun _ => true) true Try.f4.params.toList args.toList ds p := hA0
  rw [Try.params4] at hA hval
  have hA1 := hA
  obtain ⟨v0, vs0, d0, ds0, p0, q_0, hargs, rfl, rfl, h0, r0⟩ := trodAll_cons hA
  obtain ⟨v1, vs1, d1, ds1, p1, q_1, rfl, rfl, rfl, h1, r1⟩ := trodAll_cons r0
  obtain ⟨v2, vs2, d2, ds2, p2, q_2, rfl, rfl, rfl, h2, r2⟩ := trodAll_cons r1
  obtain ⟨v3, vs3, d3, ds3, p3, q_3, rfl, rfl, rfl, h3, r3⟩ := trodAll_cons r2
  obtain ⟨rfl, rfl, rfl⟩ := trodAll_nil r3
  obtain rfl : args = #[v0, v1, v2, v3] := by cases args; simp_all
  obtain ⟨rfl, rfl⟩ := trodVars_none hV
  clear hA0 hval0
  simp only [List.append_nil] at hW'
  obtain ⟨x0, hv0, _, _, g0⟩ := Go.ChangeMaps.open_string Try.underlying9 (hval 0 9 v0 rfl rfl) h0
  subst hv0
  obtain ⟨x1, hv1, _, _, g1⟩ := Go.ChangeMaps.open_string Try.underlying9 (hval 1 9 v1 rfl rfl) h1
  subst hv1
  obtain ⟨m2, H2, Z2, a2, b2, x2, st2, le2, zle2, s2, q2, vr2, g2⟩ := open_val_arg valTy25 (OpSt.empty W) (hval 2 25 v2 rfl rfl) h2
  obtain ⟨m3, H3, Z3, a3, b3, x3, st3, le3, zle3, s3, q3, vr3, g3⟩ := open_val_arg valTy25 st2 (hval 3 25 v3 rfl rfl) h3
  replace s2 := s2.mono zle3
  replace q2 := q2.mono zle3
  replace vr2 := vr2.mono le3
  have hI : Kn 0 _ [.fz (rI .i64) a2 x2.Shape, .fz (rI .i64) b2 x2.Data, .fz (rI .i64) a3 x3.Shape, .fz (rI .i64) b3 x3.Data] [] := st3.kn (List.forall_mem_cons.mpr ⟨⟨s2, rfl⟩, (List.forall_mem_cons.mpr ⟨⟨q2, rfl⟩, (List.forall_mem_cons.mpr ⟨⟨s3, rfl⟩, (List.forall_mem_cons.mpr ⟨⟨q3, rfl⟩, (fun _ h => by cases h)⟩)⟩)⟩)⟩)
  refine (law_calls progOk oraOk st3.hr (lrel.cons vr_str (lrel.cons vr_str (lrel.cons vr2 (lrel.cons vr3 (lrel.nil _))))) (wk4 (by simp [ora]) (by simp [ora]) (by simp [ora]) x0 x1 x2 x3 a2 b2 a3 b3 hI (overTwo_true x0 x1 x2 x3 g0 g1 g2 g3))).mono fun e W' ⟨he, bel⟩ => ?_
  subst he
  exact ⟨_, rfl, _, _, _, [], _, [], hW', trodAll_mk1 (shut_bool Try.underlying4 _), below_all Go.Am.laidOut bel (by kernel_rfl) hA1 (fun x hx => hW'.lt x (by simpa using hx)), rfl, bel.frame _, fun h => by cases h⟩
theorem over : Rows.overTwoRow.holds Try.pinned (OpenSpec.ofChange Rows.overTwoSpec) :=
  OpenClaim.holds_of_wide 4 Try.f4 rfl rfl rfl rfl rfl rfl rfl ⟨rfl, rfl, rfl, rfl, rfl⟩ rfl rfl rfl rfl rfl (by kernel_rfl) Try.func4 (by kernel_rfl)
    (of_decide_eq_true (by kernel_rfl)) (by unfold Func.isWrapper; first | (rw [if_pos (by decide +kernel)]; kernel_rfl) | (rw [if_neg (by decide +kernel)]; exact ⟨rfl, rfl⟩))
    (fun os started H enc _ => lifted os started H enc)
theorem proved : Rows.OverTwoSaid := over
#print axioms proved
end Go.Proofs.Ytblgdjpeedgnoaa.overTwo
