/- OverLast: the call returns true for every input, and turns nothing that was there. -/
import Derived.Test.YtblgdjpeedgnoaaAmE
import Derived.Test.YtblgdjpeedgnoaaWOverLastc
import Derived.ChangeMaps5
set_option linter.unusedVariables false
set_option linter.unusedSimpArgs false
namespace Go.Proofs.Ytblgdjpeedgnoaa.overLast
open Go Go.Am
open Go.ChangeShapes Go.WideShapes Go.ChangeAt Go.RowKit
def ora : FuncId → Bool := fun f => f == 9
theorem awake9 : runsTrue Try.prog 3000 60 9 = true := by kernel_rfl
theorem oraOk : OraOk Try.prog ora := ⟨fun f h => by
  obtain rfl : f = 9 := by simpa [ora] using h
  exact ⟨_, Try.func9, rfl⟩, fun f h w => by
  obtain rfl : f = 9 := by simpa [ora] using h
  exact closedK awake9 w⟩
theorem valTy25 : ValTy Try.prog 25 4 22 23 3 2 :=
  ⟨⟨_, _, _, Try.underlying25, rfl, rfl, rfl, rfl, rfl, rfl⟩, by kernel_rfl, by kernel_rfl, by kernel_rfl, by kernel_rfl, Try.underlying4, Try.underlying22, Try.underlying23, (cell1_int Try.underlying3 (by kernel_rfl)), (cell1_int Try.underlying2 (by kernel_rfl)), by kernel_rfl⟩

set_option maxRecDepth 100000 in
theorem lifted (os : Os) (started : os.Started) (H : Type) (enc : TypeId × Value → H) :
    ReturnsInHanded {} Try.checked os 7 .any (Rows.overLastSpec.pre6 enc Try.prog Try.f7 Rows.overLastRow.domain false) (Rows.overLastSpec.post enc Try.prog Try.f7 false true false false) := by
  refine returnsInHanded_of_change (C := Try.checked) Go.Am.own started (by kernel_rfl) Try.func7
    (ChangeSpec.witness6 (enc := enc) (C := Try.checked) false ⟨#[], #[.string ⟨#[]⟩, .agg #[.bool false, .slice none 0 0, .slice none 0 0], .int .i64 0], []⟩ 8 (by kernel_rfl) (by kernel_rfl) (by kernel_rfl) (by kernel_rfl)) ?_
  intro W base args ds gs before hval0 hW hcnd _
  have hval : ∀ (j : Nat) t v, Try.f7.params[j]? = some t → args[j]? = some v → Value.okWide Try.prog W .any base t v := hval0
  have hW' := hW
  obtain ⟨p, q, hA0, hV, rfl, hfz, hnd⟩ := hW
  have hA : DataW.TrodAll enc Try.prog W 0 (fun _ => true) true Try.f7.params.toList args.toList ds p := hA0
  rw [Try.params7] at hA hval
  have hA1 := hA
  obtain ⟨v0, vs0, d0, ds0, p0, q_0, hargs, rfl, rfl, h0, r0⟩ := trodAll_cons hA
  obtain ⟨v1, vs1, d1, ds1, p1, q_1, rfl, rfl, rfl, h1, r1⟩ := trodAll_cons r0
  obtain ⟨v2, vs2, d2, ds2, p2, q_2, rfl, rfl, rfl, h2, r2⟩ := trodAll_cons r1
  obtain ⟨rfl, rfl, rfl⟩ := trodAll_nil r2
  obtain rfl : args = #[v0, v1, v2] := by cases args; simp_all
  obtain ⟨rfl, rfl⟩ := trodVars_none hV
  clear hA0 hval0
  simp only [List.append_nil] at hW'
  obtain ⟨x0, hv0, _, _, g0⟩ := Go.ChangeMaps.open_string Try.underlying9 (hval 0 9 v0 rfl rfl) h0
  subst hv0
  obtain ⟨m1, H1, Z1, a1, b1, x1, st1, le1, zle1, s1, q1, vr1, g1⟩ := open_val_arg valTy25 (OpSt.empty W) (hval 1 25 v1 rfl rfl) h1
  obtain ⟨x2, hv2, _, _, g2⟩ := open_int Try.underlying3 (hval 2 3 v2 rfl rfl) h2
  subst hv2
  have hI : Kn 0 _ [.fz (rI .i64) a1 x1.Shape, .fz (rI .i64) b1 x1.Data] [] := st1.kn (List.forall_mem_cons.mpr ⟨⟨s1, rfl⟩, (List.forall_mem_cons.mpr ⟨⟨q1, rfl⟩, (fun _ h => by cases h)⟩)⟩)
  refine (law_calls progOk oraOk st1.hr (lrel.cons vr_str (lrel.cons vr1 (lrel.cons vr_int (lrel.nil _)))) (wk7 (by simp [ora]) (by simp [ora]) x0 x1 x2 a1 b1 hI (overLast_true x0 x1 x2 g0 g1 g2))).mono fun e W' ⟨he, bel⟩ => ?_
  subst he
  exact ⟨_, rfl, _, _, _, [], _, [], hW', trodAll_mk1 (shut_bool Try.underlying4 _), below_all Go.Am.laidOut bel (by kernel_rfl) hA1 (fun x hx => hW'.lt x (by simpa using hx)), rfl, bel.frame _, fun h => by cases h⟩

theorem over : Rows.overLastRow.holds Try.pinned (OpenSpec.ofChange Rows.overLastSpec) :=
  OpenClaim.holds_of_wide 7 Try.f7 rfl rfl rfl rfl rfl rfl rfl ⟨rfl, rfl, rfl, rfl, rfl⟩ rfl rfl rfl rfl rfl (by kernel_rfl) Try.func7 (by kernel_rfl)
    (of_decide_eq_true (by kernel_rfl)) (by unfold Func.isWrapper; first | (rw [if_pos (by decide +kernel)]; kernel_rfl) | (rw [if_neg (by decide +kernel)]; exact ⟨rfl, rfl⟩))
    (fun os started H enc _ => lifted os started H enc)

/-- The statement. -/
theorem proved : Rows.OverLastSaid := over
#print axioms proved
end Go.Proofs.Ytblgdjpeedgnoaa.overLast
