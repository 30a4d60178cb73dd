/- OverInner: the call returns true for every input, and turns nothing that was there. -/
import Derived.Test.YtblgdjpeedgnoaaAmE
import Derived.Test.YtblgdjpeedgnoaaWOverInnerc
import Derived.ChangeMaps5
import Derived.Test.YtblgdjpeedgnoaaMOverInner2
set_option linter.unusedVariables false
set_option linter.unusedSimpArgs false
namespace Go.Proofs.Ytblgdjpeedgnoaa.overInner
open Go Go.Am
open Go.ChangeShapes Go.WideShapes Go.ChangeAt Go.RowKit
def ora : FuncId → Bool := fun f => f == 9
theorem awake9 : runsTrue Try.prog 3000 60 9 = true := by kernel_rfl
theorem oraOk : OraOk Try.prog ora := ⟨fun f h => by
  obtain rfl : f = 9 := by simpa [ora] using h
  exact ⟨_, Try.func9, rfl⟩, fun f h w => by
  obtain rfl : f = 9 := by simpa [ora] using h
  exact closedK awake9 w⟩
set_option maxRecDepth 100000 in
theorem lifted (os : Os) (started : os.Started) (H : Type) (enc : TypeId × Value → H) :
    ReturnsInHanded {} Try.checked os 8 .any (Rows.overInnerSpec.pre6 enc Try.prog Try.f8 Rows.overInnerRow.domain false) (Rows.overInnerSpec.post enc Try.prog Try.f8 false true false false) := by
  refine returnsInHanded_of_change (C := Try.checked) Go.Am.own started (by kernel_rfl) Try.func8
    (ChangeSpec.witness6 (enc := enc) (C := Try.checked) false ⟨#[], #[.string ⟨#[]⟩, .string ⟨#[]⟩, .int .u8 0, .int .u8 0, .int .u8 0, .slice none 0 0, .slice none 0 0], []⟩ 8 (by kernel_rfl) (by kernel_rfl) (by kernel_rfl) (by kernel_rfl)) ?_
  intro W base args ds gs before hval0 hW hcnd _
  have hval : ∀ (j : Nat) t v, Try.f8.params[j]? = some t → args[j]? = some v → Value.okWide Try.prog W .any base t v := hval0
  have hW' := hW
  obtain ⟨p, q, hA0, hV, rfl, hfz, hnd⟩ := hW
  have hA : DataW.TrodAll enc Try.prog W 0 (fun _ => true) true Try.f8.params.toList args.toList ds p := hA0
  rw [Try.params8] at hA hval
  have hA1 := hA
  obtain ⟨v0, vs0, d0, ds0, p0, q_0, hargs, rfl, rfl, h0, r0⟩ := trodAll_cons hA
  obtain ⟨v1, vs1, d1, ds1, p1, q_1, rfl, rfl, rfl, h1, r1⟩ := trodAll_cons r0
  obtain ⟨v2, vs2, d2, ds2, p2, q_2, rfl, rfl, rfl, h2, r2⟩ := trodAll_cons r1
  obtain ⟨v3, vs3, d3, ds3, p3, q_3, rfl, rfl, rfl, h3, r3⟩ := trodAll_cons r2
  obtain ⟨v4, vs4, d4, ds4, p4, q_4, rfl, rfl, rfl, h4, r4⟩ := trodAll_cons r3
  obtain ⟨v5, vs5, d5, ds5, p5, q_5, rfl, rfl, rfl, h5, r5⟩ := trodAll_cons r4
  obtain ⟨v6, vs6, d6, ds6, p6, q_6, rfl, rfl, rfl, h6, r6⟩ := trodAll_cons r5
  obtain ⟨rfl, rfl, rfl⟩ := trodAll_nil r6
  obtain rfl : args = #[v0, v1, v2, v3, v4, v5, v6] := by cases args; simp_all
  obtain ⟨rfl, rfl⟩ := trodVars_none hV
  clear hA0 hval0
  simp only [List.append_nil] at hW'
  obtain ⟨x0, hv0, _, _, g0⟩ := Go.ChangeMaps.open_string Try.underlying9 (hval 0 9 v0 rfl rfl) h0
  subst hv0
  obtain ⟨x1, hv1, _, _, g1⟩ := Go.ChangeMaps.open_string Try.underlying9 (hval 1 9 v1 rfl rfl) h1
  subst hv1
  obtain ⟨x2, hv2, _, _, g2⟩ := open_int Try.underlying5 (hval 2 5 v2 rfl rfl) h2
  subst hv2
  obtain ⟨x3, hv3, _, _, g3⟩ := open_int Try.underlying5 (hval 3 5 v3 rfl rfl) h3
  subst hv3
  obtain ⟨x4, hv4, _, _, g4⟩ := open_int Try.underlying5 (hval 4 5 v4 rfl rfl) h4
  subst hv4
  obtain ⟨m5, H5, Z5, a5, x5, st5, le5, zle5, s5, vr5, g5, n5⟩ := open_slice_arg Try.underlying23 (cell1_int Try.underlying2 (by kernel_rfl)) (OpSt.empty W) (hval 5 23 v5 rfl rfl) h5
  obtain ⟨m6, H6, Z6, a6, x6, st6, le6, zle6, s6, vr6, g6, n6⟩ := open_slice_arg Try.underlying23 (cell1_int Try.underlying2 (by kernel_rfl)) st5 (hval 6 23 v6 rfl rfl) h6
  replace s5 := s5.mono zle6
  replace vr5 := vr5.mono le6
  have hI : Kn 0 _ [.fz (rI .i64) a5 x5, .fz (rI .i64) a6 x6] [] := st6.kn (List.forall_mem_cons.mpr ⟨⟨s5, rfl⟩, (List.forall_mem_cons.mpr ⟨⟨s6, rfl⟩, (fun _ h => by cases h)⟩)⟩)
  refine (law_calls progOk oraOk st6.hr (lrel.cons vr_str (lrel.cons vr_str (lrel.cons vr_int (lrel.cons vr_int (lrel.cons vr_int (lrel.cons vr5 (lrel.cons vr6 (lrel.nil _)))))))) (wk8 (by simp [ora]) (by simp [ora]) x0 x1 x2 x3 x4 x5 x6 a5 a6 hI (overInner_true x0 x1 x2 x3 x4 x5 x6 g0 g1 g2 g3 g4 g5 n5 g6 n6))).mono fun e W' ⟨he, bel⟩ => ?_
  subst he
  exact ⟨_, rfl, _, _, _, [], _, [], hW', trodAll_mk1 (shut_bool Try.underlying4 _), below_all Go.Am.laidOut bel (by kernel_rfl) hA1 (fun x hx => hW'.lt x (by simpa using hx)), rfl, bel.frame _, fun h => by cases h⟩
theorem over : Rows.overInnerRow.holds Try.pinned (OpenSpec.ofChange Rows.overInnerSpec) :=
  OpenClaim.holds_of_wide 8 Try.f8 rfl rfl rfl rfl rfl rfl rfl ⟨rfl, rfl, rfl, rfl, rfl⟩ rfl rfl rfl rfl rfl (by kernel_rfl) Try.func8 (by kernel_rfl)
    (of_decide_eq_true (by kernel_rfl)) (by unfold Func.isWrapper; first | (rw [if_pos (by decide +kernel)]; kernel_rfl) | (rw [if_neg (by decide +kernel)]; exact ⟨rfl, rfl⟩))
    (fun os started H enc _ => lifted os started H enc)
theorem proved : Rows.OverInnerSaid := over
#print axioms proved
end Go.Proofs.Ytblgdjpeedgnoaa.overInner
