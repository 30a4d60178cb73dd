/- The abstract machine, told once more for the kernel, with slices.Insert as one step. -/
import Derived.Test.YtaedfhikoamfeaaAmU
set_option linter.unusedVariables false
set_option linter.unusedSimpArgs false
namespace Go.Am
section
variable {R : Type}
/-- .. the function of this number is slices.Insert. -/
noncomputable def callKX (P : Program) (F ins : Nat) (d : Nat) : CallK R :=
  Nat.rec (motive := fun _ => CallK R) (fun _ _ _ _ _ => none)
    (fun d ih wm f args H K => bif Nat.beq f ins then optK (aIns wm H args) (both K) else optK (P.funcs[f]?) fun fn => optK fn.body fun c =>
      bif Nat.ble args.length fn.ntmps then codeK P F fn.ntmps ih wm c (initF args 0 .lf) H (endK P fn.results.toList K) else optK (aCallX P (fun _ => false) F (d + 1) wm f args H) (both K)) d
theorem aCallX_succ (P : Program) (F d wm : Nat) (f : FuncId) (args : List Value) (H : AHeap) {fn : Func} {c : Code} (hf : P.funcs[f]? = some fn) (hn : isInsF fn = false) (hb : fn.body = some c) :
    aCallX P (fun _ => false) F (d + 1) wm f args H = (match aCode P F (aCallX P (fun _ => false) F d) wm c (args ++ List.replicate (fn.ntmps - args.length) undef) H with
        | some (.exit _, _, _) => none
        | some (_, tm, H') =>
          match ress P tm H' fn.results.toList with
          | some vs => some (pack vs, H')
          | none => none
        | none => none) := by
  simp only [aCallX, Bool.false_and, Bool.false_eq_true, if_false, hf, hn, hb]
  rfl
theorem callKX_eq (P : Program) (F ins : Nat) (hb : (P.funcs[ins]?).isSome = true) (hins : ∀ f fn, P.funcs[f]? = some fn → isInsF fn = Nat.beq f ins) : ∀ d, CfEq (callKX (R := R) P F ins d) (aCallX P (fun _ => false) F d) := by
  intro d
  induction d with
  | zero => intro wm f args H K; rfl
  | succ d ih =>
    intro wm f args H K
    show (bif Nat.beq f ins then optK (aIns wm H args) (both K) else optK (P.funcs[f]?) fun fn => optK fn.body fun c =>
      bif Nat.ble args.length fn.ntmps then codeK P F fn.ntmps (callKX P F ins d) wm c (initF args 0 .lf) H (endK P fn.results.toList K) else optK (aCallX P (fun _ => false) F (d + 1) wm f args H) (both K)) = _
    cases hf : P.funcs[f]? with
    | none =>
      have hne : Nat.beq f ins = false := by
        cases h : Nat.beq f ins with
        | false => rfl
        | true =>
          have := Nat.eq_of_beq_eq_true h
          subst this
          rw [hf] at hb; cases hb
      rw [hne]
      simp only [cond_false, optK_eq, aCallX, Bool.false_and, Bool.false_eq_true, if_false, hf]
      rfl
    | some fn =>
      have hi := hins f fn hf
      cases h : Nat.beq f ins with
      | true =>
        rw [h] at hi
        simp only [cond_true, optK_eq, aCallX, Bool.false_and, Bool.false_eq_true, if_false, hf, hi, if_true]
      | false =>
        rw [h] at hi
        simp only [cond_false, optK_eq, Option.bind_some]
        cases hb : fn.body with
        | none => simp only [aCallX, Bool.false_and, Bool.false_eq_true, if_false, hf, hi, hb]; rfl
        | some c =>
          simp only [Option.bind_some]
          rw [ble_if]
          split
          · rename_i hle
            have hK : KR fn.ntmps (endK P fn.results.toList K) (endL P fn.results.toList K) := by
              intro ex s tm H hs
              cases ex with
              | exit i => rfl
              | normal => show optK (ressS P s H _) _ = (ress P tm H _).bind _; rw [optK_eq, ressS_eq hs]
              | ret => show optK (ressS P s H _) _ = (ress P tm H _).bind _; rw [optK_eq, ressS_eq hs]
            rw [codeK_eq ih wm c _ _ _ _ _ (SR.init hle) hK]
            rw [aCallX_succ P F d wm f args H hf hi hb]
            cases aCode P F (aCallX P (fun _ => false) F d) wm c (args ++ List.replicate (fn.ntmps - args.length) undef) H with
            | none => rfl
            | some r =>
              rcases r with ⟨ex, tm, H'⟩
              cases ex with
              | exit i => rfl
              | normal =>
                show (ress P tm H' fn.results.toList).bind (fun vs => K (pack vs) H') = Option.bind (match ress P tm H' fn.results.toList with | some vs => some (pack vs, H') | none => none) (both K)
                cases ress P tm H' fn.results.toList <;> rfl
              | ret =>
                show (ress P tm H' fn.results.toList).bind (fun vs => K (pack vs) H') = Option.bind (match ress P tm H' fn.results.toList with | some vs => some (pack vs, H') | none => none) (both K)
                cases ress P tm H' fn.results.toList <;> rfl
          · rfl
noncomputable def runsTrueX (P : Program) (F ins d : Nat) (f : FuncId) : Bool := Option.rec (motive := fun _ => Bool) false (fun _ => true) (callKX (R := Unit) P F ins d 0 f [] AHeap.empty askTrue)
theorem runsTrueX_some {P : Program} {F ins d : Nat} {f : FuncId} (hb : (P.funcs[ins]?).isSome = true) (hins : ∀ f fn, P.funcs[f]? = some fn → isInsF fn = Nat.beq f ins) (h : runsTrueX P F ins d f = true) : ∃ H', aCallX P (fun _ => false) F d 0 f [] AHeap.empty = some (.bool true, H') := by
  unfold runsTrueX at h
  rw [callKX_eq P F ins hb hins] at h
  cases hr : aCallX P (fun _ => false) F d 0 f [] AHeap.empty with
  | none => rw [hr] at h; exact absurd h (by simp)
  | some r =>
    rw [hr] at h
    rcases r with ⟨v, H'⟩
    cases v with
    | bool b =>
      cases b with
      | true => exact ⟨H', rfl⟩
      | false => exact absurd h (by simp [both, askTrue])
    | _ => exact absurd h (by simp [both, askTrue])
theorem ins_beq {P : Program} {k : Nat} (h : (P.funcs.toList.zipIdx.all fun p => isInsF p.1 == Nat.beq p.2 k) = true) : ∀ f fn, P.funcs[f]? = some fn → isInsF fn = Nat.beq f k := fun f fn hf => by
  have hm : (fn, f) ∈ P.funcs.toList.zipIdx := by
    rw [List.mem_zipIdx_iff_getElem?]
    simpa using hf
  have := (List.all_eq_true.1 h) _ hm
  simpa using this
end
end Go.Am
