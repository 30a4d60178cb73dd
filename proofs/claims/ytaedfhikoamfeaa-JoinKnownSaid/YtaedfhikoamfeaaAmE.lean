/- The abstract machine over this seat's program; and the frame of a law without parameters. -/
import Derived.Test.YtaedfhikoamfeaaRows
import Derived.Test.YtaedfhikoamfeaaAmZ
import Derived.ProofKit
import Derived.OpenShut
import Derived.ShutString
import Derived.ChangeOld
import Derived.Below
set_option linter.unusedVariables false
namespace Go.Am
open Go.Proofs

theorem progOk_of {P : Program} (h1 : P.follows .mixedOrders = true) (h2 : P.funcs.toList.all (fun fn => !(fn.name == "runtime.NumGoroutine") && funcOk fn) = true) : ProgOk P := by
 have key : ∀ (f : FuncId) (fn : Func), P.funcs[f]? = some fn → (fn.name == "runtime.NumGoroutine") = false ∧ funcOk fn = true := fun f fn h => by
  have hm : fn ∈ P.funcs.toList := by
   have : P.funcs.toList[f]? = some fn := by simpa using h
   exact List.mem_of_getElem? this
  have := (List.all_eq_true.1 h2) fn hm
  simpa using this
 exact ⟨h1, fun f fn h => (key f fn h).1, fun f fn h => (key f fn h).2⟩

theorem progOk : ProgOk Try.prog := progOk_of (by decide +kernel) (by decide +kernel)

def saysTrue : Option (Value × AHeap) → Bool
 | some (.bool b, _) => b
 | _ => false
theorem saysTrue_some {r : Option (Value × AHeap)} (h : saysTrue r = true) : ∃ H', r = some (.bool true, H') := by
 unfold saysTrue at h
 split at h
 ·rename_i b H'; subst h; exact ⟨H', rfl⟩
 ·simp at h

theorem HR.empty (w : World) : HR w.heap.size (fun _ => none) AHeap.empty w :=
 ⟨Nat.le_refl _, fun b g h => by simp at h, fun b g h => by simp at h, fun b o g h => by simp [AHeap.empty, AHeap.get, Tr.get] at h, fun b b' g g' _ h => by simp [AHeap.empty, AHeap.get, Tr.get, mine] at h⟩

/-- A call without arguments that the kernel has run. -/
theorem closed {d F : Nat} {f : FuncId} (h : saysTrue (aCall Try.prog F d 0 f [] AHeap.empty) = true) (w : World) : Calls Try.prog f #[] w fun e w' => e = .returned (.bool true) ∧ Go.RowKit.Below w.heap.size w w' := by
 obtain ⟨H', h'⟩ := saysTrue_some h
 exact returns progOk h' (HR.empty w) (lrel.nil _)

/-- The same, of the run that is told for the kernel. -/
theorem closedK {d F : Nat} {f : FuncId} (h : runsTrue Try.prog F d f = true) (w : World) : Calls Try.prog f #[] w fun e w' => e = .returned (.bool true) ∧ Go.RowKit.Below w.heap.size w w' := by
 obtain ⟨H', h'⟩ := runsTrue_some h
 exact returns progOk h' (HR.empty w) (lrel.nil _)

theorem own : ownKnob Try.prog.godebug = none := by kernel_rfl
theorem laidOut : laidOutB Try.prog = true := by kernel_rfl
end Go.Am
