/- The abstract machine: regions in whatever order the edges allow, code and calls. Whatever it comes to, the model comes to. -/
import Derived.Test.YtaedfhikoamfeaaAmC
set_option linter.unusedVariables false
set_option linter.unusedSimpArgs false
namespace Go.Am

/-- 0: looks at no memory. 1: reads it, or makes new blocks. 2: writes. -/
def kindOf : Op → Nat
 | .move _ | .assign _ | .pick .. | .build .. | .nilCheck _ | .binOp .. | .unOp .. | .makeFunc .. | .fieldAddr .. | .field .. | .indexAddr .. | .index .. | .extract .. => 0
 | .call { callee := .builtin b, .. } => match b with
  | .append | .copy | .clear | .cap => 2
  | _ => 0
 | .call { callee := .value _, .. } => 1
 | .alloc _ | .box .. | .buildSlice .. | .load .. | .convert .. | .makeMap .. | .makeSlice .. | .slice .. | .lookup .. | .range .. => 1
 | _ => 2

section
variable {P : Program} {wm : Nat} {tm : List Value} {H H' : AHeap} {v : Value}

theorem pure_op {op : Op} (hk : kindOf op = 0) (h : aOp P wm tm H op = some (v, H')) : H' = H ∧ ∀ wm2 H2, aOp P wm2 tm H2 op = some (v, H2) := by
 unfold aOp at h
 split at h <;> simp only [kindOf] at hk <;> first
  | (exact absurd hk (by decide))
  | (obtain ⟨a, ha, h⟩ := map_some h; simp at h; obtain ⟨rfl, rfl⟩ := h; exact ⟨rfl, fun wm2 H2 => by simp [aOp, ha]⟩)
  | (obtain ⟨b, hb, h⟩ := bind_some h; obtain ⟨a, ha, h⟩ := map_some h; simp at h; obtain ⟨rfl, rfl⟩ := h; exact ⟨rfl, fun wm2 H2 => by simp [aOp, hb, ha]⟩)
  | skip
 ·split at h
  ·rename_i t hc
   obtain ⟨a, ha, h⟩ := map_some h; simp at h; obtain ⟨rfl, rfl⟩ := h
   refine ⟨rfl, fun wm2 H2 => ?_⟩
   cases t <;> simp at ha <;> simp [aOp, hc, ha]
  ·simp at h
 ·split at h
  ·rename_i ha; simp at h; obtain ⟨rfl, rfl⟩ := h; exact ⟨rfl, fun wm2 H2 => by simp [aOp, ha]⟩
  ·rename_i ha; simp at h; obtain ⟨rfl, rfl⟩ := h; exact ⟨rfl, fun wm2 H2 => by simp [aOp, ha]⟩
  ·simp at h
 ·split at h
  ·rename_i ha hb; obtain ⟨a, hx, h⟩ := map_some h; simp at h; obtain ⟨rfl, rfl⟩ := h; exact ⟨rfl, fun wm2 H2 => by simp [aOp, ha, hb, hx]⟩
  ·simp at h
 ·split at h
  ·rename_i hf; obtain ⟨a, hx, h⟩ := map_some h; simp at h; obtain ⟨rfl, rfl⟩ := h; exact ⟨rfl, fun wm2 H2 => by simp [aOp, hf, hx]⟩
  ·simp at h
 ·split at h
  ·rename_i ha hb; obtain ⟨a, hx, h⟩ := map_some h; simp at h; obtain ⟨rfl, rfl⟩ := h; exact ⟨rfl, fun wm2 H2 => by simp [aOp, ha, hb, hx]⟩
  ·simp at h
 ·split at h
  ·rename_i ha hb; obtain ⟨a, hx, h⟩ := map_some h; simp at h; obtain ⟨rfl, rfl⟩ := h; exact ⟨rfl, fun wm2 H2 => by simp [aOp, ha, hb, hx]⟩
  ·simp at h
 ·split at h
  ·rename_i ha; obtain ⟨a, hx, h⟩ := map_some h; simp at h; obtain ⟨rfl, rfl⟩ := h
   refine ⟨rfl, fun wm2 H2 => ?_⟩
   simp at hx
   simp [aOp, ha, hx]
  ·simp at h
 ·obtain ⟨l, hl, h⟩ := bind_some h
  rename_i b args ts _
  have key : ∀ tl : List TypeId, aBuiltin P wm H b tl l = some (v, H') → H' = H ∧ ∀ wm2 H2, aBuiltin P wm2 H2 b tl l = some (v, H2) := by
   intro tl h
   unfold aBuiltin at h
   split at h <;> (try simp at hk) <;> first
    | (obtain ⟨a, hx, h⟩ := map_some h; simp at h; obtain ⟨rfl, rfl⟩ := h; exact ⟨rfl, fun wm2 H2 => by simp [aBuiltin, hx]⟩)
    | (simp at h; obtain ⟨rfl, rfl⟩ := h; exact ⟨rfl, fun wm2 H2 => by simp [aBuiltin]⟩)
    | skip
   ·split at h
    ·rename_i hk2; simp at h; obtain ⟨rfl, rfl⟩ := h; exact ⟨rfl, fun wm2 H2 => by simp [aBuiltin, hk2]⟩
    ·simp at h
   ·simp at h
  exact ⟨(key _ h).1, fun wm2 H2 => by simp [aOp, hl, (key _ h).2]⟩
 ·simp at h

/-- A heap that holds all that another one holds. -/
def AHeap.le (H H' : AHeap) : Prop := H.n ≤ H'.n ∧ ∀ b, b < H.n → H'.get b = H.get b
theorem AHeap.le_refl (H : AHeap) : H.le H := ⟨Nat.le_refl _, fun _ _ => rfl⟩
theorem AHeap.le_trans {a b c : AHeap} (h : a.le b) (k : b.le c) : a.le c := ⟨Nat.le_trans h.1 k.1, fun x hx => (k.2 x (Nat.lt_of_lt_of_le hx h.1)).trans (h.2 x hx)⟩
theorem AHeap.le_push (H : AHeap) (o : AObj) : H.le (H.push o) := ⟨by simp, fun b hb => H.get_push_ne o (by omega)⟩
/-- A heap that holds what another one held below a mark. -/
def AHeap.lew (wm : Nat) (H H' : AHeap) : Prop := H.n ≤ H'.n ∧ ∀ b, b < H.n → b < wm → H'.get b = H.get b
theorem AHeap.le.lew {H H' : AHeap} (h : H.le H') (wm : Nat) : H.lew wm H' := ⟨h.1, fun b hb _ => h.2 b hb⟩
theorem AHeap.lew_trans {wm : Nat} {a b c : AHeap} (h : a.lew wm b) (k : b.lew wm c) : a.lew wm c := ⟨Nat.le_trans h.1 k.1, fun x hx hw => (k.2 x (Nat.lt_of_lt_of_le hx h.1) hw).trans (h.2 x hx hw)⟩
theorem AHeap.lew_set (H : AHeap) {b : Nat} (o : AObj) (h : wm ≤ b) : H.lew wm (H.set b o) := ⟨Nat.le_refl _, fun x _ hw => H.get_set_ne o (by omega)⟩
theorem AHeap.lew.mono {wm wm' : Nat} {H H' : AHeap} (h : H.lew wm H') (hw : wm' ≤ wm) : H.lew wm' H' := ⟨h.1, fun b hb hb' => h.2 b hb (Nat.lt_of_lt_of_le hb' hw)⟩

theorem aBox_le {v p : Value} (h : aBox H v = some (p, H')) : H.le H' := by
 unfold aBox at h; split at h
 ·simp at h; obtain ⟨_, rfl⟩ := h; exact H.le_push _
 ·simp at h

theorem read_op {op : Op} (hk : kindOf op = 1) (h : aOp P wm tm H op = some (v, H')) : H.le H' ∧ ∀ wm2, aOp P wm2 tm H op = some (v, H') := by
 refine ⟨?_, fun wm2 => ?_⟩
 ·unfold aOp at h
  split at h <;> simp only [kindOf] at hk <;> first
   | (exact absurd hk (by decide))
   | skip
  ·obtain ⟨z, _, h⟩ := bind_some h
   split at h
   ·exact aBox_le h
   ·simp at h
  ·obtain ⟨z, _, h⟩ := bind_some h; exact aBox_le h
  ·obtain ⟨l, _, h⟩ := bind_some h
   unfold aBuildSlice at h
   repeat' split at h
   all_goals first
    | (simp at h; done)
    | (simp at h; obtain ⟨_, rfl⟩ := h; exact H.le_push _)
  ·obtain ⟨b, hb, h⟩ := bind_some h; obtain ⟨a, ha, h⟩ := map_some h; simp at h; obtain ⟨rfl, rfl⟩ := h; exact H.le_refl
  ·obtain ⟨b, hb, h⟩ := bind_some h
   unfold aConv at h
   repeat' split at h
   all_goals first
    | (simp at h; done)
    | (simp at h; obtain ⟨_, rfl⟩ := h; first | exact H.le_refl | exact H.le_push _)
    | (obtain ⟨a, ha, h⟩ := map_some h; simp at h; obtain ⟨rfl, rfl⟩ := h; exact H.le_refl)
  ·simp at h; obtain ⟨_, rfl⟩ := h; exact H.le_push _
  ·split at h
   ·unfold aMakeSlice at h
    repeat' split at h
    all_goals first
     | (simp at h; done)
     | (simp at h; obtain ⟨_, rfl⟩ := h; exact H.le_push _)
   ·simp at h
  ·split at h
   ·obtain ⟨a, ha, h⟩ := map_some h; simp at h; obtain ⟨rfl, rfl⟩ := h; exact H.le_refl
   ·simp at h
  ·split at h
   ·obtain ⟨a, ha, h⟩ := map_some h; simp at h; obtain ⟨rfl, rfl⟩ := h; exact H.le_refl
   ·simp at h
  ·split at h
   ·simp at h; obtain ⟨_, rfl⟩ := h; exact H.le_push _
   ·simp at h
  ·rename_i b args ts
   cases b <;> simp at hk
  ·simp at h
 ·unfold aOp at h ⊢
  split at h <;> simp only [kindOf] at hk <;> first
   | (exact absurd hk (by decide))
   | exact h
   | skip
  ·rename_i b args ts
   cases b <;> simp at hk

theorem append_lew {st xt : TypeId} {s x : Value} (h : aAppend P wm H st xt s x = some (v, H')) : H.lew wm H' := by
 unfold aAppend at h
 repeat' split at h
 all_goals first
  | (simp at h; done)
  | (simp at h; obtain ⟨_, rfl⟩ := h; first
    | exact (H.le_refl).lew wm
    | exact (H.le_push _).lew wm
    | exact AHeap.lew_trans (H.lew_set _ (by simp_all)) ((AHeap.le_push _ _).lew wm))
  | (obtain ⟨a, ha, h⟩ := map_some h; simp at h; obtain ⟨_, rfl⟩ := h; exact H.lew_set _ (by simp_all))

theorem appendZ_lew {st : TypeId} {s x : Value} (h : aAppendZ P H st s x = some (v, H')) : H.lew wm H' := by
 unfold aAppendZ at h
 repeat' split at h
 all_goals first
  | (simp at h; done)
  | (simp at h; obtain ⟨_, rfl⟩ := h; exact (H.le_push _).lew wm)

theorem op_lew {op : Op} (h : aOp P wm tm H op = some (v, H')) : H.lew wm H' := by
 by_cases h0 : kindOf op = 0
 ·rw [(pure_op h0 h).1]; exact (H.le_refl).lew wm
 by_cases h1 : kindOf op = 1
 ·exact (read_op h1 h).1.lew wm
 unfold aOp at h
 split at h <;> simp only [kindOf] at h0 h1 <;> first
  | (exact absurd trivial h0)
  | (exact absurd trivial h1)
  | skip
 ·split at h
  ·obtain ⟨a, ha, h⟩ := map_some h; simp at h; obtain ⟨_, rfl⟩ := h
   unfold aStore at ha
   repeat' split at ha
   all_goals first
    | (simp at ha; done)
    | (obtain ⟨r, hr, ha⟩ := map_some ha; subst ha; exact H.lew_set _ (by simp_all))
  ·simp at h
 ·split at h
  ·split at h
   ·obtain ⟨a, ha, h⟩ := map_some h; simp at h; obtain ⟨_, rfl⟩ := h
    unfold aInsert at ha
    repeat' split at ha
    all_goals first
     | (simp at ha; done)
     | (simp at ha; subst ha; exact H.lew_set _ (by assumption))
   ·simp at h
  ·simp at h
 ·obtain ⟨a, ha, h⟩ := bind_some h
  unfold aNext at h
  repeat' split at h
  all_goals first
   | (simp at h; done)
   | (simp at h; obtain ⟨_, rfl⟩ := h; first | exact (H.le_refl).lew wm | exact H.lew_set _ (by assumption))
 ·obtain ⟨l, hl, h⟩ := bind_some h
  unfold aBuiltin at h
  split at h
  all_goals first
   | (simp at h; done)
   | (obtain ⟨a, ha, h⟩ := map_some h; simp at h; obtain ⟨_, rfl⟩ := h; exact (H.le_refl).lew wm)
   | (split at h <;> first | exact appendZ_lew h | exact append_lew h)
   | (simp at h; obtain ⟨_, rfl⟩ := h; exact (H.le_refl).lew wm)
   | skip
  ·unfold aCopy at h
   repeat' split at h
   all_goals first
    | (simp at h; done)
    | (simp at h; obtain ⟨_, rfl⟩ := h; exact (H.le_refl).lew wm)
    | (obtain ⟨a, ha, h⟩ := map_some h; simp at h; obtain ⟨_, rfl⟩ := h; exact H.lew_set _ (by assumption))
  ·unfold aClear at h
   repeat' split at h
   all_goals first
    | (simp at h; done)
    | (simp at h; obtain ⟨_, rfl⟩ := h; exact (H.le_refl).lew wm)
    | (obtain ⟨a, ha, h⟩ := map_some h; simp at h; obtain ⟨_, rfl⟩ := h; exact H.lew_set _ (by simp_all))
  ·split at h
   ·simp at h; obtain ⟨_, rfl⟩ := h; exact (H.le_refl).lew wm
   ·simp at h
 ·simp at h
end
end Go.Am

namespace Go.Am

/-- What a caller knows of a call under the mark wm. -/
structure CfOk (P : Program) (B : Nat) (cf : CallF) : Prop where
 sim : ∀ wm f args H v H', cf wm f args H = some (v, H') → ∀ m w (cargs : Array Value), HR B m H w → lrel m args cargs.toList →
  Calls P f cargs w fun e w' => ∃ v' m', e = .returned v' ∧ vrel m' v v' ∧ Stp B wm m H w m' H' w'
 lew : ∀ wm f args H v H', cf wm f args H = some (v, H') → H.lew wm H'
 fn : ∀ wm f args H v H', cf wm f args H = some (v, H') → ∃ fn, P.funcs[f]? = some fn ∧ fn.body.isSome = true

/-- No function is one that the model answers by itself. -/
def NoOwn (P : Program) : Prop := ∀ (f : FuncId) (fn : Func), P.funcs[f]? = some fn → (fn.name == "runtime.NumGoroutine") = false

section
variable {P : Program} {B wm : Nat}

theorem call_run {m : Map} {w : World} {tm : List Value} {ρ : Operand → Value} {o : Oper} {f : FuncId} {args : List Value} (ht : Ev m tm ρ o.op.operands.toList) (h : aCallee tm o.op = some (f, args))
  (hf : ∃ fn, P.funcs[f]? = some fn ∧ fn.body.isSome = true) (hno : NoOwn P) : ∃ cargs : Array Value, lrel m args cargs.toList ∧ (execOp ρ o).run P w = .ok (.enter f cargs) w := by
 obtain ⟨dst, op, type, pos, after, guard⟩ := o
 simp only at h ht
 unfold aCallee at h
 split at h
 case h_2 => simp at h
 case h_1 g cargs ts =>
  split at h
  case h_2 => simp at h
  case h_1 g2 first cs l hg hl =>
   split at h
   case isFalse => simp at h
   rename_i hfirst
   simp at h
   obtain ⟨rfl, rfl⟩ := h
   obtain ⟨_, cs', he, hcs⟩ := (ht g (by simp [Op.operands, Call.operands]) _ hg).func_inv
   have hl' := evL_rel (ht.sub (by simp [Op.operands, Call.operands]; intro x hx; exact .inr hx)) hl
   obtain ⟨fn, hfn, hbody⟩ := hf
   have hb2 : ¬ (fn.body = none) := by cases hb : fn.body <;> simp_all
   have hnm := hno _ _ hfn
   refine ⟨cargs.map ρ ++ cs', ?_, ?_⟩
   ·have : (cargs.map ρ ++ cs').toList = cargs.toList.map ρ ++ cs'.toList := by simp
    rw [this]; exact hl'.append hcs
   ·have hnm' : ¬ (fn.name = "runtime.NumGoroutine") := by simpa using hnm
    simp [execOp, resolve, he, Deferred.ofValue, invoke, callFunc, hfn, hb2, hnm']

theorem lrel.put {m : Map} {tm : List Value} {a : Act} (h : lrel m tm a.tmps.toList) {dst : Option Tmp} {v v' : Value} (hv : vrel m v v') : lrel m (putV tm dst v) (a.put dst v').tmps.toList := by
 cases dst with
 | none => exact h
 | some d => simp only [putV, Act.put, Array.toList_setIfInBounds]; exact h.set d hv

theorem Act.put_defers' (a : Act) (dst : Option Tmp) (v : Value) : (a.put dst v).defers = a.defers := by cases dst <;> rfl

theorem bool_iff {m : Map} {v v' : Value} (h : vrel m v v') : (match some v with | some (.bool b) => some b | _ => (none : Option Bool)) = (match some v' with | some (.bool b) => some b | _ => none) := by
 cases h with
 | base h => cases v <;> cases v' <;> simp [brel] at h <;> first | rfl | simp [h]
 | func => rfl
 | agg => rfl
 | tup => rfl

theorem gotB_eq {m : Map} {ops : Array Oper} {tm : List Value} {ct : Array Value} (j : Nat) (h : ∀ t, ((ops[j]?).bind (·.dst)) = some t → (∀ v, tm[t]? = some v → ∃ v', ct[t]? = some v' ∧ vrel m v v') ∧ (tm[t]? = none → ct[t]? = none)) : gotB ops tm j = yielded ops ct j := by
 unfold gotB yielded
 cases hd : (ops[j]?).bind (·.dst) with
 | none => rfl
 | some t =>
  obtain ⟨h1, h2⟩ := h t hd
  simp only [Option.bind_some]
  cases ht : tm[t]? with
  | none => rw [h2 ht]
  | some v =>
   obtain ⟨v', hv', hr⟩ := h1 v ht
   rw [hv']
   exact bool_iff hr

theorem lrel.none {m : Map} {l l' : List Value} (h : lrel m l l') {i : Nat} (hn : l[i]? = none) : l'[i]? = none := by
 rw [List.getElem?_eq_none_iff] at hn ⊢; rw [← h.1]; exact hn

theorem wanted_eq {m : Map} {ops : Array Oper} {tm : List Value} {ct : Array Value} (h : lrel m tm ct.toList) (o : Oper) : Region.wanted o (gotB ops tm) = Region.wanted o (yielded ops ct) := by
 unfold Region.wanted
 split
 ·rfl
 ·rw [gotB_eq _ (fun t _ => ⟨fun v hv => by obtain ⟨v', h1, h2⟩ := h.get hv; exact ⟨v', by simpa using h1, h2⟩, fun hn => by simpa using h.none hn⟩)]

def PostT (P : Program) (B wm : Nat) (m : Map) (H : AHeap) (w : World) (tm' : List Value) (H' : AHeap) (a : Act) (w' : World) : Prop :=
 a.defers = [] ∧ ∃ m', Stp B wm m H w m' H' w' ∧ lrel m' tm' a.tmps.toList

/-- A region in the order of the text. -/
theorem ops_sim {cf : CallF} (hcf : CfOk P B cf) (hno : NoOwn P) {ops : Array Oper} {Q : Exit → Act → World → Prop} : ∀ (os : List Oper) (k : Nat) (tm tm' : List Value) (H H' : AHeap), ops.toList.drop k = os → aOps P cf wm false ops os tm H = some (tm', H') →
  ∀ m w (ct : Array Value), HR B m H w → lrel m tm ct.toList → (∀ a w', PostT P B wm m H w tm' H' a w' → Q .normal a w') → wpOps P ops Q (List.range' k os.length) ⟨ct, []⟩ w
 | [], k, tm, tm', H, H', hos, h, m, w, ct, hr, ht, hq => by
  simp [aOps] at h
  obtain ⟨rfl, rfl⟩ := h
  exact hq _ _ ⟨rfl, m, Stp.refl hr, ht⟩
 | o :: os, k, tm, tm', H, H', hos, h, m, w, ct, hr, ht, hq => by
  have hk : ops[k]? = some o := by
   have : (ops.toList.drop k)[0]? = some o := by rw [hos]; rfl
   simpa using this
  have hos' : ops.toList.drop (k + 1) = os := by
   have : (ops.toList.drop k).drop 1 = os := by rw [hos]; rfl
   rw [List.drop_drop] at this; exact this
  unfold aOps at h
  rw [List.length_cons, List.range'_succ]
  simp only [wpOps, hk]
  rw [wanted_eq ht] at h
  by_cases hw : Region.wanted o (yielded ops ct) = true
  ·rw [if_pos hw] at h
   rw [if_pos hw]
   refine .inl ?_
   by_cases hcall : isCall o.op = true
   ·rw [if_pos hcall] at h
    split at h
    ·simp at h
    ·rename_i f args hcal
     split at h
     ·simp at h
     ·rename_i v H1 hc
      simp only [Bool.false_eq_true, if_false] at hc
      obtain ⟨cargs, hargs, hrun⟩ := call_run (P := P) (w := w) (Ev.of (ds := []) ht o.op.operands.toList) hcal (hcf.fn _ _ _ _ _ _ hc) hno
      unfold Oper.wp
      rw [hrun]
      simp only [Oper.upon]
      refine (hcf.sim _ _ _ _ _ _ hc m w cargs hr hargs).mono ?_
      rintro e w1 ⟨v', m1, rfl, hv, hst⟩
      have := ops_sim hcf hno (Q := Q) os (k + 1) _ tm' H1 H' hos' h m1 w1 ((Act.put ⟨ct, []⟩ o.dst v').tmps) hst.hr (lrel.put (a := ⟨ct, []⟩) (ht.mono hst.le) hv) (fun a w' hp => by
       obtain ⟨p1, m2, p2, p3⟩ := hp
       exact hq _ _ ⟨p1, m2, hst.trans p2, p3⟩)
      have e : (Act.put ⟨ct, []⟩ o.dst v') = ⟨(Act.put ⟨ct, []⟩ o.dst v').tmps, []⟩ := by cases o.dst <;> rfl
      show wpOps P ops Q (List.range' (k + 1) os.length) (Act.put ⟨ct, []⟩ o.dst v') w1
      rw [e]; exact this
   ·rw [if_neg hcall] at h
    split at h
    ·simp at h
    ·rename_i v H1 hop
     simp only [Bool.false_and, Bool.false_eq_true, if_false] at hop
     obtain ⟨x, w1, m1, v', hrun, hx, hv, hst⟩ := op_sim (P := P) hr (Ev.of (ds := []) ht o.op.operands.toList) hop
     unfold Oper.wp
     rw [hrun]
     have key : wpOps P ops Q (List.range' (k + 1) os.length) (Act.put ⟨ct, []⟩ o.dst v') w1 := by
      have := ops_sim hcf hno (Q := Q) os (k + 1) _ tm' H1 H' hos' h m1 w1 ((Act.put ⟨ct, []⟩ o.dst v').tmps) hst.hr (lrel.put (a := ⟨ct, []⟩) (ht.mono hst.le) hv) (fun a w' hp => by
       obtain ⟨p1, m2, p2, p3⟩ := hp
       exact hq _ _ ⟨p1, m2, hst.trans p2, p3⟩)
      have e : (Act.put ⟨ct, []⟩ o.dst v') = ⟨(Act.put ⟨ct, []⟩ o.dst v').tmps, []⟩ := by cases o.dst <;> rfl
      rw [e]; exact this
     rcases hx with rfl | ⟨rfl, rfl⟩
     ·exact key
     ·exact key
  ·rw [if_neg hw] at h
   rw [if_neg hw]
   have := ops_sim hcf hno (Q := Q) os (k + 1) _ tm' H H' hos' h m w ((Act.put ⟨ct, []⟩ o.dst undef).tmps) hr (lrel.put (a := ⟨ct, []⟩) ht (vrel.undef m)) hq
   have e : (Act.put ⟨ct, []⟩ o.dst undef) = ⟨(Act.put ⟨ct, []⟩ o.dst undef).tmps, []⟩ := by cases o.dst <;> rfl
   rw [e]; exact this

theorem AHeap.lew.toLe {H H' : AHeap} (h : H.lew H.n H') : H.le H' := ⟨h.1, fun b hb => h.2 b hb hb⟩

theorem aOps_lew {cf : CallF} (hcf : ∀ wm f args H v H', cf wm f args H = some (v, H') → H.lew wm H') {draw : Bool} {ops : Array Oper} : ∀ (os : List Oper) (tm tm' : List Value) (H H' : AHeap), aOps P cf wm draw ops os tm H = some (tm', H') → H.lew wm H'
 | [], tm, tm', H, H', h => by simp [aOps] at h; obtain ⟨_, rfl⟩ := h; exact (H.le_refl).lew wm
 | o :: os, tm, tm', H, H', h => by
  unfold aOps at h
  split at h
  ·split at h
   ·split at h
    ·simp at h
    ·split at h
     ·simp at h
     ·rename_i v H1 hc
      have h1 : H.lew wm H1 := by
       cases draw with
       | false => exact hcf _ _ _ _ _ _ hc
       | true => exact ((hcf _ _ _ _ _ _ hc : H.lew H.n H1).toLe).lew wm
      exact AHeap.lew_trans h1 (aOps_lew hcf os _ _ _ _ h)
   ·split at h
    ·simp at h
    ·rename_i v H1 hop
     have h1 : H.lew wm H1 := by
      split at hop
      ·exact ((op_lew hop).toLe).lew wm
      ·exact op_lew hop
     exact AHeap.lew_trans h1 (aOps_lew hcf os _ _ _ _ h)
  ·exact aOps_lew hcf os _ _ _ _ h
end
end Go.Am

namespace Go.Am

/-- The edges that bind. -/
def bedges (o : Oper) : List Edge := o.after.toList.filter (Region.binds .any)
/-- The kind of an operation in its region. -/
def kindIn (ops : Array Oper) (op : Op) : Nat := if litBase ops op then 1 else kindOf op

/-- The masks of what must run ahead of each operation. -/
def maskOf (acc : List Nat) (es : List Edge) : Nat := es.foldr (fun e s => s ||| 2 ^ e.on ||| acc.getD e.on 0) 0
def masks : List Oper → List Nat → List Nat
 | [], acc => acc
 | o :: os, acc => masks os (acc ++ [maskOf acc (bedges o)])
def edgesOk : List Oper → Nat → Bool
 | [], _ => true
 | o :: os, i => (bedges o).all (fun e => decide (e.on < i)) && edgesOk os (i + 1)
/-- May two operations, the second behind the first in the text, be told apart by the order? -/
def free (ops : Array Oper) (x y : Oper) : Bool :=
 x.apart ops y && (kindIn ops x.op == 0 || kindIn ops y.op == 0 || (kindIn ops x.op == 1 && kindIn ops y.op == 1))
def pairsOk (ops : Array Oper) (ms : List Nat) : List Oper → Nat → List Oper → Bool
 | [], _, _ => true
 | y :: ys, j, before => before.zipIdx.all (fun (x, i) => (ms.getD j 0).testBit i || free ops x y) && pairsOk ops ms ys (j + 1) (before ++ [y])
def drawOk (ops : Array Oper) : Bool :=
 edgesOk ops.toList 0 && pairsOk ops (masks ops.toList []) ops.toList 0 []

/-- i must run ahead of j. -/
inductive Ord (ops : Array Oper) : Nat → Nat → Prop where
 | edge {i j : Nat} {o : Oper} {e : Edge} (h : ops[j]? = some o) (he : e ∈ bedges o) (hi : e.on = i) : Ord ops i j
 | step {i k j : Nat} {o : Oper} {e : Edge} (h : ops[j]? = some o) (he : e ∈ bedges o) (hk : e.on = k) (r : Ord ops i k) : Ord ops i j

theorem masks_len : ∀ (os : List Oper) (acc : List Nat), (masks os acc).length = acc.length + os.length
 | [], acc => by simp [masks]
 | o :: os, acc => by rw [masks, masks_len os]; simp; omega
theorem masks_pre : ∀ (os : List Oper) (acc : List Nat) (i : Nat), i < acc.length → (masks os acc)[i]? = acc[i]?
 | [], acc, i, h => rfl
 | o :: os, acc, i, h => by rw [masks, masks_pre os _ i (by simp; omega), List.getElem?_append_left h]

theorem maskOf_bit (acc : List Nat) (i : Nat) : ∀ (es : List Edge), (maskOf acc es).testBit i = true → ∃ e ∈ es, e.on = i ∨ (acc.getD e.on 0).testBit i = true
 | [], h => by simp [maskOf] at h
 | e :: es, h => by
  simp only [maskOf, List.foldr_cons, Nat.testBit_or, Bool.or_eq_true] at h
  rcases h with (h | h) | h
  ·obtain ⟨e', he', hh⟩ := maskOf_bit acc i es h
   exact ⟨e', by simp [he'], hh⟩
  ·refine ⟨e, by simp, .inl ?_⟩
   rw [Nat.testBit_two_pow] at h
   simpa using h
  ·exact ⟨e, by simp, .inr h⟩

theorem masks_ord (ops : Array Oper) : ∀ (os : List Oper) (acc : List Nat), ops.toList.drop acc.length = os → (∀ j i, j < acc.length → (acc.getD j 0).testBit i = true → Ord ops i j) → ∀ j i, ((masks os acc).getD j 0).testBit i = true → Ord ops i j
 | [], acc, _, hacc, j, i, h => by
  rw [masks] at h
  by_cases hj : j < acc.length
  ·exact hacc j i hj h
  ·rw [List.getD_eq_getElem?_getD, List.getElem?_eq_none (by omega)] at h; simp at h
 | o :: os, acc, hos, hacc, j, i, h => by
  have hk : ops[acc.length]? = some o := by
   have : (ops.toList.drop acc.length)[0]? = some o := by rw [hos]; rfl
   simpa using this
  have hos' : ops.toList.drop (acc ++ [maskOf acc (bedges o)]).length = os := by
   have : (ops.toList.drop acc.length).drop 1 = os := by rw [hos]; rfl
   rw [List.drop_drop] at this; simpa using this
  rw [masks] at h
  refine masks_ord ops os _ hos' (fun j' i' hj' hb => ?_) j i h
  by_cases hlt : j' < acc.length
  ·rw [List.getD_eq_getElem?_getD, List.getElem?_append_left hlt, ← List.getD_eq_getElem?_getD] at hb
   exact hacc j' i' hlt hb
  ·have : j' = acc.length := by simp at hj'; omega
   subst this
   rw [List.getD_eq_getElem?_getD, List.getElem?_append_right (Nat.le_refl _)] at hb
   simp at hb
   obtain ⟨e, he, hh⟩ := maskOf_bit acc i' _ hb
   rcases hh with hh | hh
   ·exact .edge hk he hh
   ·refine .step hk he rfl ?_
    by_cases hlt2 : e.on < acc.length
    ·exact hacc _ _ hlt2 hh
    ·rw [List.getD_eq_getElem?_getD, List.getElem?_eq_none (by omega)] at hh; simp at hh

theorem edgesOk_spec (ops : Array Oper) : ∀ (os : List Oper) (k : Nat), ops.toList.drop k = os → edgesOk os k = true → ∀ j o, k ≤ j → ops[j]? = some o → ∀ e ∈ bedges o, e.on < j
 | [], k, hos, _, j, o, hj, ho, e, he => by
  have : ops.size ≤ k := by have := congrArg List.length hos; simp at this; omega
  rw [Array.getElem?_eq_none (by omega)] at ho; simp at ho
 | x :: os, k, hos, h, j, o, hj, ho, e, he => by
  have hk : ops[k]? = some x := by
   have : (ops.toList.drop k)[0]? = some x := by rw [hos]; rfl
   simpa using this
  have hos' : ops.toList.drop (k + 1) = os := by
   have : (ops.toList.drop k).drop 1 = os := by rw [hos]; rfl
   rw [List.drop_drop] at this; exact this
  unfold edgesOk at h
  simp only [Bool.and_eq_true] at h
  by_cases hjk : j = k
  ·subst hjk
   rw [hk] at ho; simp at ho; subst ho
   have := (List.all_eq_true.1 h.1) e he
   simpa using this
  ·exact edgesOk_spec ops os (k + 1) hos' h.2 j o (by omega) ho e he

theorem pairsOk_spec (ops : Array Oper) (ms : List Nat) : ∀ (os : List Oper) (k : Nat) (bef : List Oper), ops.toList.drop k = os → bef = ops.toList.take k → k ≤ ops.size → pairsOk ops ms os k bef = true →
  ∀ i j x y, k ≤ j → i < j → ops[i]? = some x → ops[j]? = some y → (ms.getD j 0).testBit i = true ∨ free ops x y = true
 | [], k, bef, hos, hb, hk, _, i, j, x, y, hj, hij, hx, hy => by
  have : ops.size ≤ k := by have := congrArg List.length hos; simp at this; omega
  rw [Array.getElem?_eq_none (by omega)] at hy; simp at hy
 | z :: os, k, bef, hos, hb, hkn, h, i, j, x, y, hj, hij, hx, hy => by
  have hk : ops[k]? = some z := by
   have : (ops.toList.drop k)[0]? = some z := by rw [hos]; rfl
   simpa using this
  have hlt : k < ops.size := by
   rcases Nat.lt_or_ge k ops.size with h' | h'
   ·exact h'
   ·rw [Array.getElem?_eq_none h'] at hk; simp at hk
  have hos' : ops.toList.drop (k + 1) = os := by
   have : (ops.toList.drop k).drop 1 = os := by rw [hos]; rfl
   rw [List.drop_drop] at this; exact this
  unfold pairsOk at h
  simp only [Bool.and_eq_true] at h
  by_cases hjk : j = k
  ·subst hjk
   rw [hk] at hy; simp at hy; subst hy
   have hmem : (x, i) ∈ bef.zipIdx := by
    rw [List.mem_zipIdx_iff_getElem?, hb, List.getElem?_take, if_pos hij]
    simpa using hx
   have := (List.all_eq_true.1 h.1) _ hmem
   simpa using this
  ·refine pairsOk_spec ops ms os (k + 1) _ hos' ?_ (by omega) h.2 i j x y (by omega) hij hx hy
   rw [hb, List.take_add_one]
   have : ops.toList[k]? = some z := by simpa using hk
   rw [this]; rfl

/-- What a good region that draws promises. -/
theorem drawOk_spec {ops : Array Oper} (h : drawOk ops = true) :
  (∀ j o, ops[j]? = some o → ∀ e ∈ bedges o, e.on < j) ∧
  (∀ i j x y, i < j → ops[i]? = some x → ops[j]? = some y → Ord ops i j ∨ free ops x y = true) := by
 unfold drawOk at h
 simp only [Bool.and_eq_true] at h
 refine ⟨fun j o ho e he => edgesOk_spec ops ops.toList 0 (by simp) h.1 j o (Nat.zero_le _) ho e he, fun i j x y hij hx hy => ?_⟩
 rcases pairsOk_spec ops _ ops.toList 0 [] (by simp) (by simp) (Nat.zero_le _) h.2 i j x y (Nat.zero_le _) hij hx hy with hb | hf
 ·exact .inl (masks_ord ops ops.toList [] (by simp) (fun j i hj => by simp at hj) j i hb)
 ·exact .inr hf

/-- What a region that draws is asked for: a late load may be carried out behind a writing operation that stands behind it in the text. -/
structure DOk (ops : Array Oper) (late : Nat → Prop) : Prop where
 spec : (∀ j o, ops[j]? = some o → ∀ e ∈ bedges o, e.on < j) ∧
  (∀ i j x y, i < j → ops[i]? = some x → ops[j]? = some y → Ord ops i j ∨ (x.apart ops y = true ∧ (kindIn ops x.op = 0 ∨ kindIn ops y.op = 0 ∨ (kindIn ops x.op = 1 ∧ kindIn ops y.op = 1) ∨ late i)))
 one : ∀ i o, late i → ops[i]? = some o → kindIn ops o.op = 1 ∧ isCall o.op = false
theorem DOk.of {ops : Array Oper} (h : drawOk ops = true) : DOk ops (fun _ => False) := by
 obtain ⟨h1, h2⟩ := drawOk_spec h
 refine ⟨⟨h1, fun i j x y hij hx hy => ?_⟩, fun i o h => h.elim⟩
 rcases h2 i j x y hij hx hy with h | h
 ·exact .inl h
 ·refine .inr ?_
  unfold free at h
  simp only [Bool.and_eq_true, Bool.or_eq_true, beq_iff_eq] at h
  exact ⟨h.1, by rcases h.2 with (h | h) | h <;> simp_all⟩

theorem Ord.closed {ops : Array Oper} {S : Nat → Prop} (hc : ∀ j o, S j → ops[j]? = some o → ∀ e ∈ bedges o, S e.on) {i j : Nat} (h : Ord ops i j) : S j → S i := by
 induction h with
 | edge h he hi => intro hj; rw [← hi]; exact hc _ _ hj h _ he
 | step h he hk r ih => intro hj; exact ih (by rw [← hk]; exact hc _ _ hj h _ he)
theorem Ord.closed' {ops : Array Oper} {S : Nat → Prop} (hc : ∀ j o, S j → ops[j]? = some o → ∀ e ∈ bedges o, S e.on) {i j : Nat} (h : Ord ops i j) (hj : ∀ o, ops[j]? = some o → ∀ e ∈ bedges o, S e.on) : S i := by
 cases h with
 | edge h he hi => rw [← hi]; exact hj _ h _ he
 | step h he hk r => exact r.closed hc (by rw [← hk]; exact hj _ h _ he)
end Go.Am

namespace Go.Am

def Map.below (m : Map) (N : Nat) : Map := fun b => if b < N then m b else none
theorem Map.below_some {m : Map} {N b : Nat} {g : Img} : m.below N b = some g ↔ b < N ∧ m b = some g := by
 unfold Map.below
 by_cases h : b < N <;> simp [h]
theorem Map.below_mono {m m' : Map} (h : m.le m') {N N' : Nat} (hn : N ≤ N') : (m.below N).le (m'.below N') := fun b g hb => by
 rw [Map.below_some] at hb ⊢; exact ⟨by omega, h _ _ hb.2⟩
theorem Map.below_le (m : Map) (N : Nat) : (m.below N).le m := fun b g hb => (Map.below_some.1 hb).2

theorem HR.keep {B : Nat} {m : Map} {H : AHeap} {w w' : World} (h : HR B m H w) (hs : w.heap.size ≤ w'.heap.size) (hk : ∀ c, c < w.heap.size → w'.heap[c]? = w.heap[c]?) : HR B m H w' :=
 ⟨Nat.le_trans h.le hs, fun b g hb => ⟨(h.dom _ _ hb).1, Nat.lt_of_lt_of_le (h.dom _ _ hb).2 hs⟩, h.own, fun b o g hb hm => by rw [hk _ (h.dom _ _ hm).2]; exact h.obj _ _ _ hb hm, h.inj⟩

theorem HR.extend {B : Nat} {m : Map} {H H2 : AHeap} {w : World} (h : HR B m H w) (hl : H.le H2) : HR B m H2 w :=
 ⟨h.le, fun b g hb => ⟨Nat.lt_of_lt_of_le (h.dom _ _ hb).1 hl.1, (h.dom _ _ hb).2⟩, h.own, fun b o g hb hm => by rw [hl.2 _ (h.dom _ _ hm).1] at hb; exact h.obj _ _ _ hb hm,
 fun b b' g g' hne h1 h2 m1 m2 => by rw [hl.2 _ (h.dom _ _ m1).1] at h1; rw [hl.2 _ (h.dom _ _ m2).1] at h2; exact h.inj _ _ _ _ hne h1 h2 m1 m2⟩

theorem Stp.extend {B wm : Nat} {m m' : Map} {H H' H2 : AHeap} {w w' : World} (h : Stp B wm m H w m' H' w') (hl : H'.le H2) : Stp B wm m H w m' H2 w' :=
 ⟨h.hr.extend hl, h.le, h.new, Nat.le_trans h.nle hl.1, h.size, h.keep, fun c hc hw => by
  obtain ⟨b, g, hb, hmi, hm, hcc⟩ := hw
  rw [hl.2 _ (h.hr.dom _ _ hm).1] at hmi
  exact h.wr c hc ⟨b, g, hb, hmi, hm, hcc⟩, h.os, h.tape, h.output⟩

/-- A world in which every block stays, and blocks may come. -/
structure Kept (w w' : World) : Prop where
 size : w.heap.size ≤ w'.heap.size
 keep : ∀ c, c < w.heap.size → w'.heap[c]? = w.heap[c]?
 os : w'.os = w.os
 tape : w'.tape = w.tape
 output : w'.output = w.output

theorem Stp.kept {B wm : Nat} {m m' : Map} {H H' : AHeap} {w w' w'' : World} (h : Stp B wm m H w m' H' w') (k : Kept w' w'') : Stp B wm m H w m' H' w'' :=
 ⟨h.hr.keep k.size k.keep, h.le, h.new, h.nle, Nat.le_trans h.size k.size, fun c hc hw => by rw [k.keep _ (Nat.lt_of_lt_of_le hc h.size)]; exact h.keep c hc hw, h.wr, k.os.trans h.os, k.tape.trans h.tape, k.output.trans h.output⟩

/-- Under a mark that no block of the map reaches, a step keeps all. -/
theorem Stp.toKept {B wm : Nat} {m m' : Map} {H H' : AHeap} {w w' : World} (h : Stp B wm m H w m' H' w') (hm : ∀ b g, m b = some g → b < wm) : Kept w w' :=
 ⟨h.size, fun c hc => h.keep c hc (fun ⟨b, g, hb, _, hg, _⟩ => by have := hm _ _ hg; omega), h.os, h.tape, h.output⟩

section
variable {P : Program} {B wm : Nat} {cf : CallF} {ops : Array Oper} {late : Nat → Prop}

structure Trace (P : Program) (wm : Nat) (cf : CallF) (ops : Array Oper) (tmF : Nat → List Value) (HF : Nat → AHeap) (dF : Nat → Value) (k : Nat) : Prop where
 step : ∀ i o, k ≤ i → ops[i]? = some o →
  (Region.wanted o (gotB ops (tmF i)) = true ∧ ((isCall o.op = true ∧ ∃ f args, aCallee (tmF i) o.op = some (f, args) ∧ cf (HF i).n f args (HF i) = some (dF i, HF (i + 1))) ∨ (isCall o.op = false ∧ aOp P (if litBase ops o.op then (HF i).n else wm) (tmF i) (HF i) o.op = some (dF i, HF (i + 1))))) ∨
  (Region.wanted o (gotB ops (tmF i)) = false ∧ dF i = undef ∧ HF (i + 1) = HF i)
 put : ∀ i o, k ≤ i → ops[i]? = some o → tmF (i + 1) = putV (tmF i) o.dst (dF i)

theorem trace_of : ∀ (os : List Oper) (k : Nat) (tm tm' : List Value) (H H' : AHeap), ops.toList.drop k = os → k ≤ ops.size → aOps P cf wm true ops os tm H = some (tm', H') →
  ∃ tmF HF dF, Trace P wm cf ops tmF HF dF k ∧ tmF k = tm ∧ HF k = H ∧ tmF ops.size = tm' ∧ HF ops.size = H'
 | [], k, tm, tm', H, H', hos, hk, h => by
  simp [aOps] at h
  obtain ⟨rfl, rfl⟩ := h
  have hn : ops.size = k := by have := congrArg List.length hos; simp at this; omega
  refine ⟨fun _ => tm, fun _ => H, fun _ => undef, ⟨fun i o hi ho => ?_, fun i o hi ho => ?_⟩, rfl, rfl, rfl, rfl⟩
  ·rw [Array.getElem?_eq_none (by omega)] at ho; simp at ho
  ·rw [Array.getElem?_eq_none (by omega)] at ho; simp at ho
 | o :: os, k, tm, tm', H, H', hos, hk, h => by
  have hko : ops[k]? = some o := by
   have : (ops.toList.drop k)[0]? = some o := by rw [hos]; rfl
   simpa using this
  have hlt : k < ops.size := by
   rcases Nat.lt_or_ge k ops.size with h' | h'
   ·exact h'
   ·rw [Array.getElem?_eq_none h'] at hko; simp at hko
  have hos' : ops.toList.drop (k + 1) = os := by
   have : (ops.toList.drop k).drop 1 = os := by rw [hos]; rfl
   rw [List.drop_drop] at this; exact this
  have go : ∀ (v : Value) (H1 : AHeap), aOps P cf wm true ops os (putV tm o.dst v) H1 = some (tm', H') →
    ((Region.wanted o (gotB ops tm) = true ∧ ((isCall o.op = true ∧ ∃ f args, aCallee tm o.op = some (f, args) ∧ cf H.n f args H = some (v, H1)) ∨ (isCall o.op = false ∧ aOp P (if litBase ops o.op then H.n else wm) tm H o.op = some (v, H1)))) ∨ (Region.wanted o (gotB ops tm) = false ∧ v = undef ∧ H1 = H)) →
    ∃ tmF HF dF, Trace P wm cf ops tmF HF dF k ∧ tmF k = tm ∧ HF k = H ∧ tmF ops.size = tm' ∧ HF ops.size = H' := by
   intro v H1 hrest hstep
   obtain ⟨tmF, HF, dF, T, e1, e2, e3, e4⟩ := trace_of os (k + 1) _ _ _ _ hos' (by omega) hrest
   refine ⟨fun i => if i = k then tm else tmF i, fun i => if i = k then H else HF i, fun i => if i = k then v else dF i, ⟨fun i o' hi ho' => ?_, fun i o' hi ho' => ?_⟩, by simp, by simp, by simp [show ops.size ≠ k by omega, e3], by simp [show ops.size ≠ k by omega, e4]⟩
   ·by_cases hik : i = k
    ·subst hik
     rw [hko] at ho'; simp at ho'; subst ho'
     simp only [if_true, show i + 1 ≠ i by omega, if_false, e2]
     exact hstep
    ·simp only [hik, if_false, show i + 1 ≠ k by omega]
     exact T.step i o' (by omega) ho'
   ·by_cases hik : i = k
    ·subst hik
     rw [hko] at ho'; simp at ho'; subst ho'
     simp only [if_true, show i + 1 ≠ i by omega, if_false, e1]
    ·simp only [hik, if_false, show i + 1 ≠ k by omega]
     exact T.put i o' (by omega) ho'
  unfold aOps at h
  split at h
  ·rename_i hw
   split at h
   ·rename_i hcall
    split at h
    ·simp at h
    ·rename_i f args hcal
     split at h
     ·simp at h
     ·rename_i v H1 hc
      exact go v H1 h (.inl ⟨hw, .inl ⟨hcall, f, args, hcal, by simpa using hc⟩⟩)
   ·rename_i hcall
    split at h
    ·simp at h
    ·rename_i v H1 hop
     exact go v H1 h (.inl ⟨hw, .inr ⟨by simpa using hcall, by simpa using hop⟩⟩)
  ·rename_i hw
   exact go undef H h (.inr ⟨by simpa using hw, rfl, rfl⟩)

variable {tmF : Nat → List Value} {HF : Nat → AHeap} {dF : Nat → Value}

theorem kind_call {op : Op} (h : isCall op = true) : kindIn ops op = 1 := by
 unfold isCall at h
 split at h
 ·simp [kindIn, litBase, kindOf]
 ·simp at h

theorem kindIn_lit {op : Op} (h : litBase ops op = true) : kindIn ops op = 1 := by simp [kindIn, h]
theorem kindIn_non {op : Op} (h : litBase ops op = false) : kindIn ops op = kindOf op := by simp [kindIn, h]

theorem Trace.le (T : Trace P wm cf ops tmF HF dF 0) (hcf : CfOk P B cf) {i : Nat} {o : Oper} (ho : ops[i]? = some o) (hk : kindIn ops o.op ≠ 2) : (HF i).le (HF (i + 1)) := by
 rcases T.step i o (Nat.zero_le _) ho with ⟨_, ⟨hc, f, args, _, h⟩ | ⟨_, h⟩⟩ | ⟨_, _, h⟩
 ·obtain ⟨h1, h2⟩ := hcf.lew _ _ _ _ _ _ h
  exact ⟨h1, fun b hb => h2 b hb hb⟩
 ·cases hl : litBase ops o.op with
  | true =>
   rw [hl] at h
   exact AHeap.lew.toLe (op_lew h)
  | false =>
   rw [kindIn_non hl] at hk
   by_cases h0 : kindOf o.op = 0
   ·rw [(pure_op h0 h).1]; exact AHeap.le_refl _
   ·have h1 : kindOf o.op = 1 := by
     have : kindOf o.op ≤ 2 := by unfold kindOf; split <;> first | omega | (split <;> omega)
     omega
    exact (read_op h1 h).1
 ·rw [h]; exact AHeap.le_refl _

theorem Trace.n (T : Trace P wm cf ops tmF HF dF 0) (hcf : CfOk P B cf) {i : Nat} (hi : i < ops.size) : (HF i).n ≤ (HF (i + 1)).n := by
 have ho : ops[i]? = some ops[i] := Array.getElem?_eq_getElem hi
 rcases T.step i _ (Nat.zero_le _) ho with ⟨_, ⟨hc, f, args, _, h⟩ | ⟨_, h⟩⟩ | ⟨_, _, h⟩
 ·exact (hcf.lew _ _ _ _ _ _ h).1
 ·exact (op_lew h).1
 ·rw [h]; exact Nat.le_refl _

theorem Trace.nle (T : Trace P wm cf ops tmF HF dF 0) (hcf : CfOk P B cf) : ∀ {i j : Nat}, i ≤ j → j ≤ ops.size → (HF i).n ≤ (HF j).n := by
 intro i j hij hj
 induction j with
 | zero =>
  obtain rfl : i = 0 := by omega
  exact Nat.le_refl _
 | succ j ih =>
  by_cases h : i = j + 1
  ·subst h; exact Nat.le_refl _
  ·exact Nat.le_trans (ih (by omega) (by omega)) (T.n hcf (by omega))

theorem Trace.seg (T : Trace P wm cf ops tmF HF dF 0) (hcf : CfOk P B cf) {s q : Nat} (hseg : ∀ i o, s ≤ i → i < q → ops[i]? = some o → kindIn ops o.op ≠ 2) (hq : q ≤ ops.size) : ∀ {i j : Nat}, s ≤ i → i ≤ j → j ≤ q → (HF i).le (HF j) := by
 intro i j hs hij hj
 induction j with
 | zero =>
  obtain rfl : i = 0 := by omega
  exact AHeap.le_refl _
 | succ j ih =>
  by_cases h : i = j + 1
  ·subst h; exact AHeap.le_refl _
  ·have ho : ops[j]? = some ops[j] := Array.getElem?_eq_getElem (by omega)
   exact AHeap.le_trans (ih (by omega) (by omega)) (T.le hcf ho (hseg j _ (by omega) (by omega) ho))

theorem putV_len (tm : List Value) (d : Option Tmp) (v : Value) : (putV tm d v).length = tm.length := by cases d <;> simp [putV]

theorem Trace.len (T : Trace P wm cf ops tmF HF dF 0) : ∀ {i : Nat}, i ≤ ops.size → (tmF i).length = (tmF 0).length := by
 intro i hi
 induction i with
 | zero => rfl
 | succ i ih =>
  have ho : ops[i]? = some ops[i] := Array.getElem?_eq_getElem (by omega)
  rw [T.put i _ (Nat.zero_le _) ho, putV_len, ih (by omega)]

/-- The late loads bring the same later on. -/
def Late (P : Program) (ops : Array Oper) (late : Nat → Prop) (tmF : Nat → List Value) (HF : Nat → AHeap) (dF : Nat → Value) : Prop :=
 ∀ i o, late i → ops[i]? = some o → Region.wanted o (gotB ops (tmF i)) = true → ∀ k, i < k → k ≤ ops.size → (HF k).n = (HF (i + 1)).n ∧ ∀ wm2, aOp P wm2 (tmF i) (HF k) o.op = some (dF i, HF k)

/-- Where a run in some order stands: S has been carried out; between the writing operations s-1 and q. -/
structure Inv (B wm : Nat) (ops : Array Oper) (late : Nat → Prop) (tmF : Nat → List Value) (HF : Nat → AHeap) (m0 : Map) (w0 : World) (S : Nat → Prop) (s q : Nat) (m : Map) (ct : Array Value) (w : World) : Prop where
 sn : ∀ i, S i → i < ops.size
 closed : ∀ j o, S j → ops[j]? = some o → ∀ e ∈ bedges o, S e.on
 sq : s ≤ q
 qn : q ≤ ops.size
 b2 : ∀ i o, ops[i]? = some o → kindIn ops o.op = 2 → (S i ↔ i < q)
 qb : ∀ o, ops[q]? = some o → kindIn ops o.op = 2
 seg : ∀ i o, s ≤ i → i < q → ops[i]? = some o → kindIn ops o.op ≠ 2
 low : ∀ i o, i < s → ops[i]? = some o → kindIn ops o.op ≠ 0 → ¬ late i → S i
 hr : ∀ i, s ≤ i → i ≤ q → HR B (m.below (HF i).n) (HF i) w
 stp : Stp B wm m0 (HF 0) w0 m (HF q) w
 tms : ∀ t i, i ≤ ops.size → (∀ j o, ops[j]? = some o → o.dst = some t → (S j ↔ j < i)) → ∀ v, (tmF i)[t]? = some v → ∃ v', ct[t]? = some v' ∧ vrel (m.below (HF i).n) v v'
 len : ct.size = (tmF 0).length
 dom : ∀ b g, m b = some g → b < (HF 0).n ∨ ∃ i, S i ∧ (HF i).n ≤ b ∧ b < (HF (i + 1)).n

variable {m0 : Map} {w0 : World} {S : Nat → Prop} {s q : Nat} {m : Map} {ct : Array Value} {w : World}

/-- The slots that an operation looks at hold what they hold in the order of the text. -/
theorem Inv.reads (I : Inv B wm ops late tmF HF m0 w0 S s q m ct w) (hd : DOk ops late) {j : Nat} {o : Oper} (ho : ops[j]? = some o) (hj : ¬ S j) (hpre : ∀ e ∈ bedges o, S e.on) {t : Tmp} (ht : t ∈ o.looksAt ops) :
  ∀ k o', ops[k]? = some o' → o'.dst = some t → (S k ↔ k < j) := by
 intro k o' ho' hdst
 obtain ⟨_, hp⟩ := hd.spec
 rcases Nat.lt_trichotomy k j with h | h | h
 ·refine ⟨fun _ => h, fun _ => ?_⟩
  rcases hp k j o' o h ho' ho with hord | hf
  ·exact hord.closed' I.closed (fun o2 h2 => by rw [ho] at h2; simp at h2; subst h2; exact hpre)
  ·exact absurd ht ((Oper.apart_spec hf.1).1 t hdst)
 ·subst h
  exact ⟨fun h => absurd h hj, fun h => absurd h (Nat.lt_irrefl _)⟩
 ·refine ⟨fun hs => ?_, fun h' => by omega⟩
  rcases hp j k o o' h ho ho' with hord | hf
  ·exact absurd (hord.closed I.closed hs) hj
  ·exact absurd ht ((Oper.apart_spec hf.1).2.2 t hdst)

theorem Inv.slot (I : Inv B wm ops late tmF HF m0 w0 S s q m ct w) (T : Trace P wm cf ops tmF HF dF 0) (hd : DOk ops late) {j : Nat} {o : Oper} (ho : ops[j]? = some o) (hj : ¬ S j) (hpre : ∀ e ∈ bedges o, S e.on) {t : Tmp} (ht : t ∈ o.looksAt ops) :
  (∀ v, (tmF j)[t]? = some v → ∃ v', ct[t]? = some v' ∧ vrel (m.below (HF j).n) v v') ∧ ((tmF j)[t]? = none → ct[t]? = none) := by
 have hlt : j < ops.size := by
  rcases Nat.lt_or_ge j ops.size with h' | h'
  ·exact h'
  ·rw [Array.getElem?_eq_none h'] at ho; simp at ho
 refine ⟨I.tms t j (Nat.le_of_lt hlt) (I.reads hd ho hj hpre ht), fun h => ?_⟩
 rw [List.getElem?_eq_none_iff, T.len (Nat.le_of_lt hlt)] at h
 rw [Array.getElem?_eq_none_iff, I.len]; exact h

theorem Inv.ev (I : Inv B wm ops late tmF HF m0 w0 S s q m ct w) (T : Trace P wm cf ops tmF HF dF 0) (hd : DOk ops late) {j : Nat} {o : Oper} (ho : ops[j]? = some o) (hj : ¬ S j) (hpre : ∀ e ∈ bedges o, S e.on) :
  Ev (m.below (HF j).n) (tmF j) (Act.eval ⟨ct, []⟩) o.op.operands.toList := by
 intro x hx v hv
 cases x with
 | tmp t =>
  have hl : t ∈ o.looksAt ops := by
   unfold Oper.looksAt
   refine List.mem_append_left _ (List.mem_filterMap.2 ⟨_, hx, rfl⟩)
  obtain ⟨h1, h2⟩ := I.slot T hd ho hj hpre hl
  simp [Am.ev] at hv; subst hv
  simp only [Act.eval]
  rw [Array.getD_eq_getD_getElem?]
  cases hc : (tmF j)[t]? with
  | none => rw [h2 hc]; exact vrel.undef _
  | some u => obtain ⟨v', e, r⟩ := h1 u hc; rw [e]; exact r
 | const c => simp [Am.ev] at hv; obtain ⟨hv, rfl⟩ := hv; exact vrel.constOk _ hv
 | global g => simp [Am.ev] at hv
 | func f => simp [Am.ev] at hv; subst hv; exact .func' (lrel.nil _)

theorem Inv.wanted (I : Inv B wm ops late tmF HF m0 w0 S s q m ct w) (T : Trace P wm cf ops tmF HF dF 0) (hd : DOk ops late) {j : Nat} {o : Oper} (ho : ops[j]? = some o) (hj : ¬ S j) (hpre : ∀ e ∈ bedges o, S e.on) :
  Region.wanted o (gotB ops (tmF j)) = Region.wanted o (yielded ops ct) := by
 unfold Region.wanted
 split
 ·rfl
 ·rename_i g want hg
  rw [gotB_eq (m := m.below (HF j).n) g (fun t ht => I.slot T hd ho hj hpre (by
   unfold Oper.looksAt
   refine List.mem_append_right _ ?_
   simp [hg, ht]))]

/-- Behind an operation that has been carried out. -/
theorem Inv.fin (I : Inv B wm ops late tmF HF m0 w0 S s q m ct w) (T : Trace P wm cf ops tmF HF dF 0) (hcf : CfOk P B cf) (hd : DOk ops late) {j : Nat} {o : Oper} (ho : ops[j]? = some o) (hj : ¬ S j) (hpre : ∀ e ∈ bedges o, S e.on)
  {m' : Map} {v' : Value} {w' : World} {s' q' : Nat} (hle : m.le m') (hv : vrel (m'.below (HF (j + 1)).n) (dF j) v') (hnew : ∀ b g, m' b = some g → m b = some g ∨ ((HF j).n ≤ b ∧ b < (HF (j + 1)).n))
  (sq : s' ≤ q') (qn : q' ≤ ops.size) (b2 : ∀ i o, ops[i]? = some o → kindIn ops o.op = 2 → ((S i ∨ i = j) ↔ i < q')) (qb : ∀ o, ops[q']? = some o → kindIn ops o.op = 2) (seg : ∀ i o, s' ≤ i → i < q' → ops[i]? = some o → kindIn ops o.op ≠ 2)
  (low : ∀ i o, i < s' → ops[i]? = some o → kindIn ops o.op ≠ 0 → ¬ late i → (S i ∨ i = j)) (hr : ∀ i, s' ≤ i → i ≤ q' → HR B (m'.below (HF i).n) (HF i) w') (stp : Stp B wm m0 (HF 0) w0 m' (HF q') w') :
  Inv B wm ops late tmF HF m0 w0 (fun i => S i ∨ i = j) s' q' m' (Act.put ⟨ct, []⟩ o.dst v').tmps w' := by
 have hlt : j < ops.size := by
  rcases Nat.lt_or_ge j ops.size with h' | h'
  ·exact h'
  ·rw [Array.getElem?_eq_none h'] at ho; simp at ho
 obtain ⟨_, hp⟩ := hd.spec
 refine ⟨fun i hi => ?_, fun k o' hk hk' e he => ?_, sq, qn, b2, qb, seg, low, hr, stp, fun t i hi hwr v hvt => ?_, ?_, fun b g hb => ?_⟩
 ·rcases hi with hi | rfl
  ·exact I.sn i hi
  ·exact hlt
 ·rcases hk with hk | rfl
  ·exact .inl (I.closed k o' hk hk' e he)
  ·rw [ho] at hk'; simp at hk'; subst hk'; exact .inl (hpre e he)
 ·by_cases hdt : o.dst = some t
  ·-- the slot that was written
   have hji : j < i := (hwr j o ho hdt).1 (.inr rfl)
   have hno : ∀ k o', j < k → ops[k]? = some o' → o'.dst = some t → ¬ k < i := by
    intro k o' hjk hk hkd hki
    have hs := (hwr k o' hk hkd).2 hki
    rcases hs with hs | rfl
    ·rcases hp j k o o' hjk ho hk with hord | hf
     ·exact hj (hord.closed I.closed hs)
     ·exact (Oper.apart_spec hf.1).2.1 t hdt hkd
    ·omega
   have hsame : ∀ k, j + 1 ≤ k → k ≤ i → (tmF k)[t]? = (tmF (j + 1))[t]? := by
    intro k hk hki
    induction k with
    | zero => omega
    | succ k ih =>
     by_cases hkj : k = j
     ·subst hkj; rfl
     ·have hok : ops[k]? = some ops[k] := Array.getElem?_eq_getElem (by omega)
      rw [T.put k _ (Nat.zero_le _) hok, ← ih (by omega) (by omega)]
      cases hdk : (ops[k]).dst with
      | none => rfl
      | some t' =>
       have : t' ≠ t := fun e => hno k _ (by omega) hok (by rw [hdk, e]) (by omega)
       simp only [putV]
       rw [List.getElem?_set_ne this]
   rw [hsame i (by omega) (Nat.le_refl _), T.put j o (Nat.zero_le _) ho, hdt] at hvt
   simp only [putV] at hvt
   have htl : t < (tmF j).length := by
    rcases Nat.lt_or_ge t (tmF j).length with h' | h'
    ·exact h'
    ·rw [List.getElem?_eq_none (by simpa using h')] at hvt; simp at hvt
   rw [List.getElem?_set_self htl] at hvt
   simp at hvt; subst hvt
   refine ⟨v', ?_, hv.mono (Map.below_mono m'.le_refl (T.nle hcf (by omega) hi))⟩
   rw [hdt]
   have : t < ct.size := by rw [I.len, ← T.len (Nat.le_of_lt hlt)]; exact htl
   simp [Act.put, this]
  ·have hwr' : ∀ k o', ops[k]? = some o' → o'.dst = some t → (S k ↔ k < i) := fun k o' hk hkd => by
    have hkj : k ≠ j := fun e => by subst e; rw [ho] at hk; simp at hk; subst hk; exact hdt hkd
    rw [← hwr k o' hk hkd]
    exact ⟨fun h => .inl h, fun h => h.resolve_right hkj⟩
   obtain ⟨v'', h1, h2⟩ := I.tms t i hi hwr' v hvt
   refine ⟨v'', ?_, h2.mono (Map.below_mono hle (Nat.le_refl _))⟩
   cases hdk : o.dst with
   | none => exact h1
   | some t' =>
    have : t' ≠ t := fun e => hdt (by rw [hdk, e])
    simp only [Act.put]
    rw [Array.getElem?_setIfInBounds_ne this]; exact h1
 ·cases o.dst <;> simp [Act.put, I.len]
 ·rcases hnew b g hb with h | h
  ·rcases I.dom b g h with h | ⟨i, hi, h⟩
   ·exact .inl h
   ·exact .inr ⟨i, .inl hi, h⟩
  ·exact .inr ⟨j, .inr rfl, h⟩
end
end Go.Am

namespace Go.Am
section
variable {P : Program} {B wm : Nat} {cf : CallF} {ops : Array Oper} {late : Nat → Prop} {tmF : Nat → List Value} {HF : Nat → AHeap} {dF : Nat → Value} {m0 : Map} {w0 : World} {S : Nat → Prop} {s q : Nat} {m : Map} {ct : Array Value} {w : World}

/-- Where the next writing operation stands. -/
theorem next_two (ops : Array Oper) : ∀ (d k : Nat), k + d = ops.size → ∃ q, k ≤ q ∧ q ≤ ops.size ∧ (∀ o, ops[q]? = some o → kindIn ops o.op = 2) ∧ ∀ i o, k ≤ i → i < q → ops[i]? = some o → kindIn ops o.op ≠ 2
 | 0, k, h => ⟨k, Nat.le_refl _, by omega, fun o ho => by rw [Array.getElem?_eq_none (by omega)] at ho; simp at ho, fun i o h1 h2 => by omega⟩
 | d + 1, k, h => by
  have ho : ops[k]? = some ops[k] := Array.getElem?_eq_getElem (by omega)
  by_cases hk : kindIn ops (ops[k]).op = 2
  ·exact ⟨k, Nat.le_refl _, by omega, fun o h => by rw [ho] at h; simp at h; subst h; exact hk, fun i o h1 h2 => by omega⟩
  ·obtain ⟨q, h1, h2, h3, h4⟩ := next_two ops d (k + 1) (by omega)
   refine ⟨q, by omega, h2, h3, fun i o hi hq hio => ?_⟩
   by_cases hik : i = k
   ·subst hik; rw [ho] at hio; simp at hio; subst hio; exact hk
   ·exact h4 i o (by omega) hq hio

theorem kind_le (op : Op) : kindIn ops op ≤ 2 := by unfold kindIn; split <;> first | omega | (unfold kindOf; split <;> first | omega | (split <;> omega))

/-- Behind an operation that writes nothing that was there. -/
theorem Inv.quiet (I : Inv B wm ops late tmF HF m0 w0 S s q m ct w) (T : Trace P wm cf ops tmF HF dF 0) (hcf : CfOk P B cf) (hd : DOk ops late) {j : Nat} {o : Oper} (ho : ops[j]? = some o) (hj : ¬ S j) (hpre : ∀ e ∈ bedges o, S e.on)
  (hk : kindIn ops o.op ≠ 2) {v' : Value} {w' : World} (hw : Kept w w') (hv : vrel (m.below (HF (j + 1)).n) (dF j) v') :
  Inv B wm ops late tmF HF m0 w0 (fun i => S i ∨ i = j) s q m (Act.put ⟨ct, []⟩ o.dst v').tmps w' :=
 I.fin T hcf hd ho hj hpre m.le_refl hv (fun b g h => .inl h) I.sq I.qn
  (fun i o' hi h2 => by
   rw [← I.b2 i o' hi h2]
   exact ⟨fun h => h.resolve_right (fun e => by subst e; rw [ho] at hi; simp at hi; subst hi; exact hk h2), .inl⟩)
  I.qb I.seg (fun i o' hi h h0 hn => .inl (I.low i o' hi h h0 hn)) (fun i h1 h2 => (I.hr i h1 h2).keep hw.size hw.keep) (I.stp.kept hw)

theorem Inv.lt (I : Inv B wm ops late tmF HF m0 w0 S s q m ct w) (hd : DOk ops late) {j : Nat} {o : Oper} (ho : ops[j]? = some o) (hj : ¬ S j) (hpre : ∀ e ∈ bedges o, S e.on) (hk : kindIn ops o.op ≠ 0) : (¬ late j → s ≤ j) ∧ j ≤ q := by
 obtain ⟨_, hp⟩ := hd.spec
 refine ⟨fun hn => Nat.le_of_not_lt (fun h => hj (I.low j o h ho hk hn)), Nat.le_of_not_lt (fun h => ?_)⟩
 have hlt : j < ops.size := by
  rcases Nat.lt_or_ge j ops.size with h' | h'
  ·exact h'
  ·rw [Array.getElem?_eq_none h'] at ho; simp at ho
 have hq : ops[q]? = some ops[q] := Array.getElem?_eq_getElem (by omega)
 have hq2 := I.qb _ hq
 rcases hp q j _ o h hq ho with hord | hf
 ·have : S q := hord.closed' I.closed (fun o2 h2 => by rw [ho] at h2; simp at h2; subst h2; exact hpre)
  exact absurd ((I.b2 q _ hq hq2).1 this) (Nat.lt_irrefl _)
 ·have := hf.2
  have h1 : ¬ late q := fun hl => by have := (hd.one q _ hl hq).1; omega
  simp only [h1, or_false] at this
  omega

theorem Inv.mdom (I : Inv B wm ops late tmF HF m0 w0 S s q m ct w) : ∀ b g, m b = some g → b < (HF q).n := fun b g h => (I.stp.hr.dom b g h).1

/-- Behind an operation that reads, or makes new blocks. -/
theorem Inv.reading (I : Inv B wm ops late tmF HF m0 w0 S s q m ct w) (T : Trace P wm cf ops tmF HF dF 0) (hcf : CfOk P B cf) (hd : DOk ops late) {j : Nat} {o : Oper} (ho : ops[j]? = some o) (hj : ¬ S j) (hpre : ∀ e ∈ bedges o, S e.on)
  (hk : kindIn ops o.op = 1) (hsj : s ≤ j) {v' : Value} {w' : World} {m1 : Map} (hst : Stp B (HF j).n (m.below (HF j).n) (HF j) w m1 (HF (j + 1)) w') (hv : vrel m1 (dF j) v') :
  ∃ m', Inv B wm ops late tmF HF m0 w0 (fun i => S i ∨ i = j) s q m' (Act.put ⟨ct, []⟩ o.dst v').tmps w' := by
 obtain ⟨_, hjq⟩ := I.lt hd ho hj hpre (by omega)
 have hjq' : j < q := by
  rcases Nat.lt_or_ge j q with h | h
  ·exact h
  ·have : j = q := by omega
   subst this; have := I.qb o ho; omega
 have hjn : j < ops.size := Nat.lt_of_lt_of_le hjq' I.qn
 have hkept : Kept w w' := hst.toKept (fun b g h => (Map.below_some.1 h).1)
 have hm1lo : ∀ b, b < (HF j).n → m1 b = m b := fun b hb => by
  cases hm : m b with
  | some g => exact hst.le b g (Map.below_some.2 ⟨hb, hm⟩)
  | none =>
   cases h1 : m1 b with
   | none => rfl
   | some g =>
    rcases hst.new b g h1 with h | h
    ·rw [Map.below_some] at h; rw [hm] at h; simp at h
    ·omega
 have hm1hi : ∀ b g, m1 b = some g → b < (HF (j + 1)).n := fun b g h => (hst.hr.dom b g h).1
 have hfree : ∀ b, (HF j).n ≤ b → b < (HF (j + 1)).n → m b = none := fun b h1 h2 => by
  cases hm : m b with
  | none => rfl
  | some g =>
   rcases I.dom b g hm with h | ⟨i, hi, h3, h4⟩
   ·have := T.nle hcf (i := 0) (j := j) (Nat.zero_le _) (by omega); omega
   ·have hij : i ≠ j := fun e => hj (by rw [← e]; exact hi)
    have hin := I.sn i hi
    rcases Nat.lt_or_ge i j with hlt | hge
    ·have := T.nle hcf (i := i + 1) (j := j) (by omega) (by omega); omega
    ·have := T.nle hcf (i := j + 1) (j := i) (by omega) (by omega); omega
 let m' : Map := fun b => if (HF j).n ≤ b ∧ b < (HF (j + 1)).n then m1 b else m b
 have hm'new : ∀ b, (HF j).n ≤ b → b < (HF (j + 1)).n → m' b = m1 b := fun b h1 h2 => if_pos ⟨h1, h2⟩
 have hm'old : ∀ b, ¬ ((HF j).n ≤ b ∧ b < (HF (j + 1)).n) → m' b = m b := fun b h => if_neg h
 have hle : m.le m' := fun b g h => by
  by_cases hb : (HF j).n ≤ b ∧ b < (HF (j + 1)).n
  ·rw [hfree b hb.1 hb.2] at h; simp at h
  ·rw [hm'old b hb]; exact h
 have hnew : ∀ b g, m' b = some g → m b = some g ∨ ((HF j).n ≤ b ∧ b < (HF (j + 1)).n) := fun b g h => by
  by_cases hb : (HF j).n ≤ b ∧ b < (HF (j + 1)).n
  ·exact .inr hb
  ·rw [hm'old b hb] at h; exact .inl h
 have hm1le : m1.le (m'.below (HF (j + 1)).n) := fun b g h => by
  have hb := hm1hi b g h
  rw [Map.below_some]
  refine ⟨hb, ?_⟩
  by_cases hb2 : (HF j).n ≤ b
  ·rw [hm'new b hb2 hb]; exact h
  ·rw [hm'old b (fun h => hb2 h.1), ← hm1lo b (by omega)]; exact h
 -- new blocks of the call's own lie behind all old ones
 have hfresh : ∀ b g, (HF j).n ≤ b → m1 b = some g → mine ((HF (j + 1)).get b) = true → w.heap.size ≤ g.c := fun b g hb h hmi => by
  refine Nat.le_of_not_lt (fun hlt => ?_)
  obtain ⟨b2, g2, h2, _, hg2, _⟩ := hst.wr g.c hlt ⟨b, g, hb, hmi, h, rfl⟩
  have := (Map.below_some.1 hg2).1; omega
 have hHR : ∀ i, s ≤ i → i ≤ q → HR B (m'.below (HF i).n) (HF i) w' := fun i hi hiq => by
  have hI := (I.hr i hi hiq).keep hkept.size hkept.keep
  by_cases hij : i ≤ j
  ·have hn := T.nle hcf hij (by omega)
   have e : m'.below (HF i).n = m.below (HF i).n := by
    funext b
    unfold Map.below
    by_cases hb : b < (HF i).n
    ·rw [if_pos hb, if_pos hb, hm'old b (by omega)]
    ·rw [if_neg hb, if_neg hb]
   rw [e]; exact hI
  ·have hle1 : (HF (j + 1)).le (HF i) := T.seg hcf I.seg I.qn (by omega) (by omega) hiq
   have hmle : (m.below (HF i).n).le (m'.below (HF i).n) := Map.below_mono hle (Nat.le_refl _)
   have hm1le' : m1.le (m'.below (HF i).n) := fun b g h => Map.below_mono (Map.le_refl m') hle1.1 b g (hm1le b g h)
   have split : ∀ b g, m'.below (HF i).n b = some g → (m.below (HF i).n) b = some g ∨ ((HF j).n ≤ b ∧ b < (HF (j + 1)).n ∧ m1 b = some g) := fun b g h => by
    obtain ⟨h1, h2⟩ := Map.below_some.1 h
    by_cases hb : (HF j).n ≤ b ∧ b < (HF (j + 1)).n
    ·rw [hm'new b hb.1 hb.2] at h2; exact .inr ⟨hb.1, hb.2, h2⟩
    ·rw [hm'old b hb] at h2; exact .inl (Map.below_some.2 ⟨h1, h2⟩)
   refine ⟨hI.le, fun b g h => ?_, fun b g h => ?_, fun b o' g hb h => ?_, fun b b' g g' hne h1 h2 k1 k2 => ?_⟩
   ·rcases split b g h with h | ⟨h1, h2, h3⟩
    ·exact hI.dom b g h
    ·have := hst.hr.dom b g h3; exact ⟨Nat.lt_of_lt_of_le this.1 hle1.1, this.2⟩
   ·rcases split b g h with h | ⟨h1, h2, h3⟩
    ·exact hI.own b g h
    ·exact hst.hr.own b g h3
   ·rcases split b g h with h | ⟨h1, h2, h3⟩
    ·exact (hI.obj b o' g hb h).mono hmle
    ·rw [hle1.2 b h2] at hb
     exact (hst.hr.obj b o' g hb h3).mono hm1le'
   ·rcases split b g k1 with k1 | ⟨a1, a2, a3⟩
    ·rcases split b' g' k2 with k2 | ⟨c1, c2, c3⟩
     ·exact hI.inj b b' g g' hne h1 h2 k1 k2
     ·rw [hle1.2 b' c2] at h2
      have := hfresh b' g' c1 c3 h2
      have := ((I.hr i hi hiq).dom b g k1).2
      omega
    ·rw [hle1.2 b a2] at h1
     have hf1 := hfresh b g a1 a3 h1
     rcases split b' g' k2 with k2 | ⟨c1, c2, c3⟩
     ·have := ((I.hr i hi hiq).dom b' g' k2).2
      omega
     ·rw [hle1.2 b' c2] at h2
      exact hst.hr.inj b b' g g' hne h1 h2 a3 c3
 have hq := hHR q I.sq (Nat.le_refl _)
 have e : m'.below (HF q).n = m' := by
  funext b
  unfold Map.below
  by_cases hb : b < (HF q).n
  ·rw [if_pos hb]
  ·rw [if_neg hb]
   cases hm : m' b with
   | none => rfl
   | some g =>
    rcases hnew b g hm with h | ⟨h1, h2⟩
    ·exact absurd (I.mdom b g h) hb
    ·have := T.nle hcf (i := j + 1) (j := q) (by omega) I.qn; omega
 rw [e] at hq
 have hstp : Stp B wm m0 (HF 0) w0 m' (HF q) w' := by
  refine ⟨hq, Map.le_trans I.stp.le hle, fun b g h => ?_, I.stp.nle, Nat.le_trans I.stp.size hkept.size, fun c hc hn => ?_, fun c hc hw => ?_, hkept.os.trans I.stp.os, hkept.tape.trans I.stp.tape, hkept.output.trans I.stp.output⟩
  ·rcases hnew b g h with h | ⟨h1, h2⟩
   ·exact I.stp.new b g h
   ·have := T.nle hcf (i := 0) (j := j) (Nat.zero_le _) (by omega); exact .inr (by omega)
  ·rw [hkept.keep c (Nat.lt_of_lt_of_le hc I.stp.size), I.stp.keep c hc hn]
  ·obtain ⟨b, g, hb, hmi, hm, hcc⟩ := hw
   by_cases hb2 : (HF j).n ≤ b ∧ b < (HF (j + 1)).n
   ·rw [hm'new b hb2.1 hb2.2] at hm
    rw [(T.seg hcf I.seg I.qn (i := j + 1) (j := q) (by omega) (by omega) (Nat.le_refl _)).2 b hb2.2] at hmi
    have := hfresh b g hb2.1 hm hmi
    have := I.stp.size
    omega
   ·rw [hm'old b hb2] at hm
    exact I.stp.wr c hc ⟨b, g, hb, hmi, hm, hcc⟩
 refine ⟨m', I.fin T hcf hd ho hj hpre hle (hv.mono hm1le) hnew I.sq I.qn (fun i o' hi h2 => ?_) I.qb I.seg (fun i o' hi h h0 hn => .inl (I.low i o' hi h h0 hn)) hHR hstp⟩
 rw [← I.b2 i o' hi h2]
 exact ⟨fun h => h.resolve_right (fun e => by subst e; rw [ho] at hi; simp at hi; subst hi; omega), .inl⟩

/-- Behind an operation that writes. -/
theorem Inv.writing (I : Inv B wm ops late tmF HF m0 w0 S s q m ct w) (T : Trace P wm cf ops tmF HF dF 0) (hcf : CfOk P B cf) (hd : DOk ops late) {j : Nat} {o : Oper} (ho : ops[j]? = some o) (hj : ¬ S j) (hpre : ∀ e ∈ bedges o, S e.on)
  (hk : kindIn ops o.op = 2) {v' : Value} {w' : World} {m1 : Map} (hst : Stp B wm m (HF j) w m1 (HF (j + 1)) w') (hv : vrel m1 (dF j) v') :
  ∃ s' q', Inv B wm ops late tmF HF m0 w0 (fun i => S i ∨ i = j) s' q' m1 (Act.put ⟨ct, []⟩ o.dst v').tmps w' := by
 obtain ⟨hsj, hjq⟩ := I.lt hd ho hj hpre (by omega)
 replace hsj := hsj (fun hl => by have := (hd.one j _ hl ho).1; omega)
 have hjq' : j = q := by
  rcases Nat.lt_or_ge j q with h | h
  ·exact absurd ((I.b2 j o ho hk).2 h) hj
  ·omega
 subst hjq'
 have hlt : j < ops.size := by
  rcases Nat.lt_or_ge j ops.size with h' | h'
  ·exact h'
  ·rw [Array.getElem?_eq_none h'] at ho; simp at ho
 obtain ⟨_, hp⟩ := hd.spec
 obtain ⟨q', h1, h2, h3, h4⟩ := next_two ops (ops.size - (j + 1)) (j + 1) (by omega)
 have hseg : ∀ i, j + 1 ≤ i → i ≤ q' → (HF (j + 1)).le (HF i) := fun i hi hiq => T.seg hcf h4 h2 (Nat.le_refl _) hi hiq
 have hbel : ∀ i, j + 1 ≤ i → i ≤ q' → m1.below (HF i).n = m1 := fun i hi hiq => by
  funext b
  unfold Map.below
  by_cases hb : b < (HF i).n
  ·rw [if_pos hb]
  ·rw [if_neg hb]
   cases hm : m1 b with
   | none => rfl
   | some g => have := (hst.hr.dom b g hm).1; have := (hseg i hi hiq).1; omega
 refine ⟨j + 1, q', I.fin T hcf hd ho hj hpre hst.le ?_ (fun b g h => ?_) h1 h2 (fun i o' hi hk2 => ?_) h3 h4 (fun i o' hi hio h0 hnl => ?_) (fun i hi hiq => ?_) ?_⟩
 ·rw [hbel (j + 1) (Nat.le_refl _) h1]; exact hv
 ·rcases hst.new b g h with h' | h'
  ·exact .inl h'
  ·exact .inr ⟨h', (hst.hr.dom b g h).1⟩
 ·constructor
  ·rintro (h | rfl)
   ·have := (I.b2 i o' hi hk2).1 h; omega
   ·omega
  ·intro h
   by_cases hij : i < j
   ·exact .inl ((I.b2 i o' hi hk2).2 hij)
   ·by_cases e : i = j
    ·exact .inr e
    ·exact absurd hk2 (h4 i o' (by omega) h hi)
 ·by_cases e : i = j
  ·exact .inr e
  ·refine .inl ?_
   by_cases his : i < s
   ·exact I.low i o' his hio h0 hnl
   ·rcases hp i j o' o (by omega) hio ho with hord | hf
    ·exact hord.closed' I.closed (fun o2 h2 => by rw [ho] at h2; simp at h2; subst h2; exact hpre)
    ·have := hf.2; simp only [hnl, or_false] at this; omega
 ·rw [hbel i hi hiq]; exact hst.hr.extend (hseg i hi hiq)
 ·exact (I.stp.trans hst).extend (hseg q' h1 (Nat.le_refl _))

/-- One operation, whichever is ready. -/
theorem Inv.step (I : Inv B wm ops late tmF HF m0 w0 S s q m ct w) (T : Trace P wm cf ops tmF HF dF 0) (hcf : CfOk P B cf) (hno : NoOwn P) (hd : DOk ops late) (hL : Late P ops late tmF HF dF) {j : Nat} {o : Oper} (ho : ops[j]? = some o) (hj : ¬ S j) (hpre : ∀ e ∈ bedges o, S e.on)
  {Q : Exit → Act → World → Prop} {K : Act → World → Prop} (hK : ∀ s' q' m' ct' w', Inv B wm ops late tmF HF m0 w0 (fun i => S i ∨ i = j) s' q' m' ct' w' → K ⟨ct', []⟩ w') : wpOp P ops Q j K ⟨ct, []⟩ w := by
 have hlt : j < ops.size := by
  rcases Nat.lt_or_ge j ops.size with h' | h'
  ·exact h'
  ·rw [Array.getElem?_eq_none h'] at ho; simp at ho
 have hev := I.ev T hd ho hj hpre
 have hwant := I.wanted T hd ho hj hpre
 have eput : ∀ v', (Act.put ⟨ct, []⟩ o.dst v') = ⟨(Act.put ⟨ct, []⟩ o.dst v').tmps, []⟩ := fun v' => by cases o.dst <;> rfl
 unfold wpOp
 simp only [ho]
 rcases T.step j o (Nat.zero_le _) ho with ⟨hw, hstep⟩ | ⟨hw, hdv, hH⟩
 ·rw [hwant] at hw
  rw [if_pos hw]
  refine .inl ?_
  unfold Oper.wp
  rcases hstep with ⟨hcall, f, args, hcal, hc⟩ | ⟨hcall, hop⟩
  ·-- a call
   have hk := kind_call (ops := ops) hcall
   obtain ⟨hsj, hjq⟩ := I.lt hd ho hj hpre (by omega)
   replace hsj := hsj (fun hl => by have := (hd.one j _ hl ho).2; rw [hcall] at this; simp at this)
   obtain ⟨cargs, hargs, hrun⟩ := call_run (P := P) (w := w) hev hcal (hcf.fn _ _ _ _ _ _ hc) hno
   rw [hrun]
   simp only [Oper.upon]
   refine (hcf.sim _ _ _ _ _ _ hc _ w cargs (I.hr j hsj hjq) hargs).mono ?_
   rintro e w1 ⟨v', m1, rfl, hv, hst⟩
   obtain ⟨m', I'⟩ := I.reading T hcf hd ho hj hpre hk hsj hst hv
   show K (Act.put ⟨ct, []⟩ o.dst v') w1
   rw [eput]; exact hK _ _ _ _ _ I'
  ·-- an operation
   by_cases h0 : kindIn ops o.op = 0
   ·have hl : litBase ops o.op = false := by
     cases hl : litBase ops o.op with
     | true => rw [kindIn_lit hl] at h0; omega
     | false => rfl
    obtain ⟨e1, e2⟩ := pure_op (by rw [← kindIn_non hl]; exact h0) hop
    have hHR : HR B (m.below (HF j).n) ⟨(HF j).n, .leaf⟩ w := by
     have hall := I.stp.hr
     refine ⟨hall.le, fun b g h => ?_, fun b g h => hall.own b g (Map.below_some.1 h).2, fun b o' g hb => by simp [AHeap.get, Tr.get] at hb, fun b b' g g' _ h1 => by simp [AHeap.get, Tr.get, mine] at h1⟩
     obtain ⟨h1, h2⟩ := Map.below_some.1 h
     exact ⟨h1, (hall.dom b g h2).2⟩
    obtain ⟨x, w1, m1, v', hrun, hx, hv, hst⟩ := op_sim (P := P) hHR hev (e2 (HF j).n ⟨(HF j).n, .leaf⟩)
    rw [hrun]
    have hm1 : m1.le (m.below (HF j).n) := fun b g h => by
     rcases hst.new b g h with h' | h'
     ·exact h'
     ·have := (hst.hr.dom b g h).1; simp at this h'; omega
    have I' := I.quiet T hcf hd ho hj hpre (by omega) (hst.toKept (fun b g h => (Map.below_some.1 h).1)) (v' := v') (by rw [e1]; exact hv.mono hm1)
    have hk : K (Act.put ⟨ct, []⟩ o.dst v') w1 := by rw [eput]; exact hK _ _ _ _ _ I'
    rcases hx with rfl | ⟨rfl, rfl⟩ <;> exact hk
   ·by_cases h1 : kindIn ops o.op = 1
    ·obtain ⟨hsj, hjq⟩ := I.lt hd ho hj hpre (by omega)
     by_cases hjs : j < s
     ·-- a late load
      have hlj : late j := Classical.byContradiction fun h => by have := hsj h; omega
      obtain ⟨hn, hop2⟩ := hL j o hlj ho (by rw [hwant]; exact hw) s hjs (Nat.le_trans I.sq I.qn)
      have hn2 := T.nle hcf (i := j) (j := j + 1) (by omega) (by omega)
      have hev2 : Ev (m.below (HF s).n) (tmF j) (Act.eval ⟨ct, []⟩) o.op.operands.toList := fun x hx v hv => (hev x hx v hv).mono (Map.below_mono m.le_refl (by omega))
      obtain ⟨x, w1, m1, v', hrun, hx, hv, hst⟩ := op_sim (P := P) (I.hr s (Nat.le_refl _) I.sq) hev2 (hop2 (HF s).n)
      rw [hrun]
      have hm1 : m1.le (m.below (HF (j + 1)).n) := fun b g h => by
       rw [← hn]
       rcases hst.new b g h with h' | h'
       ·exact h'
       ·have := (hst.hr.dom b g h).1; omega
      have I' := I.quiet T hcf hd ho hj hpre (by omega) (hst.toKept (fun b g h => (Map.below_some.1 h).1)) (v' := v') (hv.mono hm1)
      have hk : K (Act.put ⟨ct, []⟩ o.dst v') w1 := by rw [eput]; exact hK _ _ _ _ _ I'
      rcases hx with rfl | ⟨rfl, rfl⟩ <;> exact hk
     replace hsj : s ≤ j := by omega
     obtain ⟨x, w1, m1, v', hrun, hx, hv, hst⟩ := op_sim (P := P) (I.hr j hsj hjq) hev (show aOp P (HF j).n (tmF j) (HF j) o.op = some (dF j, HF (j + 1)) by
      cases hl : litBase ops o.op with
      | true => rw [hl] at hop; exact hop
      | false => exact (read_op (by rw [← kindIn_non hl]; exact h1) hop).2 (HF j).n)
     rw [hrun]
     obtain ⟨m', I'⟩ := I.reading T hcf hd ho hj hpre h1 hsj hst hv
     have hk : K (Act.put ⟨ct, []⟩ o.dst v') w1 := by rw [eput]; exact hK _ _ _ _ _ I'
     rcases hx with rfl | ⟨rfl, rfl⟩ <;> exact hk
    ·have h2 : kindIn ops o.op = 2 := by have := kind_le (ops := ops) o.op; omega
     have hl : litBase ops o.op = false := by
      cases hl : litBase ops o.op with
      | true => rw [kindIn_lit hl] at h2; omega
      | false => rfl
     rw [hl] at hop
     simp only [Bool.false_eq_true, if_false] at hop
     obtain ⟨hsj, hjq⟩ := I.lt hd ho hj hpre (by omega)
     replace hsj := hsj (fun hl => by have := (hd.one j _ hl ho).1; omega)
     have hjq' : j = q := by
      rcases Nat.lt_or_ge j q with h | h
      ·exact absurd ((I.b2 j o ho h2).2 h) hj
      ·omega
     have hbel : m.below (HF j).n = m := by
      funext b
      unfold Map.below
      by_cases hb : b < (HF j).n
      ·rw [if_pos hb]
      ·rw [if_neg hb]
       cases hm : m b with
       | none => rfl
       | some g => have := I.mdom b g hm; rw [hjq'] at hb; omega
     have hh := I.hr j hsj hjq
     rw [hbel] at hh hev
     obtain ⟨x, w1, m1, v', hrun, hx, hv, hst⟩ := op_sim (P := P) hh hev hop
     rw [hrun]
     obtain ⟨s', q', I'⟩ := I.writing T hcf hd ho hj hpre h2 hst hv
     have hk : K (Act.put ⟨ct, []⟩ o.dst v') w1 := by rw [eput]; exact hK _ _ _ _ _ I'
     rcases hx with rfl | ⟨rfl, rfl⟩ <;> exact hk
 ·rw [hwant] at hw
  rw [if_neg (by rw [hw]; simp), eput]
  by_cases h2 : kindIn ops o.op = 2
  ·obtain ⟨hsj, hjq⟩ := I.lt hd ho hj hpre (by omega)
   have hjq' : j = q := by
    rcases Nat.lt_or_ge j q with h | h
    ·exact absurd ((I.b2 j o ho h2).2 h) hj
    ·omega
   have hst : Stp B wm m (HF j) w m (HF (j + 1)) w := by
    rw [hH]
    refine Stp.refl ?_
    rw [hjq']; exact I.stp.hr
   obtain ⟨s', q', I'⟩ := I.writing T hcf hd ho hj hpre h2 hst (v' := undef) (by rw [hdv]; exact vrel.undef m)
   exact hK _ _ _ _ _ I'
  ·have hkw : Kept w w := ⟨Nat.le_refl _, fun _ _ => rfl, rfl, rfl, rfl⟩
   exact hK _ _ _ _ _ (I.quiet T hcf hd ho hj hpre h2 hkw (v' := undef) (by rw [hdv]; exact vrel.undef _))
end
end Go.Am

namespace Go.Am
section
variable {P : Program} {B wm : Nat} {cf : CallF} {ops : Array Oper} {late : Nat → Prop} {tmF : Nat → List Value} {HF : Nat → AHeap} {dF : Nat → Value} {m0 : Map} {w0 : World}

def Lst (listed : Array Bool) (i : Nat) : Prop := listed.getD i false = true

theorem ready_mem {listed : Array Bool} (hs : listed.size = ops.size) {j : Nat} : j ∈ Region.ready .any ops listed ↔ ∃ o, ops[j]? = some o ∧ ¬ Lst listed j ∧ ∀ e ∈ bedges o, Lst listed e.on := by
 unfold Region.ready Lst
 simp only [List.mem_filter, List.mem_range, Bool.and_eq_true, Bool.not_eq_true']
 constructor
 ·rintro ⟨h1, h2, h3⟩
  have ho : ops[j]? = some ops[j] := Array.getElem?_eq_getElem h1
  refine ⟨ops[j], ho, ?_, fun e he => ?_⟩
  ·rw [Array.getD_eq_getD_getElem?] at h2 ⊢
   rw [Array.getElem?_eq_getElem (by omega)] at h2 ⊢
   simp at h2 ⊢; exact h2
  ·rw [ho] at h3
   simp only [Option.map_some, Option.getD_some, ← Array.all_toList, List.all_eq_true] at h3
   obtain ⟨he, hb⟩ := List.mem_filter.1 he
   have := h3 e he
   simpa [hb] using this
 ·rintro ⟨o, ho, h2, h3⟩
  have h1 : j < ops.size := by
   rcases Nat.lt_or_ge j ops.size with h' | h'
   ·exact h'
   ·rw [Array.getElem?_eq_none h'] at ho; simp at ho
  refine ⟨h1, ?_, ?_⟩
  ·rw [Array.getD_eq_getD_getElem?] at h2 ⊢
   rw [Array.getElem?_eq_getElem (by omega)] at h2 ⊢
   simp at h2 ⊢; exact h2
  ·rw [ho]
   simp only [Option.map_some, Option.getD_some, ← Array.all_toList, List.all_eq_true]
   intro e he
   cases hb : Region.binds .any e with
   | false => simp
   | true => simp only [Bool.not_true, Bool.false_or]; exact h3 e (List.mem_filter.2 ⟨he, hb⟩)

def left (n : Nat) (listed : Array Bool) : Nat := ((List.range n).filter fun i => !listed.getD i false).length

theorem left_set {n : Nat} {listed : Array Bool} {j : Nat} (hj : j < n) (hs : listed.size = n) (h : ¬ Lst listed j) : left n (listed.setIfInBounds j true) + 1 = left n listed := by
 unfold left Lst at *
 have key : ∀ (l : List Nat), l.Nodup → j ∈ l → (∀ i ∈ l, i < n) → (l.filter fun i => !(listed.setIfInBounds j true).getD i false).length + 1 = (l.filter fun i => !listed.getD i false).length := by
  intro l
  induction l with
  | nil => intro _ h; simp at h
  | cons a l ih =>
   intro hn hm hb
   simp only [List.nodup_cons] at hn
   by_cases ha : a = j
   ·subst ha
    have e1 : ((listed.setIfInBounds a true).getD a false) = true := by simp [Array.getD_eq_getD_getElem?, hs, hj]
    have e2 : listed.getD a false = false := by simpa using h
    have e3 : (l.filter fun i => !(listed.setIfInBounds a true).getD i false) = l.filter fun i => !listed.getD i false := by
     apply List.filter_congr
     intro i hi
     have : a ≠ i := fun e => hn.1 (by rw [e]; exact hi)
     simp [Array.getD_eq_getD_getElem?, Array.getElem?_setIfInBounds_ne this]
    rw [List.filter_cons_of_neg (by rw [e1]; simp), List.filter_cons_of_pos (by rw [e2]; simp), e3]; simp
   ·have hm' : j ∈ l := by
     rcases List.mem_cons.1 hm with h' | h'
     ·exact absurd h'.symm ha
     ·exact h'
    have := ih hn.2 hm' (fun i hi => hb i (by simp [hi]))
    have e1 : (listed.setIfInBounds j true).getD a false = listed.getD a false := by
     have : j ≠ a := fun e => ha e.symm
     simp [Array.getD_eq_getD_getElem?, Array.getElem?_setIfInBounds_ne this]
    simp only [List.filter_cons, e1]
    split
    ·simp only [List.length_cons]; omega
    ·exact this
 exact key _ (List.nodup_range) (List.mem_range.2 hj) (fun i hi => List.mem_range.1 hi)

theorem all_of_left {n : Nat} {listed : Array Bool} (h : left n listed = 0) : ∀ i, i < n → Lst listed i := by
 unfold left at h
 intro i hi
 have := List.length_eq_zero_iff.1 h
 rw [List.filter_eq_nil_iff] at this
 have := this i (List.mem_range.2 hi)
 unfold Lst; simpa using this

/-- While something is left something is ready. -/
theorem ready_ne {listed : Array Bool} (hs : listed.size = ops.size) (hd : DOk ops late) (h : left ops.size listed ≠ 0) : Region.ready .any ops listed ≠ [] := by
 obtain ⟨he, _⟩ := hd.spec
 have hex : ∃ i, i < ops.size ∧ ¬ Lst listed i := by
  apply Classical.byContradiction
  intro hn
  refine h ?_
  unfold left
  rw [List.length_eq_zero_iff, List.filter_eq_nil_iff]
  intro i hi
  have hi' := List.mem_range.1 hi
  have : Lst listed i := Classical.byContradiction fun hl => hn ⟨i, hi', hl⟩
  unfold Lst at this; simp [this]
 obtain ⟨i, hi, hni⟩ := hex
 -- the least
 have least : ∀ k, (∃ i, i < k ∧ i < ops.size ∧ ¬ Lst listed i) → ∃ j, j < ops.size ∧ ¬ Lst listed j ∧ ∀ i, i < j → Lst listed i := by
  intro k
  induction k with
  | zero => rintro ⟨i, h, _⟩; omega
  | succ k ih =>
   rintro ⟨i, h1, h2, h3⟩
   by_cases hk : ∃ i, i < k ∧ i < ops.size ∧ ¬ Lst listed i
   ·exact ih hk
   ·have : i = k := by
     refine Classical.byContradiction fun hne => hk ⟨i, by omega, h2, h3⟩
    subst this
    exact ⟨i, h2, h3, fun i' hi' => Classical.byContradiction fun hl => hk ⟨i', hi', by omega, hl⟩⟩
 obtain ⟨j, hj, hnj, hlow⟩ := least (i + 1) ⟨i, by omega, hi, hni⟩
 have ho : ops[j]? = some ops[j] := Array.getElem?_eq_getElem hj
 intro hnil
 have : j ∈ Region.ready .any ops listed := (ready_mem hs).2 ⟨_, ho, hnj, fun e hm => hlow _ (he j _ ho e hm)⟩
 rw [hnil] at this; simp at this

theorem Inv.congr {S S' : Nat → Prop} {s q : Nat} {m : Map} {ct : Array Value} {w : World} (h : ∀ i, S i ↔ S' i) (I : Inv B wm ops late tmF HF m0 w0 S s q m ct w) : Inv B wm ops late tmF HF m0 w0 S' s q m ct w := by
 have : S = S' := funext fun i => propext (h i)
 rw [← this]; exact I

theorem any_sim (T : Trace P wm cf ops tmF HF dF 0) (hcf : CfOk P B cf) (hno : NoOwn P) (hd : DOk ops late) (hL : Late P ops late tmF HF dF) {Q : Exit → Act → World → Prop}
  (hq : ∀ a w', PostT P B wm m0 (HF 0) w0 (tmF ops.size) (HF ops.size) a w' → Q .normal a w') :
  ∀ (fuel : Nat) (listed : Array Bool) (s q : Nat) (m : Map) (ct : Array Value) (w : World), listed.size = ops.size → left ops.size listed = fuel → Inv B wm ops late tmF HF m0 w0 (Lst listed) s q m ct w → wpAny P .any ops Q fuel listed ⟨ct, []⟩ w := by
 have fin : ∀ (listed : Array Bool) (s q : Nat) (m : Map) (ct : Array Value) (w : World), listed.size = ops.size → left ops.size listed = 0 → Inv B wm ops late tmF HF m0 w0 (Lst listed) s q m ct w → Q .normal ⟨ct, []⟩ w := by
  intro listed s q m ct w hs hl I
  have hall := all_of_left hl
  have hqn : q = ops.size := by
   refine Classical.byContradiction fun hne => ?_
   have hlt : q < ops.size := by have := I.qn; omega
   have ho : ops[q]? = some ops[q] := Array.getElem?_eq_getElem hlt
   exact absurd ((I.b2 q _ ho (I.qb _ ho)).1 (hall q hlt)) (Nat.lt_irrefl _)
  subst hqn
  refine hq _ _ ⟨rfl, m, I.stp, ?_, fun i v v' hv hv' => ?_⟩
  ·have := T.len (Nat.le_refl ops.size); rw [this]; simp [I.len]
  ·obtain ⟨v'', h1, h2⟩ := I.tms i ops.size (Nat.le_refl _) (fun j o ho hdst => by
    have hj : j < ops.size := by
     rcases Nat.lt_or_ge j ops.size with h' | h'
     ·exact h'
     ·rw [Array.getElem?_eq_none h'] at ho; simp at ho
    exact ⟨fun _ => hj, fun _ => hall j hj⟩) v hv
   have : v'' = v' := by simp at hv'; rw [h1] at hv'; simpa using hv'
   subst this
   exact h2.mono (Map.below_le _ _)
 intro fuel
 induction fuel with
 | zero =>
  intro listed s q m ct w hs hl I
  refine ⟨?_, fin listed s q m ct w hs hl I⟩
  have hall := all_of_left hl
  cases hr : Region.ready .any ops listed with
  | nil => rfl
  | cons j l =>
   have hj : j ∈ Region.ready .any ops listed := by rw [hr]; simp
   obtain ⟨o, ho, hn, _⟩ := (ready_mem hs).1 hj
   have hj : j < ops.size := by
    rcases Nat.lt_or_ge j ops.size with h' | h'
    ·exact h'
    ·rw [Array.getElem?_eq_none h'] at ho; simp at ho
   exact absurd (hall j hj) hn
 | succ fuel ih =>
  intro listed s q m ct w hs hl I
  refine ⟨fun hr => absurd hr (ready_ne hs hd (by omega)), fun j hj => ?_⟩
  obtain ⟨o, ho, hn, hpre⟩ := (ready_mem hs).1 hj
  have hlt : j < ops.size := by
   rcases Nat.lt_or_ge j ops.size with h' | h'
   ·exact h'
   ·rw [Array.getElem?_eq_none h'] at ho; simp at ho
  obtain ⟨hb, _⟩ := hd.spec
  refine I.step T hcf hno hd hL ho hn hpre (fun s' q' m' ct' w' I' => ?_)
  refine ih _ s' q' m' ct' w' (by simpa using hs) (by have := left_set hlt hs hn; omega) (I'.congr fun i => ?_)
  unfold Lst
  by_cases hij : i = j
  ·subst hij; simp [Array.getD_eq_getD_getElem?, hs, hlt]
  ·have : j ≠ i := fun e => hij e.symm
   simp [Array.getD_eq_getD_getElem?, Array.getElem?_setIfInBounds_ne this, hij]

/-- A region that draws its order. -/
theorem draw_sim (hcf : CfOk P B cf) (hno : NoOwn P) (hmix : P.follows .mixedOrders = true) (hd : DOk ops late) {id : Nat} {tm tm' : List Value} {H H' : AHeap} (hL : ∀ tmF HF dF, Trace P wm cf ops tmF HF dF 0 → tmF 0 = tm → HF 0 = H → Late P ops late tmF HF dF) (h : aOps P cf wm true ops ops.toList tm H = some (tm', H')) {m : Map} {w : World} {ct : Array Value} (hr : HR B m H w) (ht : lrel m tm ct.toList)
  {Q : Exit → Act → World → Prop} (hq : ∀ a w', PostT P B wm m H w tm' H' a w' → Q .normal a w') : (Code.region id ops true).wp P Q ⟨ct, []⟩ w := by
 obtain ⟨tmF, HF, dF, T, e1, e2, e3, e4⟩ := trace_of ops.toList 0 tm tm' H H' (by simp) (Nat.zero_le _) h
 have h0 : Stp B wm m H w m H { w with drawn := w.drawn + 1 } := Stp.same hr rfl rfl rfl rfl
 obtain ⟨q, _, h2, h3, h4⟩ := next_two ops ops.size 0 (by omega)
 refine wp_region_any hmix ?_
 have hle : ∀ i, i ≤ q → (HF 0).le (HF i) := fun i hi => T.seg hcf h4 h2 (Nat.le_refl _) (Nat.zero_le _) hi
 have hmH : ∀ b g, m b = some g → b < (HF 0).n := fun b g hb => by rw [e2]; exact (hr.dom b g hb).1
 have hbel : ∀ i, i ≤ q → m.below (HF i).n = m := fun i hi => by
  funext b
  unfold Map.below
  by_cases hb : b < (HF i).n
  ·rw [if_pos hb]
  ·rw [if_neg hb]
   cases hm : m b with
   | none => rfl
   | some g => have := hmH b g hm; have := (hle i hi).1; omega
 have hnl : ∀ i, ¬ Lst (Array.replicate ops.size false) i := fun i hl => by
  unfold Lst at hl
  rw [Array.getD_eq_getD_getElem?, Array.getElem?_replicate] at hl
  split at hl <;> simp at hl
 refine any_sim T hcf hno hd (hL tmF HF dF T e1 e2) (m0 := m) (w0 := w) (by rw [e2, e3, e4]; exact hq) ops.size _ 0 q m ct _ (by simp) ?_ ⟨fun i hi => absurd hi (hnl i), fun j o hj => absurd hj (hnl j), Nat.zero_le _, h2, fun i o hi hk => ⟨fun hl => absurd hl (hnl i), fun hlt => absurd hk (h4 i o (Nat.zero_le _) hlt hi)⟩, h3, h4, fun i o hi => by omega, fun i _ hiq => ?_, ?_, fun t i hi hwr v hv => ?_, ?_, fun b g hb => .inl (hmH b g hb)⟩
 ·unfold left
  rw [List.filter_eq_self.2]
  ·simp
  ·intro i hi
   have := hnl i
   unfold Lst at this; simpa using this
 ·rw [hbel i hiq]
  have := h0.hr
  rw [← e2] at this
  exact this.extend (hle i hiq)
 ·rw [← e2] at h0
  exact h0.extend (hle q (Nat.le_refl _))
 ·-- no writer of t ahead of i: the slot is as it was
  have hsame : ∀ k, k ≤ i → (tmF k)[t]? = (tmF 0)[t]? := by
   intro k hk
   induction k with
   | zero => rfl
   | succ k ih =>
    have hok : ops[k]? = some ops[k] := Array.getElem?_eq_getElem (by omega)
    rw [T.put k _ (Nat.zero_le _) hok, ← ih (by omega)]
    cases hdk : (ops[k]).dst with
    | none => rfl
    | some t' =>
     have : t' ≠ t := fun e => hnl k ((hwr k _ hok (by rw [hdk, e])).2 (by omega))
     simp only [putV]
     rw [List.getElem?_set_ne this]
  rw [hsame i (Nat.le_refl _), e1] at hv
  obtain ⟨v', h5, h6⟩ := ht.get hv
  refine ⟨v', by simpa using h5, h6.mono fun b g hb => Map.below_some.2 ⟨?_, hb⟩⟩
  have := hmH b g hb
  have := T.nle hcf (i := 0) (j := i) (Nat.zero_le _) hi
  omega
 ·rw [e1]; have := ht.1; simp at this; exact this.symm
end
end Go.Am

namespace Go.Am

/-- Does an operation tell the address of a part of what a points to? -/
def isPart (a : Tmp) : Op → Bool
 | .fieldAddr _ (.tmp t) _ => t == a
 | _ => false
/-- Does operation i tell the contents of what a points to, or of a part? -/
def lateOp (a : Tmp) (ops : Array Oper) (i : Nat) : Bool :=
 match ops[i]? with
 | some o => match o.op with
  | .load _ (.tmp t) => t == a || (ops.toList.all (fun x => !(x.dst == some t) || isPart a x.op) && (ops.toList.take i).any fun x => x.dst == some t)
  | _ => false
 | none => false
/-- Nothing is made, and b's variable alone is written. -/
def tameOp (b : Tmp) : Op → Bool
 | .load .. => true
 | .store _ (.tmp t) _ => t == b
 | op => kindOf op == 0
def pairS (a : Tmp) (ops : Array Oper) (ms : List Nat) (j i : Nat) : Bool :=
 (ms.getD j 0).testBit i || match ops[i]?, ops[j]? with
  | some x, some y => x.apart ops y && (kindIn ops x.op == 0 || kindIn ops y.op == 0 || (kindIn ops x.op == 1 && kindIn ops y.op == 1) || lateOp a ops i)
  | _, _ => true
def drawOkS (a b : Tmp) (ops : Array Oper) : Bool :=
 edgesOk ops.toList 0 && ops.toList.all (fun o => tameOp b o.op && !isCall o.op && !litBase ops o.op) &&
  (List.range ops.size).all fun j => (List.range j).all fun i => pairS a ops (masks ops.toList []) j i
theorem DOk.ofS {a b : Tmp} {ops : Array Oper} (h : drawOkS a b ops = true) : DOk ops (fun i => lateOp a ops i = true) := by
 unfold drawOkS at h
 simp only [Bool.and_eq_true] at h
 obtain ⟨⟨h1, h2⟩, h3⟩ := h
 refine ⟨⟨fun j o ho e he => edgesOk_spec ops ops.toList 0 (by simp) h1 j o (Nat.zero_le _) ho e he, fun i j x y hij hx hy => ?_⟩, fun i o hl ho => ?_⟩
 ·have hj : j < ops.size := by
   rcases Nat.lt_or_ge j ops.size with h' | h'
   ·exact h'
   ·rw [Array.getElem?_eq_none h'] at hy; simp at hy
  have := List.all_eq_true.1 (List.all_eq_true.1 h3 j (List.mem_range.2 hj)) i (List.mem_range.2 hij)
  unfold pairS at this
  rw [hx, hy] at this
  simp only [Bool.or_eq_true, Bool.and_eq_true, beq_iff_eq] at this
  rcases this with h | h
  ·exact .inl (masks_ord ops ops.toList [] (by simp) (fun j i hj => by simp at hj) j i h)
  ·refine .inr ⟨h.1, ?_⟩
   rcases h.2 with ((h | h) | h) | h
   ·exact .inl h
   ·exact .inr (.inl h)
   ·exact .inr (.inr (.inl h))
   ·exact .inr (.inr (.inr h))
 ·have hm : o ∈ ops.toList := by
   have : ops.toList[i]? = some o := by simpa using ho
   exact List.mem_of_getElem? this
  have h4 := List.all_eq_true.1 h2 o hm
  simp only [Bool.and_eq_true, Bool.not_eq_true'] at h4
  refine ⟨?_, h4.1.2⟩
  rw [kindIn_non h4.2]
  unfold lateOp at hl
  rw [ho] at hl
  simp only at hl
  split at hl
  ·rename_i h; rw [h]; rfl
  ·cases hl
section
variable {P : Program} {B wm : Nat} {cf : CallF} {ops : Array Oper} {tmF : Nat → List Value} {HF : Nat → AHeap} {dF : Nat → Value}
theorem getD_of {tm : List Value} {t : Nat} {v : Value} (h : tm[t]? = some v) : tm.getD t undef = v := by rw [List.getD_eq_getElem?_getD, h]; rfl
/-- What two temporaries point to is apart. -/
def Two (a b : Tmp) (ra rb : Nat) (tm : List Value) : Prop := ra ≠ rb ∧ tm[a]? = some (.pointer (some ⟨ra, 0, none⟩)) ∧ tm[b]? = some (.pointer (some ⟨rb, 0, none⟩))
theorem keepV {tm : List Value} {d : Option Tmp} {v : Value} {t : Tmp} (h : d ≠ some t) : (putV tm d v)[t]? = tm[t]? := by
 cases d with
 | none => rfl
 | some t' =>
  have : t' ≠ t := fun e => h (by rw [e])
  simp only [putV]
  rw [List.getElem?_set_ne this]
theorem keepT (T : Trace P wm cf ops tmF HF dF 0) {t : Tmp} (h : ∀ o ∈ ops.toList, o.dst ≠ some t) : ∀ k, k ≤ ops.size → (tmF k)[t]? = (tmF 0)[t]? := by
 intro k
 induction k with
 | zero => intro _; rfl
 | succ k ih =>
  intro hk
  have ho : ops[k]? = some ops[k] := Array.getElem?_eq_getElem (by omega)
  rw [T.put k _ (Nat.zero_le _) ho, keepV (h _ (by simp)), ih (by omega)]
theorem aStore_other {P : Program} {wm : Nat} {H H' : AHeap} {t : TypeId} {r o : Nat} {v : Value} (h : aStore P wm H t (.pointer (some ⟨r, o, none⟩)) v = some H') : H'.n = H.n ∧ ∀ c, c ≠ r → H'.get c = H.get c := by
 unfold aStore at h
 split at h
 ·rename_i b o' i h1 h2
  simp at h1
  obtain ⟨rfl, rfl⟩ := h1
  split at h
  ·split at h
   ·obtain ⟨l, hl, h⟩ := map_some h
    subst h
    exact ⟨rfl, fun c hc => AHeap.get_set_ne _ _ hc⟩
   ·simp at h
  ·simp at h
 ·simp at h
/-- a's variable stays. -/
theorem keepH {a b : Tmp} {ra rb : Nat} (T : Trace P wm cf ops tmF HF dF 0) (hS : ∀ o ∈ ops.toList, tameOp b o.op = true ∧ isCall o.op = false ∧ litBase ops o.op = false)
  (hb : ∀ o ∈ ops.toList, o.dst ≠ some b) (h2 : Two a b ra rb (tmF 0)) : ∀ k, k < ops.size → (HF (k + 1)).n = (HF k).n ∧ (HF (k + 1)).get ra = (HF k).get ra := by
 intro k hk
 have ho : ops[k]? = some ops[k] := Array.getElem?_eq_getElem hk
 have hm : ops[k] ∈ ops.toList := by simp
 obtain ⟨t1, t2, t3⟩ := hS _ hm
 rcases T.step k _ (Nat.zero_le _) ho with ⟨hw, h | h⟩ | ⟨_, _, h⟩
 ·rw [t2] at h; simp at h
 ·obtain ⟨_, hop⟩ := h
  rw [t3] at hop
  simp only [Bool.false_eq_true, if_false] at hop
  generalize (ops[k]).op = op at t1 hop
  unfold tameOp at t1
  split at t1
  ·-- a load
   unfold aOp at hop
   obtain ⟨x, _, hop⟩ := bind_some hop
   obtain ⟨y, _, hop⟩ := map_some hop
   simp at hop
   rw [← hop.2]; exact ⟨rfl, rfl⟩
  ·rename_i ty t y
   simp only [beq_iff_eq] at t1
   subst t1
   unfold aOp at hop
   simp only at hop
   split at hop
   ·rename_i p v hp hv
    have e : p = .pointer (some ⟨rb, 0, none⟩) := by
     simp only [ev] at hp
     rw [getD_of ((keepT T hb k (by omega)).trans h2.2.2)] at hp
     simpa using hp.symm
    subst e
    obtain ⟨H2, hst, hop⟩ := map_some hop
    simp at hop
    rw [← hop.2]
    obtain ⟨e1, e2⟩ := aStore_other hst
    exact ⟨e1, e2 ra h2.1⟩
   ·simp at hop
  ·simp only [beq_iff_eq] at t1
   obtain ⟨e, _⟩ := pure_op t1 hop
   rw [e]; exact ⟨rfl, rfl⟩
 ·rw [h]; exact ⟨rfl, rfl⟩
theorem keepHs {a b : Tmp} {ra rb : Nat} (T : Trace P wm cf ops tmF HF dF 0) (hS : ∀ o ∈ ops.toList, tameOp b o.op = true ∧ isCall o.op = false ∧ litBase ops o.op = false)
  (hb : ∀ o ∈ ops.toList, o.dst ≠ some b) (h2 : Two a b ra rb (tmF 0)) {i : Nat} : ∀ k, i ≤ k → k ≤ ops.size → (HF k).n = (HF i).n ∧ (HF k).get ra = (HF i).get ra := by
 intro k hik
 induction k with
 | zero =>
  intro _
  obtain rfl : i = 0 := by omega
  exact ⟨rfl, rfl⟩
 | succ k ih =>
  intro hk
  by_cases e : i = k + 1
  ·subst e; exact ⟨rfl, rfl⟩
  ·obtain ⟨e1, e2⟩ := ih (by omega) (by omega)
   obtain ⟨e3, e4⟩ := keepH T hS hb h2 k (by omega)
   exact ⟨e3.trans e1, e4.trans e2⟩
/-- what a load reads. -/
theorem load_same {P : Program} {H H2 : AHeap} {t : TypeId} {r o : Nat} (h : H2.get r = H.get r) : aLoad P H2 t (.pointer (some ⟨r, o, none⟩)) = aLoad P H t (.pointer (some ⟨r, o, none⟩)) := by
 simp only [aLoad, h]
/-- a part's address. -/
theorem partV {a t : Tmp} {ra : Nat} (T : Trace P wm cf ops tmF HF dF 0) (ha : ∀ o ∈ ops.toList, o.dst ≠ some a) (hva : (tmF 0)[a]? = some (.pointer (some ⟨ra, 0, none⟩)))
  (hw : ∀ o ∈ ops.toList, o.dst = some t → isPart a o.op = true) : ∀ i, i ≤ ops.size → (∃ k o, k < i ∧ ops[k]? = some o ∧ o.dst = some t) → ∀ v, (tmF i)[t]? = some v → v = undef ∨ ∃ o, v = .pointer (some ⟨ra, o, none⟩) := by
 intro i
 induction i with
 | zero => rintro _ ⟨k, o, h, _⟩; omega
 | succ i ih =>
  rintro hi ⟨k, o, hk, hok, hod⟩ v hv
  have ho : ops[i]? = some ops[i] := Array.getElem?_eq_getElem (by omega)
  rw [T.put i _ (Nat.zero_le _) ho] at hv
  by_cases hd : (ops[i]).dst = some t
  ·rw [hd] at hv
   simp only [putV] at hv
   have htl : t < (tmF i).length := by
    rcases Nat.lt_or_ge t (tmF i).length with h' | h'
    ·exact h'
    ·rw [List.getElem?_eq_none (by simpa using h')] at hv; simp at hv
   rw [List.getElem?_set_self htl] at hv
   simp at hv; subst hv
   have hp := hw _ (by simp) hd
   rcases T.step i _ (Nat.zero_le _) ho with ⟨_, h | h⟩ | ⟨_, h, _⟩
   ·obtain ⟨hc, _⟩ := h
    revert hp hc
    generalize (ops[i]).op = op
    intro hp hc
    unfold isPart at hp
    split at hp
    ·simp [isCall] at hc
    ·cases hp
   ·obtain ⟨_, hop⟩ := h
    revert hp hop
    generalize (if litBase ops (ops[i]).op then (HF i).n else wm) = wm2
    generalize (ops[i]).op = op
    intro hp hop
    unfold isPart at hp
    split at hp
    ·rename_i ty t' f
     simp only [beq_iff_eq] at hp
     subst hp
     unfold aOp at hop
     simp only [ev] at hop
     rw [getD_of ((keepT T ha i (by omega)).trans hva)] at hop
     simp only [Option.bind_some] at hop
     obtain ⟨x, hx, hop⟩ := map_some hop
     simp at hop
     rw [← hop.1]
     unfold aFieldAddr at hx
     split at hx
     ·rename_i h1 h2
      simp at h2
      obtain ⟨rfl, rfl⟩ := h2
      split at hx
      ·split at hx
       ·split at hx
        ·simp at hx
        ·simp at hx; exact .inr ⟨_, hx.symm⟩
       ·simp at hx
      ·simp at hx
     ·simp at hx
    ·cases hp
   ·exact .inl h
  ·rw [keepV hd] at hv
   refine ih (by omega) ⟨k, o, ?_, hok, hod⟩ v hv
   by_cases e : k = i
   ·subst e; rw [ho] at hok; simp at hok; subst hok; exact absurd hod hd
   ·omega
theorem Late.ofS {a b : Tmp} {ra rb : Nat} (T : Trace P wm cf ops tmF HF dF 0) (hd : drawOkS a b ops = true) (ha : ∀ o ∈ ops.toList, o.dst ≠ some a) (hb : ∀ o ∈ ops.toList, o.dst ≠ some b) (h2 : Two a b ra rb (tmF 0)) :
  Late P ops (fun i => lateOp a ops i = true) tmF HF dF := by
 intro i o hl ho hwant k hik hk
 have hS : ∀ o ∈ ops.toList, tameOp b o.op = true ∧ isCall o.op = false ∧ litBase ops o.op = false := by
  unfold drawOkS at hd
  simp only [Bool.and_eq_true] at hd
  intro o hm
  have := List.all_eq_true.1 hd.1.2 o hm
  simp only [Bool.and_eq_true, Bool.not_eq_true'] at this
  exact ⟨this.1.1, this.1.2, this.2⟩
 have hi : i < ops.size := by omega
 have hm : o ∈ ops.toList := by
  have : ops.toList[i]? = some o := by simpa using ho
  exact List.mem_of_getElem? this
 obtain ⟨e1, e2⟩ := keepHs T hS hb h2 (i := i) k (by omega) hk
 obtain ⟨e3, e4⟩ := keepHs T hS hb h2 (i := i) (i + 1) (by omega) (by omega)
 refine ⟨e1.trans e3.symm, fun wm2 => ?_⟩
 rcases T.step i _ (Nat.zero_le _) ho with ⟨_, h | h⟩ | ⟨h, _, _⟩
 ·rw [(hS _ hm).2.1] at h; simp at h
 ·obtain ⟨_, hop⟩ := h
  rw [(hS _ hm).2.2] at hop
  simp only [Bool.false_eq_true, if_false] at hop
  unfold lateOp at hl
  rw [ho] at hl
  simp only at hl
  split at hl
  ·rename_i ty t hload
   rw [hload] at hop ⊢
   unfold aOp at hop ⊢
   simp only [ev, Option.bind_some] at hop ⊢
   obtain ⟨x, hx, hop⟩ := map_some hop
   simp at hop
   have hp : ∃ off, (tmF i).getD t undef = .pointer (some ⟨ra, off, none⟩) := by
    simp only [Bool.or_eq_true, beq_iff_eq, Bool.and_eq_true] at hl
    rcases hl with rfl | ⟨hl1, hl2⟩
    ·exact ⟨0, getD_of ((keepT T ha i (by omega)).trans h2.2.1)⟩
    ·cases hv : (tmF i)[t]? with
     | none =>
      rw [List.getD_eq_getElem?_getD, hv] at hx
      simp [aLoad, undef] at hx
     | some v =>
      have hany : ∃ k o, k < i ∧ ops[k]? = some o ∧ o.dst = some t := by
       rw [List.any_eq_true] at hl2
       obtain ⟨o2, hm2, hd2⟩ := hl2
       obtain ⟨k2, hk2⟩ := List.getElem?_of_mem hm2
       rw [List.getElem?_take] at hk2
       split at hk2
       ·exact ⟨k2, o2, by assumption, by simpa using hk2, by simpa using hd2⟩
       ·simp at hk2
      rcases partV T ha h2.2.1 (fun o2 hm2 hd2 => by
       have := List.all_eq_true.1 hl1 o2 hm2
       rw [hd2] at this
       simpa using this) i (by omega) hany v hv with rfl | ⟨off, rfl⟩
      ·rw [getD_of hv] at hx
       simp [aLoad, undef] at hx
      ·exact ⟨off, getD_of hv⟩
   obtain ⟨off, hp⟩ := hp
   rw [hp] at hx ⊢
   rw [load_same e2, hx]
   simp [hop.1]
  ·cases hl
 ·rw [hwant] at h; cases h
end
/-- Which temporaries does a piece of code leave alone? -/
def avoids (t : Tmp) : Code → Bool
 | .region _ ops _ => ops.toList.all fun o => !(o.dst == some t)
 | .seq x y => avoids t x && avoids t y
 | .cond _ x y => avoids t x && avoids t y
 | .skip => true
 | .ret => true
 | _ => false
def codeOkS (a b : Tmp) : Code → Bool
 | .region _ ops draw => !draw || drawOk ops || drawOkS a b ops
 | .seq x y => codeOkS a b x && codeOkS a b y
 | .cond _ x y => codeOkS a b x && codeOkS a b y
 | .skip => true
 | .ret => true
 | _ => false
def isNew : Op → Bool
 | .box .. => true
 | .alloc _ => true
 | _ => false
/-- A function that makes two variables first, of which a region that draws may read the one while it writes the other. -/
def pairOk (n : Nat) : Code → Bool
 | .seq (.region _ ops false) rest =>
  match ops.toList with
  | o1 :: o2 :: os =>
   match o1.dst, o2.dst with
   | some a, some b => isNew o1.op && isNew o2.op && o1.guard.isNone && o2.guard.isNone && a != b && decide (a < n) && decide (b < n) && (os.all fun o => !(o.dst == some a) && !(o.dst == some b)) && avoids a rest && avoids b rest && codeOkS a b rest
   | _, _ => false
  | _ => false
 | _ => false
/-- The regions that draw their order may be walked in the order of the text. -/
def codeOk : Code → Bool
 | .region _ ops draw => !draw || drawOk ops
 | .seq a b => codeOk a && codeOk b
 | .cond _ a b => codeOk a && codeOk b
 | .block _ c => codeOk c
 | .loop c => codeOk c
 | _ => true
def funcOk (fn : Func) : Bool :=
 match fn.body with
 | some c => codeOk c || pairOk fn.ntmps c
 | none => true

/-- What is asked of a program: it is looked up once, by the kernel. -/
structure ProgOk (P : Program) : Prop where
 mix : P.follows .mixedOrders = true
 own : NoOwn P
 draw : ∀ (f : FuncId) (fn : Func), P.funcs[f]? = some fn → funcOk fn = true

def toExit : AEx → Exit
 | .normal => .normal
 | .exit id => .exit id
 | .ret => .ret

theorem wp_loop_of {P : Program} {c : Code} {Q : Exit → Act → World → Prop} {a : Act} {w : World} (h : ∀ (b : Frame) (k : List Item) (cs : List Frame), ∃ e a' w', Q e a' w' ∧ Arrives P (lone (b.at a (.code c :: .inLoop c :: k)) cs w) b k cs e a' w') :
  (Code.loop c).wp P Q a w := fun b k cs => let ⟨e, a', w', hq, harr⟩ := h b k cs; ⟨e, a', w', hq, .of_steps (.one step_loop) harr⟩

section
variable {P : Program} {B : Nat} {cf : CallF} {F : Nat}

/-- What a piece of code that the abstract machine has run does in the model. -/
def Sims (P : Program) (B wm : Nat) (c : Code) (tm : List Value) (H : AHeap) (e : AEx) (tm' : List Value) (H' : AHeap) : Prop :=
 ∀ m w (ct : Array Value), HR B m H w → lrel m tm ct.toList → ∀ Q : Exit → Act → World → Prop, (∀ a w', PostT P B wm m H w tm' H' a w' → Q (toExit e) a w') → c.wp P Q ⟨ct, []⟩ w

theorem act_eta {a : Act} (h : a.defers = []) : a = ⟨a.tmps, []⟩ := by cases a; simp at h; subst h; rfl

theorem PostT.trans {wm : Nat} {m m1 : Map} {H H1 H2 : AHeap} {w w1 w2 : World} {tm2 : List Value} {a : Act} (h : Stp B wm m H w m1 H1 w1) (p : PostT P B wm m1 H1 w1 tm2 H2 a w2) : PostT P B wm m H w tm2 H2 a w2 := by
 obtain ⟨p1, m2, p2, p3⟩ := p
 exact ⟨p1, m2, h.trans p2, p3⟩

theorem loop_sim {wm : Nat} {c : Code} (hbody : ∀ tm H e tm' H', aCode P F cf wm c tm H = some (e, tm', H') → Sims P B wm c tm H e tm' H') :
  ∀ (n : Nat) (tm : List Value) (H : AHeap) (e : AEx) (tm' : List Value) (H' : AHeap), iterL (fun tm H => aCode P F cf wm c tm H) n tm H = some (e, tm', H') →
  ∀ m w (ct : Array Value), HR B m H w → lrel m tm ct.toList → ∀ Q : Exit → Act → World → Prop, (∀ a w', PostT P B wm m H w tm' H' a w' → Q (toExit e) a w') →
   ∀ (b : Frame) (k : List Item) (cs : List Frame), ∃ e' a' w', Q e' a' w' ∧ Arrives P (lone (b.at ⟨ct, []⟩ (.code c :: .inLoop c :: k)) cs w) b k cs e' a' w' := by
 intro n
 induction n with
 | zero => intro tm H e tm' H' h; simp [iterL] at h
 | succ n ih =>
  intro tm H e tm' H' h m w ct hr ht Q hq b k cs
  unfold iterL at h
  split at h
  ·rename_i tm1 H1 hb
   have hs := hbody _ _ _ _ _ hb m w ct hr ht (fun e' a' w' => e' = .normal ∧ PostT P B wm m H w tm1 H1 a' w') (fun a w' hp => ⟨rfl, hp⟩)
   obtain ⟨e1, a1, w1, ⟨rfl, hp⟩, harr⟩ := hs b (.inLoop c :: k) cs
   obtain ⟨hd, m1, hst, ht1⟩ := hp
   rw [act_eta hd] at harr
   obtain ⟨e2, a2, w2, hq2, harr2⟩ := ih tm1 H1 e tm' H' h m1 w1 a1.tmps hst.hr ht1 Q (fun a w' hp' => hq a w' (PostT.trans hst hp')) b k cs
   exact ⟨e2, a2, w2, hq2, .of_steps (Steps.trans harr (.one step_inLoop)) harr2⟩
  ·rename_i r hne
   have hs := hbody _ _ _ _ _ h m w ct hr ht (fun e' a' w' => e' = toExit e ∧ Q e' a' w') (fun a w' hp => ⟨rfl, hq a w' hp⟩)
   obtain ⟨e1, a1, w1, ⟨rfl, hq1⟩, harr⟩ := hs b (.inLoop c :: k) cs
   refine ⟨toExit e, a1, w1, hq1, ?_⟩
   cases e with
   | normal => exact absurd h (hne tm' H')
   | exit id => exact .pass (x := .inLoop c) rfl (fun _ _ => .inl (by simp [toExit])) harr
   | ret => exact .pass (x := .inLoop c) rfl (fun _ _ => .inl (by simp [toExit])) harr

theorem code_sim (hcf : CfOk P B cf) (hP : ProgOk P) {wm : Nat} : ∀ (c : Code), codeOk c = true → ∀ (tm : List Value) (H : AHeap) (e : AEx) (tm' : List Value) (H' : AHeap), aCode P F cf wm c tm H = some (e, tm', H') → Sims P B wm c tm H e tm' H' := by
 intro c
 induction c with
 | skip =>
  intro _ tm H e tm' H' h m w ct hr ht Q hq
  simp [aCode] at h; obtain ⟨rfl, rfl, rfl⟩ := h
  exact wp_skip (hq _ _ ⟨rfl, m, Stp.refl hr, ht⟩)
 | label l =>
  intro _ tm H e tm' H' h m w ct hr ht Q hq
  simp [aCode] at h; obtain ⟨rfl, rfl, rfl⟩ := h
  exact wp_label (hq _ _ ⟨rfl, m, Stp.refl hr, ht⟩)
 | exit id =>
  intro _ tm H e tm' H' h m w ct hr ht Q hq
  simp [aCode] at h; obtain ⟨rfl, rfl, rfl⟩ := h
  exact wp_exit (hq _ _ ⟨rfl, m, Stp.refl hr, ht⟩)
 | ret =>
  intro _ tm H e tm' H' h m w ct hr ht Q hq
  simp [aCode] at h; obtain ⟨rfl, rfl, rfl⟩ := h
  exact wp_ret (hq _ _ ⟨rfl, m, Stp.refl hr, ht⟩)
 | region id ops draw =>
  intro hok tm H e tm' H' h m w ct hr ht Q hq
  simp only [aCode] at h
  split at h
  case h_2 => simp at h
  case h_1 tm1 H1 hops =>
   simp at h; obtain ⟨rfl, rfl, rfl⟩ := h
   cases draw with
   | false =>
    refine wp_region ?_
    have := ops_sim hcf hP.own (Q := Q) ops.toList 0 tm tm1 H H1 (by simp) hops m w ct hr ht hq
    rw [List.range_eq_range']
    simpa using this
   | true =>
    have hd : drawOk ops = true := by simpa [codeOk] using hok
    exact draw_sim hcf hP.own hP.mix (DOk.of hd) (fun _ _ _ _ _ _ => fun i o hl => hl.elim) hops hr ht hq
 | seq a b iha ihb =>
  intro hok tm H e tm' H' h m w ct hr ht Q hq
  simp only [codeOk, Bool.and_eq_true] at hok
  simp only [aCode] at h
  refine wp_seq ?_
  split at h
  ·rename_i tm1 H1 ha
   refine iha hok.1 _ _ _ _ _ ha m w ct hr ht _ (fun a1 w1 hp => ?_)
   obtain ⟨hd, m1, hst, ht1⟩ := hp
   show b.wp P Q a1 w1
   rw [act_eta hd]
   exact ihb hok.2 _ _ _ _ _ h m1 w1 a1.tmps hst.hr ht1 Q (fun a2 w2 hp2 => hq a2 w2 (PostT.trans hst hp2))
  ·rename_i r hne
   refine iha hok.1 _ _ _ _ _ h m w ct hr ht _ (fun a1 w1 hp => ?_)
   cases e with
   | normal => exact absurd h (hne tm' H')
   | exit id => exact hq a1 w1 hp
   | ret => exact hq a1 w1 hp
 | cond x a b iha ihb =>
  intro hok tm H e tm' H' h m w ct hr ht Q hq
  simp only [codeOk, Bool.and_eq_true] at hok
  simp only [aCode] at h
  split at h
  case h_2 => simp at h
  case h_1 t hx =>
   have hb := (ev_rel (ds := []) ht hx).bool_inv
   refine wp_cond hb ?_
   cases t with
   | true => simp at h ⊢; exact iha hok.1 _ _ _ _ _ h m w ct hr ht Q hq
   | false => simp at h ⊢; exact ihb hok.2 _ _ _ _ _ h m w ct hr ht Q hq
 | block id c ih =>
  intro hok tm H e tm' H' h m w ct hr ht Q hq
  simp only [codeOk] at hok
  simp only [aCode] at h
  refine wp_block ?_
  split at h
  ·rename_i id' tm1 H1 hb
   refine ih hok _ _ _ _ _ hb m w ct hr ht _ (fun a1 w1 hp => ?_)
   show (if id' = id then Q .normal a1 w1 else Q (.exit id') a1 w1)
   split at h
   ·rename_i hid
    simp at h; obtain ⟨rfl, rfl, rfl⟩ := h
    rw [if_pos hid]; exact hq a1 w1 hp
   ·rename_i hid
    simp at h; obtain ⟨rfl, rfl, rfl⟩ := h
    rw [if_neg hid]; exact hq a1 w1 hp
  ·rename_i r hne
   refine ih hok _ _ _ _ _ h m w ct hr ht _ (fun a1 w1 hp => ?_)
   cases e with
   | normal => exact hq a1 w1 hp
   | exit id' => exact absurd h (hne id' tm' H')
   | ret => exact hq a1 w1 hp
 | loop c ih =>
  intro hok tm H e tm' H' h m w ct hr ht Q hq
  simp only [codeOk] at hok
  simp only [aCode] at h
  exact wp_loop_of (loop_sim (ih hok) F tm H e tm' H' h m w ct hr ht Q hq)
 | rangeFunc => intro _ tm H e tm' H' h; simp [aCode] at h
 | scope => intro _ tm H e tm' H' h; simp [aCode] at h
 | goto => intro _ tm H e tm' H' h; simp [aCode] at h
 | refuse => intro _ tm H e tm' H' h; simp [aCode] at h

theorem iterL_lew {f : List Value → AHeap → CodeR} {wm : Nat} (hf : ∀ tm H e tm' H', f tm H = some (e, tm', H') → H.lew wm H') : ∀ (n : Nat) (tm : List Value) (H : AHeap) (e : AEx) (tm' : List Value) (H' : AHeap), iterL f n tm H = some (e, tm', H') → H.lew wm H' := by
 intro n
 induction n with
 | zero => intro tm H e tm' H' h; simp [iterL] at h
 | succ n ih =>
  intro tm H e tm' H' h
  unfold iterL at h
  split at h
  ·rename_i tm1 H1 hb
   have h1 := hf _ _ _ _ _ hb
   exact AHeap.lew_trans h1 (ih _ _ _ _ _ h)
  ·exact hf _ _ _ _ _ h

theorem code_lew (hcf : ∀ wm f args H v H', cf wm f args H = some (v, H') → H.lew wm H') {wm : Nat} : ∀ (c : Code) (tm : List Value) (H : AHeap) (e : AEx) (tm' : List Value) (H' : AHeap), aCode P F cf wm c tm H = some (e, tm', H') → H.lew wm H' := by
 intro c
 induction c with
 | region id ops draw =>
  intro tm H e tm' H' h
  simp only [aCode] at h
  split at h
  ·rename_i tm1 H1 hops
   simp at h; obtain ⟨rfl, rfl, rfl⟩ := h
   exact aOps_lew hcf _ _ _ _ _ hops
  ·simp at h
 | seq a b iha ihb =>
  intro tm H e tm' H' h
  simp only [aCode] at h
  split at h
  ·rename_i tm1 H1 ha
   have h1 := iha _ _ _ _ _ ha
   exact AHeap.lew_trans h1 (ihb _ _ _ _ _ h)
  ·exact iha _ _ _ _ _ h
 | cond x a b iha ihb =>
  intro tm H e tm' H' h
  simp only [aCode] at h
  split at h
  ·split at h
   ·exact iha _ _ _ _ _ h
   ·exact ihb _ _ _ _ _ h
  ·simp at h
 | block id c ih =>
  intro tm H e tm' H' h
  simp only [aCode] at h
  split at h
  ·rename_i id' tm1 H1 hb
   have h1 := ih _ _ _ _ _ hb
   split at h <;> (simp at h; obtain ⟨rfl, rfl, rfl⟩ := h; exact h1)
  ·exact ih _ _ _ _ _ h
 | loop c ih =>
  intro tm H e tm' H' h
  simp only [aCode] at h
  exact iterL_lew ih F tm H e tm' H' h
 | skip => intro tm H e tm' H' h; simp [aCode] at h; obtain ⟨rfl, rfl, rfl⟩ := h; exact (H.le_refl).lew wm
 | label => intro tm H e tm' H' h; simp [aCode] at h; obtain ⟨rfl, rfl, rfl⟩ := h; exact (H.le_refl).lew wm
 | exit => intro tm H e tm' H' h; simp [aCode] at h; obtain ⟨rfl, rfl, rfl⟩ := h; exact (H.le_refl).lew wm
 | ret => intro tm H e tm' H' h; simp [aCode] at h; obtain ⟨rfl, rfl, rfl⟩ := h; exact (H.le_refl).lew wm
 | _ => intro tm H e tm' H' h; simp [aCode] at h

theorem ress_run {m : Map} {H : AHeap} {w : World} (hr : HR B m H w) {tm : List Value} {ct : Array Value} (ht : lrel m tm ct.toList) {g : ResultVar → Sem Value} (g1 : ∀ t, g (.tmp t) = pure (ct.getD t undef)) (g2 : ∀ a t, g (.cell a t) = (do loadVar t (← asAddr (ct.getD a undef)))) :
  ∀ {rs : List ResultVar} {vs : List Value}, ress P tm H rs = some vs → ∃ vs', lrel m vs vs' ∧ (rs.mapM g).run P w = .ok vs' w
 | [], vs, h => by simp [ress] at h; subst h; exact ⟨[], lrel.nil m, rfl⟩
 | r :: rs, vs, h => by
  unfold ress at h
  split at h
  case h_2 => simp at h
  case h_1 v vs1 hv hvs =>
   simp at h; subst h
   obtain ⟨vs', h1, h2⟩ := ress_run hr ht g1 g2 hvs
   cases r with
   | tmp t =>
    simp only [resOf] at hv
    have hvr := ev_rel (ds := []) (x := .tmp t) ht hv
    exact ⟨ct.getD t undef :: vs', .cons hvr h1, by simp only [List.mapM_cons, Sem.run_bind, Sem.run_pure, g1, h2, Result.andThen_ok]⟩
   | cell a t =>
    simp only [resOf] at hv
    have har := ev_rel (ds := []) (x := .tmp a) ht rfl
    obtain ⟨b, o, hp⟩ : ∃ b o, tm.getD a undef = .pointer (some ⟨b, o, none⟩) := by
     unfold aLoad at hv
     split at hv
     ·rename_i b o heq; exact ⟨b, o, heq⟩
     ·simp at hv
    obtain ⟨v', e1, e2⟩ := load_pure (P := P) hr har hv
    rw [hp] at har
    obtain ⟨a', ha', hae⟩ := har.pointer_inv
    have ha2 : ct.getD a undef = .pointer (some a') := ha'
    have e3 : (loadVar t a').run P w = .ok v' w := by
     have : (Act.eval ⟨ct, []⟩ (.tmp a)) = .pointer (some a') := ha'
     rw [this] at e1
     simpa [Instr.loadAt, Instr.sureAddr] using e1
    have e4 : (asAddr (ct.getD a undef)).run P w = .ok a' w := by rw [ha2]; rfl
    exact ⟨v' :: vs', .cons e2 h1, by simp only [List.mapM_cons, Sem.run_bind, Sem.run_pure, g2, e4, e3, h2, Result.andThen_ok]⟩

theorem results_run {m : Map} {H : AHeap} {w : World} (hr : HR B m H w) {fn : Func} {tm : List Value} {ct : Array Value} (ht : lrel m tm ct.toList) {vs : List Value} (h : ress P tm H fn.results.toList = some vs) :
  ∃ v', (results fn ct).run P w = .ok v' w ∧ vrel m (pack vs) v' := by
 obtain ⟨g, hg, g1, g2⟩ : ∃ g : ResultVar → Sem Value, results fn ct = (do let vs ← fn.results.mapM g; pure (if h : vs.size = 1 then vs[0] else .tuple vs)) ∧ (∀ t, g (.tmp t) = pure (ct.getD t undef)) ∧ ∀ a t, g (.cell a t) = (do loadVar t (← asAddr (ct.getD a undef))) := ⟨_, rfl, fun _ => rfl, fun _ _ => rfl⟩
 obtain ⟨vs', h1, h2⟩ := ress_run (P := P) hr ht g1 g2 h
 have h3 : (fn.results.mapM g).run P w = .ok vs'.toArray w := by
  have e : fn.results = fn.results.toList.toArray := by simp
  rw [e, List.mapM_toArray]
  simp only [Sem.run_map]
  rw [h2]; rfl
 refine ⟨if h : vs'.toArray.size = 1 then vs'.toArray[0] else .tuple vs'.toArray, ?_, ?_⟩
 ·rw [hg]
  simp only [Sem.run_bind, h3, Result.andThen_ok, Sem.run_pure]
 ·have e1 := h1.1
  match vs, vs', h1, e1 with
  | [], [], h1, _ => exact .tup' (lrel.nil m)
  | [v], [v'], h1, _ => exact h1.uncons.1
  | v1 :: v2 :: vs, v1' :: v2' :: vs', h1, _ =>
   have : ¬ ((v1' :: v2' :: vs').toArray.size = 1) := by simp
   rw [dif_neg this]
   exact .tup' h1

/-- What a call of the abstract machine is made of. -/
theorem call_parts {d wm : Nat} {f : FuncId} {args : List Value} {H : AHeap} {v : Value} {H' : AHeap} (h : aCall P F (d + 1) wm f args H = some (v, H')) :
  ∃ fn c e tm vs, P.funcs[f]? = some fn ∧ fn.body = some c ∧ aCode P F (aCall P F d) wm c (args ++ List.replicate (fn.ntmps - args.length) undef) H = some (e, tm, H') ∧ (e = .normal ∨ e = .ret) ∧ ress P tm H' fn.results.toList = some vs ∧ v = pack vs := by
 simp only [aCall] at h
 cases hfn : P.funcs[f]? with
 | none => simp [hfn] at h
 | some fn =>
  simp only [hfn] at h
  cases hc : fn.body with
  | none => simp [hc] at h
  | some c =>
   simp only [hc] at h
   cases hrun : aCode P F (aCall P F d) wm c (args ++ List.replicate (fn.ntmps - args.length) undef) H with
   | none => simp [hrun] at h
   | some r =>
    obtain ⟨e, tm, H1⟩ := r
    cases hvs : ress P tm H1 fn.results.toList with
    | none => cases e <;> simp [hrun, hvs] at h
    | some vs =>
     cases e with
     | exit id => simp [hrun] at h
     | normal => simp [hrun, hvs] at h; obtain ⟨rfl, rfl⟩ := h; exact ⟨fn, c, .normal, tm, vs, rfl, hc, hrun, .inl rfl, hvs, rfl⟩
     | ret => simp [hrun, hvs] at h; obtain ⟨rfl, rfl⟩ := h; exact ⟨fn, c, .ret, tm, vs, rfl, hc, hrun, .inr rfl, hvs, rfl⟩

theorem call_lew (P : Program) (F : Nat) : ∀ (d wm : Nat) (f : FuncId) (args : List Value) (H : AHeap) (v : Value) (H' : AHeap), aCall P F d wm f args H = some (v, H') → H.lew wm H' := by
 intro d
 induction d with
 | zero => intro wm f args H v H' h; simp [aCall] at h
 | succ d ih =>
  intro wm f args H v H' h
  obtain ⟨fn, c, e, tm, vs, _, _, hrun, _⟩ := call_parts h
  exact code_lew ih c _ _ _ _ _ hrun

/-- A call that the abstract machine has run. -/
theorem aOps_keep {wm : Nat} {draw : Bool} {ops : Array Oper} {t : Tmp} : ∀ (os : List Oper) (tm tm' : List Value) (H H' : AHeap), (∀ o ∈ os, o.dst ≠ some t) → aOps P cf wm draw ops os tm H = some (tm', H') → tm'[t]? = tm[t]?
 | [], tm, tm', H, H', _, h => by simp [aOps] at h; rw [h.1]
 | o :: os, tm, tm', H, H', hn, h => by
  have h1 := hn o (by simp)
  have h2 : ∀ o ∈ os, o.dst ≠ some t := fun o ho => hn o (by simp [ho])
  unfold aOps at h
  split at h
  ·split at h
   ·split at h
    ·simp at h
    ·split at h
     ·simp at h
     ·rw [aOps_keep os _ _ _ _ h2 h, keepV h1]
   ·split at h
    ·simp at h
    ·rw [aOps_keep os _ _ _ _ h2 h, keepV h1]
  ·rw [aOps_keep os _ _ _ _ h2 h, keepV h1]
theorem dst_of {t : Tmp} {os : List Oper} (h : os.all (fun o => !(o.dst == some t)) = true) : ∀ o ∈ os, o.dst ≠ some t := fun o ho e => by
 have := List.all_eq_true.1 h o ho
 rw [e] at this; simp at this
theorem aCode_keep {wm : Nat} {t : Tmp} : ∀ (c : Code) (tm : List Value) (H : AHeap) (e : AEx) (tm' : List Value) (H' : AHeap), avoids t c = true → aCode P F cf wm c tm H = some (e, tm', H') → tm'[t]? = tm[t]? := by
 intro c
 induction c with
 | skip => intro tm H e tm' H' _ h; simp [aCode] at h; rw [h.2.1]
 | ret => intro tm H e tm' H' _ h; simp [aCode] at h; rw [h.2.1]
 | region id ops draw =>
  intro tm H e tm' H' hv h
  simp only [aCode] at h
  split at h
  ·rename_i tm1 H1 hops
   simp at h; obtain ⟨_, rfl, _⟩ := h
   exact aOps_keep _ _ _ _ _ (dst_of hv) hops
  ·simp at h
 | seq a b iha ihb =>
  intro tm H e tm' H' hv h
  simp only [avoids, Bool.and_eq_true] at hv
  simp only [aCode] at h
  split at h
  ·rename_i tm1 H1 ha
   rw [ihb _ _ _ _ _ hv.2 h, iha _ _ _ _ _ hv.1 ha]
  ·exact iha _ _ _ _ _ hv.1 h
 | cond x a b iha ihb =>
  intro tm H e tm' H' hv h
  simp only [avoids, Bool.and_eq_true] at hv
  simp only [aCode] at h
  split at h
  ·split at h
   ·exact iha _ _ _ _ _ hv.1 h
   ·exact ihb _ _ _ _ _ hv.2 h
  ·simp at h
 | _ => intro tm H e tm' H' hv; simp [avoids] at hv
theorem Two.keep {a b : Tmp} {ra rb wm : Nat} {c : Code} {tm tm' : List Value} {H H' : AHeap} {e : AEx} (ha : avoids a c = true) (hb : avoids b c = true) (h2 : Two a b ra rb tm) (h : aCode P F cf wm c tm H = some (e, tm', H')) : Two a b ra rb tm' :=
 ⟨h2.1, (aCode_keep c _ _ _ _ _ ha h).trans h2.2.1, (aCode_keep c _ _ _ _ _ hb h).trans h2.2.2⟩
theorem code_simS (hcf : CfOk P B cf) (hP1 : P.follows .mixedOrders = true) (hP2 : NoOwn P) {wm : Nat} {a b : Tmp} {ra rb : Nat} : ∀ (c : Code), codeOkS a b c = true → avoids a c = true → avoids b c = true → ∀ (tm : List Value) (H : AHeap) (e : AEx) (tm' : List Value) (H' : AHeap), Two a b ra rb tm → aCode P F cf wm c tm H = some (e, tm', H') → Sims P B wm c tm H e tm' H' := by
 intro c
 induction c with
 | skip =>
  intro _ _ _ tm H e tm' H' _ h m w ct hr ht Q hq
  simp [aCode] at h; obtain ⟨rfl, rfl, rfl⟩ := h
  exact wp_skip (hq _ _ ⟨rfl, m, Stp.refl hr, ht⟩)
 | ret =>
  intro _ _ _ tm H e tm' H' _ h m w ct hr ht Q hq
  simp [aCode] at h; obtain ⟨rfl, rfl, rfl⟩ := h
  exact wp_ret (hq _ _ ⟨rfl, m, Stp.refl hr, ht⟩)
 | region id ops draw =>
  intro hok hva hvb tm H e tm' H' h2 h m w ct hr ht Q hq
  simp only [aCode] at h
  split at h
  case h_2 => simp at h
  case h_1 tm1 H1 hops =>
   simp at h; obtain ⟨rfl, rfl, rfl⟩ := h
   cases draw with
   | false =>
    refine wp_region ?_
    have := ops_sim hcf hP2 (Q := Q) ops.toList 0 tm tm1 H H1 (by simp) hops m w ct hr ht hq
    rw [List.range_eq_range']
    simpa using this
   | true =>
    simp only [codeOkS, Bool.not_true, Bool.false_or, Bool.or_eq_true] at hok
    rcases hok with hd | hd
    ·exact draw_sim hcf hP2 hP1 (DOk.of hd) (fun _ _ _ _ _ _ => fun i o hl => hl.elim) hops hr ht hq
    ·exact draw_sim hcf hP2 hP1 (DOk.ofS hd) (fun tmF HF dF T e1 e2 => Late.ofS T hd (dst_of hva) (dst_of hvb) (by rw [e1]; exact h2)) hops hr ht hq
 | seq x y iha ihb =>
  intro hok hva hvb tm H e tm' H' h2 h m w ct hr ht Q hq
  simp only [codeOkS, Bool.and_eq_true] at hok
  simp only [avoids, Bool.and_eq_true] at hva hvb
  simp only [aCode] at h
  refine wp_seq ?_
  split at h
  ·rename_i tm1 H1 ha
   refine iha hok.1 hva.1 hvb.1 _ _ _ _ _ h2 ha m w ct hr ht _ (fun a1 w1 hp => ?_)
   obtain ⟨hd, m1, hst, ht1⟩ := hp
   show y.wp P Q a1 w1
   rw [act_eta hd]
   exact ihb hok.2 hva.2 hvb.2 _ _ _ _ _ (h2.keep hva.1 hvb.1 ha) h m1 w1 a1.tmps hst.hr ht1 Q (fun a2 w2 hp2 => hq a2 w2 (PostT.trans hst hp2))
  ·rename_i r hne
   refine iha hok.1 hva.1 hvb.1 _ _ _ _ _ h2 h m w ct hr ht _ (fun a1 w1 hp => ?_)
   cases e with
   | normal => exact absurd h (hne tm' H')
   | exit id => exact hq a1 w1 hp
   | ret => exact hq a1 w1 hp
 | cond v x y iha ihb =>
  intro hok hva hvb tm H e tm' H' h2 h m w ct hr ht Q hq
  simp only [codeOkS, Bool.and_eq_true] at hok
  simp only [avoids, Bool.and_eq_true] at hva hvb
  simp only [aCode] at h
  split at h
  case h_2 => simp at h
  case h_1 t hx =>
   have hb := (ev_rel (ds := []) ht hx).bool_inv
   refine wp_cond hb ?_
   cases t with
   | true => simp at h ⊢; exact iha hok.1 hva.1 hvb.1 _ _ _ _ _ h2 h m w ct hr ht Q hq
   | false => simp at h ⊢; exact ihb hok.2 hva.2 hvb.2 _ _ _ _ _ h2 h m w ct hr ht Q hq
 | _ => intro hok; simp [codeOkS] at hok
/-- a new variable stands behind all others. -/
theorem new_op {wm : Nat} {tm : List Value} {H H' : AHeap} {op : Op} {v : Value} (hn : isNew op = true) (h : aOp P wm tm H op = some (v, H')) : v = .pointer (some ⟨H.n, 0, none⟩) ∧ H'.n = H.n + 1 := by
 have box : ∀ x, aBox H x = some (v, H') → v = .pointer (some ⟨H.n, 0, none⟩) ∧ H'.n = H.n + 1 := fun x hx => by
  unfold aBox at hx
  split at hx
  ·simp at hx; obtain ⟨rfl, rfl⟩ := hx; exact ⟨rfl, rfl⟩
  ·simp at hx
 unfold isNew at hn
 split at hn
 ·unfold aOp at h
  obtain ⟨x, _, h⟩ := bind_some h
  exact box x h
 ·unfold aOp at h
  obtain ⟨x, _, h⟩ := bind_some h
  split at h
  ·exact box x h
  ·simp at h
 ·cases hn
theorem new_step {wm : Nat} {ops : Array Oper} {o : Oper} {os : List Oper} {tm tm' : List Value} {H H' : AHeap} {a : Tmp} (hn : isNew o.op = true) (hd : o.dst = some a) (hg : o.guard = none) (h : aOps P cf wm false ops (o :: os) tm H = some (tm', H')) :
  ∃ H1, H1.n = H.n + 1 ∧ aOps P cf wm false ops os (tm.set a (.pointer (some ⟨H.n, 0, none⟩))) H1 = some (tm', H') := by
 unfold aOps at h
 have hw : Region.wanted o (gotB ops tm) = true := by unfold Region.wanted; rw [hg]
 have hc : isCall o.op = false := by
  revert hn; generalize o.op = op; intro hn; unfold isNew at hn; split at hn <;> first | rfl | cases hn
 rw [if_pos hw, if_neg (by simp [hc])] at h
 split at h
 ·simp at h
 ·rename_i v H1 hop
  obtain ⟨rfl, e⟩ := new_op hn hop
  rw [hd] at h
  exact ⟨H1, e, h⟩
theorem pair_sim (hcf : CfOk P B cf) (hP1 : P.follows .mixedOrders = true) (hP2 : NoOwn P) {wm n : Nat} {c : Code} (hok : pairOk n c = true) {tm : List Value} {H : AHeap} {e : AEx} {tm' : List Value} {H' : AHeap} (hl : n ≤ tm.length) (h : aCode P F cf wm c tm H = some (e, tm', H')) : Sims P B wm c tm H e tm' H' := by
 unfold pairOk at hok
 split at hok
 case h_2 => cases hok
 case h_1 id ops rest =>
  split at hok
  case h_2 => cases hok
  case h_1 o1 o2 os hos =>
   split at hok
   case h_2 => cases hok
   case h_1 a b hda hdb =>
    simp only [Bool.and_eq_true, decide_eq_true_eq, bne_iff_ne, Option.isNone_iff_eq_none] at hok
    obtain ⟨⟨⟨⟨⟨⟨⟨⟨⟨⟨n1, n2⟩, g1⟩, g2⟩, hab⟩, la⟩, lb⟩, hrest⟩, va⟩, vb⟩, ok⟩ := hok
    intro m w ct hr ht Q hq
    simp only [aCode] at h
    refine wp_seq ?_
    split at h
    case h_2 r hne =>
     split at h
     ·rename_i tm1 H1 hops; exact (hne tm1 H1 (by rw [hops])).elim
     ·simp at h
    case h_1 tm1 H1 ha =>
     split at ha
     case h_2 => simp at ha
     case h_1 tm2 H2 hops =>
      simp at ha; obtain ⟨rfl, rfl⟩ := ha
      have htwo : Two a b H.n (H.n + 1) tm2 := by
       rw [hos] at hops
       obtain ⟨H3, e3, hops⟩ := new_step n1 hda g1 hops
       obtain ⟨H4, e4, hops⟩ := new_step n2 hdb g2 hops
       have hka := aOps_keep (t := a) os _ _ _ _ (fun o ho ed => by
        have := List.all_eq_true.1 hrest o ho
        rw [ed] at this; simp at this) hops
       have hkb := aOps_keep (t := b) os _ _ _ _ (fun o ho ed => by
        have := List.all_eq_true.1 hrest o ho
        rw [ed] at this; simp at this) hops
       refine ⟨by omega, ?_, ?_⟩
       ·rw [hka, List.getElem?_set_ne (fun e => hab e.symm), List.getElem?_set_self (Nat.lt_of_lt_of_le la hl)]
       ·rw [hkb, List.getElem?_set_self (by rw [List.length_set]; exact Nat.lt_of_lt_of_le lb hl), e3]
      have hreg : Sims P B wm (.region id ops false) tm H .normal tm2 H2 := by
       intro m w ct hr ht Q hq
       refine wp_region ?_
       have := ops_sim hcf hP2 (Q := Q) ops.toList 0 tm tm2 H H2 (by simp) hops m w ct hr ht hq
       rw [List.range_eq_range']
       simpa using this
      refine hreg m w ct hr ht _ (fun a1 w1 hp => ?_)
      obtain ⟨hd, m1, hst, ht1⟩ := hp
      show rest.wp P Q a1 w1
      rw [act_eta hd]
      exact code_simS hcf hP1 hP2 rest ok va vb _ _ _ _ _ htwo h m1 w1 a1.tmps hst.hr ht1 Q (fun a2 w2 hp2 => hq a2 w2 (PostT.trans hst hp2))
theorem body_sim (hcf : CfOk P B cf) (hP : ProgOk P) {wm n : Nat} {c : Code} (hok : (codeOk c || pairOk n c) = true) {tm : List Value} {H : AHeap} {e : AEx} {tm' : List Value} {H' : AHeap} (hl : n ≤ tm.length) (h : aCode P F cf wm c tm H = some (e, tm', H')) : Sims P B wm c tm H e tm' H' := by
 rw [Bool.or_eq_true] at hok
 rcases hok with hok | hok
 ·exact code_sim hcf hP c hok _ _ _ _ _ h
 ·exact pair_sim hcf hP.mix hP.own hok hl h

theorem call_sim (hP : ProgOk P) (F : Nat) : ∀ d, CfOk P B (aCall P F d) := by
 intro d
 induction d with
 | zero => exact ⟨fun wm f args H v H' h => by simp [aCall] at h, fun wm f args H v H' h => by simp [aCall] at h, fun wm f args H v H' h => by simp [aCall] at h⟩
 | succ d ih =>
  refine ⟨fun wm f args H v H' h m w cargs hr hargs => ?_, fun wm f args H v H' h => call_lew P F (d + 1) wm f args H v H' h, fun wm f args H v H' h => ?_⟩
  ·obtain ⟨fn, c, e, tm, vs, hfn, hc, hrun, he, hvs, rfl⟩ := call_parts h
   have hok : (codeOk c || pairOk fn.ntmps c) = true := by have := hP.draw f fn hfn; simpa [funcOk, hc] using this
   have hlen : args.length = cargs.size := by have := hargs.1; simpa using this
   have hfr : lrel m (args ++ List.replicate (fn.ntmps - args.length) undef) (cargs ++ Array.replicate (fn.ntmps - cargs.size) undef).toList := by
    rw [Array.toList_append, Array.toList_replicate, hlen]
    exact hargs.append (lrel.replicate _ (vrel.undef m))
   refine calls_of_wp hfn hc ?_
   refine body_sim ih hP hok (by simp; omega) hrun m w _ hr hfr _ (fun a w' hp => ?_)
   obtain ⟨hd, m1, hst, ht⟩ := hp
   obtain ⟨v', h1, h2⟩ := results_run (P := P) hst.hr (fn := fn) ht hvs
   have hend : a.defers = [] ∧ ∃ v, (results fn a.tmps).run P w' = .ok v w' ∧ (∃ v' m', Ending.returned v = .returned v' ∧ vrel m' (pack vs) v' ∧ Stp B wm m H w m' H' w') := ⟨hd, v', h1, v', m1, rfl, h2, hst⟩
   rcases he with rfl | rfl
   ·exact hend
   ·exact hend
  ·obtain ⟨fn, c, e, tm, vs, hfn, hc, hrun, he, hvs, rfl⟩ := call_parts h
   exact ⟨fn, hfn, by simp [hc]⟩

/-- Below the heap's size when the whole began nothing has turned. -/
theorem Stp.below {wm : Nat} {m m' : Map} {H H' : AHeap} {w w' : World} (hB : B = w.heap.size) (h : Stp B wm m H w m' H' w') (h0 : HR B m H w) : Go.RowKit.Below w.heap.size w w' := by
 refine ⟨h.os, h.tape, h.output, h.size, fun k hk => h.keep k hk (fun ⟨b, g, _, hmi, hm, hcc⟩ => ?_)⟩
 have hown : g.own = true := by
  cases hg : H.get b with
  | none => rw [hg] at hmi; simp [mine] at hmi
  | some o => rw [hg] at hmi; exact (h0.obj _ _ _ hg hm).own_of_mine hmi
 have := (h0.own _ _ hm).1 hown
 omega

/-- THE WHOLE: what the abstract machine returns, the model returns, and turns nothing that was there. -/
theorem returns (hP : ProgOk P) {d : Nat} {f : FuncId} {args : List Value} {H H' : AHeap} {b : Bool} (h : aCall P F d 0 f args H = some (.bool b, H')) {m : Map} {w : World} {cargs : Array Value} (hr : HR w.heap.size m H w) (ha : lrel m args cargs.toList) :
  Calls P f cargs w fun e w' => e = .returned (.bool b) ∧ Go.RowKit.Below w.heap.size w w' :=
 ((call_sim hP F d).sim _ _ _ _ _ _ h m w cargs hr ha).mono fun e w' ⟨v', m', he, hv, hst⟩ => by
  obtain rfl := hv.bool_inv
  exact ⟨he, hst.below rfl hr⟩
end
end Go.Am
