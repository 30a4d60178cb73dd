/- RandRolls: what the code that the law reaches computes, as plain functions; and that the law comes to true. -/
import Derived.Test.YtpkfklfakegbjaaAmU
set_option linter.unusedVariables false
set_option linter.unusedSimpArgs false
set_option maxRecDepth 100000
open Go Go.Am
namespace Go.Proofs.Ytpkfklfakegbjaa.randRolls
noncomputable def M.anamnesislaw13_vec (l1 : (List Int)) : Option (Val) :=
  some (Val.mk false ([(l1.length : Int)]) l1)
noncomputable def M.slices_IndexFunc__int64_L1 (s1 : (List Int)) (f1 : (Int → Option (Bool))) (s : Int) : Option (Ctl (Int) (Ctl (Unit) (Int))) :=
  match s with
  | t1 =>
    if (decide (t1 < (s1.length : Int))) then
      (idx s1 t1).bind fun y1 =>
      (f1 y1).bind fun r1 =>
      if r1 then
        some (.done (.done t1))
      else
        some (.next (IntKind.i64.wrap (t1 + 1)))
    else
      some (.done (.next ()))
noncomputable def M.slices_IndexFunc__int64 (s1 : (List Int)) (f1 : (Int → Option (Bool))) : Option (Int) :=
  (wloop (M.slices_IndexFunc__int64_L1 s1 f1) 0).bind fun k => joinK k fun _ =>
  some (-1)
noncomputable def M.slices_ContainsFunc__int64 (s1 : (List Int)) (f1 : (Int → Option (Bool))) : Option (Bool) :=
  (M.slices_IndexFunc__int64 s1 f1).bind fun r1 =>
  some (decide (r1 ≥ 0))
noncomputable def M.unicode_utf8_ValidRune (r1 : Int) : Option (Bool) :=
  if ((decide (0 ≤ r1)) && (decide (r1 < 55296))) then
    some true
  else
    if ((decide (57343 < r1)) && (decide (r1 ≤ 1114111))) then
      some true
    else
      some false
noncomputable def M.value_character (n1 : Int) : Option (Bool) :=
  (if ((decide (n1 ≥ 0)) && (decide (n1 ≤ 1114111))) then
  (M.unicode_utf8_ValidRune (IntKind.i32.wrap n1)).bind fun r1 =>
  some r1 else
  some false).bind fun c2 =>
  some c2
noncomputable def M.value_Right_1 (n1 : Int) : Option (Bool) :=
  (M.value_character n1).bind fun r1 =>
  some (!r1)
noncomputable def M.value_Right_L1 (v1 : Val) (s : Int × Int) : Option (Ctl (Int × Int) (Ctl (Int) (Bool))) :=
  match s with
  | (size1, t1) =>
    if (decide (t1 < (v1.Shape.length : Int))) then
      (idx v1.Shape t1).bind fun y1 =>
      if ((decide (y1 < 0)) || (decide (y1 > 10000))) then
        some (.done (.done false))
      else
        some (.next ((IntKind.i64.wrap (size1 * y1)), (IntKind.i64.wrap (t1 + 1))))
    else
      some (.done (.next size1))
noncomputable def M.value_Right (v1 : Val) : Option (Bool) :=
  if (decide ((v1.Shape.length : Int) > 4)) then
    some false
  else
    (wloop (M.value_Right_L1 v1) (1, 0)).bind fun k => joinK k fun size1 =>
    if ((decide (size1 > 10000)) || (size1 != (v1.Data.length : Int))) then
      some false
    else
      (if (!v1.Char) then
      some true else
      (M.slices_ContainsFunc__int64 v1.Data (fun x0 => M.value_Right_1 x0)).bind fun r1 =>
      some (!r1)).bind fun c4 =>
      some c4
noncomputable def M.rand_Roll_1 (n1 : Int) : Option (Bool) :=
  some (decide (n1 < 1))
noncomputable def M.slices_Clone__int (s1 : (List Int)) : Option ((List Int)) :=
  app 8 [] s1
noncomputable def M.slices_Clone__int64 (s1 : (List Int)) : Option ((List Int)) :=
  app 8 [] s1
noncomputable def M.value_Copy (v1 : Val) : Option (Val) :=
  (M.slices_Clone__int v1.Shape).bind fun r1 =>
  (M.slices_Clone__int64 v1.Data).bind fun r2 =>
  some (Val.mk v1.Char r1 r2)
noncomputable def M.rand_drawn (draws1 : (List Int)) (at1 : Int) (n1 : Int) : Option (Int) :=
  if (decide (at1 ≥ (draws1.length : Int))) then
    some 0
  else
    (idx draws1 at1).bind fun y1 =>
    (remI y1 (IntKind.u64.wrap n1)).bind fun q1 =>
    some (IntKind.i64.wrap q1)
noncomputable def M.rand_Roll_L1 (draws1 : (List Int)) (at1 : Int) (r3 : Val) (s : Int × (List Int)) : Option (Ctl (Int × (List Int)) (Ctl ((List Int)) (Val × Int × Int))) :=
  match s with
  | (t2, l1) =>
    if (decide (t2 < (r3.Data.length : Int))) then
      (idx l1 t2).bind fun y1 =>
      (M.rand_drawn draws1 (IntKind.i64.wrap (at1 + t2)) y1).bind fun r4 =>
      (idx l1 t2).bind fun y2 =>
      (upd l1 t2 (IntKind.i64.wrap (1 + r4))).bind fun l2 =>
      some (.next ((IntKind.i64.wrap (t2 + 1)), l2))
    else
      some (.done (.next l1))
noncomputable def M.rand_Roll (b1 : Val) (draws1 : (List Int)) (at1 : Int) : Option (Val × Int × Int) :=
  (M.value_Right b1).bind fun r1 =>
  if (((!r1) || (decide (at1 < 0))) || (decide (at1 > 1099511627776))) then
    some ((Val.mk false ([]) ([])), at1, 1)
  else
    (if b1.Char then
      some b1.Char
    else
      (M.slices_ContainsFunc__int64 b1.Data (fun x0 => M.rand_Roll_1 x0)).bind fun r2 =>
      some r2).bind fun t1 =>
    if t1 then
      some ((Val.mk false ([]) ([])), at1, 23)
    else
      (M.value_Copy b1).bind fun r3 =>
      (wloop (M.rand_Roll_L1 draws1 at1 r3) (0, r3.Data)).bind fun k => joinK k fun l1 =>
      some ((Val.mk r3.Char r3.Shape l1), (IntKind.i64.wrap (at1 + (l1.length : Int))), 0)
noncomputable def M.anamnesislaw13_one (n1 : Int) : Option (Val) :=
  some (Val.mk false ([]) ([n1]))
noncomputable def M.anamnesisref06_Same_L2 (a1 : Val) (b1 : Val) (s : Int) : Option (Ctl (Int) (Ctl (Unit) (Bool))) :=
  match s with
  | i2 =>
    if (decide (i2 < (a1.Data.length : Int))) then
      (idx a1.Data i2).bind fun y3 =>
      (idx b1.Data i2).bind fun y4 =>
      if (y3 != y4) then
        some (.done (.done false))
      else
        some (.next (IntKind.i64.wrap (i2 + 1)))
    else
      some (.done (.next ()))
noncomputable def M.anamnesisref06_Same_L1 (a1 : Val) (b1 : Val) (s : Int) : Option (Ctl (Int) (Ctl (Unit) (Bool))) :=
  match s with
  | i1 =>
    if (decide (i1 < (a1.Shape.length : Int))) then
      (idx a1.Shape i1).bind fun y1 =>
      (idx b1.Shape i1).bind fun y2 =>
      if (y1 != y2) then
        some (.done (.done false))
      else
        some (.next (IntKind.i64.wrap (i1 + 1)))
    else
      some (.done (.next ()))
noncomputable def M.anamnesisref06_Same (a1 : Val) (b1 : Val) : Option (Bool) :=
  if (((!(a1.Char == b1.Char)) || ((a1.Shape.length : Int) != (b1.Shape.length : Int))) || ((a1.Data.length : Int) != (b1.Data.length : Int))) then
    some false
  else
    (wloop (M.anamnesisref06_Same_L1 a1 b1) 0).bind fun k => joinK k fun _ =>
    (wloop (M.anamnesisref06_Same_L2 a1 b1) 0).bind fun k => joinK k fun _ =>
    some true
noncomputable def M.anamnesislaw13_RandRolls_L2 (l1 : (List Int)) (to1 : Int) (r2 : Val) (r6 : Val) (r10 : Val) (s : Int) : Option (Ctl (Int) (Ctl (Unit) (Bool))) :=
  match s with
  | i2 =>
    if (decide (i2 < (l1.length : Int))) then
      (app 8 ([] : List Int) r6.Data).bind fun l4 =>
      (app 8 l4 r10.Data).bind fun l5 =>
      (idx r2.Data i2).bind fun y2 =>
      (if (decide (y2 < 1)) then
      some true else
      (idx r2.Data i2).bind fun y3 =>
      (idx l1 i2).bind fun y4 =>
      some (decide (y3 > y4))).bind fun c11 =>
      (if c11 then
      some true else
      (idx l5 i2).bind fun y5 =>
      (idx r2.Data i2).bind fun y6 =>
      some (y5 != y6)).bind fun c12 =>
      if c12 then
        some (.done (.done false))
      else
        (idx l1 i2).bind fun y7 =>
        (remI to1 (IntKind.u64.wrap y7)).bind fun q2 =>
        (idx l1 i2).bind fun y8 =>
        (M.anamnesislaw13_one y8).bind fun r13 =>
        (M.rand_Roll r13 ([(IntKind.u64.wrap ((IntKind.u64.wrap (IntKind.i64.wrap ((IntKind.i64.wrap q2) + 1))) - 1))]) 0).bind fun (r14, r15, r16) =>
        (if (r16 != 0) then
        some true else
        (M.anamnesislaw13_one (IntKind.i64.wrap ((IntKind.i64.wrap q2) + 1))).bind fun r17 =>
        (M.anamnesisref06_Same r14 r17).bind fun r18 =>
        some (!r18)).bind fun c13 =>
        if c13 then
          some (.done (.done false))
        else
          some (.next (IntKind.i64.wrap (i2 + 1)))
    else
      some (.done (.next ()))
noncomputable def M.anamnesislaw13_RandRolls_L1 (l1 : (List Int)) (s : Int) : Option (Ctl (Int) (Ctl (Unit) (Bool))) :=
  match s with
  | i1 =>
    if (decide (i1 < (l1.length : Int))) then
      (idx l1 i1).bind fun y1 =>
      if (decide (y1 < 1)) then
        some (.done (.done true))
      else
        some (.next (IntKind.i64.wrap (i1 + 1)))
    else
      some (.done (.next ()))
noncomputable def M.anamnesislaw13_RandRolls (l1 : (List Int)) (draws1 : (List Int)) (cut1 : Int) (to1 : Int) : Option (Bool) :=
  if (decide ((l1.length : Int) > 100)) then
    some true
  else
    (wloop (M.anamnesislaw13_RandRolls_L1 l1) 0).bind fun k => joinK k fun _ =>
    (remI (IntKind.i64.wrap cut1) (IntKind.i64.wrap ((l1.length : Int) + 1))).bind fun q1 =>
    (M.anamnesislaw13_vec l1).bind fun r1 =>
    (M.rand_Roll r1 draws1 0).bind fun (r2, r3, r4) =>
    (sub l1 0 q1).bind fun l2 =>
    (M.anamnesislaw13_vec l2).bind fun r5 =>
    (M.rand_Roll r5 draws1 0).bind fun (r6, r7, r8) =>
    (sub l1 q1 l1.length).bind fun l3 =>
    (M.anamnesislaw13_vec l3).bind fun r9 =>
    (M.rand_Roll r9 draws1 r7).bind fun (r10, r11, r12) =>
    if (((((((((r4 != 0) || (r8 != 0)) || (r12 != 0)) || (r3 != (l1.length : Int))) || (r7 != q1)) || (r11 != r3)) || ((r2.Data.length : Int) != r3)) || ((r6.Data.length : Int) != q1)) || ((r10.Data.length : Int) != (IntKind.i64.wrap (r3 - q1)))) then
      some false
    else
      (wloop (M.anamnesislaw13_RandRolls_L2 l1 to1 r2 r6 r10) 0).bind fun k => joinK k fun _ =>
      some true
theorem w64_id {x : Int} (h1 : -9223372036854775808 ≤ x) (h2 : x ≤ 9223372036854775807) : IntKind.i64.wrap x = x := wrap_id h1 h2
/-- A loop comes to an end in a state with Q: P holds ahead of each round, and its number falls. -/
theorem wloop_ind {σ β : Type} {f : σ → Option (Ctl σ β)} (P : Nat → σ → Prop) (Q : β → Prop)
    (h : ∀ n s, P n s → (∃ s' n', f s = some (.next s') ∧ n' < n ∧ P n' s') ∨ (∃ b, f s = some (.done b) ∧ Q b)) : ∀ n s, P n s → ∃ b, wloop f s = some b ∧ Q b := by
  intro n
  induction n using Nat.strongRecOn with
  | _ n ih =>
    intro s hp
    rcases h n s hp with ⟨s', n', hf, hn, hp'⟩ | ⟨b, hf, hq⟩
    · obtain ⟨b, hb, hq⟩ := ih n' hn s' hp'
      exact ⟨b, by rw [wloop_next hf]; exact hb, hq⟩
    · exact ⟨b, wloop_done hf, hq⟩
theorem idx_nat {α : Type} (l : List α) (k : Nat) : idx l (k : Int) = l[k]? := by
  unfold idx; rw [if_pos (by omega)]; rfl
theorem idx_get {α : Type} {l : List α} {k : Nat} (h : k < l.length) : idx l (k : Int) = some l[k] := by rw [idx_nat, List.getElem?_eq_getElem h]
theorem upd_nat {α : Type} {l : List α} {k : Nat} {x : α} (h : k < l.length) : upd l (k : Int) x = some (l.set k x) := by
  unfold upd; rw [if_pos ⟨by omega, by omega⟩]; rfl
theorem app_ok {α : Type} {b : Nat} {l m : List α} (h : (l.length + m.length) * b ≤ 140737488355328) : app b l m = some (l ++ m) := by
  unfold app; rw [if_pos (.inr h)]
theorem mk_ok {α : Type} {b : Nat} {z : α} {n : Nat} (h : b * n ≤ 140737488355328) (h' : n ≤ 140737488355328) : mk b z (n : Int) (n : Int) = some (List.replicate n z) := by
  unfold mk
  have : ((b : Int) * (n : Int)) ≤ 140737488355328 := by
    have h2 : ((b * n : Nat) : Int) ≤ 140737488355328 := by omega
    rwa [Int.natCast_mul] at h2
  rw [if_pos ⟨by omega, by omega, this, by omega⟩]; rfl
/-- the numbers that a kind has. -/
theorem wf64 {n : Int} (h : (Lit.int .i64 n).wf = true) : -9223372036854775808 ≤ n ∧ n ≤ 9223372036854775807 := by
  have h2 : (decide (IntKind.i64.min ≤ n) && decide (n ≤ IntKind.i64.max)) = true := h
  have e1 : IntKind.i64.min = -9223372036854775808 := by decide
  have e2 : IntKind.i64.max = 9223372036854775807 := by decide
  rw [e1, e2] at h2
  simpa using h2
theorem sub_drop {α : Type} {l : List α} {k : Nat} (h : k ≤ l.length) : sub l (k : Int) (l.length : Int) = some (l.drop k) := by
  unfold sub
  rw [if_pos ⟨by omega, by omega, by omega⟩]
  simp
theorem drop_cons {α : Type} {l : List α} {k : Nat} (h : k < l.length) : l.drop k = l[k] :: l.drop (k + 1) := List.drop_eq_getElem_cons h
theorem same_loop {f : Int → Option (Ctl Int (Ctl Unit Bool))} {a b : List Int} (hl : a.length = b.length) (hm : a.length ≤ maxLen)
    (hf : ∀ k : Nat, ∀ h : k < a.length, f k = if a[k] = b[k]'(hl ▸ h) then some (.next ((k : Int) + 1)) else some (.done (.done false))) (he : f a.length = some (.done (.next ()))) :
    wloop f 0 = some (if a = b then .next () else .done false) := by
  have key := wloop_ind (f := f) (fun n i => ∃ k : Nat, i = k ∧ k ≤ a.length ∧ n = a.length - k ∧ a.take k = b.take k)
    (fun c => (c = .done false ∧ a ≠ b) ∨ (c = .next () ∧ a = b)) (fun n i h => by
      obtain ⟨k, rfl, hk, rfl, hn⟩ := h
      by_cases hlt : k < a.length
      · rw [hf k hlt]
        by_cases he : a[k] = b[k]
        · rw [if_pos he]
          left
          refine ⟨_, a.length - (k + 1), rfl, by omega, k + 1, by omega, by omega, rfl, ?_⟩
          rw [List.take_succ_eq_append_getElem hlt, List.take_succ_eq_append_getElem (by omega), hn, he]
        · rw [if_neg he]
          right
          refine ⟨_, rfl, .inl ⟨rfl, fun h => he ?_⟩⟩
          subst h; rfl
      · have : k = a.length := by omega
        subst this
        right
        refine ⟨_, he, .inr ⟨rfl, ?_⟩⟩
        rw [List.take_length, hl, List.take_length] at hn
        exact hn) a.length 0 ⟨0, rfl, by omega, by omega, by simp⟩
  obtain ⟨c, hc, ⟨rfl, h⟩ | ⟨rfl, h⟩⟩ := key
  · rw [hc]; simp [h]
  · rw [hc]; simp [h]

theorem same_step {f : Int → Option (Ctl Int (Ctl Unit Bool))} {a b : List Int} (hl : a.length = b.length) (hm : a.length ≤ maxLen)
    (hf : ∀ k : Nat, ∀ h : k < a.length, f k = if a[k] = b[k]'(hl ▸ h) then some (.next ((k : Int) + 1)) else some (.done (.done false))) (he : f a.length = some (.done (.next ()))) :
    (wloop f 0).bind (fun k => joinK k fun _ => some true) = some (decide (a = b)) := by
  rw [same_loop hl hm hf he]
  by_cases h : a = b
  · rw [if_pos h, decide_eq_true h]; rfl
  · rw [if_neg h, decide_eq_false h]; rfl
theorem contains_int64 {s : List Int} {f : Int → Option Bool} {g : Int → Bool} (hf : ∀ x ∈ s, f x = some (g x)) (hl : s.length ≤ 9223372036854775807) : M.slices_ContainsFunc__int64 s f = some (s.any g) := by
  have key := wloop_ind (f := M.slices_IndexFunc__int64_L1 s f) (fun n i => ∃ k : Nat, i = k ∧ k ≤ s.length ∧ n = s.length - k ∧ (s.take k).any g = false)
    (fun b => (∃ i : Int, b = .done i ∧ 0 ≤ i ∧ s.any g = true) ∨ (b = .next () ∧ s.any g = false)) (fun n i h => by
      obtain ⟨k, rfl, hk, rfl, hn⟩ := h
      unfold M.slices_IndexFunc__int64_L1
      by_cases hlt : k < s.length
      · simp only [show decide ((k : Int) < (s.length : Int)) = true from by simp; exact hlt, if_true, idx_get hlt, Option.bind_some, hf _ (List.getElem_mem hlt)]
        cases hg : g s[k] with
        | true =>
          right
          refine ⟨_, rfl, .inl ⟨_, rfl, by omega, ?_⟩⟩
          rw [List.any_eq_true]
          exact ⟨_, List.getElem_mem hlt, hg⟩
        | false =>
          left
          refine ⟨_, s.length - (k + 1), rfl, by omega, k + 1, ?_, by omega, rfl, ?_⟩
          · rw [w64_id (by omega) (by omega)]; omega
          · rw [List.take_succ_eq_append_getElem hlt, List.any_append, hn]; simp [hg]
      · have : k = s.length := by omega
        subst this
        right
        simp only [show decide ((s.length : Int) < (s.length : Int)) = false from by simp, Bool.false_eq_true, if_false]
        exact ⟨_, rfl, .inr ⟨rfl, by simpa using hn⟩⟩) s.length 0 ⟨0, rfl, by omega, by omega, by simp⟩
  unfold M.slices_ContainsFunc__int64 M.slices_IndexFunc__int64
  obtain ⟨b, hb, ⟨i, rfl, h0, ha⟩ | ⟨rfl, ha⟩⟩ := key
  · rw [hb, ha]; simp [h0]
  · rw [hb, ha]; simp
def prod : List Int → Int
  | [] => 1
  | x :: s => x * prod s
def off : List Int → List Int → Int
  | x :: s, a :: at_ => a * prod s + off s at_
  | _, _ => 0
def dig : List Int → Int → List Int
  | [], _ => []
  | _ :: s, k => k / prod s :: dig s (k % prod s)
/-- is a place in a shape? -/
def inShape : List Int → List Int → Prop
  | [], [] => True
  | x :: s, a :: at_ => 0 ≤ a ∧ a < x ∧ inShape s at_
  | _, _ => False
instance : (s at_ : List Int) → Decidable (inShape s at_)
  | [], [] => isTrue trivial
  | x :: s, a :: at_ =>
    have := instDecidableInShape s at_
    by unfold inShape; exact inferInstance
  | [], _ :: _ => isFalse (fun h => h)
  | _ :: _, [] => isFalse (fun h => h)
theorem inShape.len : ∀ {s at_ : List Int}, inShape s at_ → at_.length = s.length
  | [], [], _ => rfl
  | x :: s, a :: at_, ⟨_, _, h⟩ => by simp [h.len]
  | [], _ :: _, h => h.elim
  | _ :: _, [], h => h.elim
theorem inShape.pos : ∀ {s at_ : List Int}, inShape s at_ → 0 < prod s
  | [], [], _ => by simp [prod]
  | x :: s, a :: at_, ⟨h0, h1, h⟩ => by
    have := h.pos
    exact Int.mul_pos (by omega) this
  | [], _ :: _, h => h.elim
  | _ :: _, [], h => h.elim
theorem off_range : ∀ {s at_ : List Int}, inShape s at_ → 0 ≤ off s at_ ∧ off s at_ < prod s
  | [], [], _ => by simp [prod, off]
  | x :: s, a :: at_, ⟨h0, h1, h⟩ => by
    have h2 := off_range h
    have h3 := h.pos
    have h4 : (a + 1) * prod s ≤ x * prod s := Int.mul_le_mul_of_nonneg_right (by omega) (by omega)
    have h5 : 0 ≤ a * prod s := Int.mul_nonneg h0 (by omega)
    rw [Int.add_mul] at h4
    simp only [prod, off]
    omega
  | [], _ :: _, h => h.elim
  | _ :: _, [], h => h.elim
theorem dig_off : ∀ {s at_ : List Int}, inShape s at_ → dig s (off s at_) = at_
  | [], [], _ => rfl
  | x :: s, a :: at_, ⟨h0, h1, h⟩ => by
    have h2 := off_range h
    have h3 := h.pos
    simp only [dig, off]
    rw [Int.add_comm, Int.mul_comm, Int.add_mul_ediv_left _ _ (by omega), Int.add_mul_emod_self_left, Int.emod_eq_of_lt h2.1 h2.2, dig_off h, Int.ediv_eq_zero_of_lt h2.1 h2.2]
    simp
  | [], _ :: _, h => h.elim
  | _ :: _, [], h => h.elim
def allPos (s : List Int) : Prop := ∀ x ∈ s, 0 < x
theorem allPos.pprod : ∀ {s : List Int}, allPos s → 0 < prod s
  | [], _ => by simp [prod]
  | x :: s, h => Int.mul_pos (h x List.mem_cons_self) (allPos.pprod fun y hy => h y (List.mem_cons_of_mem _ hy))
theorem allPos_of {s : List Int} (h : ∀ x ∈ s, 0 ≤ x) (hp : 0 < prod s) : allPos s := by
  intro x hx
  have h0 := h x hx
  rcases Int.lt_or_eq_of_le h0 with h1 | h1
  · exact h1
  · exfalso
    have : ∀ s : List Int, (0 : Int) ∈ s → prod s = 0 := by
      intro s
      induction s with
      | nil => intro h; simp at h
      | cons y s ih =>
        intro h
        rcases List.mem_cons.mp h with h | h
        · simp [prod, ← h]
        · simp [prod, ih h]
    rw [this s (h1 ▸ hx)] at hp
    omega
theorem dig_in : ∀ {s : List Int} {k : Int}, allPos s → 0 ≤ k → k < prod s → inShape s (dig s k)
  | [], k, _, h0, h1 => trivial
  | x :: s, k, h, h0, h1 => by
    have hs : allPos s := fun y hy => h y (List.mem_cons_of_mem _ hy)
    have hp := hs.pprod
    refine ⟨Int.ediv_nonneg h0 (by omega), ?_, dig_in hs (Int.emod_nonneg _ (by omega)) (Int.emod_lt_of_pos _ hp)⟩
    exact Int.ediv_lt_of_lt_mul hp h1
theorem off_dig : ∀ {s : List Int} {k : Int}, allPos s → 0 ≤ k → k < prod s → off s (dig s k) = k
  | [], k, _, h0, h1 => by simp [prod] at h1; simp [dig, off]; omega
  | x :: s, k, h, h0, h1 => by
    have hs : allPos s := fun y hy => h y (List.mem_cons_of_mem _ hy)
    have hp := hs.pprod
    simp only [dig, off]
    rw [off_dig hs (Int.emod_nonneg _ (by omega)) (Int.emod_lt_of_pos _ hp)]
    rw [Int.mul_comm]; exact Int.mul_ediv_add_emod k (prod s)
theorem dig_len : ∀ (s : List Int) (k : Int), (dig s k).length = s.length
  | [], _ => rfl
  | x :: s, k => by simp [dig, dig_len s]
theorem prod_nonneg : ∀ {s : List Int}, (∀ x ∈ s, 0 ≤ x) → 0 ≤ prod s
  | [], _ => by simp [prod]
  | x :: s, h => Int.mul_nonneg (h x List.mem_cons_self) (prod_nonneg fun y hy => h y (List.mem_cons_of_mem _ hy))
theorem prod_append : ∀ (s t : List Int), prod (s ++ t) = prod s * prod t
  | [], t => by simp [prod]
  | x :: s, t => by simp [prod, prod_append s t, Int.mul_assoc]

/-- the size of a shape, or the error. -/
def shSize (s : List Int) : Int × Int :=
  if 4 < s.length then (0, 24) else if s.any (fun x => decide (x < 0)) then (0, 1) else if s.any (fun x => decide (x > 10000)) || decide (prod s > 10000) then (0, 27) else (prod s, 0)
def shOk (s : List Int) : Prop := s.length ≤ 4 ∧ (∀ x ∈ s, 0 ≤ x ∧ x ≤ 10000) ∧ prod s ≤ 10000
instance (s : List Int) : Decidable (shOk s) := by unfold shOk; exact inferInstance
theorem shSize_ok {s : List Int} (h : shOk s) : shSize s = (prod s, 0) := by
  obtain ⟨h1, h2, h3⟩ := h
  unfold shSize
  rw [if_neg (by omega), if_neg, if_neg]
  · simp only [Bool.or_eq_true, List.any_eq_true, decide_eq_true_eq]
    rintro (⟨x, hx, h⟩ | h)
    · have := h2 x hx; omega
    · omega
  · simp only [List.any_eq_true, decide_eq_true_eq]
    rintro ⟨x, hx, h⟩
    have := h2 x hx; omega
theorem shSize_zero {s : List Int} : (shSize s).2 = 0 ↔ shOk s := by
  constructor
  · intro h
    unfold shSize at h
    split at h
    · cases h
    · rename_i h1
      split at h
      · cases h
      · rename_i h2
        split at h
        · cases h
        · rename_i h3
          simp only [List.any_eq_true, decide_eq_true_eq, not_exists, not_and] at h2
          simp only [Bool.or_eq_true, List.any_eq_true, decide_eq_true_eq, not_or, not_exists, not_and] at h3
          exact ⟨by omega, fun x hx => ⟨by have := h2 x hx; omega, by have := h3.1 x hx; omega⟩, by omega⟩
  · intro h; rw [shSize_ok h]
theorem shSize_cases (s : List Int) : (shOk s ∧ shSize s = (prod s, 0)) ∨ (¬ shOk s ∧ (shSize s).2 ≠ 0 ∧ (shSize s).1 = 0) := by
  by_cases h : shOk s
  · exact .inl ⟨h, shSize_ok h⟩
  · refine .inr ⟨h, fun hh => h (shSize_zero.mp hh), ?_⟩
    unfold shSize
    split
    · rfl
    · rename_i h1
      split
      · rfl
      · rename_i h2
        split
        · rfl
        · rename_i h3
          exfalso; apply h
          simp only [List.any_eq_true, decide_eq_true_eq, not_exists, not_and] at h2
          simp only [Bool.or_eq_true, List.any_eq_true, decide_eq_true_eq, not_or, not_exists, not_and] at h3
          exact ⟨by omega, fun x hx => ⟨by have := h2 x hx; omega, by have := h3.1 x hx; omega⟩, by omega⟩
theorem dig_bound {s : List Int} {k : Int} (hok : shOk s) (h0 : 0 ≤ k) (h1 : k < prod s) : ∀ x ∈ dig s k, 0 ≤ x ∧ x ≤ 10000 := by
  have hpos : allPos s := allPos_of (fun x hx => (hok.2.1 x hx).1) (by omega)
  have key : ∀ (s at_ : List Int), inShape s at_ → (∀ x ∈ s, 0 ≤ x ∧ x ≤ 10000) → ∀ x ∈ at_, 0 ≤ x ∧ x ≤ 10000 := by
    intro s
    induction s with
    | nil => intro at_ h _ x hx; cases at_ with | nil => simp at hx | cons _ _ => exact h.elim
    | cons y s ih =>
      intro at_ h hb x hx
      cases at_ with
      | nil => exact h.elim
      | cons a at_ =>
        obtain ⟨h1, h2, h3⟩ := h
        rcases List.mem_cons.mp hx with rfl | hx
        · have := hb y List.mem_cons_self; omega
        · exact ih at_ h3 (fun z hz => hb z (List.mem_cons_of_mem _ hz)) x hx
  exact key s _ (dig_in hpos h0 h1) hok.2.1
theorem dig_zero : ∀ {s : List Int}, allPos s → dig s 0 = List.replicate s.length 0
  | [], _ => rfl
  | x :: s, h => by
    have hs : allPos s := fun y hy => h y (List.mem_cons_of_mem _ hy)
    simp only [dig, Int.zero_ediv, Int.zero_emod, dig_zero hs]; rfl

theorem one_le_pow : ∀ k : Nat, (1 : Int) ≤ 10000 ^ k
  | 0 => by simp
  | k + 1 => by rw [Int.pow_succ]; have := one_le_pow k; omega
theorem prod_bound : ∀ (s : List Int) (k : Nat), s.length ≤ k → (∀ x ∈ s, 0 ≤ x ∧ x ≤ 10000) → 0 ≤ prod s ∧ prod s ≤ 10000 ^ k
  | [], k, _, _ => ⟨by simp [prod], one_le_pow k⟩
  | x :: s, k + 1, hl, h => by
    have h1 := h x List.mem_cons_self
    have h2 := prod_bound s k (by simpa using hl) (fun y hy => h y (List.mem_cons_of_mem _ hy))
    refine ⟨Int.mul_nonneg h1.1 h2.1, ?_⟩
    simp only [prod]
    have h3 : x * prod s ≤ 10000 * prod s := Int.mul_le_mul_of_nonneg_right h1.2 h2.1
    have h4 : (10000 : Int) ^ (k + 1) = 10000 ^ k * 10000 := Int.pow_succ _ _
    omega
  | x :: s, 0, hl, h => by simp at hl

/-- is a number a character? -/
def chOk (c : Int) : Bool := decide (0 ≤ c ∧ c ≤ 1114111) && !decide (55296 ≤ c ∧ c ≤ 57343)
/-- may an array be? -/
def vRight (v : Val) : Bool := decide (shOk v.Shape) && decide (prod v.Shape = v.Data.length) && (!v.Char || v.Data.all chOk)
def vSame (a b : Val) : Bool := (a.Char == b.Char) && decide (a.Shape = b.Shape) && decide (a.Data = b.Data)
theorem vSame_iff {a b : Val} : vSame a b = true ↔ a = b := by
  obtain ⟨c, s, d⟩ := a
  obtain ⟨c', s', d'⟩ := b
  simp only [vSame, Bool.and_eq_true, beq_iff_eq, decide_eq_true_eq, Val.mk.injEq]
  constructor
  · rintro ⟨⟨h1, h2⟩, h3⟩; exact ⟨h1, h2, h3⟩
  · rintro ⟨h1, h2, h3⟩; exact ⟨⟨h1, h2⟩, h3⟩
theorem vSame_refl (a : Val) : vSame a a = true := vSame_iff.mpr rfl
theorem vSame_eq (a b : Val) : vSame a b = true ∧ a = b ∨ vSame a b = false ∧ a ≠ b := by
  cases h : vSame a b with
  | true => exact .inl ⟨rfl, vSame_iff.mp h⟩
  | false => exact .inr ⟨rfl, fun hh => by rw [vSame_iff.mpr hh] at h; cases h⟩
theorem vRight_iff {v : Val} : vRight v = true ↔ shOk v.Shape ∧ prod v.Shape = v.Data.length ∧ (v.Char = true → ∀ c ∈ v.Data, chOk c = true) := by
  simp only [vRight, Bool.and_eq_true, decide_eq_true_eq, Bool.or_eq_true, Bool.not_eq_true', List.all_eq_true]
  constructor
  · rintro ⟨⟨h1, h2⟩, h3⟩
    refine ⟨h1, h2, fun h => ?_⟩
    rcases h3 with h3 | h3
    · rw [h3] at h; cases h
    · exact h3
  · rintro ⟨h1, h2, h3⟩
    refine ⟨⟨h1, h2⟩, ?_⟩
    cases h : v.Char with
    | true => exact .inr (h3 h)
    | false => exact .inl rfl

theorem right_loop {f : Int × Int → Option (Ctl (Int × Int) (Ctl Int Bool))} {s : List Int} (h4 : s.length ≤ 4)
    (hf : ∀ k : Nat, ∀ h : k < s.length, ∀ z, f (z, (k : Int)) = if s[k] < 0 ∨ s[k] > 10000 then some (.done (.done false)) else some (.next (IntKind.i64.wrap (z * s[k]), (k : Int) + 1)))
    (he : ∀ z, f (z, (s.length : Int)) = some (.done (.next z))) :
    ((∀ x ∈ s, 0 ≤ x ∧ x ≤ 10000) ∧ wloop f (1, 0) = some (.next (prod s))) ∨ (¬ (∀ x ∈ s, 0 ≤ x ∧ x ≤ 10000) ∧ wloop f (1, 0) = some (.done false)) := by
  have key := wloop_ind (f := f) (fun n st => ∃ k : Nat, n = s.length - k ∧ k ≤ s.length ∧ st = (prod (s.take k), (k : Int)) ∧ ∀ x ∈ s.take k, 0 ≤ x ∧ x ≤ 10000)
    (fun b => (b = .next (prod s) ∧ ∀ x ∈ s, 0 ≤ x ∧ x ≤ 10000) ∨ (b = .done false ∧ ¬ ∀ x ∈ s, 0 ≤ x ∧ x ≤ 10000)) (fun n st h => by
      obtain ⟨k, rfl, hk, rfl, hall⟩ := h
      by_cases hlt : k < s.length
      · rw [hf k hlt]
        by_cases hb : s[k] < 0 ∨ s[k] > 10000
        · rw [if_pos hb]
          right
          refine ⟨_, rfl, .inr ⟨rfl, fun hh => ?_⟩⟩
          have := hh _ (List.getElem_mem hlt); omega
        · rw [if_neg hb]
          left
          have e := List.take_succ_eq_append_getElem hlt
          have hall2 : ∀ x ∈ s.take (k + 1), 0 ≤ x ∧ x ≤ 10000 := by
            intro x hx
            rw [e] at hx
            rcases List.mem_append.mp hx with hx | hx
            · exact hall x hx
            · rw [List.mem_singleton.mp hx]; omega
          have hp := prod_bound (s.take (k + 1)) 4 (by rw [List.length_take]; omega) hall2
          have e2 : prod (s.take (k + 1)) = prod (s.take k) * s[k] := by rw [e, prod_append]; simp [prod]
          refine ⟨_, s.length - (k + 1), rfl, by omega, k + 1, rfl, by omega, ?_, hall2⟩
          rw [← e2, w64_id (by omega) (by omega)]; simp
      · have : k = s.length := by omega
        subst this
        rw [he]
        rw [List.take_length] at hall ⊢
        exact .inr ⟨_, rfl, .inl ⟨rfl, hall⟩⟩)
    s.length (1, 0) ⟨0, by omega, by omega, by simp [prod], by simp⟩
  obtain ⟨b, hb, ⟨rfl, h⟩ | ⟨rfl, h⟩⟩ := key
  · exact .inl ⟨h, hb⟩
  · exact .inr ⟨h, hb⟩
theorem all_loop {f : Int → Option (Ctl Int (Ctl Unit Bool))} {l : List Int} {p : Int → Bool}
    (hf : ∀ k : Nat, ∀ h : k < l.length, f k = if p l[k] = true then some (.next ((k : Int) + 1)) else some (.done (.done false))) (he : f l.length = some (.done (.next ()))) :
    wloop f 0 = some (if l.all p = true then .next () else .done false) := by
  have key := wloop_ind (f := f) (fun n i => ∃ k : Nat, i = k ∧ k ≤ l.length ∧ n = l.length - k ∧ (l.take k).all p = true)
    (fun c => (c = .done false ∧ l.all p = false) ∨ (c = .next () ∧ l.all p = true)) (fun n i h => by
      obtain ⟨k, rfl, hk, rfl, hn⟩ := h
      by_cases hlt : k < l.length
      · rw [hf k hlt]
        by_cases hp : p l[k] = true
        · rw [if_pos hp]
          left
          refine ⟨_, l.length - (k + 1), rfl, by omega, k + 1, by omega, by omega, rfl, ?_⟩
          rw [List.take_succ_eq_append_getElem hlt, List.all_append, hn]; simp [hp]
        · rw [if_neg hp]
          right
          refine ⟨_, rfl, .inl ⟨rfl, ?_⟩⟩
          rw [List.all_eq_false]
          exact ⟨_, List.getElem_mem hlt, hp⟩
      · have : k = l.length := by omega
        subst this
        right
        rw [List.take_length] at hn
        exact ⟨_, he, .inr ⟨rfl, hn⟩⟩) l.length 0 ⟨0, rfl, by omega, by omega, by simp⟩
  obtain ⟨c, hc, ⟨rfl, h⟩ | ⟨rfl, h⟩⟩ := key
  · rw [hc, h]; simp
  · rw [hc, h]; simp
theorem w32_id {x : Int} (h1 : 0 ≤ x) (h2 : x ≤ 1114111) : IntKind.i32.wrap x = x := by
  have e : IntKind.i32.wrap x = if x % 4294967296 ≥ 2147483648 then x % 4294967296 - 4294967296 else x % 4294967296 := by
    simp [IntKind.wrap, IntKind.bits, IntKind.signed]
  rw [e]
  split <;> omega
theorem character_eq (c : Int) : M.value_character c = some (chOk c) := by
  unfold M.value_character chOk
  by_cases h : 0 ≤ c ∧ c ≤ 1114111
  · have e : (decide (c ≥ 0) && decide (c ≤ 1114111)) = true := by simp; omega
    simp only [e, if_true, h, and_self, decide_true, Bool.true_and]
    rw [w32_id h.1 h.2]
    unfold M.unicode_utf8_ValidRune
    by_cases h1 : c < 55296
    · have e1 : (decide (0 ≤ c) && decide (c < 55296)) = true := by simp; omega
      have e2 : decide (55296 ≤ c ∧ c ≤ 57343) = false := decide_eq_false (by omega)
      simp only [e1, e2, if_true, Option.bind_some, Bool.not_false]
    · have e1 : (decide (0 ≤ c) && decide (c < 55296)) = false := by simp; omega
      simp only [e1, Bool.false_eq_true, if_false]
      by_cases h2 : 57343 < c
      · have e3 : (decide (57343 < c) && decide (c ≤ 1114111)) = true := by simp; omega
        have e2 : decide (55296 ≤ c ∧ c ≤ 57343) = false := decide_eq_false (by omega)
        simp only [e3, e2, if_true, Option.bind_some, Bool.not_false]
      · have e3 : (decide (57343 < c) && decide (c ≤ 1114111)) = false := by simp; omega
        have e2 : decide (55296 ≤ c ∧ c ≤ 57343) = true := decide_eq_true (by omega)
        simp only [e3, e2, Bool.false_eq_true, if_false, Option.bind_some, Bool.not_true]
  · have e : (decide (c ≥ 0) && decide (c ≤ 1114111)) = false := by simp; omega
    simp only [e, Bool.false_eq_true, if_false, h, decide_false, Bool.false_and, Option.bind_some]
theorem value_Right_eq {v : Val} (hd : v.Data.length ≤ 9223372036854775807) : M.value_Right v = some (vRight v) := by
  unfold M.value_Right
  by_cases h4 : 4 < v.Shape.length
  · rw [if_pos (by simp; omega)]
    have : vRight v = false := by
      cases h : vRight v with
      | false => rfl
      | true => have := (vRight_iff.mp h).1.1; omega
    rw [this]
  · rw [if_neg (by simp; omega)]
    have hloop := right_loop (f := M.value_Right_L1 v) (s := v.Shape) (by omega) (fun k h z => by
      unfold M.value_Right_L1
      simp only [show decide ((k : Int) < (v.Shape.length : Int)) = true from decide_eq_true (by omega), if_true, idx_get h, Option.bind_some]
      by_cases hb : v.Shape[k] < 0 ∨ v.Shape[k] > 10000
      · rw [if_pos hb, if_pos (by simpa using hb)]
      · rw [if_neg hb, if_neg (by simpa using hb), w64_id (x := (k : Int) + 1) (by omega) (by omega)]) (fun z => by unfold M.value_Right_L1; simp)
    rcases hloop with ⟨hall, hw⟩ | ⟨hall, hw⟩
    · rw [hw]
      simp only [Option.bind_some, joinK_next]
      have hp0 : 0 ≤ prod v.Shape := prod_nonneg fun x hx => (hall x hx).1
      by_cases hsz : prod v.Shape ≤ 10000 ∧ prod v.Shape = v.Data.length
      · have e : (decide (prod v.Shape > 10000) || (prod v.Shape != (v.Data.length : Int))) = false := by simp; omega
        simp only [e, Bool.false_eq_true, if_false]
        have hok : shOk v.Shape := ⟨by omega, hall, hsz.1⟩
        have hv : vRight v = (!v.Char || v.Data.all chOk) := by unfold vRight; simp [hok, hsz.2]
        rw [hv]
        cases hc : v.Char with
        | false => simp
        | true =>
          simp only [Bool.not_true, Bool.false_eq_true, if_false, Bool.false_or]
          rw [contains_int64 (s := v.Data) (f := fun x0 => M.value_Right_1 x0) (g := fun x => !chOk x) (fun x _ => by unfold M.value_Right_1; rw [character_eq]; rfl) hd]
          simp only [Option.bind_some]
          congr 1
          rw [List.not_any_eq_all_not]; simp
      · have e : (decide (prod v.Shape > 10000) || (prod v.Shape != (v.Data.length : Int))) = true := by
          simp; omega
        simp only [e, if_true]
        have : vRight v = false := by
          cases h : vRight v with
          | false => rfl
          | true => have := vRight_iff.mp h; exact absurd ⟨this.1.2.2, this.2.1⟩ hsz
        rw [this]
    · rw [hw]
      have : vRight v = false := by
        cases h : vRight v with
        | false => rfl
        | true => exact absurd (vRight_iff.mp h).1.2.1 hall
      rw [this]; rfl
theorem ref06_Same_eq {a b : Val} (hs : a.Shape.length ≤ maxLen) (hd : a.Data.length ≤ maxLen) : M.anamnesisref06_Same a b = some (vSame a b) := by
  have hm : maxLen = 9223372036854775807 := rfl
  unfold M.anamnesisref06_Same
  by_cases hl : (a.Char = b.Char ∧ a.Shape.length = b.Shape.length) ∧ a.Data.length = b.Data.length
  · obtain ⟨⟨h1, h2⟩, h3⟩ := hl
    rw [if_neg (by simp [h1, h2, h3])]
    have l1 := same_loop (f := M.anamnesisref06_Same_L1 a b) h2 hs (fun k h => by
      unfold M.anamnesisref06_Same_L1
      simp only [show decide ((k : Int) < (a.Shape.length : Int)) = true from decide_eq_true (by omega), if_true, idx_get h, idx_get (show k < b.Shape.length by omega), Option.bind_some]
      by_cases he : a.Shape[k] = b.Shape[k]
      · rw [if_pos he, if_neg (by simp [he]), w64_id (by omega) (by omega)]
      · rw [if_neg he, if_pos (by simp [he])]) (by unfold M.anamnesisref06_Same_L1; simp)
    have l2 := same_loop (f := M.anamnesisref06_Same_L2 a b) h3 hd (fun k h => by
      unfold M.anamnesisref06_Same_L2
      simp only [show decide ((k : Int) < (a.Data.length : Int)) = true from decide_eq_true (by omega), if_true, idx_get h, idx_get (show k < b.Data.length by omega), Option.bind_some]
      by_cases he : a.Data[k] = b.Data[k]
      · rw [if_pos he, if_neg (by simp [he]), w64_id (by omega) (by omega)]
      · rw [if_neg he, if_pos (by simp [he])]) (by unfold M.anamnesisref06_Same_L2; simp)
    rw [l1, l2]
    unfold vSame
    simp only [h1, BEq.rfl, Bool.true_and]
    by_cases he : a.Shape = b.Shape
    · rw [if_pos he, decide_eq_true he]
      by_cases hd : a.Data = b.Data
      · rw [if_pos hd, decide_eq_true hd]; rfl
      · rw [if_neg hd, decide_eq_false hd]; rfl
    · rw [if_neg he, decide_eq_false he]; rfl
  · have e : ((!(a.Char == b.Char) || ((a.Shape.length : Int) != (b.Shape.length : Int))) || ((a.Data.length : Int) != (b.Data.length : Int))) = true := by
      cases hq : ((!(a.Char == b.Char) || ((a.Shape.length : Int) != (b.Shape.length : Int))) || ((a.Data.length : Int) != (b.Data.length : Int))) with
      | true => rfl
      | false =>
        exfalso; apply hl
        simp only [Bool.or_eq_false_iff, Bool.not_eq_false', beq_iff_eq, bne_eq_false_iff_eq] at hq
        obtain ⟨⟨q1, q2⟩, q3⟩ := hq
        exact ⟨⟨q1, by omega⟩, by omega⟩
    rw [if_pos e]
    have : vSame a b = false := by
      cases hq : vSame a b with
      | false => rfl
      | true => have := vSame_iff.mp hq; subst this; simp at hl
    rw [this]
theorem value_Copy_eq {v : Val} (hs : v.Shape.length ≤ 1000000000) (hd : v.Data.length ≤ 1000000000) : M.value_Copy v = some v := by
  unfold M.value_Copy M.slices_Clone__int M.slices_Clone__int64
  rw [app_ok (by simp; omega), app_ok (by simp; omega)]; rfl
/-- the draw at a place. -/
def dr (draws : List Int) (a : Int) : Int := (draws[a.toNat]?).getD 0
theorem dr_get {draws : List Int} {k : Nat} (h : k < draws.length) : dr draws k = draws[k] := by
  unfold dr; rw [Int.toNat_natCast, List.getElem?_eq_getElem h]; rfl
theorem dr_out {draws : List Int} {a : Int} (h : (draws.length : Int) ≤ a) : dr draws a = 0 := by
  unfold dr; rw [List.getElem?_eq_none (by omega)]; rfl
theorem dr_good {draws : List Int} (h : ∀ x ∈ draws, 0 ≤ x) (a : Int) : 0 ≤ dr draws a := by
  unfold dr
  cases e : draws[a.toNat]? with
  | none => simp
  | some x => exact h x (List.mem_of_getElem? e)
theorem wfu64 {n : Int} (h : (Lit.int .u64 n).wf = true) : 0 ≤ n ∧ n ≤ 18446744073709551615 := by
  have h2 : (decide (IntKind.u64.min ≤ n) && decide (n ≤ IntKind.u64.max)) = true := h
  have e1 : IntKind.u64.min = 0 := by decide
  have e2 : IntKind.u64.max = 18446744073709551615 := by decide
  rw [e1, e2] at h2
  simpa using h2
theorem u64_id {x : Int} (h1 : 0 ≤ x) (h2 : x ≤ 18446744073709551615) : IntKind.u64.wrap x = x := by
  have : IntKind.u64.wrap x = x % 18446744073709551616 := by simp [IntKind.wrap, IntKind.bits, IntKind.signed]
  rw [this]; omega
/-- what is rolled. -/
def rollL (draws : List Int) (a : Int) (l : List Int) : List Int := l.mapIdx fun k x => dr draws (a + k) % x + 1
/-- what is dealt of a heap. -/
def dealL (draws : List Int) : Nat → Int → List Int → List Int
  | 0, _, _ => []
  | n + 1, a, p => (p[(dr draws a % p.length).toNat]?).getD 0 :: dealL draws n (a + 1) ((p.set (dr draws a % p.length).toNat ((p[0]?).getD 0)).tail)
theorem dealL_len (draws : List Int) : ∀ (n : Nat) (a : Int) (p : List Int), (dealL draws n a p).length = n
  | 0, _, _ => rfl
  | n + 1, a, p => by simp only [dealL, List.length_cons, dealL_len draws n]
theorem map_loop {β : Type} {f : Int × List Int → Option (Ctl (Int × List Int) (Ctl (List Int) β))} {l : List Int} {g : Nat → Int → Int}
    (hf : ∀ k : Nat, ∀ h : k < l.length, ∀ m : List Int, m.length = l.length → m[k]? = some l[k] → f ((k : Int), m) = some (.next ((k : Int) + 1, m.set k (g k l[k]))))
    (he : ∀ m, f ((l.length : Int), m) = some (.done (.next m))) : wloop f (0, l) = some (.next (l.mapIdx g)) := by
  have key := wloop_ind (f := f) (fun n st => ∃ k : Nat, ∃ m : List Int, n = l.length - k ∧ k ≤ l.length ∧ st = ((k : Int), m) ∧ m.length = l.length ∧ (∀ i, i < k → m[i]? = (l.mapIdx g)[i]?) ∧ ∀ i, k ≤ i → m[i]? = l[i]?)
    (fun b => b = .next (l.mapIdx g)) (fun n st h => by
      obtain ⟨k, m, rfl, hk, rfl, hm, h1, h2⟩ := h
      by_cases hlt : k < l.length
      · left
        rw [hf k hlt m hm (by rw [h2 k (by omega), List.getElem?_eq_getElem hlt])]
        refine ⟨_, l.length - (k + 1), rfl, by omega, k + 1, _, rfl, by omega, rfl, by simp [hm], fun i hi => ?_, fun i hi => ?_⟩
        · by_cases e : i = k
          · subst e
            rw [List.getElem?_set_self (by omega), List.getElem?_mapIdx, List.getElem?_eq_getElem hlt]; rfl
          · rw [List.getElem?_set_ne (by omega)]; exact h1 i (by omega)
        · rw [List.getElem?_set_ne (by omega)]; exact h2 i (by omega)
      · have : k = l.length := by omega
        subst this
        right
        rw [he]
        refine ⟨_, rfl, ?_⟩
        congr 1
        apply List.ext_getElem?
        intro i
        by_cases hi : i < l.length
        · exact h1 i hi
        · rw [List.getElem?_eq_none (by omega), List.getElem?_eq_none (by simp; omega)]) l.length (0, l) ⟨0, l, by omega, by omega, rfl, rfl, by omega, by simp⟩
  obtain ⟨b, hb, rfl⟩ := key
  exact hb
/-- a loop that appends, or goes out where an element is bad. -/
theorem app_loop {β : Type} {f : Int × List Int → Option (Ctl (Int × List Int) (Ctl (List Int) β))} {l : List Int} {bad : Int → Bool} {r : β} {g : Nat → Int → Int}
    (hf : ∀ k : Nat, ∀ h : k < l.length, ∀ m : List Int, m.length = k → f ((k : Int), m) = if bad l[k] = true then some (.done (.done r)) else some (.next ((k : Int) + 1, m ++ [g k l[k]])))
    (he : ∀ m, f ((l.length : Int), m) = some (.done (.next m))) : wloop f (0, []) = some (if l.any bad = true then .done r else .next (l.mapIdx g)) := by
  have key := wloop_ind (f := f) (fun n st => ∃ k : Nat, n = l.length - k ∧ k ≤ l.length ∧ st = ((k : Int), (l.take k).mapIdx g) ∧ (l.take k).any bad = false)
    (fun b => (l.any bad = true ∧ b = .done r) ∨ (l.any bad = false ∧ b = .next (l.mapIdx g))) (fun n st h => by
      obtain ⟨k, rfl, hk, rfl, hn⟩ := h
      by_cases hlt : k < l.length
      · rw [hf k hlt _ (by simp; omega)]
        cases hb : bad l[k] with
        | true =>
          right
          refine ⟨_, rfl, .inl ⟨?_, rfl⟩⟩
          rw [List.any_eq_true]; exact ⟨_, List.getElem_mem hlt, hb⟩
        | false =>
          left
          have e := List.take_succ_eq_append_getElem hlt
          refine ⟨_, l.length - (k + 1), rfl, by omega, k + 1, rfl, by omega, ?_, ?_⟩
          · rw [e, List.mapIdx_append]
            simp [List.length_take, Nat.min_eq_left hk]
          · rw [e, List.any_append, hn]; simp [hb]
      · have : k = l.length := by omega
        subst this
        right
        rw [he, List.take_length]
        rw [List.take_length] at hn
        exact ⟨_, rfl, .inr ⟨hn, rfl⟩⟩) l.length (0, []) ⟨0, by omega, by omega, by simp, by simp⟩
  obtain ⟨b, hb, ⟨h, rfl⟩ | ⟨h, rfl⟩⟩ := key
  · rw [hb, h]; rfl
  · rw [hb, h]; rfl
theorem drawn_eq {draws : List Int} (hd : ∀ x ∈ draws, 0 ≤ x ∧ x ≤ 18446744073709551615) {a n : Int} (h0 : 0 ≤ a) (h1 : 1 ≤ n) (h2 : n ≤ 9223372036854775807) : M.rand_drawn draws a n = some (dr draws a % n) := by
  unfold M.rand_drawn
  by_cases h : (draws.length : Int) ≤ a
  · rw [if_pos (by simpa using h), dr_out h]; simp
  · rw [if_neg (by simpa using h)]
    obtain ⟨k, rfl⟩ := Int.eq_ofNat_of_zero_le h0
    have hk : k < draws.length := by omega
    have hx := hd _ (List.getElem_mem hk)
    rw [dr_get hk]
    unfold dr at *
    rw [idx_get hk, Option.bind_some, u64_id (by omega) (by omega)]
    unfold remI
    have m1 := Int.emod_nonneg draws[k] (show n ≠ 0 by omega)
    have m2 := Int.emod_lt_of_pos draws[k] (show 0 < n by omega)
    rw [if_neg (by omega), Option.bind_some, Int.tmod_eq_emod_of_nonneg hx.1, w64_id (by omega) (by omega)]
theorem or3 {p : Bool} {a : Int} : ((!p || decide (a < 0)) || decide (a > 1099511627776)) = decide (p = false ∨ a < 0 ∨ a > 1099511627776) := by cases p <;> simp
def rollOk (b : Val) (a : Int) : Int :=
  if vRight b = false ∨ a < 0 ∨ a > 1099511627776 then 1 else if b.Char = true ∨ b.Data.any (fun x => decide (x < 1)) = true then 23 else 0
def rollV (b : Val) (draws : List Int) (a : Int) : Val := if rollOk b a = 0 then ⟨b.Char, b.Shape, rollL draws a b.Data⟩ else ⟨false, [], []⟩
theorem rand_Roll_eq {b : Val} {draws : List Int} {a : Int} (hb : ∀ x ∈ b.Data, -9223372036854775808 ≤ x ∧ x ≤ 9223372036854775807) (hl : b.Data.length ≤ 9223372036854775807) (hd : ∀ x ∈ draws, 0 ≤ x ∧ x ≤ 18446744073709551615) (ha : -9223372036854775808 ≤ a ∧ a ≤ 9223372036854775807) :
    M.rand_Roll b draws a = some (rollV b draws a, if rollOk b a = 0 then a + b.Data.length else a, rollOk b a) := by
  unfold M.rand_Roll
  rw [value_Right_eq hl]
  simp only [Option.bind_some]
  by_cases h1 : vRight b = false ∨ a < 0 ∨ a > 1099511627776
  · have e : rollOk b a = 1 := by unfold rollOk; rw [if_pos h1]
    unfold rollV
    rw [e, or3, decide_eq_true h1]; rfl
  · have h1' : vRight b = true ∧ 0 ≤ a ∧ a ≤ 1099511627776 := by
      refine ⟨?_, by omega, by omega⟩
      cases h : vRight b with
      | true => rfl
      | false => exact absurd (.inl h) h1
    have hlen := (vRight_iff.mp h1'.1)
    have hdl : b.Data.length ≤ 10000 := by have := hlen.1.2.2; have := hlen.2.1; omega
    have hsl := hlen.1.1
    have hcon := contains_int64 (s := b.Data) (f := fun x0 => M.rand_Roll_1 x0) (g := fun x => decide (x < 1)) (fun x _ => rfl) hl
    rw [or3, decide_eq_false h1, if_neg (by simp), hcon]
    simp only [Option.bind_some]
    have e : (if b.Char = true then some b.Char else some (b.Data.any fun x => decide (x < 1))) = some (decide (b.Char = true ∨ b.Data.any (fun x => decide (x < 1)) = true)) := by
      generalize (b.Data.any fun x => decide (x < 1)) = q
      cases b.Char <;> cases q <;> rfl
    rw [e]
    simp only [Option.bind_some]
    by_cases h2 : b.Char = true ∨ b.Data.any (fun x => decide (x < 1)) = true
    · have e : rollOk b a = 23 := by unfold rollOk; rw [if_neg h1, if_pos h2]
      unfold rollV
      rw [e, decide_eq_true h2, if_pos rfl]; rfl
    · have e : rollOk b a = 0 := by unfold rollOk; rw [if_neg h1, if_neg h2]
      unfold rollV
      rw [e, decide_eq_false h2, if_neg (by simp), value_Copy_eq (by omega) (by omega)]
      have hge : ∀ x ∈ b.Data, 1 ≤ x := by
        intro x hx
        have := fun h => h2 (.inr h)
        rw [List.any_eq_true] at this
        by_cases hc : x < 1
        · exact absurd ⟨x, hx, decide_eq_true hc⟩ this
        · omega
      have hloop := map_loop (f := M.rand_Roll_L1 draws a b) (l := b.Data) (g := fun k x => dr draws (a + k) % x + 1) (fun k h m hm he => by
        unfold M.rand_Roll_L1
        have hx := hb _ (List.getElem_mem h)
        have hx1 := hge _ (List.getElem_mem h)
        have m1 := Int.emod_nonneg (dr draws (a + k)) (show b.Data[k] ≠ 0 by omega)
        have m2 := Int.emod_lt_of_pos (dr draws (a + k)) (show 0 < b.Data[k] by omega)
        have hi : idx m (k : Int) = some b.Data[k] := by rw [idx_nat, he]
        simp only [show decide ((k : Int) < (b.Data.length : Int)) = true from decide_eq_true (by omega), if_true, hi, Option.bind_some]
        rw [w64_id (x := a + k) (by omega) (by omega), drawn_eq hd (by omega) hx1 hx.2]
        simp only [Option.bind_some]
        rw [upd_nat (by omega), w64_id (x := 1 + dr draws (a + k) % b.Data[k]) (by omega) (by omega), w64_id (x := (k : Int) + 1) (by omega) (by omega), Int.add_comm 1]; rfl) (fun m => by unfold M.rand_Roll_L1; simp)
      simp only [Option.bind_some]
      rw [hloop]
      simp only [Option.bind_some, joinK_next, if_true, rollL, List.length_mapIdx]
      rw [w64_id (by omega) (by omega)]
theorem vRight_one (x : Int) : vRight ⟨false, [], [x]⟩ = true := by
  refine vRight_iff.mpr ⟨⟨by simp, by simp, by simp [prod]⟩, by simp [prod], by simp⟩
theorem vRight_vec {l : List Int} (h : l.length ≤ 10000) : vRight ⟨false, [(l.length : Int)], l⟩ = true := by
  refine vRight_iff.mpr ⟨⟨by simp, ?_, ?_⟩, ?_, by simp⟩
  · intro x hx
    rw [List.mem_singleton.mp hx]; omega
  · simp only [prod]; omega
  · simp only [prod]; omega
theorem rollOk_ok {b : Val} {t : Int} (h : vRight b = true) (h0 : 0 ≤ t ∧ t ≤ 1099511627776) (hc : b.Char = false) (hb : ∀ x ∈ b.Data, 1 ≤ x) : rollOk b t = 0 := by
  unfold rollOk
  rw [if_neg (by rw [h]; simp; omega), if_neg]
  rw [hc, List.any_eq_true]
  rintro (h | ⟨x, hx, h⟩)
  · cases h
  · have := hb x hx
    simp at h; omega
theorem rollL_append (draws : List Int) (a : Int) (x y : List Int) : rollL draws a (x ++ y) = rollL draws a x ++ rollL draws (a + x.length) y := by
  unfold rollL
  rw [List.mapIdx_append]
  congr 1
  apply List.ext_getElem?
  intro i
  simp only [List.getElem?_mapIdx]
  congr 1
  funext z
  rw [show a + ((i + x.length : Nat) : Int) = a + (x.length : Int) + (i : Int) by omega]
theorem randRolls_true (l draws : List Int) (cut to : Int) (gl : ∀ x ∈ l, (Lit.int .i64 x).wf = true) (hl : l.length ≤ maxLen) (gd : ∀ x ∈ draws, (Lit.int .u64 x).wf = true) (ld : draws.length ≤ maxLen)
    (gc : (Lit.int .u8 cut).wf = true) (gt : (Lit.int .u64 to).wf = true) : M.anamnesislaw13_RandRolls l draws cut to = some true := by
  have hc : 0 ≤ cut ∧ cut ≤ 255 := by
    have h2 : (decide (IntKind.u8.min ≤ cut) && decide (cut ≤ IntKind.u8.max)) = true := gc
    rw [show IntKind.u8.min = 0 by decide, show IntKind.u8.max = 255 by decide] at h2
    simpa using h2
  have hto := wfu64 gt
  have hd := fun x hx => wfu64 (gd x hx)
  have hl64 := fun x hx => wf64 (gl x hx)
  unfold M.anamnesislaw13_RandRolls M.anamnesislaw13_vec
  by_cases h1 : (l.length : Int) > 100
  · rw [if_pos (by simpa using h1)]
  rw [if_neg (by simpa using h1)]
  have hlen : l.length ≤ 100 := by omega
  by_cases hpos : ∀ x ∈ l, 1 ≤ x
  · have hL1 := all_loop (f := fun i => (M.anamnesislaw13_RandRolls_L1 l i)) (l := l) (p := fun _ => true) (fun k h => by
      show M.anamnesislaw13_RandRolls_L1 l k = _
      unfold M.anamnesislaw13_RandRolls_L1
      have := hpos _ (List.getElem_mem h)
      simp only [show decide ((k : Int) < (l.length : Int)) = true from decide_eq_true (by omega), if_true, idx_get h, Option.bind_some, show decide (l[k] < 1) = false from decide_eq_false (by omega), Bool.false_eq_true, if_false]
      rw [w64_id (by omega) (by omega)]) (by show M.anamnesislaw13_RandRolls_L1 l l.length = _; unfold M.anamnesislaw13_RandRolls_L1; simp)
    have hL1' : wloop (M.anamnesislaw13_RandRolls_L1 l) 0 = some (.next ()) := by
      have : l.all (fun _ => true) = true := by simp
      rw [this] at hL1
      exact hL1
    rw [hL1']
    simp only [Option.bind_some, joinK_next]
    obtain ⟨q, hq, hql⟩ : ∃ q : Nat, remI (IntKind.i64.wrap cut) (IntKind.i64.wrap ((l.length : Int) + 1)) = some (q : Int) ∧ q ≤ l.length := by
      refine ⟨(cut % ((l.length : Int) + 1)).toNat, ?_, ?_⟩
      · have m1 := Int.emod_nonneg cut (show (l.length : Int) + 1 ≠ 0 by omega)
        unfold remI
        rw [w64_id (by omega) (by omega), w64_id (by omega) (by omega), if_neg (by omega), Int.tmod_eq_emod_of_nonneg hc.1, Int.toNat_of_nonneg m1]
      · have m2 := Int.emod_lt_of_pos cut (show (0 : Int) < (l.length : Int) + 1 by omega)
        omega
    rw [hq]
    simp only [Option.bind_some]
    have s1 : sub l 0 (q : Int) = some (l.take q) := by
      unfold sub
      rw [if_pos ⟨by omega, by omega, by omega⟩]; simp
    rw [s1, sub_drop hql]
    simp only [Option.bind_some]
    have tl : (l.take q).length = q := by rw [List.length_take]; omega
    have dl : (l.drop q).length = l.length - q := by rw [List.length_drop]
    have hposT : ∀ x ∈ l.take q, 1 ≤ x := fun x hx => hpos x (List.mem_of_mem_take hx)
    have hposD : ∀ x ∈ l.drop q, 1 ≤ x := fun x hx => hpos x (List.mem_of_mem_drop hx)
    have o1 := rollOk_ok (b := ⟨false, [(l.length : Int)], l⟩) (t := 0) (vRight_vec (by omega)) (by omega) rfl hpos
    have o2 := rollOk_ok (b := ⟨false, [((l.take q).length : Int)], l.take q⟩) (t := 0) (vRight_vec (by omega)) (by omega) rfl hposT
    have o3 := rollOk_ok (b := ⟨false, [((l.drop q).length : Int)], l.drop q⟩) (t := (q : Int)) (vRight_vec (by omega)) (by omega) rfl hposD
    rw [rand_Roll_eq (b := ⟨false, [(l.length : Int)], l⟩) hl64 (by show l.length ≤ _; omega) hd (by omega)]
    rw [rand_Roll_eq (b := ⟨false, [((l.take q).length : Int)], l.take q⟩) (fun x hx => hl64 x (List.mem_of_mem_take hx)) (by show (l.take q).length ≤ _; omega) hd (by omega)]
    simp only [Option.bind_some, o1, o2, if_true]
    rw [show (0 : Int) + ((l.take q).length : Int) = (q : Int) by omega]
    rw [rand_Roll_eq (b := ⟨false, [((l.drop q).length : Int)], l.drop q⟩) (fun x hx => hl64 x (List.mem_of_mem_drop hx)) (by show (l.drop q).length ≤ _; omega) hd (by omega)]
    simp only [Option.bind_some, o3, if_true]
    have v1 : rollV ⟨false, [(l.length : Int)], l⟩ draws 0 = ⟨false, [(l.length : Int)], rollL draws 0 l⟩ := by unfold rollV; rw [if_pos o1]
    have v2 : rollV ⟨false, [((l.take q).length : Int)], l.take q⟩ draws 0 = ⟨false, [((l.take q).length : Int)], rollL draws 0 (l.take q)⟩ := by unfold rollV; rw [if_pos o2]
    have v3 : rollV ⟨false, [((l.drop q).length : Int)], l.drop q⟩ draws (q : Int) = ⟨false, [((l.drop q).length : Int)], rollL draws (q : Int) (l.drop q)⟩ := by unfold rollV; rw [if_pos o3]
    rw [v1, v2, v3]
    have rl : ∀ (a : Int) (m : List Int), (rollL draws a m).length = m.length := fun a m => by simp [rollL]
    have hap : rollL draws 0 (l.take q) ++ rollL draws (q : Int) (l.drop q) = rollL draws 0 l := by
      have := rollL_append draws 0 (l.take q) (l.drop q)
      rw [List.take_append_drop, tl, Int.zero_add] at this
      exact this.symm
    rw [if_neg (by
      simp only [rl, tl, dl, Int.zero_add]
      rw [w64_id (x := (l.length : Int) - (q : Int)) (by omega) (by omega)]
      simp; omega)]
    have hL2 := all_loop (f := M.anamnesislaw13_RandRolls_L2 l to ⟨false, [(l.length : Int)], rollL draws 0 l⟩ ⟨false, [((l.take q).length : Int)], rollL draws 0 (l.take q)⟩ ⟨false, [((l.drop q).length : Int)], rollL draws (q : Int) (l.drop q)⟩) (l := l) (p := fun _ => true) (fun k h => by
      unfold M.anamnesislaw13_RandRolls_L2 M.anamnesislaw13_one
      have hx1 := hpos _ (List.getElem_mem h)
      have hx2 := hl64 _ (List.getElem_mem h)
      have m1 := Int.emod_nonneg (dr draws (0 + k)) (show l[k] ≠ 0 by omega)
      have m2 := Int.emod_lt_of_pos (dr draws (0 + k)) (show 0 < l[k] by omega)
      have hrk : ∀ h' : k < (rollL draws 0 l).length, (rollL draws 0 l)[k] = dr draws (0 + k) % l[k] + 1 := fun h' => by simp [rollL]
      simp only [show decide ((k : Int) < (l.length : Int)) = true from decide_eq_true (by omega), if_true]
      rw [app_ok (by simp [rl]; omega)]
      simp only [Option.bind_some, List.nil_append]
      rw [app_ok (by simp only [rl, tl, dl]; omega), hap]
      simp only [Option.bind_some]
      rw [idx_get (show k < (rollL draws 0 l).length by rw [rl]; exact h), idx_get h, hrk]
      simp only [Option.bind_some, show decide (dr draws (0 + k) % l[k] + 1 < 1) = false from decide_eq_false (by omega), show decide (dr draws (0 + k) % l[k] + 1 > l[k]) = false from decide_eq_false (by omega), Bool.false_eq_true, if_false, bne_self_eq_false]
      have t1 := Int.emod_nonneg to (show l[k] ≠ 0 by omega)
      have t2 := Int.emod_lt_of_pos to (show 0 < l[k] by omega)
      have er : remI to (IntKind.u64.wrap l[k]) = some (to % l[k]) := by
        unfold remI
        rw [u64_id (by omega) (by omega), if_neg (by omega), Int.tmod_eq_emod_of_nonneg hto.1]
      rw [er]
      simp only [Option.bind_some]
      rw [w64_id (x := to % l[k]) (by omega) (by omega), w64_id (x := to % l[k] + 1) (by omega) (by omega), u64_id (x := to % l[k] + 1) (by omega) (by omega), show to % l[k] + 1 - 1 = to % l[k] by omega, u64_id (x := to % l[k]) (by omega) (by omega)]
      have o4 := rollOk_ok (b := ⟨false, [], [l[k]]⟩) (t := 0) (vRight_one _) (by omega) rfl (by intro x hx; rw [List.mem_singleton.mp hx]; exact hx1)
      rw [rand_Roll_eq (b := ⟨false, [], [l[k]]⟩) (by intro x hx; rw [List.mem_singleton.mp hx]; exact hx2) (by simp) (by intro x hx; rw [List.mem_singleton.mp hx]; omega) (by omega)]
      have v4 : rollV ⟨false, [], [l[k]]⟩ [to % l[k]] 0 = ⟨false, [], [to % l[k] + 1]⟩ := by
        unfold rollV; rw [if_pos o4]
        have : dr [to % l[k]] 0 = to % l[k] := rfl
        simp [rollL, this, Int.emod_emod]
      rw [v4, o4]
      simp only [Option.bind_some, bne_self_eq_false, Bool.false_eq_true, if_false]
      rw [ref06_Same_eq (by simp [maxLen]) (by simp [maxLen]), vSame_refl]
      simp only [Option.bind_some, Bool.not_true, Bool.false_eq_true, if_false]
      rw [w64_id (by omega) (by omega)]) (by unfold M.anamnesislaw13_RandRolls_L2; simp)
    rw [hL2]
    simp
  · have : wloop (M.anamnesislaw13_RandRolls_L1 l) 0 = some (.done true) := by
      have key := wloop_ind (f := M.anamnesislaw13_RandRolls_L1 l) (fun n i => ∃ k : Nat, i = k ∧ k ≤ l.length ∧ n = l.length - k ∧ ∀ x ∈ l.take k, 1 ≤ x)
        (fun c => c = .done true) (fun n i h => by
          obtain ⟨k, rfl, hk, rfl, hn⟩ := h
          by_cases hlt : k < l.length
          · unfold M.anamnesislaw13_RandRolls_L1
            simp only [show decide ((k : Int) < (l.length : Int)) = true from decide_eq_true (by omega), if_true, idx_get hlt, Option.bind_some]
            by_cases hy : l[k] < 1
            · rw [if_pos (by simpa using hy)]
              exact .inr ⟨_, rfl, rfl⟩
            · rw [if_neg (by simpa using hy), w64_id (by omega) (by omega)]
              refine .inl ⟨_, l.length - (k + 1), rfl, by omega, k + 1, by omega, by omega, rfl, ?_⟩
              intro x hx
              rw [List.take_succ_eq_append_getElem hlt] at hx
              rcases List.mem_append.mp hx with hx | hx
              · exact hn x hx
              · rw [List.mem_singleton.mp hx]; omega
          · have : k = l.length := by omega
            subst this
            rw [List.take_length] at hn
            exact absurd hn hpos) l.length 0 ⟨0, rfl, by omega, by omega, by simp⟩
      obtain ⟨c, hc, rfl⟩ := key
      exact hc
    rw [this]; rfl

end Go.Proofs.Ytpkfklfakegbjaa.randRolls
