/- ShapeTells: what the code that the law reaches computes, as plain functions; and that the law comes to true. -/
import Derived.Test.YtlcpnakgolfofaaAmU
set_option linter.unusedVariables false
set_option linter.unusedSimpArgs false
set_option maxRecDepth 100000
open Go Go.Am
namespace Go.Proofs.Ytlcpnakgolfofaa.shapeTells
noncomputable def M.slices_IndexFunc__int_L1 (s1 : (List Int)) (f1 : (Int → Option (Bool))) (s : Int) : Option (Ctl (Int) (Ctl (Unit) (Int))) :=
  match s with
  | t1 =>
    if (decide (t1 < (s1.length : Int))) then
      (idx s1 t1).bind fun y1 =>
      (f1 y1).bind fun r1 =>
      if r1 then
        some (.done (.done t1))
      else
        some (.next (IntKind.i64.wrap (t1 + 1)))
    else
      some (.done (.next ()))
noncomputable def M.slices_IndexFunc__int (s1 : (List Int)) (f1 : (Int → Option (Bool))) : Option (Int) :=
  (wloop (M.slices_IndexFunc__int_L1 s1 f1) 0).bind fun k => joinK k fun _ =>
  some (-1)
noncomputable def M.slices_ContainsFunc__int (s1 : (List Int)) (f1 : (Int → Option (Bool))) : Option (Bool) :=
  (M.slices_IndexFunc__int s1 f1).bind fun r1 =>
  some (decide (r1 ≥ 0))
noncomputable def M.shape_Size_1 (n1 : Int) : Option (Bool) :=
  some (decide (n1 < 0))
noncomputable def M.shape_Size_2 (n1 : Int) : Option (Bool) :=
  some (decide (n1 > 10000))
noncomputable def M.shape_product_L1 (s1 : (List Int)) (s : Int × Int) : Option (Ctl (Int × Int) (Ctl (Int) (Int))) :=
  match s with
  | (p1, t1) =>
    if (decide (t1 < (s1.length : Int))) then
      (idx s1 t1).bind fun y1 =>
      some (.next ((IntKind.i64.wrap (p1 * y1)), (IntKind.i64.wrap (t1 + 1))))
    else
      some (.done (.next p1))
noncomputable def M.shape_product (s1 : (List Int)) : Option (Int) :=
  (wloop (M.shape_product_L1 s1) (1, 0)).bind fun k => joinK k fun p1 =>
  some p1
noncomputable def M.shape_Size (s1 : (List Int)) : Option (Int × Int) :=
  if (decide ((s1.length : Int) > 4)) then
    some (0, 24)
  else
    (M.slices_ContainsFunc__int s1 (fun x0 => M.shape_Size_1 x0)).bind fun r1 =>
    if r1 then
      some (0, 1)
    else
      ((M.slices_ContainsFunc__int s1 (fun x0 => M.shape_Size_2 x0)).bind fun r2 =>
      if r2 then
        some r2
      else
        (M.shape_product s1).bind fun r3 =>
        some (decide (r3 > 10000))).bind fun t1 =>
      if t1 then
        some (0, 27)
      else
        (M.shape_product s1).bind fun r4 =>
        some (r4, 0)
noncomputable def M.anamnesisref03_Size_L1 (s1 : (List Int)) (s : Int × Bool × Int) : Option (Ctl (Int × Bool × Int) (Ctl (Int × Bool) (Int × Int))) :=
  match s with
  | (size1, long1, i1) =>
    if (decide (i1 < (s1.length : Int))) then
      (idx s1 i1).bind fun y1 =>
      if (decide (y1 < 0)) then
        some (.done (.done (0, 1)))
      else
        ((idx s1 i1).bind fun y2 =>
        if (decide (y2 > 10000)) then
          some (0, true)
        else
          some (size1, long1)).bind fun (size2, long2) =>
        (idx s1 i1).bind fun y3 =>
        some (.next ((IntKind.i64.wrap (size2 * y3)), long2, (IntKind.i64.wrap (i1 + 1))))
    else
      some (.done (.next (size1, long1)))
noncomputable def M.anamnesisref03_Size (s1 : (List Int)) : Option (Int × Int) :=
  if (decide ((s1.length : Int) > 4)) then
    some (0, 24)
  else
    (wloop (M.anamnesisref03_Size_L1 s1) (1, false, 0)).bind fun k => joinK k fun (size1, long1) =>
    if (long1 || (decide (size1 > 10000))) then
      some (0, 27)
    else
      some (size1, 0)
noncomputable def M.shape_sized (s1 : (List Int)) : Option (Bool) :=
  (M.shape_Size s1).bind fun (r1, r2) =>
  some (r2 == 0)
noncomputable def M.shape_Split (s1 : (List Int)) (axis1 : Int) : Option (Int × Int × Int × Bool) :=
  (if ((decide (axis1 < 0)) || (decide (axis1 ≥ (s1.length : Int)))) then
  some true else
  (M.shape_sized s1).bind fun r1 =>
  some (!r1)).bind fun c2 =>
  if c2 then
    some (0, 0, 0, false)
  else
    (sub s1 0 axis1).bind fun l1 =>
    (M.shape_product l1).bind fun r2 =>
    (idx s1 axis1).bind fun y1 =>
    (sub s1 (IntKind.i64.wrap (axis1 + 1)) s1.length).bind fun l2 =>
    (M.shape_product l2).bind fun r3 =>
    some (r2, y1, r3, true)
noncomputable def M.anamnesisref03_Right (s1 : (List Int)) : Option (Bool) :=
  (M.anamnesisref03_Size s1).bind fun (r1, r2) =>
  some (r2 == 0)
noncomputable def M.anamnesisref03_times_L1 (s1 : (List Int)) (to1 : Int) (s : Int × Int) : Option (Ctl (Int × Int) (Ctl (Int) (Int))) :=
  match s with
  | (p1, i1) =>
    if (decide (i1 < to1)) then
      (idx s1 i1).bind fun y1 =>
      some (.next ((IntKind.i64.wrap (p1 * y1)), (IntKind.i64.wrap (i1 + 1))))
    else
      some (.done (.next p1))
noncomputable def M.anamnesisref03_times (s1 : (List Int)) (from1 : Int) (to1 : Int) : Option (Int) :=
  (wloop (M.anamnesisref03_times_L1 s1 to1) (1, from1)).bind fun k => joinK k fun p1 =>
  some p1
noncomputable def M.anamnesisref03_Split (s1 : (List Int)) (axis1 : Int) : Option (Int × Int × Int × Bool) :=
  (M.anamnesisref03_Right s1).bind fun r1 =>
  if (((!r1) || (decide (axis1 < 0))) || (decide (axis1 ≥ (s1.length : Int)))) then
    some (0, 0, 0, false)
  else
    (M.anamnesisref03_times s1 0 axis1).bind fun r2 =>
    (idx s1 axis1).bind fun y1 =>
    (M.anamnesisref03_times s1 (IntKind.i64.wrap (axis1 + 1)) (s1.length : Int)).bind fun r3 =>
    some (r2, y1, r3, true)
noncomputable def M.slices_Clone__int (s1 : (List Int)) : Option ((List Int)) :=
  app 8 [] s1
noncomputable def M.slices_Delete__int (s1 : (List Int)) (i1 : Int) (j1 : Int) : Option ((List Int)) :=
  del s1 i1 j1
noncomputable def M.shape_Without (s1 : (List Int)) (axis1 : Int) : Option ((List Int)) :=
  (M.slices_Clone__int s1).bind fun r1 =>
  if ((decide (axis1 < 0)) || (decide (axis1 ≥ (s1.length : Int)))) then
    some r1
  else
    (M.slices_Delete__int r1 axis1 (IntKind.i64.wrap (axis1 + 1))).bind fun r2 =>
    some r2
noncomputable def M.shape_Strides_L1 (s1 : (List Int)) (s : (List Int) × Int) : Option (Ctl ((List Int) × Int) (Ctl ((List Int)) ((List Int)))) :=
  match s with
  | (out1, t1) =>
    if (decide (t1 < (s1.length : Int))) then
      (sub s1 (IntKind.i64.wrap (t1 + 1)) s1.length).bind fun l1 =>
      (M.shape_product l1).bind fun r2 =>
      (app 8 out1 ([r2])).bind fun l2 =>
      some (.next (l2, (IntKind.i64.wrap (t1 + 1))))
    else
      some (.done (.next out1))
noncomputable def M.shape_Strides (s1 : (List Int)) : Option ((List Int)) :=
  (M.shape_sized s1).bind fun r1 =>
  if (!r1) then
    some ([])
  else
    (wloop (M.shape_Strides_L1 s1) ([], 0)).bind fun k => joinK k fun out1 =>
    some out1
noncomputable def M.anamnesisref03_Strides_L1 (s1 : (List Int)) (s : (List Int) × Int) : Option (Ctl ((List Int) × Int) (Ctl ((List Int)) ((List Int)))) :=
  match s with
  | (out1, i1) =>
    (if (decide (i1 < (s1.length : Int))) then
    (M.anamnesisref03_Right s1).bind fun r1 =>
    some r1 else
    some false).bind fun c2 =>
    if c2 then
      (M.anamnesisref03_times s1 (IntKind.i64.wrap (i1 + 1)) (s1.length : Int)).bind fun r2 =>
      (app 8 out1 ([r2])).bind fun l1 =>
      some (.next (l1, (IntKind.i64.wrap (i1 + 1))))
    else
      some (.done (.next out1))
noncomputable def M.anamnesisref03_Strides (s1 : (List Int)) : Option ((List Int)) :=
  (wloop (M.anamnesisref03_Strides_L1 s1) ([], 0)).bind fun k => joinK k fun out1 =>
  some out1
noncomputable def M.anamnesislaw03_same_L1 (a1 : (List Int)) (b1 : (List Int)) (s : Int) : Option (Ctl (Int) (Ctl (Unit) (Bool))) :=
  match s with
  | i1 =>
    if (decide (i1 < (a1.length : Int))) then
      (idx a1 i1).bind fun y1 =>
      (idx b1 i1).bind fun y2 =>
      if (y1 != y2) then
        some (.done (.done false))
      else
        some (.next (IntKind.i64.wrap (i1 + 1)))
    else
      some (.done (.next ()))
noncomputable def M.anamnesislaw03_same (a1 : (List Int)) (b1 : (List Int)) : Option (Bool) :=
  if ((a1.length : Int) != (b1.length : Int)) then
    some false
  else
    (wloop (M.anamnesislaw03_same_L1 a1 b1) 0).bind fun k => joinK k fun _ =>
    some true
noncomputable def M.anamnesisref03_Without_L1 (s1 : (List Int)) (axis1 : Int) (s : (List Int) × Int) : Option (Ctl ((List Int) × Int) (Ctl ((List Int)) ((List Int)))) :=
  match s with
  | (out1, i1) =>
    if (decide (i1 < (s1.length : Int))) then
      if (i1 != axis1) then
        (idx s1 i1).bind fun y1 =>
        (app 8 out1 ([y1])).bind fun l1 =>
        some (.next (l1, (IntKind.i64.wrap (i1 + 1))))
      else
        some (.next (out1, (IntKind.i64.wrap (i1 + 1))))
    else
      some (.done (.next out1))
noncomputable def M.anamnesisref03_Without (s1 : (List Int)) (axis1 : Int) : Option ((List Int)) :=
  (wloop (M.anamnesisref03_Without_L1 s1 axis1) ([], 0)).bind fun k => joinK k fun out1 =>
  some out1
noncomputable def M.anamnesislaw03_ShapeTells_L1 (s : Int × (List Int)) : Option (Ctl (Int × (List Int)) (Ctl (Unit) (Bool))) :=
  match s with
  | (i1, l2) =>
    if (decide (i1 < (l2.length : Int))) then
      (idx l2 i1).bind fun y1 =>
      (upd l2 i1 7).bind fun l3 =>
      some (.next ((IntKind.i64.wrap (i1 + 1)), l3))
    else
      some (.done (.next ()))
noncomputable def M.anamnesislaw03_ShapeTells (s1 : (List Int)) (axis1 : Int) : Option (Bool) :=
  if (decide ((s1.length : Int) > 8)) then
    some true
  else
    (app 8 ([] : List Int) s1).bind fun l1 =>
    (M.shape_Size s1).bind fun (r1, r2) =>
    (M.anamnesisref03_Size s1).bind fun (r3, r4) =>
    (M.shape_Split s1 axis1).bind fun (r5, r6, r7, r8) =>
    (M.anamnesisref03_Split s1 axis1).bind fun (r9, r10, r11, r12) =>
    (M.shape_Without s1 axis1).bind fun r13 =>
    (if ((((((r1 != r3) || (r2 != r4)) || (r5 != r9)) || (r6 != r10)) || (r7 != r11)) || (!(r8 == r12))) then
    some true else
    (M.shape_Strides s1).bind fun r14 =>
    (M.anamnesisref03_Strides s1).bind fun r15 =>
    (M.anamnesislaw03_same r14 r15).bind fun r16 =>
    some (!r16)).bind fun c6 =>
    (if c6 then
    some true else
    (M.anamnesisref03_Without s1 axis1).bind fun r17 =>
    (M.anamnesislaw03_same r13 r17).bind fun r18 =>
    some (!r18)).bind fun c7 =>
    if c7 then
      some false
    else
      (wloop (M.anamnesislaw03_ShapeTells_L1) (0, r13)).bind fun k => joinK k fun _ =>
      (M.anamnesislaw03_same s1 l1).bind fun r19 =>
      some (r19 && true)
theorem w64_id {x : Int} (h1 : -9223372036854775808 ≤ x) (h2 : x ≤ 9223372036854775807) : IntKind.i64.wrap x = x := wrap_id h1 h2
/-- A loop comes to an end in a state with Q: P holds ahead of each round, and its number falls. -/
theorem wloop_ind {σ β : Type} {f : σ → Option (Ctl σ β)} (P : Nat → σ → Prop) (Q : β → Prop)
    (h : ∀ n s, P n s → (∃ s' n', f s = some (.next s') ∧ n' < n ∧ P n' s') ∨ (∃ b, f s = some (.done b) ∧ Q b)) : ∀ n s, P n s → ∃ b, wloop f s = some b ∧ Q b := by
  intro n
  induction n using Nat.strongRecOn with
  | _ n ih =>
    intro s hp
    rcases h n s hp with ⟨s', n', hf, hn, hp'⟩ | ⟨b, hf, hq⟩
    · obtain ⟨b, hb, hq⟩ := ih n' hn s' hp'
      exact ⟨b, by rw [wloop_next hf]; exact hb, hq⟩
    · exact ⟨b, wloop_done hf, hq⟩
theorem idx_nat {α : Type} (l : List α) (k : Nat) : idx l (k : Int) = l[k]? := by
  unfold idx; rw [if_pos (by omega)]; rfl
theorem idx_get {α : Type} {l : List α} {k : Nat} (h : k < l.length) : idx l (k : Int) = some l[k] := by rw [idx_nat, List.getElem?_eq_getElem h]
theorem upd_nat {α : Type} {l : List α} {k : Nat} {x : α} (h : k < l.length) : upd l (k : Int) x = some (l.set k x) := by
  unfold upd; rw [if_pos ⟨by omega, by omega⟩]; rfl
theorem app_ok {α : Type} {b : Nat} {l m : List α} (h : (l.length + m.length) * b ≤ 140737488355328) : app b l m = some (l ++ m) := by
  unfold app; rw [if_pos (.inr h)]
theorem mk_ok {α : Type} {b : Nat} {z : α} {n : Nat} (h : b * n ≤ 140737488355328) (h' : n ≤ 140737488355328) : mk b z (n : Int) (n : Int) = some (List.replicate n z) := by
  unfold mk
  have : ((b : Int) * (n : Int)) ≤ 140737488355328 := by
    have h2 : ((b * n : Nat) : Int) ≤ 140737488355328 := by omega
    rwa [Int.natCast_mul] at h2
  rw [if_pos ⟨by omega, by omega, this, by omega⟩]; rfl
/-- the numbers that a kind has. -/
theorem wf64 {n : Int} (h : (Lit.int .i64 n).wf = true) : -9223372036854775808 ≤ n ∧ n ≤ 9223372036854775807 := by
  have h2 : (decide (IntKind.i64.min ≤ n) && decide (n ≤ IntKind.i64.max)) = true := h
  have e1 : IntKind.i64.min = -9223372036854775808 := by decide
  have e2 : IntKind.i64.max = 9223372036854775807 := by decide
  rw [e1, e2] at h2
  simpa using h2
theorem sub_drop {α : Type} {l : List α} {k : Nat} (h : k ≤ l.length) : sub l (k : Int) (l.length : Int) = some (l.drop k) := by
  unfold sub
  rw [if_pos ⟨by omega, by omega, by omega⟩]
  simp
theorem drop_cons {α : Type} {l : List α} {k : Nat} (h : k < l.length) : l.drop k = l[k] :: l.drop (k + 1) := List.drop_eq_getElem_cons h
def prod : List Int → Int
  | [] => 1
  | x :: s => x * prod s
def off : List Int → List Int → Int
  | x :: s, a :: at_ => a * prod s + off s at_
  | _, _ => 0
def dig : List Int → Int → List Int
  | [], _ => []
  | _ :: s, k => k / prod s :: dig s (k % prod s)
/-- is a place in a shape? -/
def inShape : List Int → List Int → Prop
  | [], [] => True
  | x :: s, a :: at_ => 0 ≤ a ∧ a < x ∧ inShape s at_
  | _, _ => False
instance : (s at_ : List Int) → Decidable (inShape s at_)
  | [], [] => isTrue trivial
  | x :: s, a :: at_ =>
    have := instDecidableInShape s at_
    by unfold inShape; exact inferInstance
  | [], _ :: _ => isFalse (fun h => h)
  | _ :: _, [] => isFalse (fun h => h)
theorem inShape.len : ∀ {s at_ : List Int}, inShape s at_ → at_.length = s.length
  | [], [], _ => rfl
  | x :: s, a :: at_, ⟨_, _, h⟩ => by simp [h.len]
  | [], _ :: _, h => h.elim
  | _ :: _, [], h => h.elim
theorem inShape.pos : ∀ {s at_ : List Int}, inShape s at_ → 0 < prod s
  | [], [], _ => by simp [prod]
  | x :: s, a :: at_, ⟨h0, h1, h⟩ => by
    have := h.pos
    exact Int.mul_pos (by omega) this
  | [], _ :: _, h => h.elim
  | _ :: _, [], h => h.elim
theorem off_range : ∀ {s at_ : List Int}, inShape s at_ → 0 ≤ off s at_ ∧ off s at_ < prod s
  | [], [], _ => by simp [prod, off]
  | x :: s, a :: at_, ⟨h0, h1, h⟩ => by
    have h2 := off_range h
    have h3 := h.pos
    have h4 : (a + 1) * prod s ≤ x * prod s := Int.mul_le_mul_of_nonneg_right (by omega) (by omega)
    have h5 : 0 ≤ a * prod s := Int.mul_nonneg h0 (by omega)
    rw [Int.add_mul] at h4
    simp only [prod, off]
    omega
  | [], _ :: _, h => h.elim
  | _ :: _, [], h => h.elim
theorem dig_off : ∀ {s at_ : List Int}, inShape s at_ → dig s (off s at_) = at_
  | [], [], _ => rfl
  | x :: s, a :: at_, ⟨h0, h1, h⟩ => by
    have h2 := off_range h
    have h3 := h.pos
    simp only [dig, off]
    rw [Int.add_comm, Int.mul_comm, Int.add_mul_ediv_left _ _ (by omega), Int.add_mul_emod_self_left, Int.emod_eq_of_lt h2.1 h2.2, dig_off h, Int.ediv_eq_zero_of_lt h2.1 h2.2]
    simp
  | [], _ :: _, h => h.elim
  | _ :: _, [], h => h.elim
def allPos (s : List Int) : Prop := ∀ x ∈ s, 0 < x
theorem allPos.pprod : ∀ {s : List Int}, allPos s → 0 < prod s
  | [], _ => by simp [prod]
  | x :: s, h => Int.mul_pos (h x List.mem_cons_self) (allPos.pprod fun y hy => h y (List.mem_cons_of_mem _ hy))
theorem allPos_of {s : List Int} (h : ∀ x ∈ s, 0 ≤ x) (hp : 0 < prod s) : allPos s := by
  intro x hx
  have h0 := h x hx
  rcases Int.lt_or_eq_of_le h0 with h1 | h1
  · exact h1
  · exfalso
    have : ∀ s : List Int, (0 : Int) ∈ s → prod s = 0 := by
      intro s
      induction s with
      | nil => intro h; simp at h
      | cons y s ih =>
        intro h
        rcases List.mem_cons.mp h with h | h
        · simp [prod, ← h]
        · simp [prod, ih h]
    rw [this s (h1 ▸ hx)] at hp
    omega
theorem dig_in : ∀ {s : List Int} {k : Int}, allPos s → 0 ≤ k → k < prod s → inShape s (dig s k)
  | [], k, _, h0, h1 => trivial
  | x :: s, k, h, h0, h1 => by
    have hs : allPos s := fun y hy => h y (List.mem_cons_of_mem _ hy)
    have hp := hs.pprod
    refine ⟨Int.ediv_nonneg h0 (by omega), ?_, dig_in hs (Int.emod_nonneg _ (by omega)) (Int.emod_lt_of_pos _ hp)⟩
    exact Int.ediv_lt_of_lt_mul hp h1
theorem off_dig : ∀ {s : List Int} {k : Int}, allPos s → 0 ≤ k → k < prod s → off s (dig s k) = k
  | [], k, _, h0, h1 => by simp [prod] at h1; simp [dig, off]; omega
  | x :: s, k, h, h0, h1 => by
    have hs : allPos s := fun y hy => h y (List.mem_cons_of_mem _ hy)
    have hp := hs.pprod
    simp only [dig, off]
    rw [off_dig hs (Int.emod_nonneg _ (by omega)) (Int.emod_lt_of_pos _ hp)]
    rw [Int.mul_comm]; exact Int.mul_ediv_add_emod k (prod s)
theorem dig_len : ∀ (s : List Int) (k : Int), (dig s k).length = s.length
  | [], _ => rfl
  | x :: s, k => by simp [dig, dig_len s]
theorem prod_nonneg : ∀ {s : List Int}, (∀ x ∈ s, 0 ≤ x) → 0 ≤ prod s
  | [], _ => by simp [prod]
  | x :: s, h => Int.mul_nonneg (h x List.mem_cons_self) (prod_nonneg fun y hy => h y (List.mem_cons_of_mem _ hy))
theorem prod_append : ∀ (s t : List Int), prod (s ++ t) = prod s * prod t
  | [], t => by simp [prod]
  | x :: s, t => by simp [prod, prod_append s t, Int.mul_assoc]

/-- the size of a shape, or the error. -/
def shSize (s : List Int) : Int × Int :=
  if 4 < s.length then (0, 24) else if s.any (fun x => decide (x < 0)) then (0, 1) else if s.any (fun x => decide (x > 10000)) || decide (prod s > 10000) then (0, 27) else (prod s, 0)
def shOk (s : List Int) : Prop := s.length ≤ 4 ∧ (∀ x ∈ s, 0 ≤ x ∧ x ≤ 10000) ∧ prod s ≤ 10000
instance (s : List Int) : Decidable (shOk s) := by unfold shOk; exact inferInstance
theorem shSize_ok {s : List Int} (h : shOk s) : shSize s = (prod s, 0) := by
  obtain ⟨h1, h2, h3⟩ := h
  unfold shSize
  rw [if_neg (by omega), if_neg, if_neg]
  · simp only [Bool.or_eq_true, List.any_eq_true, decide_eq_true_eq]
    rintro (⟨x, hx, h⟩ | h)
    · have := h2 x hx; omega
    · omega
  · simp only [List.any_eq_true, decide_eq_true_eq]
    rintro ⟨x, hx, h⟩
    have := h2 x hx; omega
theorem shSize_zero {s : List Int} : (shSize s).2 = 0 ↔ shOk s := by
  constructor
  · intro h
    unfold shSize at h
    split at h
    · cases h
    · rename_i h1
      split at h
      · cases h
      · rename_i h2
        split at h
        · cases h
        · rename_i h3
          simp only [List.any_eq_true, decide_eq_true_eq, not_exists, not_and] at h2
          simp only [Bool.or_eq_true, List.any_eq_true, decide_eq_true_eq, not_or, not_exists, not_and] at h3
          exact ⟨by omega, fun x hx => ⟨by have := h2 x hx; omega, by have := h3.1 x hx; omega⟩, by omega⟩
  · intro h; rw [shSize_ok h]
theorem shSize_cases (s : List Int) : (shOk s ∧ shSize s = (prod s, 0)) ∨ (¬ shOk s ∧ (shSize s).2 ≠ 0 ∧ (shSize s).1 = 0) := by
  by_cases h : shOk s
  · exact .inl ⟨h, shSize_ok h⟩
  · refine .inr ⟨h, fun hh => h (shSize_zero.mp hh), ?_⟩
    unfold shSize
    split
    · rfl
    · rename_i h1
      split
      · rfl
      · rename_i h2
        split
        · rfl
        · rename_i h3
          exfalso; apply h
          simp only [List.any_eq_true, decide_eq_true_eq, not_exists, not_and] at h2
          simp only [Bool.or_eq_true, List.any_eq_true, decide_eq_true_eq, not_or, not_exists, not_and] at h3
          exact ⟨by omega, fun x hx => ⟨by have := h2 x hx; omega, by have := h3.1 x hx; omega⟩, by omega⟩
theorem dig_bound {s : List Int} {k : Int} (hok : shOk s) (h0 : 0 ≤ k) (h1 : k < prod s) : ∀ x ∈ dig s k, 0 ≤ x ∧ x ≤ 10000 := by
  have hpos : allPos s := allPos_of (fun x hx => (hok.2.1 x hx).1) (by omega)
  have key : ∀ (s at_ : List Int), inShape s at_ → (∀ x ∈ s, 0 ≤ x ∧ x ≤ 10000) → ∀ x ∈ at_, 0 ≤ x ∧ x ≤ 10000 := by
    intro s
    induction s with
    | nil => intro at_ h _ x hx; cases at_ with | nil => simp at hx | cons _ _ => exact h.elim
    | cons y s ih =>
      intro at_ h hb x hx
      cases at_ with
      | nil => exact h.elim
      | cons a at_ =>
        obtain ⟨h1, h2, h3⟩ := h
        rcases List.mem_cons.mp hx with rfl | hx
        · have := hb y List.mem_cons_self; omega
        · exact ih at_ h3 (fun z hz => hb z (List.mem_cons_of_mem _ hz)) x hx
  exact key s _ (dig_in hpos h0 h1) hok.2.1
theorem dig_zero : ∀ {s : List Int}, allPos s → dig s 0 = List.replicate s.length 0
  | [], _ => rfl
  | x :: s, h => by
    have hs : allPos s := fun y hy => h y (List.mem_cons_of_mem _ hy)
    simp only [dig, Int.zero_ediv, Int.zero_emod, dig_zero hs]; rfl

theorem contains_int {s : List Int} {f : Int → Option Bool} {g : Int → Bool} (hf : ∀ x ∈ s, f x = some (g x)) (hl : s.length ≤ 4611686018427387904) : M.slices_ContainsFunc__int s f = some (s.any g) := by
  have key := wloop_ind (f := M.slices_IndexFunc__int_L1 s f) (fun n i => ∃ k : Nat, i = k ∧ k ≤ s.length ∧ n = s.length - k ∧ (s.take k).any g = false)
    (fun b => (∃ i : Int, b = .done i ∧ 0 ≤ i ∧ s.any g = true) ∨ (b = .next () ∧ s.any g = false)) (fun n i h => by
      obtain ⟨k, rfl, hk, rfl, hn⟩ := h
      unfold M.slices_IndexFunc__int_L1
      by_cases hlt : k < s.length
      · simp only [show decide ((k : Int) < (s.length : Int)) = true from by simp; exact hlt, if_true, idx_get hlt, Option.bind_some, hf _ (List.getElem_mem hlt)]
        cases hg : g s[k] with
        | true =>
          right
          refine ⟨_, rfl, .inl ⟨_, rfl, by omega, ?_⟩⟩
          rw [List.any_eq_true]
          exact ⟨_, List.getElem_mem hlt, hg⟩
        | false =>
          left
          refine ⟨_, s.length - (k + 1), rfl, by omega, k + 1, ?_, by omega, rfl, ?_⟩
          · rw [w64_id (by omega) (by omega)]; omega
          · rw [List.take_succ_eq_append_getElem hlt, List.any_append, hn]; simp [hg]
      · have : k = s.length := by omega
        subst this
        right
        simp only [show decide ((s.length : Int) < (s.length : Int)) = false from by simp, Bool.false_eq_true, if_false]
        exact ⟨_, rfl, .inr ⟨rfl, by simpa using hn⟩⟩) s.length 0 ⟨0, rfl, by omega, by omega, by simp⟩
  unfold M.slices_ContainsFunc__int M.slices_IndexFunc__int
  obtain ⟨b, hb, ⟨i, rfl, h0, ha⟩ | ⟨rfl, ha⟩⟩ := key
  · rw [hb, ha]; simp [h0]
  · rw [hb, ha]; simp
theorem one_le_pow : ∀ k : Nat, (1 : Int) ≤ 10000 ^ k
  | 0 => by simp
  | k + 1 => by rw [Int.pow_succ]; have := one_le_pow k; omega
theorem prod_bound : ∀ (s : List Int) (k : Nat), s.length ≤ k → (∀ x ∈ s, 0 ≤ x ∧ x ≤ 10000) → 0 ≤ prod s ∧ prod s ≤ 10000 ^ k
  | [], k, _, _ => ⟨by simp [prod], one_le_pow k⟩
  | x :: s, k + 1, hl, h => by
    have h1 := h x List.mem_cons_self
    have h2 := prod_bound s k (by simpa using hl) (fun y hy => h y (List.mem_cons_of_mem _ hy))
    refine ⟨Int.mul_nonneg h1.1 h2.1, ?_⟩
    simp only [prod]
    have h3 : x * prod s ≤ 10000 * prod s := Int.mul_le_mul_of_nonneg_right h1.2 h2.1
    have h4 : (10000 : Int) ^ (k + 1) = 10000 ^ k * 10000 := Int.pow_succ _ _
    omega
  | x :: s, 0, hl, h => by simp at hl

theorem product_eq {s : List Int} (hl : s.length ≤ 4) (hb : ∀ x ∈ s, 0 ≤ x ∧ x ≤ 10000) : M.shape_product s = some (prod s) := by
  have key := wloop_ind (f := M.shape_product_L1 s) (fun n st => ∃ k : Nat, st = (prod (s.take k), (k : Int)) ∧ k ≤ s.length ∧ n = s.length - k)
    (fun b => b = .next (prod s)) (fun n st h => by
      obtain ⟨k, rfl, hk, rfl⟩ := h
      unfold M.shape_product_L1
      by_cases hlt : k < s.length
      · left
        simp only [show decide ((k : Int) < (s.length : Int)) = true from by simp; exact hlt, if_true, idx_get hlt, Option.bind_some]
        have e : prod (s.take k) * s[k] = prod (s.take (k + 1)) := by
          rw [List.take_succ_eq_append_getElem hlt, prod_append]; simp [prod]
        have hp := prod_bound (s.take (k + 1)) 4 (by rw [List.length_take]; omega) (fun x hx => hb x (List.mem_of_mem_take hx))
        refine ⟨_, s.length - (k + 1), rfl, by omega, k + 1, ?_, by omega, rfl⟩
        rw [e, w64_id (by omega) (by omega), w64_id (by omega) (by omega)]
        simp
      · have : k = s.length := by omega
        subst this
        right
        simp)
    s.length (1, 0) ⟨0, by simp [prod], by omega, by omega⟩
  obtain ⟨b, hb, rfl⟩ := key
  unfold M.shape_product
  rw [hb]; rfl

theorem shape_Size_eq {s : List Int} (hl : s.length ≤ maxLen) : M.shape_Size s = some (shSize s) := by
  have hm : maxLen = 9223372036854775807 := rfl
  unfold M.shape_Size shSize
  by_cases h4 : 4 < s.length
  · rw [if_pos h4, if_pos (by simp; omega)]
  · rw [if_neg h4, if_neg (by simp; omega)]
    rw [contains_int (s := s) (f := fun x0 => M.shape_Size_1 x0) (g := fun x => decide (x < 0)) (fun x _ => rfl) (by omega), Option.bind_some]
    cases hneg : s.any (fun x => decide (x < 0)) with
    | true => simp
    | false =>
      simp only [Bool.false_eq_true, if_false]
      rw [contains_int (s := s) (f := fun x0 => M.shape_Size_2 x0) (g := fun x => decide (x > 10000)) (fun x _ => rfl) (by omega), Option.bind_some]
      cases hbig : s.any (fun x => decide (x > 10000)) with
      | true => simp
      | false =>
        have hb : ∀ x ∈ s, 0 ≤ x ∧ x ≤ 10000 := by
          intro x hx
          simp only [List.any_eq_false, decide_eq_true_eq] at hneg hbig
          have := hneg x hx; have := hbig x hx; omega
        simp only [Bool.false_eq_true, if_false, product_eq (by omega) hb, Option.bind_some, Bool.false_or]
        split <;> simp_all
theorem sized_eq {s : List Int} (hl : s.length ≤ maxLen) : M.shape_sized s = some ((shSize s).2 == 0) := by
  unfold M.shape_sized; rw [shape_Size_eq hl]; rfl
theorem ref03_Size_eq {s : List Int} (hl : s.length ≤ maxLen) : M.anamnesisref03_Size s = some (shSize s) := by
  have hm : maxLen = 9223372036854775807 := rfl
  unfold M.anamnesisref03_Size shSize
  by_cases h4 : 4 < s.length
  · rw [if_pos h4, if_pos (by simp; omega)]
  · rw [if_neg h4, if_neg (by simp; omega)]
    have key := wloop_ind (f := M.anamnesisref03_Size_L1 s)
      (fun n st => ∃ k : Nat, ∃ z : Int, st = (z, (s.take k).any (fun x => decide (x > 10000)), (k : Int)) ∧ k ≤ s.length ∧ n = s.length - k ∧ (s.take k).any (fun x => decide (x < 0)) = false ∧
        0 ≤ z ∧ z ≤ 10000 ^ k ∧ ((s.take k).any (fun x => decide (x > 10000)) = false → z = prod (s.take k)))
      (fun b => (b = .done (0, 1) ∧ s.any (fun x => decide (x < 0)) = true) ∨ (∃ z, b = .next (z, s.any (fun x => decide (x > 10000))) ∧ s.any (fun x => decide (x < 0)) = false ∧ (s.any (fun x => decide (x > 10000)) = false → z = prod s)))
      (fun n st h => by
        obtain ⟨k, z, rfl, hk, rfl, hneg, hz0, hz1, hz⟩ := h
        unfold M.anamnesisref03_Size_L1
        by_cases hlt : k < s.length
        · simp only [show decide ((k : Int) < (s.length : Int)) = true from by simp; exact hlt, if_true, idx_get hlt, Option.bind_some]
          have etake := List.take_succ_eq_append_getElem hlt
          by_cases hn : s[k] < 0
          · right
            simp only [show decide (s[k] < 0) = true from by simp [hn], if_true]
            exact ⟨_, rfl, .inl ⟨rfl, by rw [List.any_eq_true]; exact ⟨_, List.getElem_mem hlt, by simpa using hn⟩⟩⟩
          · left
            simp only [show decide (s[k] < 0) = false from by simpa using hn, Bool.false_eq_true, if_false]
            have hpk : (10000 : Int) ^ (k + 1) = 10000 ^ k * 10000 := Int.pow_succ _ _
            have hp4 : (10000 : Int) ^ (k + 1) ≤ 10000 ^ 4 := by
              have : k + 1 ≤ 4 := by omega
              have h3 : ∀ a : Nat, a ≤ 4 → (10000 : Int) ^ a ≤ 10000 ^ 4 := by decide
              exact h3 _ this
            by_cases hbig : s[k] > 10000
            · simp only [show decide (s[k] > 10000) = true from by simpa using hbig, if_true, Option.bind_some]
              refine ⟨_, s.length - (k + 1), rfl, by omega, k + 1, 0, ?_, by omega, rfl, ?_, by omega, by omega, ?_⟩
              · rw [w64_id (by simp) (by simp), w64_id (by omega) (by omega), etake, List.any_append]
                simp [hbig]
              · rw [etake, List.any_append, hneg]; simpa using hn
              · rw [etake, List.any_append]; simp [hbig]
            · simp only [show decide (s[k] > 10000) = false from by simpa using hbig, Bool.false_eq_true, if_false, Option.bind_some]
              have h5 : 0 ≤ z * s[k] := Int.mul_nonneg hz0 (by omega)
              have h6 : z * s[k] ≤ 10000 ^ k * 10000 := Int.mul_le_mul hz1 (by omega) (by omega) (by omega)
              refine ⟨_, s.length - (k + 1), rfl, by omega, k + 1, z * s[k], ?_, by omega, rfl, ?_, h5, by omega, ?_⟩
              · rw [w64_id (by omega) (by omega), w64_id (by omega) (by omega), etake, List.any_append]
                simp [hbig]
              · rw [etake, List.any_append, hneg]; simpa using hn
              · rw [etake, List.any_append, prod_append]
                intro h7
                rw [Bool.or_eq_false_iff] at h7
                rw [hz h7.1]; simp [prod]
        · have : k = s.length := by omega
          subst this
          right
          simp only [show decide ((s.length : Int) < (s.length : Int)) = false from by simp, Bool.false_eq_true, if_false]
          simp only [List.take_length] at hneg hz ⊢
          exact ⟨_, rfl, .inr ⟨z, rfl, hneg, hz⟩⟩)
      s.length (1, false, 0) ⟨0, 1, by simp, by omega, by omega, by simp, by omega, by omega, by simp [prod]⟩
    obtain ⟨b, hb, ⟨rfl, ha⟩ | ⟨z, rfl, ha, hz⟩⟩ := key
    · rw [hb, ha]; simp
    · rw [hb, ha]
      simp only [Option.bind_some, joinK_next, Bool.false_eq_true, if_false]
      cases hbig : s.any (fun x => decide (x > 10000)) with
      | true => simp
      | false => rw [hz hbig]; simp; split <;> simp_all
theorem same_step {f : Int → Option (Ctl Int (Ctl Unit Bool))} {a b : List Int} (hl : a.length = b.length) (hm : a.length ≤ maxLen)
    (hf : ∀ k : Nat, ∀ h : k < a.length, f k = if a[k] = b[k]'(hl ▸ h) then some (.next ((k : Int) + 1)) else some (.done (.done false))) (he : f a.length = some (.done (.next ()))) :
    (wloop f 0).bind (fun k => joinK k fun _ => some true) = some (decide (a = b)) := by
  have key := wloop_ind (f := f) (fun n i => ∃ k : Nat, i = k ∧ k ≤ a.length ∧ n = a.length - k ∧ a.take k = b.take k)
    (fun c => (c = .done false ∧ a ≠ b) ∨ (c = .next () ∧ a = b)) (fun n i h => by
      obtain ⟨k, rfl, hk, rfl, hn⟩ := h
      by_cases hlt : k < a.length
      · rw [hf k hlt]
        by_cases he : a[k] = b[k]
        · rw [if_pos he]
          left
          refine ⟨_, a.length - (k + 1), rfl, by omega, k + 1, by omega, by omega, rfl, ?_⟩
          rw [List.take_succ_eq_append_getElem hlt, List.take_succ_eq_append_getElem (by omega), hn, he]
        · rw [if_neg he]
          right
          refine ⟨_, rfl, .inl ⟨rfl, fun h => he ?_⟩⟩
          subst h; rfl
      · have : k = a.length := by omega
        subst this
        right
        refine ⟨_, he, .inr ⟨rfl, ?_⟩⟩
        rw [List.take_length, hl, List.take_length] at hn
        exact hn) a.length 0 ⟨0, rfl, by omega, by omega, by simp⟩
  obtain ⟨c, hc, ⟨rfl, h⟩ | ⟨rfl, h⟩⟩ := key
  · rw [hc]; simp [h]
  · rw [hc]; simp [h]
theorem law03_same_eq {a b : List Int} (ha : a.length ≤ maxLen) : M.anamnesislaw03_same a b = some (decide (a = b)) := by
  have hm : maxLen = 9223372036854775807 := rfl
  unfold M.anamnesislaw03_same
  by_cases hl : a.length = b.length
  · rw [if_neg (by simp [hl])]
    refine same_step hl ha (fun k h => ?_) ?_
    · unfold M.anamnesislaw03_same_L1
      simp only [show decide ((k : Int) < (a.length : Int)) = true from by simp; exact h, if_true, idx_get h, idx_get (hl ▸ h : k < b.length), Option.bind_some]
      by_cases he : a[k] = b[k]'(hl ▸ h)
      · rw [if_pos he, if_neg (by simp [he]), w64_id (by omega) (by omega)]
      · rw [if_neg he, if_pos (by simp [he])]
    · unfold M.anamnesislaw03_same_L1; simp
  · rw [if_pos (by simp; omega)]
    have : a ≠ b := fun h => hl (by rw [h])
    simp [this]
def strides : List Int → List Int
  | [] => []
  | _ :: s => prod s :: strides s
theorem strides_len : ∀ s : List Int, (strides s).length = s.length
  | [] => rfl
  | x :: s => by simp [strides, strides_len s]
theorem strides_take : ∀ (s : List Int) (k : Nat), k < s.length → (strides s).take (k + 1) = (strides s).take k ++ [prod (s.drop (k + 1))]
  | [], k, h => by simp at h
  | x :: s, 0, h => by simp [strides]
  | x :: s, k + 1, h => by
    simp only [strides, List.take_succ_cons, List.drop_succ_cons]
    rw [strides_take s k (by simpa using h)]
    rfl
theorem shape_Strides_eq {s : List Int} (hl : s.length ≤ maxLen) : M.shape_Strides s = some (if shOk s then strides s else []) := by
  unfold M.shape_Strides
  rw [sized_eq hl, Option.bind_some]
  rcases shSize_cases s with ⟨hok, he⟩ | ⟨hok, he, _⟩
  · rw [he, if_neg (by simp), if_pos hok]
    have h4 := hok.1
    have key := wloop_ind (f := M.shape_Strides_L1 s)
      (fun n st => ∃ k : Nat, n = s.length - k ∧ k ≤ s.length ∧ st = ((strides s).take k, (k : Int)))
      (fun b => b = .next (strides s)) (fun n st h => by
        obtain ⟨k, rfl, hk, rfl⟩ := h
        unfold M.shape_Strides_L1
        by_cases hlt : k < s.length
        · left
          simp only [show decide ((k : Int) < (s.length : Int)) = true from decide_eq_true (by omega), if_true]
          rw [w64_id (by omega) (by omega)]
          have hk1 : (k : Int) + 1 = ((k + 1 : Nat) : Int) := by omega
          rw [hk1, sub_drop (by omega), Option.bind_some, product_eq (by simp; omega) (fun x hx => hok.2.1 x (List.mem_of_mem_drop hx)), Option.bind_some]
          have hsl := strides_len s
          rw [app_ok (by simp [hsl]; omega), Option.bind_some]
          exact ⟨_, s.length - (k + 1), rfl, by omega, k + 1, rfl, by omega, by rw [strides_take s k hlt]⟩
        · right
          have : k = s.length := by omega
          subst this
          simp only [show decide ((s.length : Int) < (s.length : Int)) = false from decide_eq_false (by omega), Bool.false_eq_true, if_false]
          refine ⟨_, rfl, ?_⟩
          rw [← strides_len s, List.take_length])
      s.length ([], 0) ⟨0, by omega, by omega, rfl⟩
    obtain ⟨b, hb, rfl⟩ := key
    rw [hb]; rfl
  · have : ((shSize s).2 == 0) = false := by simpa using he
    rw [this, if_pos (by rfl), if_neg hok]
theorem sub_take {α : Type} {l : List α} {k : Nat} (h : k ≤ l.length) : sub l 0 (k : Int) = some (l.take k) := by
  unfold sub
  rw [if_pos ⟨by omega, by omega, by omega⟩]
  simp
/-- what is ahead of an axis, it, what is behind. -/
def splitOf (s : List Int) (axis : Int) : Int × Int × Int × Bool :=
  if h : shOk s ∧ 0 ≤ axis ∧ axis < s.length then (prod (s.take axis.toNat), s[axis.toNat]'(by omega), prod (s.drop (axis.toNat + 1)), true) else (0, 0, 0, false)
theorem shape_Split_eq {s : List Int} {axis : Int} (hl : s.length ≤ maxLen) (ha : -9223372036854775808 ≤ axis ∧ axis ≤ 9223372036854775807) : M.shape_Split s axis = some (splitOf s axis) := by
  have hm : maxLen = 9223372036854775807 := rfl
  unfold M.shape_Split splitOf
  by_cases hr : 0 ≤ axis ∧ axis < s.length
  · have e : (decide (axis < 0) || decide (axis ≥ (s.length : Int))) = false := by
      rw [decide_eq_false (by omega), decide_eq_false (by omega)]; rfl
    rw [e, sized_eq hl]
    simp only [Bool.false_eq_true, if_false, Option.bind_some]
    rcases shSize_cases s with ⟨hok, he⟩ | ⟨hok, he, _⟩
    · obtain ⟨k, rfl⟩ : ∃ k : Nat, axis = k := ⟨axis.toNat, by omega⟩
      have hk : k < s.length := by omega
      have h4 := hok.1
      rw [he, dif_pos ⟨hok, hr⟩]
      simp only [beq_self_eq_true, Bool.not_true, Bool.false_eq_true, if_false]
      rw [sub_take (by omega), Option.bind_some, product_eq (by rw [List.length_take]; omega) (fun x hx => hok.2.1 x (List.mem_of_mem_take hx)), Option.bind_some, idx_get hk, Option.bind_some, w64_id (by omega) (by omega),
        show (k : Int) + 1 = ((k + 1 : Nat) : Int) by omega, sub_drop (by omega), Option.bind_some, product_eq (by rw [List.length_drop]; omega) (fun x hx => hok.2.1 x (List.mem_of_mem_drop hx))]
      rfl
    · have : ((shSize s).2 == 0) = false := by simpa using he
      rw [this, dif_neg (fun h => hok h.1)]
      rfl
  · have e : (decide (axis < 0) || decide (axis ≥ (s.length : Int))) = true := by
      simp; omega
    rw [e, dif_neg (fun h => hr h.2)]
    rfl
/-- a shape without an axis. -/
def wo (s : List Int) (axis : Int) : List Int := if 0 ≤ axis ∧ axis < s.length then s.take axis.toNat ++ s.drop (axis.toNat + 1) else s
theorem shape_Without_eq {s : List Int} {axis : Int} (hl : s.length ≤ 1000000) (ha : -9223372036854775808 ≤ axis ∧ axis ≤ 9223372036854775807) : M.shape_Without s axis = some (wo s axis) := by
  unfold M.shape_Without M.slices_Clone__int wo
  rw [app_ok (by simp; omega), List.nil_append, Option.bind_some]
  by_cases hr : 0 ≤ axis ∧ axis < s.length
  · obtain ⟨k, rfl⟩ : ∃ k : Nat, axis = k := ⟨axis.toNat, by omega⟩
    rw [if_neg (by simp; omega), if_pos hr, w64_id (by omega) (by omega)]
    unfold M.slices_Delete__int del
    rw [if_pos ⟨by omega, by omega, by omega⟩]
    have : ((k : Int) + 1).toNat = k + 1 := by omega
    simp [this]
  · rw [if_pos (by simp; omega), if_neg hr]
theorem wo_prod {s : List Int} {k : Nat} (h : k < s.length) : prod (wo s k) = prod (s.take k) * prod (s.drop (k + 1)) := by
  unfold wo
  rw [if_pos ⟨by omega, by omega⟩, prod_append]; simp
theorem prod_split {s : List Int} {k : Nat} (h : k < s.length) : prod s = prod (s.take k) * s[k] * prod (s.drop (k + 1)) := by
  conv => lhs; rw [← List.take_append_drop k s, drop_cons h, prod_append]
  simp only [prod]
  rw [Int.mul_assoc]
theorem ref03_Right_eq {s : List Int} (hl : s.length ≤ maxLen) : M.anamnesisref03_Right s = some ((shSize s).2 == 0) := by
  unfold M.anamnesisref03_Right; rw [ref03_Size_eq hl]; rfl
theorem ref03_times_eq {s : List Int} {a b : Nat} (hok : shOk s) (hab : a ≤ b) (hb : b ≤ s.length) : M.anamnesisref03_times s (a : Int) (b : Int) = some (prod ((s.take b).drop a)) := by
  have h4 := hok.1
  have key := wloop_ind (f := M.anamnesisref03_times_L1 s b)
    (fun n st => ∃ k : Nat, n = b - k ∧ a ≤ k ∧ k ≤ b ∧ st = (prod ((s.take k).drop a), (k : Int)))
    (fun c => c = .next (prod ((s.take b).drop a))) (fun n st h => by
      obtain ⟨k, rfl, hak, hk, rfl⟩ := h
      unfold M.anamnesisref03_times_L1
      by_cases hlt : k < b
      · left
        have hks : k < s.length := by omega
        simp only [show decide ((k : Int) < (b : Int)) = true from decide_eq_true (by omega), if_true, idx_get hks, Option.bind_some]
        have e : (s.take (k + 1)).drop a = (s.take k).drop a ++ [s[k]] := by
          rw [List.take_succ_eq_append_getElem hks, List.drop_append_of_le_length (by simp; omega)]
        have hp := prod_bound ((s.take (k + 1)).drop a) 4 (by simp; omega) (fun x hx => hok.2.1 x (List.mem_of_mem_take (List.mem_of_mem_drop hx)))
        have e2 : prod ((s.take (k + 1)).drop a) = prod ((s.take k).drop a) * s[k] := by rw [e, prod_append]; simp [prod]
        refine ⟨_, b - (k + 1), rfl, by omega, k + 1, rfl, by omega, by omega, ?_⟩
        rw [← e2, w64_id (by omega) (by omega), w64_id (by omega) (by omega)]
        simp
      · right
        have : k = b := by omega
        subst this
        simp only [show decide ((k : Int) < (k : Int)) = false from decide_eq_false (by omega), Bool.false_eq_true, if_false]
        exact ⟨_, rfl, rfl⟩)
    (b - a) (1, (a : Int)) ⟨a, rfl, by omega, hab, by simp [prod, List.drop_of_length_le]⟩
  obtain ⟨c, hc, rfl⟩ := key
  unfold M.anamnesisref03_times
  rw [hc]; rfl
theorem ref03_Split_eq {s : List Int} {axis : Int} (hl : s.length ≤ maxLen) : M.anamnesisref03_Split s axis = some (splitOf s axis) := by
  unfold M.anamnesisref03_Split splitOf
  rw [ref03_Right_eq hl, Option.bind_some]
  by_cases hr : shOk s ∧ 0 ≤ axis ∧ axis < s.length
  · obtain ⟨hok, h0, h1⟩ := hr
    rw [dif_pos ⟨hok, h0, h1⟩, shSize_ok hok]
    obtain ⟨k, rfl⟩ : ∃ k : Nat, axis = k := ⟨axis.toNat, by omega⟩
    have hk : k < s.length := by omega
    have h4 := hok.1
    rw [if_neg (by simp; omega)]
    have e0 := ref03_times_eq (a := 0) (b := k) hok (by omega) (by omega)
    have e1 := ref03_times_eq (a := k + 1) (b := s.length) hok (by omega) (by omega)
    rw [show ((0 : Nat) : Int) = 0 from rfl] at e0
    rw [e0, Option.bind_some, idx_get hk, Option.bind_some, w64_id (by omega) (by omega), show (k : Int) + 1 = ((k + 1 : Nat) : Int) by omega, e1, Option.bind_some]
    simp
  · rw [dif_neg hr]
    rcases shSize_cases s with ⟨ho, he⟩ | ⟨ho, he, _⟩
    · have : ¬ (0 ≤ axis ∧ axis < s.length) := fun h => hr ⟨ho, h⟩
      rw [if_pos]
      simp; omega
    · have : ((shSize s).2 == 0) = false := by simpa using he
      rw [this]; rfl
theorem ref03_Strides_eq {s : List Int} (hl : s.length ≤ 1000) : M.anamnesisref03_Strides s = some (if shOk s then strides s else []) := by
  have hm : maxLen = 9223372036854775807 := rfl
  unfold M.anamnesisref03_Strides
  rcases shSize_cases s with ⟨hok, he⟩ | ⟨hok, he, _⟩
  · rw [if_pos hok]
    have h4 := hok.1
    have key := wloop_ind (f := M.anamnesisref03_Strides_L1 s)
      (fun n st => ∃ k : Nat, n = s.length - k ∧ k ≤ s.length ∧ st = ((strides s).take k, (k : Int)))
      (fun b => b = .next (strides s)) (fun n st h => by
        obtain ⟨k, rfl, hk, rfl⟩ := h
        unfold M.anamnesisref03_Strides_L1
        by_cases hlt : k < s.length
        · left
          simp only [show decide ((k : Int) < (s.length : Int)) = true from decide_eq_true (by omega), if_true]
          rw [ref03_Right_eq (by omega), he]
          simp only [Option.bind_some, beq_self_eq_true, if_true]
          have e1 := ref03_times_eq (a := k + 1) (b := s.length) hok (by omega) (by omega)
          rw [w64_id (by omega) (by omega), show (k : Int) + 1 = ((k + 1 : Nat) : Int) by omega, e1, Option.bind_some, List.take_length]
          have hsl := strides_len s
          rw [app_ok (by simp [hsl]; omega), Option.bind_some]
          exact ⟨_, s.length - (k + 1), rfl, by omega, k + 1, rfl, by omega, by rw [strides_take s k hlt]⟩
        · right
          have : k = s.length := by omega
          subst this
          simp only [show decide ((s.length : Int) < (s.length : Int)) = false from decide_eq_false (by omega), Bool.false_eq_true, if_false, Option.bind_some]
          refine ⟨_, rfl, ?_⟩
          rw [← strides_len s, List.take_length])
      s.length ([], 0) ⟨0, by omega, by omega, rfl⟩
    obtain ⟨b, hb, rfl⟩ := key
    rw [hb]; rfl
  · have : ((shSize s).2 == 0) = false := by simpa using he
    rw [if_neg hok]
    have e : M.anamnesisref03_Strides_L1 s ([], 0) = some (.done (.next [])) := by
      unfold M.anamnesisref03_Strides_L1
      rw [ref03_Right_eq (by omega), this]
      by_cases h : (0 : Int) < (s.length : Int)
      · simp [h]
      · simp [h]
    rw [wloop_done e]; rfl
theorem ref03_Without_eq {s : List Int} {axis : Int} (hl : s.length ≤ 1000) : M.anamnesisref03_Without s axis = some (wo s axis) := by
  have key := wloop_ind (f := M.anamnesisref03_Without_L1 s axis)
    (fun n st => ∃ k : Nat, n = s.length - k ∧ k ≤ s.length ∧ st = (wo (s.take k) axis, (k : Int)))
    (fun b => b = .next (wo s axis)) (fun n st h => by
      obtain ⟨k, rfl, hk, rfl⟩ := h
      unfold M.anamnesisref03_Without_L1
      by_cases hlt : k < s.length
      · left
        have et := List.take_succ_eq_append_getElem hlt
        have htl : (s.take k).length = k := by simp; omega
        simp only [show decide ((k : Int) < (s.length : Int)) = true from decide_eq_true (by omega), if_true, idx_get hlt, Option.bind_some]
        by_cases hax : (k : Int) = axis
        · subst hax
          simp only [bne_self_eq_false, Bool.false_eq_true, if_false]
          refine ⟨_, s.length - (k + 1), rfl, by omega, k + 1, rfl, by omega, ?_⟩
          rw [w64_id (by omega) (by omega)]
          refine Prod.ext ?_ (by simp)
          unfold wo
          rw [if_neg (by rw [htl]; omega), if_pos (by simp; omega)]
          simp [List.take_take, List.drop_of_length_le]
        · have hne : ((k : Int) != axis) = true := by simpa using hax
          simp only [hne, if_true]
          have hwl : (wo (s.take k) axis).length ≤ 1000 := by
            unfold wo; split
            · simp; omega
            · simp; omega
          rw [app_ok (by simp; omega), Option.bind_some]
          refine ⟨_, s.length - (k + 1), rfl, by omega, k + 1, rfl, by omega, ?_⟩
          rw [w64_id (by omega) (by omega)]
          refine Prod.ext ?_ (by simp)
          simp only
          unfold wo
          by_cases hr : 0 ≤ axis ∧ axis < k
          · have hr2 : axis.toNat < k := by omega
            rw [if_pos (by rw [htl]; omega), if_pos (by simp; omega), et]
            rw [List.take_append_of_le_length (by rw [htl]; omega), List.drop_append_of_le_length (by rw [htl]; omega), List.append_assoc]
          · rw [if_neg (by rw [htl]; omega), if_neg (by simp; omega), et]
      · right
        have : k = s.length := by omega
        subst this
        simp only [show decide ((s.length : Int) < (s.length : Int)) = false from decide_eq_false (by omega), Bool.false_eq_true, if_false]
        refine ⟨_, rfl, ?_⟩
        rw [List.take_length])
    s.length ([], 0) ⟨0, by omega, by omega, by simp [wo]⟩
  obtain ⟨b, hb, rfl⟩ := key
  unfold M.anamnesisref03_Without
  rw [hb]; rfl
theorem tells_fill : ∀ l : List Int, l.length ≤ 1000 → ∃ c, wloop M.anamnesislaw03_ShapeTells_L1 (0, l) = some c ∧ c = .next () := by
  intro l hl
  refine wloop_ind (f := M.anamnesislaw03_ShapeTells_L1) (fun n st => ∃ k : Nat, ∃ m : List Int, n = m.length - k ∧ k ≤ m.length ∧ m.length ≤ 1000 ∧ st = ((k : Int), m)) _ (fun n st h => ?_) l.length (0, l) ⟨0, l, by omega, by omega, hl, rfl⟩
  obtain ⟨k, m, rfl, hk, hm, rfl⟩ := h
  unfold M.anamnesislaw03_ShapeTells_L1
  by_cases hlt : k < m.length
  · left
    simp only [show decide ((k : Int) < (m.length : Int)) = true from decide_eq_true (by omega), if_true, idx_get hlt, upd_nat hlt, Option.bind_some]
    refine ⟨_, m.length - (k + 1), rfl, by omega, k + 1, m.set k 7, by simp, by simp; omega, by simpa using hm, ?_⟩
    rw [w64_id (by omega) (by omega)]; simp
  · right
    simp only [show decide ((k : Int) < (m.length : Int)) = false from decide_eq_false (by omega), Bool.false_eq_true, if_false]
    exact ⟨_, rfl, rfl⟩
theorem shapeTells_true (s : List Int) (axis : Int) (gs : ∀ x ∈ s, (Lit.int .i64 x).wf = true) (hs : s.length ≤ maxLen) (ga : (Lit.int .i64 axis).wf = true) : M.anamnesislaw03_ShapeTells s axis = some true := by
  have ha := wf64 ga
  unfold M.anamnesislaw03_ShapeTells
  by_cases h8 : (s.length : Int) > 8
  · rw [if_pos (by simpa using h8)]
  have hsl : s.length ≤ 8 := by omega
  rw [if_neg (by simpa using h8), app_ok (by simp; omega), List.nil_append, Option.bind_some, shape_Size_eq hs, ref03_Size_eq hs]
  simp only [Option.bind_some]
  rw [shape_Split_eq hs ha, ref03_Split_eq hs, shape_Without_eq (by omega) ha, shape_Strides_eq hs, ref03_Strides_eq (by omega), ref03_Without_eq (by omega)]
  have hm : maxLen = 9223372036854775807 := rfl
  have hl1 : (if shOk s then strides s else []).length ≤ maxLen := by
    split
    · rw [strides_len]; exact hs
    · simp
  have hl2 : (wo s axis).length ≤ 1000 := by
    unfold wo; split
    · simp; omega
    · omega
  obtain ⟨c, hc, rfl⟩ := tells_fill _ hl2
  simp only [Option.bind_some, bne_self_eq_false, Bool.or_self, beq_self_eq_true, Bool.not_true, Bool.false_eq_true, if_false, law03_same_eq hl1, decide_true, law03_same_eq (show (wo s axis).length ≤ maxLen by omega), law03_same_eq hs, hc, joinK_next, Bool.and_self]

end Go.Proofs.Ytlcpnakgolfofaa.shapeTells
