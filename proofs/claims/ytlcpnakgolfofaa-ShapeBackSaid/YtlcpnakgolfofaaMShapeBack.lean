/- ShapeBack: what the code that the law reaches computes, as plain functions; and that the law comes to true. -/
import Derived.Test.YtlcpnakgolfofaaAmU
set_option linter.unusedVariables false
set_option linter.unusedSimpArgs false
set_option maxRecDepth 100000
open Go Go.Am
namespace Go.Proofs.Ytlcpnakgolfofaa.shapeBack
noncomputable def M.slices_IndexFunc__int_L1 (s1 : (List Int)) (f1 : (Int → Option (Bool))) (s : Int) : Option (Ctl (Int) (Ctl (Unit) (Int))) :=
  match s with
  | t1 =>
    if (decide (t1 < (s1.length : Int))) then
      (idx s1 t1).bind fun y1 =>
      (f1 y1).bind fun r1 =>
      if r1 then
        some (.done (.done t1))
      else
        some (.next (IntKind.i64.wrap (t1 + 1)))
    else
      some (.done (.next ()))
noncomputable def M.slices_IndexFunc__int (s1 : (List Int)) (f1 : (Int → Option (Bool))) : Option (Int) :=
  (wloop (M.slices_IndexFunc__int_L1 s1 f1) 0).bind fun k => joinK k fun _ =>
  some (-1)
noncomputable def M.slices_ContainsFunc__int (s1 : (List Int)) (f1 : (Int → Option (Bool))) : Option (Bool) :=
  (M.slices_IndexFunc__int s1 f1).bind fun r1 =>
  some (decide (r1 ≥ 0))
noncomputable def M.shape_Size_1 (n1 : Int) : Option (Bool) :=
  some (decide (n1 < 0))
noncomputable def M.shape_Size_2 (n1 : Int) : Option (Bool) :=
  some (decide (n1 > 10000))
noncomputable def M.shape_product_L1 (s1 : (List Int)) (s : Int × Int) : Option (Ctl (Int × Int) (Ctl (Int) (Int))) :=
  match s with
  | (p1, t1) =>
    if (decide (t1 < (s1.length : Int))) then
      (idx s1 t1).bind fun y1 =>
      some (.next ((IntKind.i64.wrap (p1 * y1)), (IntKind.i64.wrap (t1 + 1))))
    else
      some (.done (.next p1))
noncomputable def M.shape_product (s1 : (List Int)) : Option (Int) :=
  (wloop (M.shape_product_L1 s1) (1, 0)).bind fun k => joinK k fun p1 =>
  some p1
noncomputable def M.shape_Size (s1 : (List Int)) : Option (Int × Int) :=
  if (decide ((s1.length : Int) > 4)) then
    some (0, 24)
  else
    (M.slices_ContainsFunc__int s1 (fun x0 => M.shape_Size_1 x0)).bind fun r1 =>
    if r1 then
      some (0, 1)
    else
      ((M.slices_ContainsFunc__int s1 (fun x0 => M.shape_Size_2 x0)).bind fun r2 =>
      if r2 then
        some r2
      else
        (M.shape_product s1).bind fun r3 =>
        some (decide (r3 > 10000))).bind fun t1 =>
      if t1 then
        some (0, 27)
      else
        (M.shape_product s1).bind fun r4 =>
        some (r4, 0)
noncomputable def M.shape_At_L1 (s1 : (List Int)) (s : Int × Int × (List Int)) : Option (Ctl (Int × Int × (List Int)) (Ctl ((List Int)) ((List Int) × Bool))) :=
  match s with
  | (k2, i1, l2) =>
    if (decide (i1 ≥ 0)) then
      (idx s1 i1).bind fun y1 =>
      (remI k2 y1).bind fun q1 =>
      (idx s1 i1).bind fun y2 =>
      (quoI .i64 k2 y2).bind fun q2 =>
      (idx l2 i1).bind fun y3 =>
      (upd l2 i1 q1).bind fun l3 =>
      some (.next (q2, (IntKind.i64.wrap (i1 - 1)), l3))
    else
      some (.done (.next l2))
noncomputable def M.shape_At (s1 : (List Int)) (k1 : Int) : Option ((List Int) × Bool) :=
  (M.shape_Size s1).bind fun (r1, r2) =>
  if (((r2 != 0) || (decide (k1 < 0))) || (decide (k1 ≥ r1))) then
    some ([], false)
  else
    (mk 8 (0 : Int) (s1.length : Int) (s1.length : Int)).bind fun l1 =>
    (wloop (M.shape_At_L1 s1) (k1, (IntKind.i64.wrap ((s1.length : Int) - 1)), l1)).bind fun k => joinK k fun l2 =>
    some (l2, true)
noncomputable def M.shape_sized (s1 : (List Int)) : Option (Bool) :=
  (M.shape_Size s1).bind fun (r1, r2) =>
  some (r2 == 0)
noncomputable def M.shape_Offset_L1 (s1 : (List Int)) (at1 : (List Int)) (s : Int × Int) : Option (Ctl (Int × Int) (Ctl (Int) (Int × Bool))) :=
  match s with
  | (k1, t1) =>
    if (decide (t1 < (at1.length : Int))) then
      (idx at1 t1).bind fun y1 =>
      (if (decide (y1 < 0)) then
      some true else
      (idx s1 t1).bind fun y2 =>
      some (decide (y1 ≥ y2))).bind fun c3 =>
      if c3 then
        some (.done (.done (0, false)))
      else
        (idx s1 t1).bind fun y3 =>
        some (.next ((IntKind.i64.wrap ((IntKind.i64.wrap (k1 * y3)) + y1)), (IntKind.i64.wrap (t1 + 1))))
    else
      some (.done (.next k1))
noncomputable def M.shape_Offset (s1 : (List Int)) (at1 : (List Int)) : Option (Int × Bool) :=
  (if ((at1.length : Int) != (s1.length : Int)) then
  some true else
  (M.shape_sized s1).bind fun r1 =>
  some (!r1)).bind fun c1 =>
  if c1 then
    some (0, false)
  else
    (wloop (M.shape_Offset_L1 s1 at1) (0, 0)).bind fun k => joinK k fun k1 =>
    some (k1, true)
noncomputable def M.shape_Strides_L1 (s1 : (List Int)) (s : (List Int) × Int) : Option (Ctl ((List Int) × Int) (Ctl ((List Int)) ((List Int)))) :=
  match s with
  | (out1, t1) =>
    if (decide (t1 < (s1.length : Int))) then
      (sub s1 (IntKind.i64.wrap (t1 + 1)) s1.length).bind fun l1 =>
      (M.shape_product l1).bind fun r2 =>
      (app 8 out1 ([r2])).bind fun l2 =>
      some (.next (l2, (IntKind.i64.wrap (t1 + 1))))
    else
      some (.done (.next out1))
noncomputable def M.shape_Strides (s1 : (List Int)) : Option ((List Int)) :=
  (M.shape_sized s1).bind fun r1 =>
  if (!r1) then
    some ([])
  else
    (wloop (M.shape_Strides_L1 s1) ([], 0)).bind fun k => joinK k fun out1 =>
    some out1
noncomputable def M.anamnesislaw03_ShapeBack_L2 (r3 : (List Int)) (r8 : (List Int)) (s : Int) : Option (Ctl (Int) (Ctl (Int) (Ctl (Unit) (Bool)))) :=
  match s with
  | i2 =>
    (if ((decide (i2 < (r3.length : Int))) && (decide (i2 < (r8.length : Int)))) then
    (idx r3 i2).bind fun y6 =>
    (idx r8 i2).bind fun y7 =>
    some (y6 == y7) else
    some false).bind fun c9 =>
    if c9 then
      some (.next (IntKind.i64.wrap (i2 + 1)))
    else
      some (.done (.next i2))
noncomputable def M.anamnesislaw03_ShapeBack_L1 (s1 : (List Int)) (r3 : (List Int)) (r7 : (List Int)) (s : Int × Int) : Option (Ctl (Int × Int) (Ctl (Int) (Bool))) :=
  match s with
  | (sum1, i1) =>
    if (decide (i1 < (s1.length : Int))) then
      (idx r3 i1).bind fun y1 =>
      (if (decide (y1 < 0)) then
      some true else
      (idx r3 i1).bind fun y2 =>
      (idx s1 i1).bind fun y3 =>
      some (decide (y2 ≥ y3))).bind fun c6 =>
      if c6 then
        some (.done (.done false))
      else
        (idx r3 i1).bind fun y4 =>
        (idx r7 i1).bind fun y5 =>
        some (.next ((IntKind.i64.wrap (sum1 + (IntKind.i64.wrap (y4 * y5)))), (IntKind.i64.wrap (i1 + 1))))
    else
      some (.done (.next sum1))
noncomputable def M.anamnesislaw03_ShapeBack (s1 : (List Int)) (k1 : Int) : Option (Bool) :=
  if (decide ((s1.length : Int) > 8)) then
    some true
  else
    (M.shape_Size s1).bind fun (r1, r2) =>
    (M.shape_At s1 k1).bind fun (r3, r4) =>
    if (!(r4 == (((r2 == 0) && (decide (k1 ≥ 0))) && (decide (k1 < r1))))) then
      some false
    else
      if (!r4) then
        some (((r3.length : Int) == 0) && true)
      else
        (M.shape_Offset s1 r3).bind fun (r5, r6) =>
        (M.shape_Strides s1).bind fun r7 =>
        if (((r3.length : Int) != (s1.length : Int)) || ((r7.length : Int) != (s1.length : Int))) then
          some false
        else
          (wloop (M.anamnesislaw03_ShapeBack_L1 s1 r3 r7) (0, 0)).bind fun k => joinK k fun sum1 =>
          (M.shape_At s1 (IntKind.i64.wrap (k1 + 1))).bind fun (r8, r9) =>
          (if r9 then
            (wloop (M.anamnesislaw03_ShapeBack_L2 r3 r8) 0).bind fun k => joinK k fun i2 =>
            (if ((decide (i2 ≥ (r3.length : Int))) || (decide (i2 ≥ (r8.length : Int)))) then
            some true else
            (idx r3 i2).bind fun y8 =>
            (idx r8 i2).bind fun y9 =>
            some (decide (y8 ≥ y9))).bind fun c11 =>
            if c11 then
              some (.done false)
            else
              some (.next ())
          else
            some (.next ())).bind fun k => joinK k fun _ =>
          some (((r6 && (r5 == k1)) && (sum1 == k1)) && true)
theorem w64_id {x : Int} (h1 : -9223372036854775808 ≤ x) (h2 : x ≤ 9223372036854775807) : IntKind.i64.wrap x = x := wrap_id h1 h2
/-- A loop comes to an end in a state with Q: P holds ahead of each round, and its number falls. -/
theorem wloop_ind {σ β : Type} {f : σ → Option (Ctl σ β)} (P : Nat → σ → Prop) (Q : β → Prop)
    (h : ∀ n s, P n s → (∃ s' n', f s = some (.next s') ∧ n' < n ∧ P n' s') ∨ (∃ b, f s = some (.done b) ∧ Q b)) : ∀ n s, P n s → ∃ b, wloop f s = some b ∧ Q b := by
  intro n
  induction n using Nat.strongRecOn with
  | _ n ih =>
    intro s hp
    rcases h n s hp with ⟨s', n', hf, hn, hp'⟩ | ⟨b, hf, hq⟩
    · obtain ⟨b, hb, hq⟩ := ih n' hn s' hp'
      exact ⟨b, by rw [wloop_next hf]; exact hb, hq⟩
    · exact ⟨b, wloop_done hf, hq⟩
theorem idx_nat {α : Type} (l : List α) (k : Nat) : idx l (k : Int) = l[k]? := by
  unfold idx; rw [if_pos (by omega)]; rfl
theorem idx_get {α : Type} {l : List α} {k : Nat} (h : k < l.length) : idx l (k : Int) = some l[k] := by rw [idx_nat, List.getElem?_eq_getElem h]
theorem upd_nat {α : Type} {l : List α} {k : Nat} {x : α} (h : k < l.length) : upd l (k : Int) x = some (l.set k x) := by
  unfold upd; rw [if_pos ⟨by omega, by omega⟩]; rfl
theorem app_ok {α : Type} {b : Nat} {l m : List α} (h : (l.length + m.length) * b ≤ 140737488355328) : app b l m = some (l ++ m) := by
  unfold app; rw [if_pos (.inr h)]
theorem mk_ok {α : Type} {b : Nat} {z : α} {n : Nat} (h : b * n ≤ 140737488355328) (h' : n ≤ 140737488355328) : mk b z (n : Int) (n : Int) = some (List.replicate n z) := by
  unfold mk
  have : ((b : Int) * (n : Int)) ≤ 140737488355328 := by
    have h2 : ((b * n : Nat) : Int) ≤ 140737488355328 := by omega
    rwa [Int.natCast_mul] at h2
  rw [if_pos ⟨by omega, by omega, this, by omega⟩]; rfl
/-- the numbers that a kind has. -/
theorem wf64 {n : Int} (h : (Lit.int .i64 n).wf = true) : -9223372036854775808 ≤ n ∧ n ≤ 9223372036854775807 := by
  have h2 : (decide (IntKind.i64.min ≤ n) && decide (n ≤ IntKind.i64.max)) = true := h
  have e1 : IntKind.i64.min = -9223372036854775808 := by decide
  have e2 : IntKind.i64.max = 9223372036854775807 := by decide
  rw [e1, e2] at h2
  simpa using h2
def prod : List Int → Int
  | [] => 1
  | x :: s => x * prod s
def off : List Int → List Int → Int
  | x :: s, a :: at_ => a * prod s + off s at_
  | _, _ => 0
def dig : List Int → Int → List Int
  | [], _ => []
  | _ :: s, k => k / prod s :: dig s (k % prod s)
/-- is a place in a shape? -/
def inShape : List Int → List Int → Prop
  | [], [] => True
  | x :: s, a :: at_ => 0 ≤ a ∧ a < x ∧ inShape s at_
  | _, _ => False
instance : (s at_ : List Int) → Decidable (inShape s at_)
  | [], [] => isTrue trivial
  | x :: s, a :: at_ =>
    have := instDecidableInShape s at_
    by unfold inShape; exact inferInstance
  | [], _ :: _ => isFalse (fun h => h)
  | _ :: _, [] => isFalse (fun h => h)
theorem inShape.len : ∀ {s at_ : List Int}, inShape s at_ → at_.length = s.length
  | [], [], _ => rfl
  | x :: s, a :: at_, ⟨_, _, h⟩ => by simp [h.len]
  | [], _ :: _, h => h.elim
  | _ :: _, [], h => h.elim
theorem inShape.pos : ∀ {s at_ : List Int}, inShape s at_ → 0 < prod s
  | [], [], _ => by simp [prod]
  | x :: s, a :: at_, ⟨h0, h1, h⟩ => by
    have := h.pos
    exact Int.mul_pos (by omega) this
  | [], _ :: _, h => h.elim
  | _ :: _, [], h => h.elim
theorem off_range : ∀ {s at_ : List Int}, inShape s at_ → 0 ≤ off s at_ ∧ off s at_ < prod s
  | [], [], _ => by simp [prod, off]
  | x :: s, a :: at_, ⟨h0, h1, h⟩ => by
    have h2 := off_range h
    have h3 := h.pos
    have h4 : (a + 1) * prod s ≤ x * prod s := Int.mul_le_mul_of_nonneg_right (by omega) (by omega)
    have h5 : 0 ≤ a * prod s := Int.mul_nonneg h0 (by omega)
    rw [Int.add_mul] at h4
    simp only [prod, off]
    omega
  | [], _ :: _, h => h.elim
  | _ :: _, [], h => h.elim
theorem dig_off : ∀ {s at_ : List Int}, inShape s at_ → dig s (off s at_) = at_
  | [], [], _ => rfl
  | x :: s, a :: at_, ⟨h0, h1, h⟩ => by
    have h2 := off_range h
    have h3 := h.pos
    simp only [dig, off]
    rw [Int.add_comm, Int.mul_comm, Int.add_mul_ediv_left _ _ (by omega), Int.add_mul_emod_self_left, Int.emod_eq_of_lt h2.1 h2.2, dig_off h, Int.ediv_eq_zero_of_lt h2.1 h2.2]
    simp
  | [], _ :: _, h => h.elim
  | _ :: _, [], h => h.elim
def allPos (s : List Int) : Prop := ∀ x ∈ s, 0 < x
theorem allPos.pprod : ∀ {s : List Int}, allPos s → 0 < prod s
  | [], _ => by simp [prod]
  | x :: s, h => Int.mul_pos (h x List.mem_cons_self) (allPos.pprod fun y hy => h y (List.mem_cons_of_mem _ hy))
theorem allPos_of {s : List Int} (h : ∀ x ∈ s, 0 ≤ x) (hp : 0 < prod s) : allPos s := by
  intro x hx
  have h0 := h x hx
  rcases Int.lt_or_eq_of_le h0 with h1 | h1
  · exact h1
  · exfalso
    have : ∀ s : List Int, (0 : Int) ∈ s → prod s = 0 := by
      intro s
      induction s with
      | nil => intro h; simp at h
      | cons y s ih =>
        intro h
        rcases List.mem_cons.mp h with h | h
        · simp [prod, ← h]
        · simp [prod, ih h]
    rw [this s (h1 ▸ hx)] at hp
    omega
theorem dig_in : ∀ {s : List Int} {k : Int}, allPos s → 0 ≤ k → k < prod s → inShape s (dig s k)
  | [], k, _, h0, h1 => trivial
  | x :: s, k, h, h0, h1 => by
    have hs : allPos s := fun y hy => h y (List.mem_cons_of_mem _ hy)
    have hp := hs.pprod
    refine ⟨Int.ediv_nonneg h0 (by omega), ?_, dig_in hs (Int.emod_nonneg _ (by omega)) (Int.emod_lt_of_pos _ hp)⟩
    exact Int.ediv_lt_of_lt_mul hp h1
theorem off_dig : ∀ {s : List Int} {k : Int}, allPos s → 0 ≤ k → k < prod s → off s (dig s k) = k
  | [], k, _, h0, h1 => by simp [prod] at h1; simp [dig, off]; omega
  | x :: s, k, h, h0, h1 => by
    have hs : allPos s := fun y hy => h y (List.mem_cons_of_mem _ hy)
    have hp := hs.pprod
    simp only [dig, off]
    rw [off_dig hs (Int.emod_nonneg _ (by omega)) (Int.emod_lt_of_pos _ hp)]
    rw [Int.mul_comm]; exact Int.mul_ediv_add_emod k (prod s)
theorem dig_len : ∀ (s : List Int) (k : Int), (dig s k).length = s.length
  | [], _ => rfl
  | x :: s, k => by simp [dig, dig_len s]
theorem prod_nonneg : ∀ {s : List Int}, (∀ x ∈ s, 0 ≤ x) → 0 ≤ prod s
  | [], _ => by simp [prod]
  | x :: s, h => Int.mul_nonneg (h x List.mem_cons_self) (prod_nonneg fun y hy => h y (List.mem_cons_of_mem _ hy))
theorem prod_append : ∀ (s t : List Int), prod (s ++ t) = prod s * prod t
  | [], t => by simp [prod]
  | x :: s, t => by simp [prod, prod_append s t, Int.mul_assoc]

/-- the size of a shape, or the error. -/
def shSize (s : List Int) : Int × Int :=
  if 4 < s.length then (0, 24) else if s.any (fun x => decide (x < 0)) then (0, 1) else if s.any (fun x => decide (x > 10000)) || decide (prod s > 10000) then (0, 27) else (prod s, 0)
def shOk (s : List Int) : Prop := s.length ≤ 4 ∧ (∀ x ∈ s, 0 ≤ x ∧ x ≤ 10000) ∧ prod s ≤ 10000
instance (s : List Int) : Decidable (shOk s) := by unfold shOk; exact inferInstance
theorem shSize_ok {s : List Int} (h : shOk s) : shSize s = (prod s, 0) := by
  obtain ⟨h1, h2, h3⟩ := h
  unfold shSize
  rw [if_neg (by omega), if_neg, if_neg]
  · simp only [Bool.or_eq_true, List.any_eq_true, decide_eq_true_eq]
    rintro (⟨x, hx, h⟩ | h)
    · have := h2 x hx; omega
    · omega
  · simp only [List.any_eq_true, decide_eq_true_eq]
    rintro ⟨x, hx, h⟩
    have := h2 x hx; omega
theorem shSize_zero {s : List Int} : (shSize s).2 = 0 ↔ shOk s := by
  constructor
  · intro h
    unfold shSize at h
    split at h
    · cases h
    · rename_i h1
      split at h
      · cases h
      · rename_i h2
        split at h
        · cases h
        · rename_i h3
          simp only [List.any_eq_true, decide_eq_true_eq, not_exists, not_and] at h2
          simp only [Bool.or_eq_true, List.any_eq_true, decide_eq_true_eq, not_or, not_exists, not_and] at h3
          exact ⟨by omega, fun x hx => ⟨by have := h2 x hx; omega, by have := h3.1 x hx; omega⟩, by omega⟩
  · intro h; rw [shSize_ok h]
theorem shSize_cases (s : List Int) : (shOk s ∧ shSize s = (prod s, 0)) ∨ (¬ shOk s ∧ (shSize s).2 ≠ 0 ∧ (shSize s).1 = 0) := by
  by_cases h : shOk s
  · exact .inl ⟨h, shSize_ok h⟩
  · refine .inr ⟨h, fun hh => h (shSize_zero.mp hh), ?_⟩
    unfold shSize
    split
    · rfl
    · rename_i h1
      split
      · rfl
      · rename_i h2
        split
        · rfl
        · rename_i h3
          exfalso; apply h
          simp only [List.any_eq_true, decide_eq_true_eq, not_exists, not_and] at h2
          simp only [Bool.or_eq_true, List.any_eq_true, decide_eq_true_eq, not_or, not_exists, not_and] at h3
          exact ⟨by omega, fun x hx => ⟨by have := h2 x hx; omega, by have := h3.1 x hx; omega⟩, by omega⟩
theorem dig_bound {s : List Int} {k : Int} (hok : shOk s) (h0 : 0 ≤ k) (h1 : k < prod s) : ∀ x ∈ dig s k, 0 ≤ x ∧ x ≤ 10000 := by
  have hpos : allPos s := allPos_of (fun x hx => (hok.2.1 x hx).1) (by omega)
  have key : ∀ (s at_ : List Int), inShape s at_ → (∀ x ∈ s, 0 ≤ x ∧ x ≤ 10000) → ∀ x ∈ at_, 0 ≤ x ∧ x ≤ 10000 := by
    intro s
    induction s with
    | nil => intro at_ h _ x hx; cases at_ with | nil => simp at hx | cons _ _ => exact h.elim
    | cons y s ih =>
      intro at_ h hb x hx
      cases at_ with
      | nil => exact h.elim
      | cons a at_ =>
        obtain ⟨h1, h2, h3⟩ := h
        rcases List.mem_cons.mp hx with rfl | hx
        · have := hb y List.mem_cons_self; omega
        · exact ih at_ h3 (fun z hz => hb z (List.mem_cons_of_mem _ hz)) x hx
  exact key s _ (dig_in hpos h0 h1) hok.2.1
theorem dig_zero : ∀ {s : List Int}, allPos s → dig s 0 = List.replicate s.length 0
  | [], _ => rfl
  | x :: s, h => by
    have hs : allPos s := fun y hy => h y (List.mem_cons_of_mem _ hy)
    simp only [dig, Int.zero_ediv, Int.zero_emod, dig_zero hs]; rfl

theorem contains_int {s : List Int} {f : Int → Option Bool} {g : Int → Bool} (hf : ∀ x ∈ s, f x = some (g x)) (hl : s.length ≤ 4611686018427387904) : M.slices_ContainsFunc__int s f = some (s.any g) := by
  have key := wloop_ind (f := M.slices_IndexFunc__int_L1 s f) (fun n i => ∃ k : Nat, i = k ∧ k ≤ s.length ∧ n = s.length - k ∧ (s.take k).any g = false)
    (fun b => (∃ i : Int, b = .done i ∧ 0 ≤ i ∧ s.any g = true) ∨ (b = .next () ∧ s.any g = false)) (fun n i h => by
      obtain ⟨k, rfl, hk, rfl, hn⟩ := h
      unfold M.slices_IndexFunc__int_L1
      by_cases hlt : k < s.length
      · simp only [show decide ((k : Int) < (s.length : Int)) = true from by simp; exact hlt, if_true, idx_get hlt, Option.bind_some, hf _ (List.getElem_mem hlt)]
        cases hg : g s[k] with
        | true =>
          right
          refine ⟨_, rfl, .inl ⟨_, rfl, by omega, ?_⟩⟩
          rw [List.any_eq_true]
          exact ⟨_, List.getElem_mem hlt, hg⟩
        | false =>
          left
          refine ⟨_, s.length - (k + 1), rfl, by omega, k + 1, ?_, by omega, rfl, ?_⟩
          · rw [w64_id (by omega) (by omega)]; omega
          · rw [List.take_succ_eq_append_getElem hlt, List.any_append, hn]; simp [hg]
      · have : k = s.length := by omega
        subst this
        right
        simp only [show decide ((s.length : Int) < (s.length : Int)) = false from by simp, Bool.false_eq_true, if_false]
        exact ⟨_, rfl, .inr ⟨rfl, by simpa using hn⟩⟩) s.length 0 ⟨0, rfl, by omega, by omega, by simp⟩
  unfold M.slices_ContainsFunc__int M.slices_IndexFunc__int
  obtain ⟨b, hb, ⟨i, rfl, h0, ha⟩ | ⟨rfl, ha⟩⟩ := key
  · rw [hb, ha]; simp [h0]
  · rw [hb, ha]; simp
theorem one_le_pow : ∀ k : Nat, (1 : Int) ≤ 10000 ^ k
  | 0 => by simp
  | k + 1 => by rw [Int.pow_succ]; have := one_le_pow k; omega
theorem prod_bound : ∀ (s : List Int) (k : Nat), s.length ≤ k → (∀ x ∈ s, 0 ≤ x ∧ x ≤ 10000) → 0 ≤ prod s ∧ prod s ≤ 10000 ^ k
  | [], k, _, _ => ⟨by simp [prod], one_le_pow k⟩
  | x :: s, k + 1, hl, h => by
    have h1 := h x List.mem_cons_self
    have h2 := prod_bound s k (by simpa using hl) (fun y hy => h y (List.mem_cons_of_mem _ hy))
    refine ⟨Int.mul_nonneg h1.1 h2.1, ?_⟩
    simp only [prod]
    have h3 : x * prod s ≤ 10000 * prod s := Int.mul_le_mul_of_nonneg_right h1.2 h2.1
    have h4 : (10000 : Int) ^ (k + 1) = 10000 ^ k * 10000 := Int.pow_succ _ _
    omega
  | x :: s, 0, hl, h => by simp at hl

theorem product_eq {s : List Int} (hl : s.length ≤ 4) (hb : ∀ x ∈ s, 0 ≤ x ∧ x ≤ 10000) : M.shape_product s = some (prod s) := by
  have key := wloop_ind (f := M.shape_product_L1 s) (fun n st => ∃ k : Nat, st = (prod (s.take k), (k : Int)) ∧ k ≤ s.length ∧ n = s.length - k)
    (fun b => b = .next (prod s)) (fun n st h => by
      obtain ⟨k, rfl, hk, rfl⟩ := h
      unfold M.shape_product_L1
      by_cases hlt : k < s.length
      · left
        simp only [show decide ((k : Int) < (s.length : Int)) = true from by simp; exact hlt, if_true, idx_get hlt, Option.bind_some]
        have e : prod (s.take k) * s[k] = prod (s.take (k + 1)) := by
          rw [List.take_succ_eq_append_getElem hlt, prod_append]; simp [prod]
        have hp := prod_bound (s.take (k + 1)) 4 (by rw [List.length_take]; omega) (fun x hx => hb x (List.mem_of_mem_take hx))
        refine ⟨_, s.length - (k + 1), rfl, by omega, k + 1, ?_, by omega, rfl⟩
        rw [e, w64_id (by omega) (by omega), w64_id (by omega) (by omega)]
        simp
      · have : k = s.length := by omega
        subst this
        right
        simp)
    s.length (1, 0) ⟨0, by simp [prod], by omega, by omega⟩
  obtain ⟨b, hb, rfl⟩ := key
  unfold M.shape_product
  rw [hb]; rfl

theorem shape_Size_eq {s : List Int} (hl : s.length ≤ maxLen) : M.shape_Size s = some (shSize s) := by
  have hm : maxLen = 9223372036854775807 := rfl
  unfold M.shape_Size shSize
  by_cases h4 : 4 < s.length
  · rw [if_pos h4, if_pos (by simp; omega)]
  · rw [if_neg h4, if_neg (by simp; omega)]
    rw [contains_int (s := s) (f := fun x0 => M.shape_Size_1 x0) (g := fun x => decide (x < 0)) (fun x _ => rfl) (by omega), Option.bind_some]
    cases hneg : s.any (fun x => decide (x < 0)) with
    | true => simp
    | false =>
      simp only [Bool.false_eq_true, if_false]
      rw [contains_int (s := s) (f := fun x0 => M.shape_Size_2 x0) (g := fun x => decide (x > 10000)) (fun x _ => rfl) (by omega), Option.bind_some]
      cases hbig : s.any (fun x => decide (x > 10000)) with
      | true => simp
      | false =>
        have hb : ∀ x ∈ s, 0 ≤ x ∧ x ≤ 10000 := by
          intro x hx
          simp only [List.any_eq_false, decide_eq_true_eq] at hneg hbig
          have := hneg x hx; have := hbig x hx; omega
        simp only [Bool.false_eq_true, if_false, product_eq (by omega) hb, Option.bind_some, Bool.false_or]
        split <;> simp_all
theorem sized_eq {s : List Int} (hl : s.length ≤ maxLen) : M.shape_sized s = some ((shSize s).2 == 0) := by
  unfold M.shape_sized; rw [shape_Size_eq hl]; rfl
/-- by Horner. -/
def hor : List Int → List Int → Int → Int
  | x :: s, a :: at_, acc => hor s at_ (acc * x + a)
  | _, _, acc => acc
theorem hor_eq : ∀ {s at_ : List Int}, at_.length = s.length → ∀ acc, hor s at_ acc = acc * prod s + off s at_
  | [], [], _, acc => by simp [hor, prod, off]
  | x :: s, a :: at_, h, acc => by
    simp only [hor, prod, off]
    rw [hor_eq (by simpa using h), Int.add_mul, Int.mul_assoc, Int.add_assoc]
  | [], _ :: _, h, _ => by simp at h
  | _ :: _, [], h, _ => by simp at h
theorem hor_snoc : ∀ {s at_ : List Int} {x a acc : Int}, at_.length = s.length → hor (s ++ [x]) (at_ ++ [a]) acc = hor s at_ acc * x + a
  | [], [], x, a, acc, _ => by simp [hor]
  | y :: s, b :: at_, x, a, acc, h => by
    simp only [List.cons_append, hor]
    exact hor_snoc (by simpa using h)
  | [], _ :: _, _, _, _, h => by simp at h
  | _ :: _, [], _, _, _, h => by simp at h
theorem inShape_snoc : ∀ {s at_ : List Int} {x a : Int}, at_.length = s.length → (inShape (s ++ [x]) (at_ ++ [a]) ↔ inShape s at_ ∧ 0 ≤ a ∧ a < x)
  | [], [], x, a, _ => by simp [inShape]
  | y :: s, b :: at_, x, a, h => by
    simp only [List.cons_append, inShape]
    rw [inShape_snoc (by simpa using h)]
    constructor
    · rintro ⟨h1, h2, h3, h4, h5⟩; exact ⟨⟨h1, h2, h3⟩, h4, h5⟩
    · rintro ⟨⟨h1, h2, h3⟩, h4, h5⟩; exact ⟨h1, h2, h3, h4, h5⟩
  | [], _ :: _, _, _, h => by simp at h
  | _ :: _, [], _, _, h => by simp at h
theorem inShape_take {s at_ : List Int} (h : inShape s at_) : ∀ k, inShape (s.take k) (at_.take k) := by
  intro k
  induction k generalizing s at_ with
  | zero => simp [inShape]
  | succ k ih =>
    match s, at_, h with
    | [], [], _ => simp [inShape]
    | x :: s, a :: at_, ⟨h1, h2, h3⟩ => exact ⟨h1, h2, ih h3⟩
theorem prod_le_take {s : List Int} (h : shOk s) (k : Nat) : 0 ≤ prod (s.take k) ∧ prod (s.take k) ≤ 10000 ^ 4 :=
  prod_bound (s.take k) 4 (by have := h.1; rw [List.length_take]; omega) (fun x hx => h.2.1 x (List.mem_of_mem_take hx))

theorem shape_Offset_eq {s at_ : List Int} (hl : s.length ≤ maxLen) (hl' : at_.length ≤ maxLen) :
    M.shape_Offset s at_ = some (if shOk s ∧ inShape s at_ then (off s at_, true) else (0, false)) := by
  have hm : maxLen = 9223372036854775807 := rfl
  unfold M.shape_Offset
  by_cases hlen : at_.length = s.length
  · rw [if_neg (by simp [hlen]), sized_eq hl]
    simp only [Option.bind_some]
    rcases shSize_cases s with ⟨hok, he⟩ | ⟨hok, he, _⟩
    · rw [he]
      simp only [beq_self_eq_true, Bool.not_true, Bool.false_eq_true, if_false]
      have key := wloop_ind (f := M.shape_Offset_L1 s at_)
        (fun n st => ∃ k : Nat, st = (hor (s.take k) (at_.take k) 0, (k : Int)) ∧ k ≤ s.length ∧ n = s.length - k ∧ inShape (s.take k) (at_.take k))
        (fun b => (b = .done (0, false) ∧ ¬ inShape s at_) ∨ (b = .next (off s at_) ∧ inShape s at_)) (fun n st h => by
          obtain ⟨k, rfl, hk, rfl, hin⟩ := h
          unfold M.shape_Offset_L1
          by_cases hlt : k < s.length
          · have hlt' : k < at_.length := by omega
            have e1 := List.take_succ_eq_append_getElem hlt
            have e2 := List.take_succ_eq_append_getElem hlt'
            have hlk : (at_.take k).length = (s.take k).length := by simp [hlen]
            simp only [show decide ((k : Int) < (at_.length : Int)) = true from by simp; exact hlt', if_true, idx_get hlt, idx_get hlt', Option.bind_some]
            have hx := hok.2.1 _ (List.getElem_mem hlt)
            by_cases h0 : at_[k] < 0
            · right
              simp only [show decide (at_[k] < 0) = true from by simpa using h0, if_true, Option.bind_some]
              refine ⟨_, rfl, .inl ⟨rfl, fun hh => ?_⟩⟩
              have := inShape_take hh (k + 1)
              rw [e1, e2, inShape_snoc hlk] at this
              omega
            · simp only [show decide (at_[k] < 0) = false from by simpa using h0, Bool.false_eq_true, if_false, Option.bind_some]
              by_cases h1 : at_[k] ≥ s[k]
              · right
                simp only [show decide (at_[k] ≥ s[k]) = true from by simpa using h1, if_true]
                refine ⟨_, rfl, .inl ⟨rfl, fun hh => ?_⟩⟩
                have := inShape_take hh (k + 1)
                rw [e1, e2, inShape_snoc hlk] at this
                omega
              · left
                simp only [show decide (at_[k] ≥ s[k]) = false from by simpa using h1, Bool.false_eq_true, if_false]
                have hin2 : inShape (s.take (k + 1)) (at_.take (k + 1)) := by rw [e1, e2, inShape_snoc hlk]; exact ⟨hin, by omega, by omega⟩
                have r1 := off_range hin
                have p1 := prod_bound (s.take k) 3 (by have := hok.1; rw [List.length_take]; omega) (fun x hx => hok.2.1 x (List.mem_of_mem_take hx))
                have h6 : hor (s.take k) (at_.take k) 0 * s[k] ≤ 10000 ^ 3 * 10000 := by
                  rw [hor_eq hlk]
                  exact Int.mul_le_mul (by omega) (by omega) (by omega) (by omega)
                have h7 : 0 ≤ hor (s.take k) (at_.take k) 0 * s[k] := by
                  rw [hor_eq hlk]
                  exact Int.mul_nonneg (by omega) (by omega)
                refine ⟨_, s.length - (k + 1), rfl, by omega, k + 1, ?_, by omega, rfl, hin2⟩
                rw [e1, e2, hor_snoc hlk, w64_id (x := _ * _) (by omega) (by omega), w64_id (by omega) (by omega), w64_id (by omega) (by omega)]
                simp
          · have : k = s.length := by omega
            subst this
            right
            have e3 : at_.take s.length = at_ := by rw [← hlen]; exact List.take_length
            rw [List.take_length, e3] at hin ⊢
            simp only [show decide ((s.length : Int) < (at_.length : Int)) = false from by simp [hlen], Bool.false_eq_true, if_false]
            refine ⟨_, rfl, .inr ⟨?_, hin⟩⟩
            rw [hor_eq hlen]; simp)
        s.length (0, 0) ⟨0, by simp [hor], by omega, by omega, by simp [inShape]⟩
      obtain ⟨b, hb, ⟨rfl, h⟩ | ⟨rfl, h⟩⟩ := key
      · rw [hb, if_neg (fun hh => h hh.2)]; rfl
      · rw [hb, if_pos ⟨hok, h⟩]; rfl
    · have : ((shSize s).2 == 0) = false := by simpa using he
      rw [this, if_pos (by rfl), if_neg (fun hh => hok hh.1)]
  · rw [if_pos (by simp; omega), if_neg (fun hh => hlen hh.2.len)]
    simp
theorem drop_cons {α : Type} {l : List α} {k : Nat} (h : k < l.length) : l.drop k = l[k] :: l.drop (k + 1) := List.drop_eq_getElem_cons h
theorem emod_mul_ediv {k x P : Int} (hx : 0 < x) (hP : 0 < P) : k % (x * P) / P = k / P % x := by
  have h1 := Int.mul_ediv_add_emod k P
  have h2 := Int.mul_ediv_add_emod (k / P) x
  have h3 := Int.emod_nonneg k (show P ≠ 0 by omega)
  have h4 := Int.emod_lt_of_pos k hP
  have h5 := Int.emod_nonneg (k / P) (show x ≠ 0 by omega)
  have h6 := Int.emod_lt_of_pos (k / P) hx
  have e : k % (x * P) = (k / P % x) * P + k % P := by
    have e0 : k = ((k / P % x) * P + k % P) + (x * P) * (k / P / x) := by
      generalize k / P % x = u at *
      generalize k / P / x = t at *
      generalize k / P = q at *
      generalize k % P = r at *
      grind
    have hlt : (k / P % x) * P + k % P < x * P := by
      have : (k / P % x + 1) * P ≤ x * P := Int.mul_le_mul_of_nonneg_right (by omega) (by omega)
      rw [Int.add_mul] at this; omega
    have h0 : 0 ≤ (k / P % x) * P := Int.mul_nonneg h5 (by omega)
    conv => lhs; rw [e0]
    rw [Int.add_mul_emod_self_left]
    exact Int.emod_eq_of_lt (by omega) hlt
  rw [e, Int.add_comm, Int.add_mul_ediv_right _ _ (by omega), Int.ediv_eq_zero_of_lt h3 h4]
  simp
theorem shape_At_eq {s : List Int} {k : Int} (hl : s.length ≤ maxLen) (hk : -9223372036854775808 ≤ k ∧ k ≤ 9223372036854775807) :
    M.shape_At s k = some (if shOk s ∧ 0 ≤ k ∧ k < prod s then (dig s k, true) else ([], false)) := by
  have hm : maxLen = 9223372036854775807 := rfl
  unfold M.shape_At
  rw [shape_Size_eq hl]
  simp only [Option.bind_some]
  rcases shSize_cases s with ⟨hok, he⟩ | ⟨hok, he, _⟩
  · rw [he]
    by_cases hk0 : 0 ≤ k ∧ k < prod s
    · rw [if_neg (by simp; omega), if_pos ⟨hok, hk0⟩]
      have hpos : allPos s := allPos_of (fun x hx => (hok.2.1 x hx).1) (by omega)
      rw [mk_ok (by have := hok.1; omega) (by have := hok.1; omega), Option.bind_some]
      have key := wloop_ind (f := M.shape_At_L1 s)
        (fun n st => ∃ j : Nat, n = j ∧ j ≤ s.length ∧ st = (k / prod (s.drop j), (j : Int) - 1, List.replicate j 0 ++ dig (s.drop j) (k % prod (s.drop j))))
        (fun b => b = .next (dig s k)) (fun n st h => by
          obtain ⟨j, rfl, hj, rfl⟩ := h
          unfold M.shape_At_L1
          cases n with
          | zero =>
            right
            simp only [List.drop_zero, List.replicate_zero, List.nil_append]
            refine ⟨_, ?_, rfl⟩
            simp [Int.emod_eq_of_lt hk0.1 hk0.2]
          | succ j =>
            left
            have hlt : j < s.length := by omega
            have hjj : ((j + 1 : Nat) : Int) - 1 = (j : Int) := by omega
            have hP : 0 < prod (s.drop (j + 1)) := allPos.pprod (fun x hx => hpos x (List.mem_of_mem_drop hx))
            have hx : 0 < s[j] := hpos _ (List.getElem_mem hlt)
            have hq : 0 ≤ k / prod (s.drop (j + 1)) := Int.ediv_nonneg hk0.1 (by omega)
            have hq2 : k / prod (s.drop (j + 1)) ≤ k := Int.ediv_le_self _ hk0.1
            have hlen : j < (List.replicate (j + 1) (0 : Int) ++ dig (s.drop (j + 1)) (k % prod (s.drop (j + 1)))).length := by simp; omega
            have hprod : prod (s.drop j) = s[j] * prod (s.drop (j + 1)) := by rw [drop_cons hlt]; rfl
            rw [hjj]
            simp only [show decide ((j : Int) ≥ 0) = true from decide_eq_true (by omega), if_true, idx_get hlt, idx_get hlen, upd_nat hlen, Option.bind_some]
            have e1 : remI (k / prod (s.drop (j + 1))) s[j] = some ((k / prod (s.drop (j + 1))) % s[j]) := by
              unfold remI; rw [if_neg (by omega), Int.tmod_eq_emod_of_nonneg hq]
            have e2 : quoI .i64 (k / prod (s.drop (j + 1))) s[j] = some ((k / prod (s.drop (j + 1))) / s[j]) := by
              have h3 : (k / prod (s.drop (j + 1))) / s[j] ≤ k / prod (s.drop (j + 1)) := Int.ediv_le_self _ hq
              have h4 : 0 ≤ (k / prod (s.drop (j + 1))) / s[j] := Int.ediv_nonneg hq (by omega)
              unfold quoI; rw [if_neg (by omega), Int.tdiv_eq_ediv_of_nonneg hq, w64_id (by omega) (by omega)]
            rw [e1, e2]
            simp only [Option.bind_some]
            refine ⟨_, j, rfl, by omega, j, rfl, by omega, ?_⟩
            rw [w64_id (by omega) (by omega), hprod]
            refine Prod.ext ?_ (Prod.ext rfl ?_)
            · simp only
              rw [Int.ediv_ediv_of_nonneg (by omega), Int.mul_comm]
            · simp only
              rw [List.set_append_left _ _ (by simp), List.replicate_succ', List.set_append_right _ _ (by simp), List.length_replicate, Nat.sub_self]
              simp only [List.set_cons_zero, List.append_assoc, List.singleton_append]
              congr 1
              rw [drop_cons hlt]
              simp only [dig]
              have e3 : k % (s[j] * prod (s.drop (j + 1))) / prod (s.drop (j + 1)) = k / prod (s.drop (j + 1)) % s[j] := by
                exact emod_mul_ediv hx hP
              have e4 : k % (s[j] * prod (s.drop (j + 1))) % prod (s.drop (j + 1)) = k % prod (s.drop (j + 1)) := Int.emod_emod_of_dvd _ ⟨s[j], Int.mul_comm _ _⟩
              rw [e3, e4])
        s.length (k, (s.length : Int) - 1, List.replicate s.length 0) ⟨s.length, rfl, by omega, by simp [prod, dig]⟩
      obtain ⟨b, hb, rfl⟩ := key
      rw [w64_id (by have := hok.1; omega) (by have := hok.1; omega), hb]; rfl
    · rw [if_pos (by simp; omega), if_neg (fun h => hk0 h.2)]
  · have : ((shSize s).2 != 0) = true := by simpa using he
    rw [if_pos (by rw [this]; rfl), if_neg (fun h => hok h.1)]
def strides : List Int → List Int
  | [] => []
  | _ :: s => prod s :: strides s
theorem strides_len : ∀ s : List Int, (strides s).length = s.length
  | [] => rfl
  | x :: s => by simp [strides, strides_len s]
theorem strides_take : ∀ (s : List Int) (k : Nat), k < s.length → (strides s).take (k + 1) = (strides s).take k ++ [prod (s.drop (k + 1))]
  | [], k, h => by simp at h
  | x :: s, 0, h => by simp [strides]
  | x :: s, k + 1, h => by
    simp only [strides, List.take_succ_cons, List.drop_succ_cons]
    rw [strides_take s k (by simpa using h)]
    rfl
theorem sub_drop {α : Type} {l : List α} {k : Nat} (h : k ≤ l.length) : sub l (k : Int) (l.length : Int) = some (l.drop k) := by
  unfold sub
  rw [if_pos ⟨by omega, by omega, by omega⟩]
  simp
theorem shape_Strides_eq {s : List Int} (hl : s.length ≤ maxLen) : M.shape_Strides s = some (if shOk s then strides s else []) := by
  unfold M.shape_Strides
  rw [sized_eq hl, Option.bind_some]
  rcases shSize_cases s with ⟨hok, he⟩ | ⟨hok, he, _⟩
  · rw [he, if_neg (by simp), if_pos hok]
    have h4 := hok.1
    have key := wloop_ind (f := M.shape_Strides_L1 s)
      (fun n st => ∃ k : Nat, n = s.length - k ∧ k ≤ s.length ∧ st = ((strides s).take k, (k : Int)))
      (fun b => b = .next (strides s)) (fun n st h => by
        obtain ⟨k, rfl, hk, rfl⟩ := h
        unfold M.shape_Strides_L1
        by_cases hlt : k < s.length
        · left
          simp only [show decide ((k : Int) < (s.length : Int)) = true from decide_eq_true (by omega), if_true]
          rw [w64_id (by omega) (by omega)]
          have hk1 : (k : Int) + 1 = ((k + 1 : Nat) : Int) := by omega
          rw [hk1, sub_drop (by omega), Option.bind_some, product_eq (by simp; omega) (fun x hx => hok.2.1 x (List.mem_of_mem_drop hx)), Option.bind_some]
          have hsl := strides_len s
          rw [app_ok (by simp [hsl]; omega), Option.bind_some]
          exact ⟨_, s.length - (k + 1), rfl, by omega, k + 1, rfl, by omega, by rw [strides_take s k hlt]⟩
        · right
          have : k = s.length := by omega
          subst this
          simp only [show decide ((s.length : Int) < (s.length : Int)) = false from decide_eq_false (by omega), Bool.false_eq_true, if_false]
          refine ⟨_, rfl, ?_⟩
          rw [← strides_len s, List.take_length])
      s.length ([], 0) ⟨0, by omega, by omega, rfl⟩
    obtain ⟨b, hb, rfl⟩ := key
    rw [hb]; rfl
  · have : ((shSize s).2 == 0) = false := by simpa using he
    rw [this, if_pos (by rfl), if_neg hok]
def dot : List Int → List Int → Int
  | a :: l, b :: m => a * b + dot l m
  | _, _ => 0
theorem off_dot : ∀ {s at_ : List Int}, at_.length = s.length → off s at_ = dot at_ (strides s)
  | [], [], _ => rfl
  | x :: s, a :: at_, h => by simp only [off, strides, dot]; rw [off_dot (by simpa using h)]
  | [], _ :: _, h => by simp at h
  | _ :: _, [], h => by simp at h
theorem dot_snoc : ∀ {l m : List Int} {a b : Int}, l.length = m.length → dot (l ++ [a]) (m ++ [b]) = dot l m + a * b
  | [], [], a, b, _ => by simp [dot]
  | x :: l, y :: m, a, b, h => by
    simp only [List.cons_append, dot]
    rw [dot_snoc (by simpa using h)]; omega
  | [], _ :: _, _, _, h => by simp at h
  | _ :: _, [], _, _, h => by simp at h
theorem dot_nonneg : ∀ {l m : List Int}, (∀ x ∈ l, 0 ≤ x) → (∀ x ∈ m, 0 ≤ x) → 0 ≤ dot l m
  | [], m, _, _ => by cases m <;> simp [dot]
  | a :: l, [], _, _ => by simp [dot]
  | a :: l, b :: m, h, k => by
    have h1 := dot_nonneg (l := l) (m := m) (fun x hx => h x (List.mem_cons_of_mem _ hx)) (fun x hx => k x (List.mem_cons_of_mem _ hx))
    have h2 : 0 ≤ a * b := Int.mul_nonneg (h a List.mem_cons_self) (k b List.mem_cons_self)
    simp only [dot]; omega
theorem dot_split : ∀ {l m : List Int} (k : Nat), l.length = m.length → dot l m = dot (l.take k) (m.take k) + dot (l.drop k) (m.drop k)
  | [], [], k, _ => by simp [dot]
  | a :: l, b :: m, 0, h => by simp [dot]
  | a :: l, b :: m, k + 1, h => by
    simp only [List.take_succ_cons, List.drop_succ_cons, dot]
    rw [dot_split k (by simpa using h)]; omega
  | [], _ :: _, _, h => by simp at h
  | _ :: _, [], _, h => by simp at h
theorem strides_nonneg : ∀ {s : List Int}, (∀ x ∈ s, 0 ≤ x) → ∀ x ∈ strides s, 0 ≤ x
  | [], _, x, hx => by simp [strides] at hx
  | y :: s, h, x, hx => by
    simp only [strides, List.mem_cons] at hx
    have hs : ∀ x ∈ s, 0 ≤ x := fun z hz => h z (List.mem_cons_of_mem _ hz)
    rcases hx with rfl | hx
    · exact prod_nonneg hs
    · exact strides_nonneg hs x hx
/-- the first index at which the place of the next offset differs: there it is greater. -/
theorem dig_rise : ∀ {s : List Int} {k : Int}, allPos s → 0 ≤ k → k + 1 < prod s → ∃ i : Nat, ∃ h : i < s.length, (dig s k).take i = (dig s (k + 1)).take i ∧ (dig s k)[i]'(by rw [dig_len]; exact h) < (dig s (k + 1))[i]'(by rw [dig_len]; exact h)
  | [], k, _, h0, h1 => by simp [prod] at h1; omega
  | x :: s, k, h, h0, h1 => by
    have hs : allPos s := fun y hy => h y (List.mem_cons_of_mem _ hy)
    have hp := hs.pprod
    have hr0 := Int.emod_nonneg k (show prod s ≠ 0 by omega)
    have hr1 := Int.emod_lt_of_pos k hp
    have hdm := Int.mul_ediv_add_emod k (prod s)
    by_cases hc : k % prod s + 1 = prod s
    · refine ⟨0, by simp, by simp, ?_⟩
      simp only [dig, List.getElem_cons_zero]
      have ek : k + 1 = prod s * (k / prod s + 1) := by rw [Int.mul_add]; omega
      rw [ek, Int.mul_ediv_cancel_left _ (by omega)]
      omega
    · have hr2 : k % prod s + 1 < prod s := by omega
      have ek : k + 1 = (k % prod s + 1) + prod s * (k / prod s) := by omega
      have eq1 : (k + 1) / prod s = k / prod s := by
        conv => lhs; rw [ek]
        rw [Int.add_mul_ediv_left _ _ (by omega), Int.ediv_eq_zero_of_lt (by omega) hr2]; omega
      have eq2 : (k + 1) % prod s = k % prod s + 1 := by
        conv => lhs; rw [ek]
        rw [Int.add_mul_emod_self_left, Int.emod_eq_of_lt (by omega) hr2]
      obtain ⟨i, hi, h1, h2⟩ := dig_rise hs hr0 hr2
      refine ⟨i + 1, by simp; exact hi, ?_, ?_⟩
      · simp only [dig, eq1, eq2, List.take_succ_cons, h1]
      · simp only [dig, eq1, eq2, List.getElem_cons_succ]; exact h2
theorem inShape_get {s at_ : List Int} : ∀ {i : Nat}, inShape s at_ → ∀ (h : i < s.length) (h' : i < at_.length), 0 ≤ at_[i] ∧ at_[i] < s[i] := by
  induction s generalizing at_ with
  | nil => intro i _ h; simp at h
  | cons x s ih =>
    intro i hin h h'
    cases at_ with
    | nil => exact hin.elim
    | cons a at_ =>
      obtain ⟨h1, h2, h3⟩ := hin
      cases i with
      | zero => exact ⟨h1, h2⟩
      | succ i => simpa using ih h3 (by simpa using h) (by simpa using h')

theorem shapeBack_true (s : List Int) (k : Int) (gs : ∀ x ∈ s, (Lit.int .i64 x).wf = true) (hs : s.length ≤ maxLen) (gk : (Lit.int .i64 k).wf = true) : M.anamnesislaw03_ShapeBack s k = some true := by
  have hk := wf64 gk
  unfold M.anamnesislaw03_ShapeBack
  by_cases h8 : (s.length : Int) > 8
  · rw [if_pos (by simpa using h8)]
  rw [if_neg (by simpa using h8), shape_Size_eq hs]
  simp only [Option.bind_some]
  rw [shape_At_eq hs hk, Option.bind_some]
  by_cases hok : shOk s ∧ 0 ≤ k ∧ k < prod s
  · obtain ⟨hok, hk0, hk1⟩ := hok
    rw [if_pos (show shOk s ∧ 0 ≤ k ∧ k < prod s from ⟨hok, hk0, hk1⟩), shSize_ok hok]
    simp only [beq_self_eq_true, Bool.true_and, show decide (k ≥ 0) = true from decide_eq_true hk0, show decide (k < prod s) = true from decide_eq_true hk1, Bool.not_true, Bool.false_eq_true, if_false]
    have hpos : allPos s := allPos_of (fun x hx => (hok.2.1 x hx).1) (by omega)
    have hin := dig_in hpos hk0 hk1
    have hdl := dig_len s k
    have hle := hok.2.2
    have h4 := hok.1
    rw [shape_Offset_eq hs (by rw [hdl]; exact hs), Option.bind_some, if_pos ⟨hok, hin⟩, shape_Strides_eq hs, Option.bind_some, if_pos hok]
    simp only [hdl, strides_len, bne_self_eq_false, Bool.or_self, Bool.false_eq_true, if_false]
    rw [off_dig hpos hk0 hk1]
    have htot : dot (dig s k) (strides s) = k := by rw [← off_dot hdl, off_dig hpos hk0 hk1]
    have hdn : ∀ x ∈ dig s k, 0 ≤ x := fun x hx => (dig_bound hok hk0 hk1 x hx).1
    have hsn := strides_nonneg (s := s) (fun x hx => (hok.2.1 x hx).1)
    have key := wloop_ind (f := M.anamnesislaw03_ShapeBack_L1 s (dig s k) (strides s))
      (fun n st => ∃ j : Nat, n = s.length - j ∧ j ≤ s.length ∧ st = (dot ((dig s k).take j) ((strides s).take j), (j : Int)))
      (fun b => b = .next k) (fun n st h => by
        obtain ⟨j, rfl, hj, rfl⟩ := h
        unfold M.anamnesislaw03_ShapeBack_L1
        by_cases hlt : j < s.length
        · left
          have hlt1 : j < (dig s k).length := by omega
          have hlt2 : j < (strides s).length := by rw [strides_len]; omega
          have hg := inShape_get hin hlt hlt1
          simp only [show decide ((j : Int) < (s.length : Int)) = true from decide_eq_true (by omega), if_true, idx_get hlt, idx_get hlt1, idx_get hlt2, Option.bind_some,
            show decide ((dig s k)[j] < 0) = false from decide_eq_false (by omega), show decide ((dig s k)[j] ≥ s[j]) = false from decide_eq_false (by omega), Bool.false_eq_true, if_false]
          have e1 : dot ((dig s k).take (j + 1)) ((strides s).take (j + 1)) = dot ((dig s k).take j) ((strides s).take j) + (dig s k)[j] * (strides s)[j] := by
            rw [List.take_succ_eq_append_getElem hlt1, List.take_succ_eq_append_getElem hlt2, dot_snoc (by simp [hdl, strides_len])]
          have e2 := dot_split (j + 1) (l := dig s k) (m := strides s) (by rw [hdl, strides_len])
          have p1 : 0 ≤ dot ((dig s k).take j) ((strides s).take j) := dot_nonneg (fun x hx => hdn x (List.mem_of_mem_take hx)) (fun x hx => hsn x (List.mem_of_mem_take hx))
          have p2 : 0 ≤ dot ((dig s k).drop (j + 1)) ((strides s).drop (j + 1)) := dot_nonneg (fun x hx => hdn x (List.mem_of_mem_drop hx)) (fun x hx => hsn x (List.mem_of_mem_drop hx))
          have p3 : 0 ≤ (dig s k)[j] * (strides s)[j] := Int.mul_nonneg hg.1 (hsn _ (List.getElem_mem hlt2))
          refine ⟨_, s.length - (j + 1), rfl, by omega, j + 1, rfl, by omega, ?_⟩
          rw [e1, w64_id (x := _ * _) (by omega) (by omega), w64_id (x := _ + _ * _) (by omega) (by omega), w64_id (by omega) (by omega)]
          simp
        · right
          have : j = s.length := by omega
          subst this
          simp only [show decide ((s.length : Int) < (s.length : Int)) = false from decide_eq_false (by omega), Bool.false_eq_true, if_false]
          refine ⟨_, rfl, ?_⟩
          have t1 : (dig s k).take s.length = dig s k := by rw [← hdl]; exact List.take_length
          have t2 : (strides s).take s.length = strides s := by rw [← strides_len s]; exact List.take_length
          rw [t1, t2, htot])
      s.length (0, 0) ⟨0, by omega, by omega, by simp [dot]⟩
    obtain ⟨b, hb, rfl⟩ := key
    rw [hb]
    simp only [Option.bind_some, joinK_next]
    rw [w64_id (by omega) (by omega), shape_At_eq hs (by omega), Option.bind_some]
    by_cases hn : k + 1 < prod s
    · rw [if_pos (show shOk s ∧ 0 ≤ k + 1 ∧ k + 1 < prod s from ⟨hok, by omega, hn⟩)]
      simp only [if_true]
      obtain ⟨i, hi, h1, h2⟩ := dig_rise hpos hk0 hn
      have hdl2 := dig_len s (k + 1)
      have hi1 : i < (dig s k).length := by omega
      have hi2 : i < (dig s (k + 1)).length := by omega
      have key2 := wloop_ind (f := M.anamnesislaw03_ShapeBack_L2 (dig s k) (dig s (k + 1)))
        (fun n st => ∃ j : Nat, n = i - j ∧ j ≤ i ∧ st = (j : Int))
        (fun b => b = .next (i : Int)) (fun n st h => by
          obtain ⟨j, rfl, hj, rfl⟩ := h
          unfold M.anamnesislaw03_ShapeBack_L2
          have hj1 : j < (dig s k).length := by omega
          have hj2 : j < (dig s (k + 1)).length := by omega
          simp only [show decide ((j : Int) < ((dig s k).length : Int)) = true from decide_eq_true (by omega), show decide ((j : Int) < ((dig s (k + 1)).length : Int)) = true from decide_eq_true (by omega), Bool.and_self, if_true, idx_get hj1, idx_get hj2, Option.bind_some]
          by_cases hji : j < i
          · left
            have he : (dig s k)[j] = (dig s (k + 1))[j] := by
              have := congrArg (fun l => l[j]?) h1
              simp only [List.getElem?_take, if_pos hji, List.getElem?_eq_getElem hj1, List.getElem?_eq_getElem hj2] at this
              exact Option.some.inj this
            simp only [he, beq_self_eq_true, if_true]
            refine ⟨_, i - (j + 1), rfl, by omega, j + 1, rfl, by omega, ?_⟩
            rw [w64_id (by omega) (by omega)]; simp
          · right
            have : j = i := by omega
            subst this
            have hne : ((dig s k)[j] == (dig s (k + 1))[j]) = false := by simp; omega
            simp only [hne, Bool.false_eq_true, if_false]
            exact ⟨_, rfl, rfl⟩)
        i 0 ⟨0, by omega, by omega, rfl⟩
      obtain ⟨b, hb2, rfl⟩ := key2
      rw [hb2]
      simp only [Option.bind_some, joinK_next, hdl, hdl2, show decide ((i : Int) ≥ (s.length : Int)) = false from decide_eq_false (by omega), Bool.or_self, Bool.false_eq_true, if_false, idx_get hi1, idx_get hi2,
        show decide ((dig s k)[i] ≥ (dig s (k + 1))[i]) = false from decide_eq_false (by omega)]
      simp
    · rw [if_neg (show ¬ (shOk s ∧ 0 ≤ k + 1 ∧ k + 1 < prod s) from fun h => hn h.2.2)]
      simp
  · rw [if_neg hok]
    have hz : (((shSize s).2 == 0) && decide (k ≥ 0) && decide (k < (shSize s).1)) = false := by
      rcases shSize_cases s with ⟨ho, he⟩ | ⟨ho, he, _⟩
      · rw [he]
        have : ¬ (0 ≤ k ∧ k < prod s) := fun h => hok ⟨ho, h⟩
        by_cases h1 : 0 ≤ k
        · have h2 : ¬ k < prod s := fun h => this ⟨h1, h⟩
          simp [h2]
        · simp [h1]
      · have : ((shSize s).2 == 0) = false := by simpa using he
        rw [this]; rfl
    rw [hz]
    simp

end Go.Proofs.Ytlcpnakgolfofaa.shapeBack
