/- ShapePlaces: what the code that the law reaches computes, as plain functions; and that the law comes to true. -/
import Derived.Test.YtlcpnakgolfofaaAmU
set_option linter.unusedVariables false
set_option linter.unusedSimpArgs false
set_option maxRecDepth 100000
open Go Go.Am
namespace Go.Proofs.Ytlcpnakgolfofaa.shapePlaces
noncomputable def M.anamnesisref03_Size_L1 (s1 : (List Int)) (s : Int × Bool × Int) : Option (Ctl (Int × Bool × Int) (Ctl (Int × Bool) (Int × Int))) :=
  match s with
  | (size1, long1, i1) =>
    if (decide (i1 < (s1.length : Int))) then
      (idx s1 i1).bind fun y1 =>
      if (decide (y1 < 0)) then
        some (.done (.done (0, 1)))
      else
        ((idx s1 i1).bind fun y2 =>
        if (decide (y2 > 10000)) then
          some (0, true)
        else
          some (size1, long1)).bind fun (size2, long2) =>
        (idx s1 i1).bind fun y3 =>
        some (.next ((IntKind.i64.wrap (size2 * y3)), long2, (IntKind.i64.wrap (i1 + 1))))
    else
      some (.done (.next (size1, long1)))
noncomputable def M.anamnesisref03_Size (s1 : (List Int)) : Option (Int × Int) :=
  if (decide ((s1.length : Int) > 4)) then
    some (0, 24)
  else
    (wloop (M.anamnesisref03_Size_L1 s1) (1, false, 0)).bind fun k => joinK k fun (size1, long1) =>
    if (long1 || (decide (size1 > 10000))) then
      some (0, 27)
    else
      some (size1, 0)
noncomputable def M.slices_IndexFunc__int_L1 (s1 : (List Int)) (f1 : (Int → Option (Bool))) (s : Int) : Option (Ctl (Int) (Ctl (Unit) (Int))) :=
  match s with
  | t1 =>
    if (decide (t1 < (s1.length : Int))) then
      (idx s1 t1).bind fun y1 =>
      (f1 y1).bind fun r1 =>
      if r1 then
        some (.done (.done t1))
      else
        some (.next (IntKind.i64.wrap (t1 + 1)))
    else
      some (.done (.next ()))
noncomputable def M.slices_IndexFunc__int (s1 : (List Int)) (f1 : (Int → Option (Bool))) : Option (Int) :=
  (wloop (M.slices_IndexFunc__int_L1 s1 f1) 0).bind fun k => joinK k fun _ =>
  some (-1)
noncomputable def M.slices_ContainsFunc__int (s1 : (List Int)) (f1 : (Int → Option (Bool))) : Option (Bool) :=
  (M.slices_IndexFunc__int s1 f1).bind fun r1 =>
  some (decide (r1 ≥ 0))
noncomputable def M.shape_Size_1 (n1 : Int) : Option (Bool) :=
  some (decide (n1 < 0))
noncomputable def M.shape_Size_2 (n1 : Int) : Option (Bool) :=
  some (decide (n1 > 10000))
noncomputable def M.shape_product_L1 (s1 : (List Int)) (s : Int × Int) : Option (Ctl (Int × Int) (Ctl (Int) (Int))) :=
  match s with
  | (p1, t1) =>
    if (decide (t1 < (s1.length : Int))) then
      (idx s1 t1).bind fun y1 =>
      some (.next ((IntKind.i64.wrap (p1 * y1)), (IntKind.i64.wrap (t1 + 1))))
    else
      some (.done (.next p1))
noncomputable def M.shape_product (s1 : (List Int)) : Option (Int) :=
  (wloop (M.shape_product_L1 s1) (1, 0)).bind fun k => joinK k fun p1 =>
  some p1
noncomputable def M.shape_Size (s1 : (List Int)) : Option (Int × Int) :=
  if (decide ((s1.length : Int) > 4)) then
    some (0, 24)
  else
    (M.slices_ContainsFunc__int s1 (fun x0 => M.shape_Size_1 x0)).bind fun r1 =>
    if r1 then
      some (0, 1)
    else
      ((M.slices_ContainsFunc__int s1 (fun x0 => M.shape_Size_2 x0)).bind fun r2 =>
      if r2 then
        some r2
      else
        (M.shape_product s1).bind fun r3 =>
        some (decide (r3 > 10000))).bind fun t1 =>
      if t1 then
        some (0, 27)
      else
        (M.shape_product s1).bind fun r4 =>
        some (r4, 0)
noncomputable def M.shape_sized (s1 : (List Int)) : Option (Bool) :=
  (M.shape_Size s1).bind fun (r1, r2) =>
  some (r2 == 0)
noncomputable def M.shape_Offset_L1 (s1 : (List Int)) (at1 : (List Int)) (s : Int × Int) : Option (Ctl (Int × Int) (Ctl (Int) (Int × Bool))) :=
  match s with
  | (k1, t1) =>
    if (decide (t1 < (at1.length : Int))) then
      (idx at1 t1).bind fun y1 =>
      (if (decide (y1 < 0)) then
      some true else
      (idx s1 t1).bind fun y2 =>
      some (decide (y1 ≥ y2))).bind fun c3 =>
      if c3 then
        some (.done (.done (0, false)))
      else
        (idx s1 t1).bind fun y3 =>
        some (.next ((IntKind.i64.wrap ((IntKind.i64.wrap (k1 * y3)) + y1)), (IntKind.i64.wrap (t1 + 1))))
    else
      some (.done (.next k1))
noncomputable def M.shape_Offset (s1 : (List Int)) (at1 : (List Int)) : Option (Int × Bool) :=
  (if ((at1.length : Int) != (s1.length : Int)) then
  some true else
  (M.shape_sized s1).bind fun r1 =>
  some (!r1)).bind fun c1 =>
  if c1 then
    some (0, false)
  else
    (wloop (M.shape_Offset_L1 s1 at1) (0, 0)).bind fun k => joinK k fun k1 =>
    some (k1, true)
noncomputable def M.anamnesisref03_Next_L1 (s1 : (List Int)) (s : Int × (List Int)) : Option (Ctl (Int × (List Int)) (Ctl ((List Int)) ((List Int)))) :=
  match s with
  | (i1, l2) =>
    if (decide (i1 ≥ 0)) then
      (idx l2 i1).bind fun y1 =>
      (idx l2 i1).bind fun y2 =>
      (upd l2 i1 (IntKind.i64.wrap (y1 + 1))).bind fun l3 =>
      (idx l3 i1).bind fun y3 =>
      (idx s1 i1).bind fun y4 =>
      if (decide (y3 < y4)) then
        some (.done (.done l3))
      else
        (idx l3 i1).bind fun y5 =>
        (upd l3 i1 0).bind fun l4 =>
        some (.next ((IntKind.i64.wrap (i1 - 1)), l4))
    else
      some (.done (.next l2))
noncomputable def M.anamnesisref03_Next (s1 : (List Int)) (at1 : (List Int)) : Option ((List Int)) :=
  (app 8 ([] : List Int) at1).bind fun l1 =>
  (wloop (M.anamnesisref03_Next_L1 s1) ((IntKind.i64.wrap ((l1.length : Int) - 1)), l1)).bind fun k => joinK k fun l2 =>
  some l2
noncomputable def M.anamnesisref03_Places_L1 (s1 : (List Int)) (r1 : Int) (s : (List (List Int)) × (List Int) × Int) : Option (Ctl ((List (List Int)) × (List Int) × Int) (Ctl ((List (List Int))) ((List (List Int))))) :=
  match s with
  | (out1, at1, k1) =>
    if (decide (k1 < r1)) then
      (app 24 out1 ([at1])).bind fun l2 =>
      (M.anamnesisref03_Next s1 at1).bind fun r3 =>
      some (.next (l2, r3, (IntKind.i64.wrap (k1 + 1))))
    else
      some (.done (.next out1))
noncomputable def M.anamnesisref03_Places (s1 : (List Int)) : Option ((List (List Int))) :=
  (M.anamnesisref03_Size s1).bind fun (r1, r2) =>
  if (r2 != 0) then
    some ([])
  else
    (mk 8 (0 : Int) (s1.length : Int) (s1.length : Int)).bind fun l1 =>
    (wloop (M.anamnesisref03_Places_L1 s1 r1) ([], l1, 0)).bind fun k => joinK k fun out1 =>
    some out1
noncomputable def M.anamnesisref03_same_L1 (a1 : (List Int)) (b1 : (List Int)) (s : Int) : Option (Ctl (Int) (Ctl (Unit) (Bool))) :=
  match s with
  | i1 =>
    if (decide (i1 < (a1.length : Int))) then
      (idx a1 i1).bind fun y1 =>
      (idx b1 i1).bind fun y2 =>
      if (y1 != y2) then
        some (.done (.done false))
      else
        some (.next (IntKind.i64.wrap (i1 + 1)))
    else
      some (.done (.next ()))
noncomputable def M.anamnesisref03_same (a1 : (List Int)) (b1 : (List Int)) : Option (Bool) :=
  if ((a1.length : Int) != (b1.length : Int)) then
    some false
  else
    (wloop (M.anamnesisref03_same_L1 a1 b1) 0).bind fun k => joinK k fun _ =>
    some true
noncomputable def M.anamnesisref03_Offset_L1 (at1 : (List Int)) (r1 : (List (List Int))) (s : Int) : Option (Ctl (Int) (Ctl (Unit) (Int × Bool))) :=
  match s with
  | k1 =>
    if (decide (k1 < (r1.length : Int))) then
      (idx r1 k1).bind fun y1 =>
      (M.anamnesisref03_same y1 at1).bind fun r2 =>
      if r2 then
        some (.done (.done (k1, true)))
      else
        some (.next (IntKind.i64.wrap (k1 + 1)))
    else
      some (.done (.next ()))
noncomputable def M.anamnesisref03_Offset (s1 : (List Int)) (at1 : (List Int)) : Option (Int × Bool) :=
  (M.anamnesisref03_Places s1).bind fun r1 =>
  (wloop (M.anamnesisref03_Offset_L1 at1 r1) 0).bind fun k => joinK k fun _ =>
  some (0, false)
noncomputable def M.shape_At_L1 (s1 : (List Int)) (s : Int × Int × (List Int)) : Option (Ctl (Int × Int × (List Int)) (Ctl ((List Int)) ((List Int) × Bool))) :=
  match s with
  | (k2, i1, l2) =>
    if (decide (i1 ≥ 0)) then
      (idx s1 i1).bind fun y1 =>
      (remI k2 y1).bind fun q1 =>
      (idx s1 i1).bind fun y2 =>
      (quoI .i64 k2 y2).bind fun q2 =>
      (idx l2 i1).bind fun y3 =>
      (upd l2 i1 q1).bind fun l3 =>
      some (.next (q2, (IntKind.i64.wrap (i1 - 1)), l3))
    else
      some (.done (.next l2))
noncomputable def M.shape_At (s1 : (List Int)) (k1 : Int) : Option ((List Int) × Bool) :=
  (M.shape_Size s1).bind fun (r1, r2) =>
  if (((r2 != 0) || (decide (k1 < 0))) || (decide (k1 ≥ r1))) then
    some ([], false)
  else
    (mk 8 (0 : Int) (s1.length : Int) (s1.length : Int)).bind fun l1 =>
    (wloop (M.shape_At_L1 s1) (k1, (IntKind.i64.wrap ((s1.length : Int) - 1)), l1)).bind fun k => joinK k fun l2 =>
    some (l2, true)
noncomputable def M.anamnesisref03_At (s1 : (List Int)) (k1 : Int) : Option ((List Int) × Bool) :=
  (M.anamnesisref03_Places s1).bind fun r1 =>
  if ((decide (k1 < 0)) || (decide (k1 ≥ (r1.length : Int)))) then
    some ([], false)
  else
    (idx r1 k1).bind fun y1 =>
    some (y1, true)
noncomputable def M.anamnesislaw03_same_L1 (a1 : (List Int)) (b1 : (List Int)) (s : Int) : Option (Ctl (Int) (Ctl (Unit) (Bool))) :=
  match s with
  | i1 =>
    if (decide (i1 < (a1.length : Int))) then
      (idx a1 i1).bind fun y1 =>
      (idx b1 i1).bind fun y2 =>
      if (y1 != y2) then
        some (.done (.done false))
      else
        some (.next (IntKind.i64.wrap (i1 + 1)))
    else
      some (.done (.next ()))
noncomputable def M.anamnesislaw03_same (a1 : (List Int)) (b1 : (List Int)) : Option (Bool) :=
  if ((a1.length : Int) != (b1.length : Int)) then
    some false
  else
    (wloop (M.anamnesislaw03_same_L1 a1 b1) 0).bind fun k => joinK k fun _ =>
    some true
noncomputable def M.anamnesislaw03_ShapePlaces (s1 : (List Int)) (at1 : (List Int)) (k1 : Int) : Option (Bool) :=
  (M.anamnesisref03_Size s1).bind fun (r1, r2) =>
  if (((decide ((s1.length : Int) > 8)) || (decide ((at1.length : Int) > 8))) || (decide (r1 > 200))) then
    some true
  else
    (M.shape_Offset s1 at1).bind fun (r3, r4) =>
    (M.anamnesisref03_Offset s1 at1).bind fun (r5, r6) =>
    (M.shape_At s1 k1).bind fun (r7, r8) =>
    (M.anamnesisref03_At s1 k1).bind fun (r9, r10) =>
    (if ((r3 == r5) && (r4 == r6)) then
    (M.anamnesislaw03_same r7 r9).bind fun r11 =>
    some r11 else
    some false).bind fun c4 =>
    some ((c4 && (r8 == r10)) && true)
theorem w64_id {x : Int} (h1 : -9223372036854775808 ≤ x) (h2 : x ≤ 9223372036854775807) : IntKind.i64.wrap x = x := wrap_id h1 h2
/-- A loop comes to an end in a state with Q: P holds ahead of each round, and its number falls. -/
theorem wloop_ind {σ β : Type} {f : σ → Option (Ctl σ β)} (P : Nat → σ → Prop) (Q : β → Prop)
    (h : ∀ n s, P n s → (∃ s' n', f s = some (.next s') ∧ n' < n ∧ P n' s') ∨ (∃ b, f s = some (.done b) ∧ Q b)) : ∀ n s, P n s → ∃ b, wloop f s = some b ∧ Q b := by
  intro n
  induction n using Nat.strongRecOn with
  | _ n ih =>
    intro s hp
    rcases h n s hp with ⟨s', n', hf, hn, hp'⟩ | ⟨b, hf, hq⟩
    · obtain ⟨b, hb, hq⟩ := ih n' hn s' hp'
      exact ⟨b, by rw [wloop_next hf]; exact hb, hq⟩
    · exact ⟨b, wloop_done hf, hq⟩
theorem idx_nat {α : Type} (l : List α) (k : Nat) : idx l (k : Int) = l[k]? := by
  unfold idx; rw [if_pos (by omega)]; rfl
theorem idx_get {α : Type} {l : List α} {k : Nat} (h : k < l.length) : idx l (k : Int) = some l[k] := by rw [idx_nat, List.getElem?_eq_getElem h]
theorem upd_nat {α : Type} {l : List α} {k : Nat} {x : α} (h : k < l.length) : upd l (k : Int) x = some (l.set k x) := by
  unfold upd; rw [if_pos ⟨by omega, by omega⟩]; rfl
theorem app_ok {α : Type} {b : Nat} {l m : List α} (h : (l.length + m.length) * b ≤ 140737488355328) : app b l m = some (l ++ m) := by
  unfold app; rw [if_pos (.inr h)]
theorem mk_ok {α : Type} {b : Nat} {z : α} {n : Nat} (h : b * n ≤ 140737488355328) (h' : n ≤ 140737488355328) : mk b z (n : Int) (n : Int) = some (List.replicate n z) := by
  unfold mk
  have : ((b : Int) * (n : Int)) ≤ 140737488355328 := by
    have h2 : ((b * n : Nat) : Int) ≤ 140737488355328 := by omega
    rwa [Int.natCast_mul] at h2
  rw [if_pos ⟨by omega, by omega, this, by omega⟩]; rfl
/-- the numbers that a kind has. -/
theorem wf64 {n : Int} (h : (Lit.int .i64 n).wf = true) : -9223372036854775808 ≤ n ∧ n ≤ 9223372036854775807 := by
  have h2 : (decide (IntKind.i64.min ≤ n) && decide (n ≤ IntKind.i64.max)) = true := h
  have e1 : IntKind.i64.min = -9223372036854775808 := by decide
  have e2 : IntKind.i64.max = 9223372036854775807 := by decide
  rw [e1, e2] at h2
  simpa using h2
def prod : List Int → Int
  | [] => 1
  | x :: s => x * prod s
def off : List Int → List Int → Int
  | x :: s, a :: at_ => a * prod s + off s at_
  | _, _ => 0
def dig : List Int → Int → List Int
  | [], _ => []
  | _ :: s, k => k / prod s :: dig s (k % prod s)
/-- is a place in a shape? -/
def inShape : List Int → List Int → Prop
  | [], [] => True
  | x :: s, a :: at_ => 0 ≤ a ∧ a < x ∧ inShape s at_
  | _, _ => False
instance : (s at_ : List Int) → Decidable (inShape s at_)
  | [], [] => isTrue trivial
  | x :: s, a :: at_ =>
    have := instDecidableInShape s at_
    by unfold inShape; exact inferInstance
  | [], _ :: _ => isFalse (fun h => h)
  | _ :: _, [] => isFalse (fun h => h)
theorem inShape.len : ∀ {s at_ : List Int}, inShape s at_ → at_.length = s.length
  | [], [], _ => rfl
  | x :: s, a :: at_, ⟨_, _, h⟩ => by simp [h.len]
  | [], _ :: _, h => h.elim
  | _ :: _, [], h => h.elim
theorem inShape.pos : ∀ {s at_ : List Int}, inShape s at_ → 0 < prod s
  | [], [], _ => by simp [prod]
  | x :: s, a :: at_, ⟨h0, h1, h⟩ => by
    have := h.pos
    exact Int.mul_pos (by omega) this
  | [], _ :: _, h => h.elim
  | _ :: _, [], h => h.elim
theorem off_range : ∀ {s at_ : List Int}, inShape s at_ → 0 ≤ off s at_ ∧ off s at_ < prod s
  | [], [], _ => by simp [prod, off]
  | x :: s, a :: at_, ⟨h0, h1, h⟩ => by
    have h2 := off_range h
    have h3 := h.pos
    have h4 : (a + 1) * prod s ≤ x * prod s := Int.mul_le_mul_of_nonneg_right (by omega) (by omega)
    have h5 : 0 ≤ a * prod s := Int.mul_nonneg h0 (by omega)
    rw [Int.add_mul] at h4
    simp only [prod, off]
    omega
  | [], _ :: _, h => h.elim
  | _ :: _, [], h => h.elim
theorem dig_off : ∀ {s at_ : List Int}, inShape s at_ → dig s (off s at_) = at_
  | [], [], _ => rfl
  | x :: s, a :: at_, ⟨h0, h1, h⟩ => by
    have h2 := off_range h
    have h3 := h.pos
    simp only [dig, off]
    rw [Int.add_comm, Int.mul_comm, Int.add_mul_ediv_left _ _ (by omega), Int.add_mul_emod_self_left, Int.emod_eq_of_lt h2.1 h2.2, dig_off h, Int.ediv_eq_zero_of_lt h2.1 h2.2]
    simp
  | [], _ :: _, h => h.elim
  | _ :: _, [], h => h.elim
def allPos (s : List Int) : Prop := ∀ x ∈ s, 0 < x
theorem allPos.pprod : ∀ {s : List Int}, allPos s → 0 < prod s
  | [], _ => by simp [prod]
  | x :: s, h => Int.mul_pos (h x List.mem_cons_self) (allPos.pprod fun y hy => h y (List.mem_cons_of_mem _ hy))
theorem allPos_of {s : List Int} (h : ∀ x ∈ s, 0 ≤ x) (hp : 0 < prod s) : allPos s := by
  intro x hx
  have h0 := h x hx
  rcases Int.lt_or_eq_of_le h0 with h1 | h1
  · exact h1
  · exfalso
    have : ∀ s : List Int, (0 : Int) ∈ s → prod s = 0 := by
      intro s
      induction s with
      | nil => intro h; simp at h
      | cons y s ih =>
        intro h
        rcases List.mem_cons.mp h with h | h
        · simp [prod, ← h]
        · simp [prod, ih h]
    rw [this s (h1 ▸ hx)] at hp
    omega
theorem dig_in : ∀ {s : List Int} {k : Int}, allPos s → 0 ≤ k → k < prod s → inShape s (dig s k)
  | [], k, _, h0, h1 => trivial
  | x :: s, k, h, h0, h1 => by
    have hs : allPos s := fun y hy => h y (List.mem_cons_of_mem _ hy)
    have hp := hs.pprod
    refine ⟨Int.ediv_nonneg h0 (by omega), ?_, dig_in hs (Int.emod_nonneg _ (by omega)) (Int.emod_lt_of_pos _ hp)⟩
    exact Int.ediv_lt_of_lt_mul hp h1
theorem off_dig : ∀ {s : List Int} {k : Int}, allPos s → 0 ≤ k → k < prod s → off s (dig s k) = k
  | [], k, _, h0, h1 => by simp [prod] at h1; simp [dig, off]; omega
  | x :: s, k, h, h0, h1 => by
    have hs : allPos s := fun y hy => h y (List.mem_cons_of_mem _ hy)
    have hp := hs.pprod
    simp only [dig, off]
    rw [off_dig hs (Int.emod_nonneg _ (by omega)) (Int.emod_lt_of_pos _ hp)]
    rw [Int.mul_comm]; exact Int.mul_ediv_add_emod k (prod s)
theorem dig_len : ∀ (s : List Int) (k : Int), (dig s k).length = s.length
  | [], _ => rfl
  | x :: s, k => by simp [dig, dig_len s]
theorem prod_nonneg : ∀ {s : List Int}, (∀ x ∈ s, 0 ≤ x) → 0 ≤ prod s
  | [], _ => by simp [prod]
  | x :: s, h => Int.mul_nonneg (h x List.mem_cons_self) (prod_nonneg fun y hy => h y (List.mem_cons_of_mem _ hy))
theorem prod_append : ∀ (s t : List Int), prod (s ++ t) = prod s * prod t
  | [], t => by simp [prod]
  | x :: s, t => by simp [prod, prod_append s t, Int.mul_assoc]

/-- the size of a shape, or the error. -/
def shSize (s : List Int) : Int × Int :=
  if 4 < s.length then (0, 24) else if s.any (fun x => decide (x < 0)) then (0, 1) else if s.any (fun x => decide (x > 10000)) || decide (prod s > 10000) then (0, 27) else (prod s, 0)
def shOk (s : List Int) : Prop := s.length ≤ 4 ∧ (∀ x ∈ s, 0 ≤ x ∧ x ≤ 10000) ∧ prod s ≤ 10000
instance (s : List Int) : Decidable (shOk s) := by unfold shOk; exact inferInstance
theorem shSize_ok {s : List Int} (h : shOk s) : shSize s = (prod s, 0) := by
  obtain ⟨h1, h2, h3⟩ := h
  unfold shSize
  rw [if_neg (by omega), if_neg, if_neg]
  · simp only [Bool.or_eq_true, List.any_eq_true, decide_eq_true_eq]
    rintro (⟨x, hx, h⟩ | h)
    · have := h2 x hx; omega
    · omega
  · simp only [List.any_eq_true, decide_eq_true_eq]
    rintro ⟨x, hx, h⟩
    have := h2 x hx; omega
theorem shSize_zero {s : List Int} : (shSize s).2 = 0 ↔ shOk s := by
  constructor
  · intro h
    unfold shSize at h
    split at h
    · cases h
    · rename_i h1
      split at h
      · cases h
      · rename_i h2
        split at h
        · cases h
        · rename_i h3
          simp only [List.any_eq_true, decide_eq_true_eq, not_exists, not_and] at h2
          simp only [Bool.or_eq_true, List.any_eq_true, decide_eq_true_eq, not_or, not_exists, not_and] at h3
          exact ⟨by omega, fun x hx => ⟨by have := h2 x hx; omega, by have := h3.1 x hx; omega⟩, by omega⟩
  · intro h; rw [shSize_ok h]
theorem shSize_cases (s : List Int) : (shOk s ∧ shSize s = (prod s, 0)) ∨ (¬ shOk s ∧ (shSize s).2 ≠ 0 ∧ (shSize s).1 = 0) := by
  by_cases h : shOk s
  · exact .inl ⟨h, shSize_ok h⟩
  · refine .inr ⟨h, fun hh => h (shSize_zero.mp hh), ?_⟩
    unfold shSize
    split
    · rfl
    · rename_i h1
      split
      · rfl
      · rename_i h2
        split
        · rfl
        · rename_i h3
          exfalso; apply h
          simp only [List.any_eq_true, decide_eq_true_eq, not_exists, not_and] at h2
          simp only [Bool.or_eq_true, List.any_eq_true, decide_eq_true_eq, not_or, not_exists, not_and] at h3
          exact ⟨by omega, fun x hx => ⟨by have := h2 x hx; omega, by have := h3.1 x hx; omega⟩, by omega⟩
theorem contains_int {s : List Int} {f : Int → Option Bool} {g : Int → Bool} (hf : ∀ x ∈ s, f x = some (g x)) (hl : s.length ≤ 4611686018427387904) : M.slices_ContainsFunc__int s f = some (s.any g) := by
  have key := wloop_ind (f := M.slices_IndexFunc__int_L1 s f) (fun n i => ∃ k : Nat, i = k ∧ k ≤ s.length ∧ n = s.length - k ∧ (s.take k).any g = false)
    (fun b => (∃ i : Int, b = .done i ∧ 0 ≤ i ∧ s.any g = true) ∨ (b = .next () ∧ s.any g = false)) (fun n i h => by
      obtain ⟨k, rfl, hk, rfl, hn⟩ := h
      unfold M.slices_IndexFunc__int_L1
      by_cases hlt : k < s.length
      · simp only [show decide ((k : Int) < (s.length : Int)) = true from by simp; exact hlt, if_true, idx_get hlt, Option.bind_some, hf _ (List.getElem_mem hlt)]
        cases hg : g s[k] with
        | true =>
          right
          refine ⟨_, rfl, .inl ⟨_, rfl, by omega, ?_⟩⟩
          rw [List.any_eq_true]
          exact ⟨_, List.getElem_mem hlt, hg⟩
        | false =>
          left
          refine ⟨_, s.length - (k + 1), rfl, by omega, k + 1, ?_, by omega, rfl, ?_⟩
          · rw [w64_id (by omega) (by omega)]; omega
          · rw [List.take_succ_eq_append_getElem hlt, List.any_append, hn]; simp [hg]
      · have : k = s.length := by omega
        subst this
        right
        simp only [show decide ((s.length : Int) < (s.length : Int)) = false from by simp, Bool.false_eq_true, if_false]
        exact ⟨_, rfl, .inr ⟨rfl, by simpa using hn⟩⟩) s.length 0 ⟨0, rfl, by omega, by omega, by simp⟩
  unfold M.slices_ContainsFunc__int M.slices_IndexFunc__int
  obtain ⟨b, hb, ⟨i, rfl, h0, ha⟩ | ⟨rfl, ha⟩⟩ := key
  · rw [hb, ha]; simp [h0]
  · rw [hb, ha]; simp
theorem one_le_pow : ∀ k : Nat, (1 : Int) ≤ 10000 ^ k
  | 0 => by simp
  | k + 1 => by rw [Int.pow_succ]; have := one_le_pow k; omega
theorem prod_bound : ∀ (s : List Int) (k : Nat), s.length ≤ k → (∀ x ∈ s, 0 ≤ x ∧ x ≤ 10000) → 0 ≤ prod s ∧ prod s ≤ 10000 ^ k
  | [], k, _, _ => ⟨by simp [prod], one_le_pow k⟩
  | x :: s, k + 1, hl, h => by
    have h1 := h x List.mem_cons_self
    have h2 := prod_bound s k (by simpa using hl) (fun y hy => h y (List.mem_cons_of_mem _ hy))
    refine ⟨Int.mul_nonneg h1.1 h2.1, ?_⟩
    simp only [prod]
    have h3 : x * prod s ≤ 10000 * prod s := Int.mul_le_mul_of_nonneg_right h1.2 h2.1
    have h4 : (10000 : Int) ^ (k + 1) = 10000 ^ k * 10000 := Int.pow_succ _ _
    omega
  | x :: s, 0, hl, h => by simp at hl

theorem product_eq {s : List Int} (hl : s.length ≤ 4) (hb : ∀ x ∈ s, 0 ≤ x ∧ x ≤ 10000) : M.shape_product s = some (prod s) := by
  have key := wloop_ind (f := M.shape_product_L1 s) (fun n st => ∃ k : Nat, st = (prod (s.take k), (k : Int)) ∧ k ≤ s.length ∧ n = s.length - k)
    (fun b => b = .next (prod s)) (fun n st h => by
      obtain ⟨k, rfl, hk, rfl⟩ := h
      unfold M.shape_product_L1
      by_cases hlt : k < s.length
      · left
        simp only [show decide ((k : Int) < (s.length : Int)) = true from by simp; exact hlt, if_true, idx_get hlt, Option.bind_some]
        have e : prod (s.take k) * s[k] = prod (s.take (k + 1)) := by
          rw [List.take_succ_eq_append_getElem hlt, prod_append]; simp [prod]
        have hp := prod_bound (s.take (k + 1)) 4 (by rw [List.length_take]; omega) (fun x hx => hb x (List.mem_of_mem_take hx))
        refine ⟨_, s.length - (k + 1), rfl, by omega, k + 1, ?_, by omega, rfl⟩
        rw [e, w64_id (by omega) (by omega), w64_id (by omega) (by omega)]
        simp
      · have : k = s.length := by omega
        subst this
        right
        simp)
    s.length (1, 0) ⟨0, by simp [prod], by omega, by omega⟩
  obtain ⟨b, hb, rfl⟩ := key
  unfold M.shape_product
  rw [hb]; rfl

theorem shape_Size_eq {s : List Int} (hl : s.length ≤ maxLen) : M.shape_Size s = some (shSize s) := by
  have hm : maxLen = 9223372036854775807 := rfl
  unfold M.shape_Size shSize
  by_cases h4 : 4 < s.length
  · rw [if_pos h4, if_pos (by simp; omega)]
  · rw [if_neg h4, if_neg (by simp; omega)]
    rw [contains_int (s := s) (f := fun x0 => M.shape_Size_1 x0) (g := fun x => decide (x < 0)) (fun x _ => rfl) (by omega), Option.bind_some]
    cases hneg : s.any (fun x => decide (x < 0)) with
    | true => simp
    | false =>
      simp only [Bool.false_eq_true, if_false]
      rw [contains_int (s := s) (f := fun x0 => M.shape_Size_2 x0) (g := fun x => decide (x > 10000)) (fun x _ => rfl) (by omega), Option.bind_some]
      cases hbig : s.any (fun x => decide (x > 10000)) with
      | true => simp
      | false =>
        have hb : ∀ x ∈ s, 0 ≤ x ∧ x ≤ 10000 := by
          intro x hx
          simp only [List.any_eq_false, decide_eq_true_eq] at hneg hbig
          have := hneg x hx; have := hbig x hx; omega
        simp only [Bool.false_eq_true, if_false, product_eq (by omega) hb, Option.bind_some, Bool.false_or]
        split <;> simp_all
theorem sized_eq {s : List Int} (hl : s.length ≤ maxLen) : M.shape_sized s = some ((shSize s).2 == 0) := by
  unfold M.shape_sized; rw [shape_Size_eq hl]; rfl
theorem ref03_Size_eq {s : List Int} (hl : s.length ≤ maxLen) : M.anamnesisref03_Size s = some (shSize s) := by
  have hm : maxLen = 9223372036854775807 := rfl
  unfold M.anamnesisref03_Size shSize
  by_cases h4 : 4 < s.length
  · rw [if_pos h4, if_pos (by simp; omega)]
  · rw [if_neg h4, if_neg (by simp; omega)]
    have key := wloop_ind (f := M.anamnesisref03_Size_L1 s)
      (fun n st => ∃ k : Nat, ∃ z : Int, st = (z, (s.take k).any (fun x => decide (x > 10000)), (k : Int)) ∧ k ≤ s.length ∧ n = s.length - k ∧ (s.take k).any (fun x => decide (x < 0)) = false ∧
        0 ≤ z ∧ z ≤ 10000 ^ k ∧ ((s.take k).any (fun x => decide (x > 10000)) = false → z = prod (s.take k)))
      (fun b => (b = .done (0, 1) ∧ s.any (fun x => decide (x < 0)) = true) ∨ (∃ z, b = .next (z, s.any (fun x => decide (x > 10000))) ∧ s.any (fun x => decide (x < 0)) = false ∧ (s.any (fun x => decide (x > 10000)) = false → z = prod s)))
      (fun n st h => by
        obtain ⟨k, z, rfl, hk, rfl, hneg, hz0, hz1, hz⟩ := h
        unfold M.anamnesisref03_Size_L1
        by_cases hlt : k < s.length
        · simp only [show decide ((k : Int) < (s.length : Int)) = true from by simp; exact hlt, if_true, idx_get hlt, Option.bind_some]
          have etake := List.take_succ_eq_append_getElem hlt
          by_cases hn : s[k] < 0
          · right
            simp only [show decide (s[k] < 0) = true from by simp [hn], if_true]
            exact ⟨_, rfl, .inl ⟨rfl, by rw [List.any_eq_true]; exact ⟨_, List.getElem_mem hlt, by simpa using hn⟩⟩⟩
          · left
            simp only [show decide (s[k] < 0) = false from by simpa using hn, Bool.false_eq_true, if_false]
            have hpk : (10000 : Int) ^ (k + 1) = 10000 ^ k * 10000 := Int.pow_succ _ _
            have hp4 : (10000 : Int) ^ (k + 1) ≤ 10000 ^ 4 := by
              have : k + 1 ≤ 4 := by omega
              have h3 : ∀ a : Nat, a ≤ 4 → (10000 : Int) ^ a ≤ 10000 ^ 4 := by decide
              exact h3 _ this
            by_cases hbig : s[k] > 10000
            · simp only [show decide (s[k] > 10000) = true from by simpa using hbig, if_true, Option.bind_some]
              refine ⟨_, s.length - (k + 1), rfl, by omega, k + 1, 0, ?_, by omega, rfl, ?_, by omega, by omega, ?_⟩
              · rw [w64_id (by simp) (by simp), w64_id (by omega) (by omega), etake, List.any_append]
                simp [hbig]
              · rw [etake, List.any_append, hneg]; simpa using hn
              · rw [etake, List.any_append]; simp [hbig]
            · simp only [show decide (s[k] > 10000) = false from by simpa using hbig, Bool.false_eq_true, if_false, Option.bind_some]
              have h5 : 0 ≤ z * s[k] := Int.mul_nonneg hz0 (by omega)
              have h6 : z * s[k] ≤ 10000 ^ k * 10000 := Int.mul_le_mul hz1 (by omega) (by omega) (by omega)
              refine ⟨_, s.length - (k + 1), rfl, by omega, k + 1, z * s[k], ?_, by omega, rfl, ?_, h5, by omega, ?_⟩
              · rw [w64_id (by omega) (by omega), w64_id (by omega) (by omega), etake, List.any_append]
                simp [hbig]
              · rw [etake, List.any_append, hneg]; simpa using hn
              · rw [etake, List.any_append, prod_append]
                intro h7
                rw [Bool.or_eq_false_iff] at h7
                rw [hz h7.1]; simp [prod]
        · have : k = s.length := by omega
          subst this
          right
          simp only [show decide ((s.length : Int) < (s.length : Int)) = false from by simp, Bool.false_eq_true, if_false]
          simp only [List.take_length] at hneg hz ⊢
          exact ⟨_, rfl, .inr ⟨z, rfl, hneg, hz⟩⟩)
      s.length (1, false, 0) ⟨0, 1, by simp, by omega, by omega, by simp, by omega, by omega, by simp [prod]⟩
    obtain ⟨b, hb, ⟨rfl, ha⟩ | ⟨z, rfl, ha, hz⟩⟩ := key
    · rw [hb, ha]; simp
    · rw [hb, ha]
      simp only [Option.bind_some, joinK_next, Bool.false_eq_true, if_false]
      cases hbig : s.any (fun x => decide (x > 10000)) with
      | true => simp
      | false => rw [hz hbig]; simp; split <;> simp_all
theorem same_step {f : Int → Option (Ctl Int (Ctl Unit Bool))} {a b : List Int} (hl : a.length = b.length) (hm : a.length ≤ maxLen)
    (hf : ∀ k : Nat, ∀ h : k < a.length, f k = if a[k] = b[k]'(hl ▸ h) then some (.next ((k : Int) + 1)) else some (.done (.done false))) (he : f a.length = some (.done (.next ()))) :
    (wloop f 0).bind (fun k => joinK k fun _ => some true) = some (decide (a = b)) := by
  have key := wloop_ind (f := f) (fun n i => ∃ k : Nat, i = k ∧ k ≤ a.length ∧ n = a.length - k ∧ a.take k = b.take k)
    (fun c => (c = .done false ∧ a ≠ b) ∨ (c = .next () ∧ a = b)) (fun n i h => by
      obtain ⟨k, rfl, hk, rfl, hn⟩ := h
      by_cases hlt : k < a.length
      · rw [hf k hlt]
        by_cases he : a[k] = b[k]
        · rw [if_pos he]
          left
          refine ⟨_, a.length - (k + 1), rfl, by omega, k + 1, by omega, by omega, rfl, ?_⟩
          rw [List.take_succ_eq_append_getElem hlt, List.take_succ_eq_append_getElem (by omega), hn, he]
        · rw [if_neg he]
          right
          refine ⟨_, rfl, .inl ⟨rfl, fun h => he ?_⟩⟩
          subst h; rfl
      · have : k = a.length := by omega
        subst this
        right
        refine ⟨_, he, .inr ⟨rfl, ?_⟩⟩
        rw [List.take_length, hl, List.take_length] at hn
        exact hn) a.length 0 ⟨0, rfl, by omega, by omega, by simp⟩
  obtain ⟨c, hc, ⟨rfl, h⟩ | ⟨rfl, h⟩⟩ := key
  · rw [hc]; simp [h]
  · rw [hc]; simp [h]
theorem law03_same_eq {a b : List Int} (ha : a.length ≤ maxLen) : M.anamnesislaw03_same a b = some (decide (a = b)) := by
  have hm : maxLen = 9223372036854775807 := rfl
  unfold M.anamnesislaw03_same
  by_cases hl : a.length = b.length
  · rw [if_neg (by simp [hl])]
    refine same_step hl ha (fun k h => ?_) ?_
    · unfold M.anamnesislaw03_same_L1
      simp only [show decide ((k : Int) < (a.length : Int)) = true from by simp; exact h, if_true, idx_get h, idx_get (hl ▸ h : k < b.length), Option.bind_some]
      by_cases he : a[k] = b[k]'(hl ▸ h)
      · rw [if_pos he, if_neg (by simp [he]), w64_id (by omega) (by omega)]
      · rw [if_neg he, if_pos (by simp [he])]
    · unfold M.anamnesislaw03_same_L1; simp
  · rw [if_pos (by simp; omega)]
    have : a ≠ b := fun h => hl (by rw [h])
    simp [this]
theorem ref03_same_eq {a b : List Int} (ha : a.length ≤ maxLen) : M.anamnesisref03_same a b = some (decide (a = b)) := by
  have hm : maxLen = 9223372036854775807 := rfl
  unfold M.anamnesisref03_same
  by_cases hl : a.length = b.length
  · rw [if_neg (by simp [hl])]
    refine same_step hl ha (fun k h => ?_) ?_
    · unfold M.anamnesisref03_same_L1
      simp only [show decide ((k : Int) < (a.length : Int)) = true from by simp; exact h, if_true, idx_get h, idx_get (hl ▸ h : k < b.length), Option.bind_some]
      by_cases he : a[k] = b[k]'(hl ▸ h)
      · rw [if_pos he, if_neg (by simp [he]), w64_id (by omega) (by omega)]
      · rw [if_neg he, if_pos (by simp [he])]
    · unfold M.anamnesisref03_same_L1; simp
  · rw [if_pos (by simp; omega)]
    have : a ≠ b := fun h => hl (by rw [h])
    simp [this]
/-- by Horner. -/
def hor : List Int → List Int → Int → Int
  | x :: s, a :: at_, acc => hor s at_ (acc * x + a)
  | _, _, acc => acc
theorem hor_eq : ∀ {s at_ : List Int}, at_.length = s.length → ∀ acc, hor s at_ acc = acc * prod s + off s at_
  | [], [], _, acc => by simp [hor, prod, off]
  | x :: s, a :: at_, h, acc => by
    simp only [hor, prod, off]
    rw [hor_eq (by simpa using h), Int.add_mul, Int.mul_assoc, Int.add_assoc]
  | [], _ :: _, h, _ => by simp at h
  | _ :: _, [], h, _ => by simp at h
theorem hor_snoc : ∀ {s at_ : List Int} {x a acc : Int}, at_.length = s.length → hor (s ++ [x]) (at_ ++ [a]) acc = hor s at_ acc * x + a
  | [], [], x, a, acc, _ => by simp [hor]
  | y :: s, b :: at_, x, a, acc, h => by
    simp only [List.cons_append, hor]
    exact hor_snoc (by simpa using h)
  | [], _ :: _, _, _, _, h => by simp at h
  | _ :: _, [], _, _, _, h => by simp at h
theorem inShape_snoc : ∀ {s at_ : List Int} {x a : Int}, at_.length = s.length → (inShape (s ++ [x]) (at_ ++ [a]) ↔ inShape s at_ ∧ 0 ≤ a ∧ a < x)
  | [], [], x, a, _ => by simp [inShape]
  | y :: s, b :: at_, x, a, h => by
    simp only [List.cons_append, inShape]
    rw [inShape_snoc (by simpa using h)]
    constructor
    · rintro ⟨h1, h2, h3, h4, h5⟩; exact ⟨⟨h1, h2, h3⟩, h4, h5⟩
    · rintro ⟨⟨h1, h2, h3⟩, h4, h5⟩; exact ⟨h1, h2, h3, h4, h5⟩
  | [], _ :: _, _, _, h => by simp at h
  | _ :: _, [], _, _, h => by simp at h
theorem inShape_take {s at_ : List Int} (h : inShape s at_) : ∀ k, inShape (s.take k) (at_.take k) := by
  intro k
  induction k generalizing s at_ with
  | zero => simp [inShape]
  | succ k ih =>
    match s, at_, h with
    | [], [], _ => simp [inShape]
    | x :: s, a :: at_, ⟨h1, h2, h3⟩ => exact ⟨h1, h2, ih h3⟩
theorem prod_le_take {s : List Int} (h : shOk s) (k : Nat) : 0 ≤ prod (s.take k) ∧ prod (s.take k) ≤ 10000 ^ 4 :=
  prod_bound (s.take k) 4 (by have := h.1; rw [List.length_take]; omega) (fun x hx => h.2.1 x (List.mem_of_mem_take hx))

theorem shape_Offset_eq {s at_ : List Int} (hl : s.length ≤ maxLen) (hl' : at_.length ≤ maxLen) :
    M.shape_Offset s at_ = some (if shOk s ∧ inShape s at_ then (off s at_, true) else (0, false)) := by
  have hm : maxLen = 9223372036854775807 := rfl
  unfold M.shape_Offset
  by_cases hlen : at_.length = s.length
  · rw [if_neg (by simp [hlen]), sized_eq hl]
    simp only [Option.bind_some]
    rcases shSize_cases s with ⟨hok, he⟩ | ⟨hok, he, _⟩
    · rw [he]
      simp only [beq_self_eq_true, Bool.not_true, Bool.false_eq_true, if_false]
      have key := wloop_ind (f := M.shape_Offset_L1 s at_)
        (fun n st => ∃ k : Nat, st = (hor (s.take k) (at_.take k) 0, (k : Int)) ∧ k ≤ s.length ∧ n = s.length - k ∧ inShape (s.take k) (at_.take k))
        (fun b => (b = .done (0, false) ∧ ¬ inShape s at_) ∨ (b = .next (off s at_) ∧ inShape s at_)) (fun n st h => by
          obtain ⟨k, rfl, hk, rfl, hin⟩ := h
          unfold M.shape_Offset_L1
          by_cases hlt : k < s.length
          · have hlt' : k < at_.length := by omega
            have e1 := List.take_succ_eq_append_getElem hlt
            have e2 := List.take_succ_eq_append_getElem hlt'
            have hlk : (at_.take k).length = (s.take k).length := by simp [hlen]
            simp only [show decide ((k : Int) < (at_.length : Int)) = true from by simp; exact hlt', if_true, idx_get hlt, idx_get hlt', Option.bind_some]
            have hx := hok.2.1 _ (List.getElem_mem hlt)
            by_cases h0 : at_[k] < 0
            · right
              simp only [show decide (at_[k] < 0) = true from by simpa using h0, if_true, Option.bind_some]
              refine ⟨_, rfl, .inl ⟨rfl, fun hh => ?_⟩⟩
              have := inShape_take hh (k + 1)
              rw [e1, e2, inShape_snoc hlk] at this
              omega
            · simp only [show decide (at_[k] < 0) = false from by simpa using h0, Bool.false_eq_true, if_false, Option.bind_some]
              by_cases h1 : at_[k] ≥ s[k]
              · right
                simp only [show decide (at_[k] ≥ s[k]) = true from by simpa using h1, if_true]
                refine ⟨_, rfl, .inl ⟨rfl, fun hh => ?_⟩⟩
                have := inShape_take hh (k + 1)
                rw [e1, e2, inShape_snoc hlk] at this
                omega
              · left
                simp only [show decide (at_[k] ≥ s[k]) = false from by simpa using h1, Bool.false_eq_true, if_false]
                have hin2 : inShape (s.take (k + 1)) (at_.take (k + 1)) := by rw [e1, e2, inShape_snoc hlk]; exact ⟨hin, by omega, by omega⟩
                have r1 := off_range hin
                have p1 := prod_bound (s.take k) 3 (by have := hok.1; rw [List.length_take]; omega) (fun x hx => hok.2.1 x (List.mem_of_mem_take hx))
                have h6 : hor (s.take k) (at_.take k) 0 * s[k] ≤ 10000 ^ 3 * 10000 := by
                  rw [hor_eq hlk]
                  exact Int.mul_le_mul (by omega) (by omega) (by omega) (by omega)
                have h7 : 0 ≤ hor (s.take k) (at_.take k) 0 * s[k] := by
                  rw [hor_eq hlk]
                  exact Int.mul_nonneg (by omega) (by omega)
                refine ⟨_, s.length - (k + 1), rfl, by omega, k + 1, ?_, by omega, rfl, hin2⟩
                rw [e1, e2, hor_snoc hlk, w64_id (x := _ * _) (by omega) (by omega), w64_id (by omega) (by omega), w64_id (by omega) (by omega)]
                simp
          · have : k = s.length := by omega
            subst this
            right
            have e3 : at_.take s.length = at_ := by rw [← hlen]; exact List.take_length
            rw [List.take_length, e3] at hin ⊢
            simp only [show decide ((s.length : Int) < (at_.length : Int)) = false from by simp [hlen], Bool.false_eq_true, if_false]
            refine ⟨_, rfl, .inr ⟨?_, hin⟩⟩
            rw [hor_eq hlen]; simp)
        s.length (0, 0) ⟨0, by simp [hor], by omega, by omega, by simp [inShape]⟩
      obtain ⟨b, hb, ⟨rfl, h⟩ | ⟨rfl, h⟩⟩ := key
      · rw [hb, if_neg (fun hh => h hh.2)]; rfl
      · rw [hb, if_pos ⟨hok, h⟩]; rfl
    · have : ((shSize s).2 == 0) = false := by simpa using he
      rw [this, if_pos (by rfl), if_neg (fun hh => hok hh.1)]
  · rw [if_pos (by simp; omega), if_neg (fun hh => hlen hh.2.len)]
    simp
theorem drop_cons {α : Type} {l : List α} {k : Nat} (h : k < l.length) : l.drop k = l[k] :: l.drop (k + 1) := List.drop_eq_getElem_cons h
theorem emod_mul_ediv {k x P : Int} (hx : 0 < x) (hP : 0 < P) : k % (x * P) / P = k / P % x := by
  have h1 := Int.mul_ediv_add_emod k P
  have h2 := Int.mul_ediv_add_emod (k / P) x
  have h3 := Int.emod_nonneg k (show P ≠ 0 by omega)
  have h4 := Int.emod_lt_of_pos k hP
  have h5 := Int.emod_nonneg (k / P) (show x ≠ 0 by omega)
  have h6 := Int.emod_lt_of_pos (k / P) hx
  have e : k % (x * P) = (k / P % x) * P + k % P := by
    have e0 : k = ((k / P % x) * P + k % P) + (x * P) * (k / P / x) := by
      generalize k / P % x = u at *
      generalize k / P / x = t at *
      generalize k / P = q at *
      generalize k % P = r at *
      grind
    have hlt : (k / P % x) * P + k % P < x * P := by
      have : (k / P % x + 1) * P ≤ x * P := Int.mul_le_mul_of_nonneg_right (by omega) (by omega)
      rw [Int.add_mul] at this; omega
    have h0 : 0 ≤ (k / P % x) * P := Int.mul_nonneg h5 (by omega)
    conv => lhs; rw [e0]
    rw [Int.add_mul_emod_self_left]
    exact Int.emod_eq_of_lt (by omega) hlt
  rw [e, Int.add_comm, Int.add_mul_ediv_right _ _ (by omega), Int.ediv_eq_zero_of_lt h3 h4]
  simp
theorem shape_At_eq {s : List Int} {k : Int} (hl : s.length ≤ maxLen) (hk : -9223372036854775808 ≤ k ∧ k ≤ 9223372036854775807) :
    M.shape_At s k = some (if shOk s ∧ 0 ≤ k ∧ k < prod s then (dig s k, true) else ([], false)) := by
  have hm : maxLen = 9223372036854775807 := rfl
  unfold M.shape_At
  rw [shape_Size_eq hl]
  simp only [Option.bind_some]
  rcases shSize_cases s with ⟨hok, he⟩ | ⟨hok, he, _⟩
  · rw [he]
    by_cases hk0 : 0 ≤ k ∧ k < prod s
    · rw [if_neg (by simp; omega), if_pos ⟨hok, hk0⟩]
      have hpos : allPos s := allPos_of (fun x hx => (hok.2.1 x hx).1) (by omega)
      rw [mk_ok (by have := hok.1; omega) (by have := hok.1; omega), Option.bind_some]
      have key := wloop_ind (f := M.shape_At_L1 s)
        (fun n st => ∃ j : Nat, n = j ∧ j ≤ s.length ∧ st = (k / prod (s.drop j), (j : Int) - 1, List.replicate j 0 ++ dig (s.drop j) (k % prod (s.drop j))))
        (fun b => b = .next (dig s k)) (fun n st h => by
          obtain ⟨j, rfl, hj, rfl⟩ := h
          unfold M.shape_At_L1
          cases n with
          | zero =>
            right
            simp only [List.drop_zero, List.replicate_zero, List.nil_append]
            refine ⟨_, ?_, rfl⟩
            simp [Int.emod_eq_of_lt hk0.1 hk0.2]
          | succ j =>
            left
            have hlt : j < s.length := by omega
            have hjj : ((j + 1 : Nat) : Int) - 1 = (j : Int) := by omega
            have hP : 0 < prod (s.drop (j + 1)) := allPos.pprod (fun x hx => hpos x (List.mem_of_mem_drop hx))
            have hx : 0 < s[j] := hpos _ (List.getElem_mem hlt)
            have hq : 0 ≤ k / prod (s.drop (j + 1)) := Int.ediv_nonneg hk0.1 (by omega)
            have hq2 : k / prod (s.drop (j + 1)) ≤ k := Int.ediv_le_self _ hk0.1
            have hlen : j < (List.replicate (j + 1) (0 : Int) ++ dig (s.drop (j + 1)) (k % prod (s.drop (j + 1)))).length := by simp; omega
            have hprod : prod (s.drop j) = s[j] * prod (s.drop (j + 1)) := by rw [drop_cons hlt]; rfl
            rw [hjj]
            simp only [show decide ((j : Int) ≥ 0) = true from decide_eq_true (by omega), if_true, idx_get hlt, idx_get hlen, upd_nat hlen, Option.bind_some]
            have e1 : remI (k / prod (s.drop (j + 1))) s[j] = some ((k / prod (s.drop (j + 1))) % s[j]) := by
              unfold remI; rw [if_neg (by omega), Int.tmod_eq_emod_of_nonneg hq]
            have e2 : quoI .i64 (k / prod (s.drop (j + 1))) s[j] = some ((k / prod (s.drop (j + 1))) / s[j]) := by
              have h3 : (k / prod (s.drop (j + 1))) / s[j] ≤ k / prod (s.drop (j + 1)) := Int.ediv_le_self _ hq
              have h4 : 0 ≤ (k / prod (s.drop (j + 1))) / s[j] := Int.ediv_nonneg hq (by omega)
              unfold quoI; rw [if_neg (by omega), Int.tdiv_eq_ediv_of_nonneg hq, w64_id (by omega) (by omega)]
            rw [e1, e2]
            simp only [Option.bind_some]
            refine ⟨_, j, rfl, by omega, j, rfl, by omega, ?_⟩
            rw [w64_id (by omega) (by omega), hprod]
            refine Prod.ext ?_ (Prod.ext rfl ?_)
            · simp only
              rw [Int.ediv_ediv_of_nonneg (by omega), Int.mul_comm]
            · simp only
              rw [List.set_append_left _ _ (by simp), List.replicate_succ', List.set_append_right _ _ (by simp), List.length_replicate, Nat.sub_self]
              simp only [List.set_cons_zero, List.append_assoc, List.singleton_append]
              congr 1
              rw [drop_cons hlt]
              simp only [dig]
              have e3 : k % (s[j] * prod (s.drop (j + 1))) / prod (s.drop (j + 1)) = k / prod (s.drop (j + 1)) % s[j] := by
                exact emod_mul_ediv hx hP
              have e4 : k % (s[j] * prod (s.drop (j + 1))) % prod (s.drop (j + 1)) = k % prod (s.drop (j + 1)) := Int.emod_emod_of_dvd _ ⟨s[j], Int.mul_comm _ _⟩
              rw [e3, e4])
        s.length (k, (s.length : Int) - 1, List.replicate s.length 0) ⟨s.length, rfl, by omega, by simp [prod, dig]⟩
      obtain ⟨b, hb, rfl⟩ := key
      rw [w64_id (by have := hok.1; omega) (by have := hok.1; omega), hb]; rfl
    · rw [if_pos (by simp; omega), if_neg (fun h => hk0 h.2)]
  · have : ((shSize s).2 != 0) = true := by simpa using he
    rw [if_pos (by rw [this]; rfl), if_neg (fun h => hok h.1)]
/-- the place behind one, and is it the first one again? -/
def nxt : List Int → List Int → Bool × List Int
  | x :: s, a :: at_ => bif (nxt s at_).1 then (bif decide (a + 1 < x) then (false, (a + 1) :: (nxt s at_).2) else (true, 0 :: (nxt s at_).2)) else (false, a :: (nxt s at_).2)
  | _, _ => (true, [])
theorem nxt_len : ∀ {s at_ : List Int}, at_.length = s.length → (nxt s at_).2.length = s.length
  | [], [], _ => rfl
  | x :: s, a :: at_, h => by
    have := nxt_len (s := s) (at_ := at_) (by simpa using h)
    simp only [nxt]
    cases (nxt s at_).1 <;> cases decide (a + 1 < x) <;> simp [this]
  | [], _ :: _, h => by simp at h
  | _ :: _, [], h => by simp at h
theorem nxt_dig : ∀ {s : List Int} {k : Int}, allPos s → 0 ≤ k → k < prod s → nxt s (dig s k) = (decide (k + 1 = prod s), dig s ((k + 1) % prod s))
  | [], k, _, h0, h1 => by
    obtain rfl : k = 0 := by simp [prod] at h1; omega
    rfl
  | x :: s, k, h, h0, h1 => by
    have hs : allPos s := fun y hy => h y (List.mem_cons_of_mem _ hy)
    have hx := h x List.mem_cons_self
    have hp := hs.pprod
    simp only [prod] at h1
    have hr0 := Int.emod_nonneg k (show prod s ≠ 0 by omega)
    have hr1 := Int.emod_lt_of_pos k hp
    have hq0 : 0 ≤ k / prod s := Int.ediv_nonneg h0 (by omega)
    have hq1 : k / prod s < x := Int.ediv_lt_of_lt_mul hp h1
    have hdm := Int.mul_ediv_add_emod k (prod s)
    have ih := nxt_dig hs hr0 hr1
    simp only [nxt, dig, ih, prod]
    by_cases hc : (k % prod s) + 1 = prod s
    · simp only [hc, decide_true, cond_true, Int.emod_self]
      have ek : k + 1 = prod s * ((k / prod s) + 1) := by rw [Int.mul_add]; omega
      by_cases hl : (k / prod s) + 1 < x
      · simp only [show decide ((k / prod s) + 1 < x) = true from by simpa using hl, cond_true]
        have hlt : k + 1 < x * prod s := by
          rw [ek, Int.mul_comm]; exact Int.mul_lt_mul_of_pos_right hl hp
        rw [Int.emod_eq_of_lt (by omega) hlt, ek, Int.mul_ediv_cancel_left _ (by omega), Int.mul_emod_right]
        have : ¬ (prod s * ((k / prod s) + 1) = x * prod s) := by rw [← ek]; omega
        simp [this]
      · have hqx : (k / prod s) + 1 = x := by omega
        simp only [show decide ((k / prod s) + 1 < x) = false from by simpa using hl, cond_false]
        have e2 : k + 1 = x * prod s := by rw [ek, hqx, Int.mul_comm]
        rw [e2, Int.emod_self]
        simp
    · simp only [show decide ((k % prod s) + 1 = prod s) = false from by simpa using hc, cond_false]
      have hr2 : (k % prod s) + 1 < prod s := by omega
      have ek : k + 1 = prod s * (k / prod s) + ((k % prod s) + 1) := by omega
      have hlt : k + 1 < x * prod s := by
        have : prod s * ((k / prod s) + 1) ≤ x * prod s := by rw [Int.mul_comm]; exact Int.mul_le_mul_of_nonneg_right (by omega) (by omega)
        rw [Int.mul_add] at this; omega
      rw [Int.emod_eq_of_lt (by omega) hlt, Int.emod_eq_of_lt (by omega) hr2, ek]
      rw [Int.add_comm (prod s * (k / prod s)), Int.add_mul_ediv_left _ _ (by omega), Int.add_mul_emod_self_left, Int.emod_eq_of_lt (by omega) hr2, Int.ediv_eq_zero_of_lt (by omega) hr2]
      have : ¬ ((k % prod s) + 1 + prod s * (k / prod s) = x * prod s) := by omega
      simp [this]

theorem set_mid {a b : List Int} {x y : Int} : (a ++ x :: b).set a.length y = a ++ y :: b := by
  rw [List.set_append_right _ _ (by omega), Nat.sub_self]; rfl
theorem ref03_Next_eq {s at_ : List Int} (hl : s.length ≤ 4) (hlen : at_.length = s.length) (hb : ∀ x ∈ at_, 0 ≤ x ∧ x ≤ 10000) : M.anamnesisref03_Next s at_ = some (nxt s at_).2 := by
  unfold M.anamnesisref03_Next
  rw [app_ok (by simp; omega), Option.bind_some, List.nil_append]
  have key := wloop_ind (f := M.anamnesisref03_Next_L1 s)
    (fun n st => ∃ j : Nat, n = j ∧ j ≤ s.length ∧ st = ((j : Int) - 1, at_.take j ++ (nxt (s.drop j) (at_.drop j)).2) ∧ (nxt (s.drop j) (at_.drop j)).1 = true)
    (fun b => b = .done (nxt s at_).2 ∨ b = .next (nxt s at_).2) (fun n st h => by
      obtain ⟨j, rfl, hj, rfl, hc⟩ := h
      unfold M.anamnesisref03_Next_L1
      cases n with
      | zero =>
        right
        simp only [List.drop_zero, List.take_zero, List.nil_append]
        exact ⟨.next (nxt s at_).2, by simp, .inr rfl⟩
      | succ j =>
        have hlt : j < s.length := by omega
        have hlt' : j < at_.length := by omega
        have hjj : ((j + 1 : Nat) : Int) - 1 = (j : Int) := by omega
        have ea : at_.take (j + 1) = at_.take j ++ [at_[j]] := List.take_succ_eq_append_getElem hlt'
        have hb' := hb _ (List.getElem_mem hlt')
        have htl : (at_.take j).length = j := by simp; omega
        have e0 : at_.take (j + 1) ++ (nxt (s.drop (j + 1)) (at_.drop (j + 1))).2 = at_.take j ++ at_[j] :: (nxt (s.drop (j + 1)) (at_.drop (j + 1))).2 := by rw [ea, List.append_assoc]; rfl
        have eidx : ∀ (y : Int) (t : List Int), idx (at_.take j ++ y :: t) (j : Int) = some y := by
          intro y t
          rw [idx_nat, List.getElem?_append_right (by omega), htl, Nat.sub_self]; rfl
        have eupd : ∀ (y z : Int) (t : List Int), upd (at_.take j ++ y :: t) (j : Int) z = some (at_.take j ++ z :: t) := by
          intro y z t
          rw [upd_nat (by simp; omega)]
          congr 1
          have := set_mid (a := at_.take j) (b := t) (x := y) (y := z)
          rwa [htl] at this
        have en : nxt (s.drop j) (at_.drop j) = (bif decide (at_[j] + 1 < s[j]) then (false, (at_[j] + 1) :: (nxt (s.drop (j + 1)) (at_.drop (j + 1))).2) else (true, 0 :: (nxt (s.drop (j + 1)) (at_.drop (j + 1))).2)) := by
          rw [drop_cons hlt, drop_cons hlt']
          simp only [nxt, hc, cond_true]
        rw [hjj, e0]
        simp only [show decide ((j : Int) ≥ 0) = true from decide_eq_true (by omega), if_true, idx_get hlt, eidx, eupd, Option.bind_some]
        rw [w64_id (x := at_[j] + 1) (by omega) (by omega)]
        have whole : nxt s at_ = nxt (s.drop 0) (at_.drop 0) := rfl
        by_cases hq : at_[j] + 1 < s[j]
        · right
          simp only [show decide (at_[j] + 1 < s[j]) = true from by simpa using hq, if_true]
          refine ⟨_, rfl, .inl ?_⟩
          -- no carry: what lies ahead stays
          have hen : nxt (s.drop j) (at_.drop j) = (false, (at_[j] + 1) :: (nxt (s.drop (j + 1)) (at_.drop (j + 1))).2) := by rw [en]; simp [hq]
          have stay : ∀ i, i ≤ j → nxt (s.drop (j - i)) (at_.drop (j - i)) = (false, (at_.take j).drop (j - i) ++ (nxt (s.drop j) (at_.drop j)).2) := by
            intro i
            induction i with
            | zero => intro _; rw [Nat.sub_zero, hen]; simp [htl]
            | succ i ih =>
              intro hi
              have ih := ih (by omega)
              have h1 : j - (i + 1) < s.length := by omega
              have h2 : j - (i + 1) < at_.length := by omega
              have h3 : j - (i + 1) + 1 = j - i := by omega
              rw [drop_cons h1, drop_cons h2, h3]
              simp only [nxt, ih, cond_false]
              rw [List.drop_eq_getElem_cons (show j - (i + 1) < (at_.take j).length by omega), h3]
              simp
          have := stay j (by omega)
          rw [Nat.sub_self] at this
          simp only [List.drop_zero] at this
          rw [this, hen]
        · left
          simp only [show decide (at_[j] + 1 < s[j]) = false from by simpa using hq, Bool.false_eq_true, if_false]
          have hen : nxt (s.drop j) (at_.drop j) = (true, 0 :: (nxt (s.drop (j + 1)) (at_.drop (j + 1))).2) := by rw [en]; simp [hq]
          refine ⟨_, j, rfl, by omega, j, rfl, by omega, ?_, ?_⟩
          · rw [w64_id (by omega) (by omega), hen]
          · rw [hen])
    s.length ((s.length : Int) - 1, at_) ⟨s.length, rfl, by omega, by rw [List.drop_length, ← hlen, List.drop_length]; simp [nxt], by rw [List.drop_length]; simp [nxt]⟩
  obtain ⟨b, hb, h⟩ := key
  rw [hlen, w64_id (by omega) (by omega), hb]
  rcases h with rfl | rfl <;> rfl

/-- all places. -/
def places (s : List Int) (n : Nat) : List (List Int) := (List.range n).map fun (k : Nat) => dig s (k : Int)
theorem dig_bound {s : List Int} {k : Int} (hok : shOk s) (h0 : 0 ≤ k) (h1 : k < prod s) : ∀ x ∈ dig s k, 0 ≤ x ∧ x ≤ 10000 := by
  have hpos : allPos s := allPos_of (fun x hx => (hok.2.1 x hx).1) (by omega)
  have key : ∀ (s at_ : List Int), inShape s at_ → (∀ x ∈ s, 0 ≤ x ∧ x ≤ 10000) → ∀ x ∈ at_, 0 ≤ x ∧ x ≤ 10000 := by
    intro s
    induction s with
    | nil => intro at_ h _ x hx; cases at_ with | nil => simp at hx | cons _ _ => exact h.elim
    | cons y s ih =>
      intro at_ h hb x hx
      cases at_ with
      | nil => exact h.elim
      | cons a at_ =>
        obtain ⟨h1, h2, h3⟩ := h
        rcases List.mem_cons.mp hx with rfl | hx
        · have := hb y List.mem_cons_self; omega
        · exact ih at_ h3 (fun z hz => hb z (List.mem_cons_of_mem _ hz)) x hx
  exact key s _ (dig_in hpos h0 h1) hok.2.1
theorem dig_zero : ∀ {s : List Int}, allPos s → dig s 0 = List.replicate s.length 0
  | [], _ => rfl
  | x :: s, h => by
    have hs : allPos s := fun y hy => h y (List.mem_cons_of_mem _ hy)
    simp only [dig, Int.zero_ediv, Int.zero_emod, dig_zero hs]; rfl

theorem ref03_Places_eq {s : List Int} (hl : s.length ≤ maxLen) : M.anamnesisref03_Places s = some (if shOk s then places s (prod s).toNat else []) := by
  unfold M.anamnesisref03_Places
  rw [ref03_Size_eq hl]
  simp only [Option.bind_some]
  rcases shSize_cases s with ⟨hok, he⟩ | ⟨hok, he, _⟩
  · rw [he, if_neg (by simp), if_pos hok, mk_ok (by have := hok.1; omega) (by have := hok.1; omega), Option.bind_some]
    have h0 : 0 ≤ prod s := prod_nonneg fun x hx => (hok.2.1 x hx).1
    have hle := hok.2.2
    have key := wloop_ind (f := M.anamnesisref03_Places_L1 s (prod s))
      (fun n st => ∃ k : Nat, n = (prod s).toNat - k ∧ (k : Int) ≤ prod s ∧ ∃ at_, st = (places s k, at_, (k : Int)) ∧ ((k : Int) < prod s → at_ = dig s k))
      (fun b => b = .next (places s (prod s).toNat)) (fun n st h => by
        obtain ⟨k, rfl, hk, at_, rfl, ha⟩ := h
        unfold M.anamnesisref03_Places_L1
        by_cases hlt : (k : Int) < prod s
        · left
          have hpos : allPos s := allPos_of (fun x hx => (hok.2.1 x hx).1) (by omega)
          obtain rfl := ha hlt
          simp only [show decide ((k : Int) < prod s) = true from by simpa using hlt, if_true]
          rw [app_ok (by simp [places]; omega), Option.bind_some, ref03_Next_eq hok.1 (dig_len s k) (dig_bound hok (by omega) hlt), Option.bind_some, w64_id (by omega) (by omega)]
          refine ⟨_, (prod s).toNat - (k + 1), rfl, by omega, k + 1, rfl, by omega, (nxt s (dig s k)).2, ?_, fun h => ?_⟩
          · refine Prod.ext ?_ rfl
            simp only [places]
            rw [List.range_succ, List.map_append]; rfl
          · rw [nxt_dig hpos (by omega) hlt]
            simp only
            rw [Int.emod_eq_of_lt (by omega) (by omega)]; rfl
        · right
          have : k = (prod s).toNat := by omega
          subst this
          simp only [show decide (((prod s).toNat : Int) < prod s) = false from by simp; omega, Bool.false_eq_true, if_false]
          exact ⟨_, rfl, rfl⟩)
      (prod s).toNat ([], List.replicate s.length 0, 0) ⟨0, by omega, by omega, _, rfl, fun h => by
        have hpos : allPos s := allPos_of (fun x hx => (hok.2.1 x hx).1) (by omega)
        exact (dig_zero hpos).symm⟩
    obtain ⟨b, hb, rfl⟩ := key
    rw [hb]; rfl
  · have : ((shSize s).2 != 0) = true := by simpa using he
    rw [this, if_pos rfl, if_neg hok]
theorem places_len (s : List Int) (n : Nat) : (places s n).length = n := by simp [places]
theorem places_get {s : List Int} {n k : Nat} (h : k < n) : (places s n)[k]'(by rw [places_len]; exact h) = dig s (k : Int) := by simp [places]
theorem ref03_Offset_eq {s at_ : List Int} (hl : s.length ≤ maxLen) (hl' : at_.length ≤ maxLen) :
    M.anamnesisref03_Offset s at_ = some (if shOk s ∧ inShape s at_ then (off s at_, true) else (0, false)) := by
  unfold M.anamnesisref03_Offset
  rw [ref03_Places_eq hl, Option.bind_some]
  by_cases hok : shOk s
  · rw [if_pos hok]
    have h0 : 0 ≤ prod s := prod_nonneg fun x hx => (hok.2.1 x hx).1
    have hle := hok.2.2
    have key := wloop_ind (f := M.anamnesisref03_Offset_L1 at_ (places s (prod s).toNat))
      (fun n i => ∃ k : Nat, i = k ∧ n = (prod s).toNat - k ∧ (k : Int) ≤ prod s ∧ ∀ j : Nat, j < k → dig s j ≠ at_)
      (fun b => (inShape s at_ ∧ b = .done (off s at_, true)) ∨ (¬ inShape s at_ ∧ b = .next ())) (fun n i h => by
        obtain ⟨k, rfl, rfl, hk, hno⟩ := h
        unfold M.anamnesisref03_Offset_L1
        by_cases hlt : (k : Int) < prod s
        · have hpos : allPos s := allPos_of (fun x hx => (hok.2.1 x hx).1) (by omega)
          have hkn : k < (prod s).toNat := by omega
          simp only [places_len, show decide ((k : Int) < (((prod s).toNat : Nat) : Int)) = true from decide_eq_true (by omega), if_true, idx_get (show k < (places s (prod s).toNat).length by rw [places_len]; exact hkn), Option.bind_some, places_get hkn]
          rw [ref03_same_eq (by rw [dig_len]; exact hl), Option.bind_some]
          by_cases he : dig s k = at_
          · right
            simp only [he, decide_true, if_true]
            refine ⟨_, rfl, .inl ⟨?_, ?_⟩⟩
            · rw [← he]; exact dig_in hpos (by omega) hlt
            · rw [← he, off_dig hpos (by omega) hlt]
          · left
            simp only [he, decide_false, Bool.false_eq_true, if_false]
            refine ⟨_, (prod s).toNat - (k + 1), rfl, by omega, k + 1, ?_, rfl, by omega, fun j hj => ?_⟩
            · rw [w64_id (by omega) (by omega)]; omega
            · by_cases hjk : j = k
              · subst hjk; exact he
              · exact hno j (by omega)
        · right
          have hk2 : k = (prod s).toNat := by omega
          simp only [places_len, show decide ((k : Int) < (((prod s).toNat : Nat) : Int)) = false from decide_eq_false (by omega), Bool.false_eq_true, if_false]
          refine ⟨_, rfl, .inr ⟨fun hin => ?_, rfl⟩⟩
          have hr := off_range hin
          exact hno (off s at_).toNat (by omega) (by rw [Int.toNat_of_nonneg hr.1]; exact dig_off hin))
      (prod s).toNat 0 ⟨0, rfl, by omega, by omega, fun j hj => by omega⟩
    obtain ⟨b, hb, ⟨hin, rfl⟩ | ⟨hin, rfl⟩⟩ := key
    · rw [hb, if_pos ⟨hok, hin⟩]; rfl
    · rw [hb, if_neg (fun h => hin h.2)]; rfl
  · rw [if_neg hok, if_neg (fun h => hok h.1)]
    rw [wloop_done (b := .next ()) (by unfold M.anamnesisref03_Offset_L1; simp)]
    rfl
theorem ref03_At_eq {s : List Int} {k : Int} (hl : s.length ≤ maxLen) : M.anamnesisref03_At s k = some (if shOk s ∧ 0 ≤ k ∧ k < prod s then (dig s k, true) else ([], false)) := by
  unfold M.anamnesisref03_At
  rw [ref03_Places_eq hl, Option.bind_some]
  by_cases hok : shOk s
  · rw [if_pos hok, places_len]
    have h0 : 0 ≤ prod s := prod_nonneg fun x hx => (hok.2.1 x hx).1
    by_cases hk : 0 ≤ k ∧ k < prod s
    · rw [if_neg (by simp; omega), if_pos ⟨hok, hk⟩]
      obtain ⟨j, rfl⟩ : ∃ j : Nat, k = j := ⟨k.toNat, by omega⟩
      have hj : j < (prod s).toNat := by omega
      rw [idx_get (by rw [places_len]; exact hj), Option.bind_some, places_get hj]
    · rw [if_pos (by simp; omega), if_neg (fun h => hk h.2)]
  · rw [if_neg hok, if_pos (by simp; omega), if_neg (fun h => hok h.1)]
theorem shapePlaces_true (s at_ : List Int) (k : Int) (gs : ∀ x ∈ s, (Lit.int .i64 x).wf = true) (hs : s.length ≤ maxLen) (ga : ∀ x ∈ at_, (Lit.int .i64 x).wf = true) (ha : at_.length ≤ maxLen) (gk : (Lit.int .i64 k).wf = true) :
    M.anamnesislaw03_ShapePlaces s at_ k = some true := by
  unfold M.anamnesislaw03_ShapePlaces
  rw [ref03_Size_eq hs]
  simp only [Option.bind_some]
  split
  · rfl
  · rw [shape_Offset_eq hs ha, ref03_Offset_eq hs ha]
    have hr : ∀ (p : Prop) [Decidable p] (a : Int × Bool) (b : Int × Bool), (if p then a else b) = (if p then a else b) := fun _ _ _ _ => rfl
    rw [shape_At_eq hs (wf64 gk), ref03_At_eq hs]
    generalize (if shOk s ∧ inShape s at_ then (off s at_, true) else ((0 : Int), false)) = p
    have hq : (if shOk s ∧ 0 ≤ k ∧ k < prod s then (dig s k, true) else (([] : List Int), false)).1.length ≤ maxLen := by
      split
      · simp only [dig_len]; exact hs
      · simp
    generalize (if shOk s ∧ 0 ≤ k ∧ k < prod s then (dig s k, true) else (([] : List Int), false)) = q at hq ⊢
    obtain ⟨p1, p2⟩ := p
    obtain ⟨q1, q2⟩ := q
    simp [law03_same_eq hq]

end Go.Proofs.Ytlcpnakgolfofaa.shapePlaces
