/- ShapeSplits: what the code that the law reaches computes, as plain functions; and that the law comes to true. -/
import Derived.Test.YtlcpnakgolfofaaAmU
set_option linter.unusedVariables false
set_option linter.unusedSimpArgs false
set_option maxRecDepth 100000
open Go Go.Am
namespace Go.Proofs.Ytlcpnakgolfofaa.shapeSplits
noncomputable def M.slices_IndexFunc__int_L1 (s1 : (List Int)) (f1 : (Int → Option (Bool))) (s : Int) : Option (Ctl (Int) (Ctl (Unit) (Int))) :=
  match s with
  | t1 =>
    if (decide (t1 < (s1.length : Int))) then
      (idx s1 t1).bind fun y1 =>
      (f1 y1).bind fun r1 =>
      if r1 then
        some (.done (.done t1))
      else
        some (.next (IntKind.i64.wrap (t1 + 1)))
    else
      some (.done (.next ()))
noncomputable def M.slices_IndexFunc__int (s1 : (List Int)) (f1 : (Int → Option (Bool))) : Option (Int) :=
  (wloop (M.slices_IndexFunc__int_L1 s1 f1) 0).bind fun k => joinK k fun _ =>
  some (-1)
noncomputable def M.slices_ContainsFunc__int (s1 : (List Int)) (f1 : (Int → Option (Bool))) : Option (Bool) :=
  (M.slices_IndexFunc__int s1 f1).bind fun r1 =>
  some (decide (r1 ≥ 0))
noncomputable def M.shape_Size_1 (n1 : Int) : Option (Bool) :=
  some (decide (n1 < 0))
noncomputable def M.shape_Size_2 (n1 : Int) : Option (Bool) :=
  some (decide (n1 > 10000))
noncomputable def M.shape_product_L1 (s1 : (List Int)) (s : Int × Int) : Option (Ctl (Int × Int) (Ctl (Int) (Int))) :=
  match s with
  | (p1, t1) =>
    if (decide (t1 < (s1.length : Int))) then
      (idx s1 t1).bind fun y1 =>
      some (.next ((IntKind.i64.wrap (p1 * y1)), (IntKind.i64.wrap (t1 + 1))))
    else
      some (.done (.next p1))
noncomputable def M.shape_product (s1 : (List Int)) : Option (Int) :=
  (wloop (M.shape_product_L1 s1) (1, 0)).bind fun k => joinK k fun p1 =>
  some p1
noncomputable def M.shape_Size (s1 : (List Int)) : Option (Int × Int) :=
  if (decide ((s1.length : Int) > 4)) then
    some (0, 24)
  else
    (M.slices_ContainsFunc__int s1 (fun x0 => M.shape_Size_1 x0)).bind fun r1 =>
    if r1 then
      some (0, 1)
    else
      ((M.slices_ContainsFunc__int s1 (fun x0 => M.shape_Size_2 x0)).bind fun r2 =>
      if r2 then
        some r2
      else
        (M.shape_product s1).bind fun r3 =>
        some (decide (r3 > 10000))).bind fun t1 =>
      if t1 then
        some (0, 27)
      else
        (M.shape_product s1).bind fun r4 =>
        some (r4, 0)
noncomputable def M.shape_sized (s1 : (List Int)) : Option (Bool) :=
  (M.shape_Size s1).bind fun (r1, r2) =>
  some (r2 == 0)
noncomputable def M.shape_Split (s1 : (List Int)) (axis1 : Int) : Option (Int × Int × Int × Bool) :=
  (if ((decide (axis1 < 0)) || (decide (axis1 ≥ (s1.length : Int)))) then
  some true else
  (M.shape_sized s1).bind fun r1 =>
  some (!r1)).bind fun c2 =>
  if c2 then
    some (0, 0, 0, false)
  else
    (sub s1 0 axis1).bind fun l1 =>
    (M.shape_product l1).bind fun r2 =>
    (idx s1 axis1).bind fun y1 =>
    (sub s1 (IntKind.i64.wrap (axis1 + 1)) s1.length).bind fun l2 =>
    (M.shape_product l2).bind fun r3 =>
    some (r2, y1, r3, true)
noncomputable def M.slices_Clone__int (s1 : (List Int)) : Option ((List Int)) :=
  app 8 [] s1
noncomputable def M.slices_Delete__int (s1 : (List Int)) (i1 : Int) (j1 : Int) : Option ((List Int)) :=
  del s1 i1 j1
noncomputable def M.shape_Without (s1 : (List Int)) (axis1 : Int) : Option ((List Int)) :=
  (M.slices_Clone__int s1).bind fun r1 =>
  if ((decide (axis1 < 0)) || (decide (axis1 ≥ (s1.length : Int)))) then
    some r1
  else
    (M.slices_Delete__int r1 axis1 (IntKind.i64.wrap (axis1 + 1))).bind fun r2 =>
    some r2
noncomputable def M.anamnesislaw03_ShapeSplits (s1 : (List Int)) (axis1 : Int) : Option (Bool) :=
  if (decide ((s1.length : Int) > 8)) then
    some true
  else
    (M.shape_Size s1).bind fun (r1, r2) =>
    (M.shape_Split s1 axis1).bind fun (r3, r4, r5, r6) =>
    if (!(r6 == (((r2 == 0) && (decide (axis1 ≥ 0))) && (decide (axis1 < (s1.length : Int)))))) then
      some false
    else
      if (!r6) then
        some ((((r3 == 0) && (r4 == 0)) && (r5 == 0)) && true)
      else
        (M.shape_Without s1 axis1).bind fun r7 =>
        (M.shape_Size r7).bind fun (r8, r9) =>
        if (((r9 == 0) && (r8 != (IntKind.i64.wrap (r3 * r5)))) || ((r9 != 0) && (decide ((IntKind.i64.wrap (r3 * r5)) ≤ 10000)))) then
          some false
        else
          (if ((IntKind.i64.wrap ((IntKind.i64.wrap (r3 * r4)) * r5)) == r1) then
          (idx s1 axis1).bind fun y1 =>
          some (r4 == y1) else
          some false).bind fun c9 =>
          some (c9 && true)
theorem w64_id {x : Int} (h1 : -9223372036854775808 ≤ x) (h2 : x ≤ 9223372036854775807) : IntKind.i64.wrap x = x := wrap_id h1 h2
/-- A loop comes to an end in a state with Q: P holds ahead of each round, and its number falls. -/
theorem wloop_ind {σ β : Type} {f : σ → Option (Ctl σ β)} (P : Nat → σ → Prop) (Q : β → Prop)
    (h : ∀ n s, P n s → (∃ s' n', f s = some (.next s') ∧ n' < n ∧ P n' s') ∨ (∃ b, f s = some (.done b) ∧ Q b)) : ∀ n s, P n s → ∃ b, wloop f s = some b ∧ Q b := by
  intro n
  induction n using Nat.strongRecOn with
  | _ n ih =>
    intro s hp
    rcases h n s hp with ⟨s', n', hf, hn, hp'⟩ | ⟨b, hf, hq⟩
    · obtain ⟨b, hb, hq⟩ := ih n' hn s' hp'
      exact ⟨b, by rw [wloop_next hf]; exact hb, hq⟩
    · exact ⟨b, wloop_done hf, hq⟩
theorem idx_nat {α : Type} (l : List α) (k : Nat) : idx l (k : Int) = l[k]? := by
  unfold idx; rw [if_pos (by omega)]; rfl
theorem idx_get {α : Type} {l : List α} {k : Nat} (h : k < l.length) : idx l (k : Int) = some l[k] := by rw [idx_nat, List.getElem?_eq_getElem h]
theorem upd_nat {α : Type} {l : List α} {k : Nat} {x : α} (h : k < l.length) : upd l (k : Int) x = some (l.set k x) := by
  unfold upd; rw [if_pos ⟨by omega, by omega⟩]; rfl
theorem app_ok {α : Type} {b : Nat} {l m : List α} (h : (l.length + m.length) * b ≤ 140737488355328) : app b l m = some (l ++ m) := by
  unfold app; rw [if_pos (.inr h)]
theorem mk_ok {α : Type} {b : Nat} {z : α} {n : Nat} (h : b * n ≤ 140737488355328) (h' : n ≤ 140737488355328) : mk b z (n : Int) (n : Int) = some (List.replicate n z) := by
  unfold mk
  have : ((b : Int) * (n : Int)) ≤ 140737488355328 := by
    have h2 : ((b * n : Nat) : Int) ≤ 140737488355328 := by omega
    rwa [Int.natCast_mul] at h2
  rw [if_pos ⟨by omega, by omega, this, by omega⟩]; rfl
/-- the numbers that a kind has. -/
theorem wf64 {n : Int} (h : (Lit.int .i64 n).wf = true) : -9223372036854775808 ≤ n ∧ n ≤ 9223372036854775807 := by
  have h2 : (decide (IntKind.i64.min ≤ n) && decide (n ≤ IntKind.i64.max)) = true := h
  have e1 : IntKind.i64.min = -9223372036854775808 := by decide
  have e2 : IntKind.i64.max = 9223372036854775807 := by decide
  rw [e1, e2] at h2
  simpa using h2
theorem sub_drop {α : Type} {l : List α} {k : Nat} (h : k ≤ l.length) : sub l (k : Int) (l.length : Int) = some (l.drop k) := by
  unfold sub
  rw [if_pos ⟨by omega, by omega, by omega⟩]
  simp
theorem drop_cons {α : Type} {l : List α} {k : Nat} (h : k < l.length) : l.drop k = l[k] :: l.drop (k + 1) := List.drop_eq_getElem_cons h
def prod : List Int → Int
  | [] => 1
  | x :: s => x * prod s
def off : List Int → List Int → Int
  | x :: s, a :: at_ => a * prod s + off s at_
  | _, _ => 0
def dig : List Int → Int → List Int
  | [], _ => []
  | _ :: s, k => k / prod s :: dig s (k % prod s)
/-- is a place in a shape? -/
def inShape : List Int → List Int → Prop
  | [], [] => True
  | x :: s, a :: at_ => 0 ≤ a ∧ a < x ∧ inShape s at_
  | _, _ => False
instance : (s at_ : List Int) → Decidable (inShape s at_)
  | [], [] => isTrue trivial
  | x :: s, a :: at_ =>
    have := instDecidableInShape s at_
    by unfold inShape; exact inferInstance
  | [], _ :: _ => isFalse (fun h => h)
  | _ :: _, [] => isFalse (fun h => h)
theorem inShape.len : ∀ {s at_ : List Int}, inShape s at_ → at_.length = s.length
  | [], [], _ => rfl
  | x :: s, a :: at_, ⟨_, _, h⟩ => by simp [h.len]
  | [], _ :: _, h => h.elim
  | _ :: _, [], h => h.elim
theorem inShape.pos : ∀ {s at_ : List Int}, inShape s at_ → 0 < prod s
  | [], [], _ => by simp [prod]
  | x :: s, a :: at_, ⟨h0, h1, h⟩ => by
    have := h.pos
    exact Int.mul_pos (by omega) this
  | [], _ :: _, h => h.elim
  | _ :: _, [], h => h.elim
theorem off_range : ∀ {s at_ : List Int}, inShape s at_ → 0 ≤ off s at_ ∧ off s at_ < prod s
  | [], [], _ => by simp [prod, off]
  | x :: s, a :: at_, ⟨h0, h1, h⟩ => by
    have h2 := off_range h
    have h3 := h.pos
    have h4 : (a + 1) * prod s ≤ x * prod s := Int.mul_le_mul_of_nonneg_right (by omega) (by omega)
    have h5 : 0 ≤ a * prod s := Int.mul_nonneg h0 (by omega)
    rw [Int.add_mul] at h4
    simp only [prod, off]
    omega
  | [], _ :: _, h => h.elim
  | _ :: _, [], h => h.elim
theorem dig_off : ∀ {s at_ : List Int}, inShape s at_ → dig s (off s at_) = at_
  | [], [], _ => rfl
  | x :: s, a :: at_, ⟨h0, h1, h⟩ => by
    have h2 := off_range h
    have h3 := h.pos
    simp only [dig, off]
    rw [Int.add_comm, Int.mul_comm, Int.add_mul_ediv_left _ _ (by omega), Int.add_mul_emod_self_left, Int.emod_eq_of_lt h2.1 h2.2, dig_off h, Int.ediv_eq_zero_of_lt h2.1 h2.2]
    simp
  | [], _ :: _, h => h.elim
  | _ :: _, [], h => h.elim
def allPos (s : List Int) : Prop := ∀ x ∈ s, 0 < x
theorem allPos.pprod : ∀ {s : List Int}, allPos s → 0 < prod s
  | [], _ => by simp [prod]
  | x :: s, h => Int.mul_pos (h x List.mem_cons_self) (allPos.pprod fun y hy => h y (List.mem_cons_of_mem _ hy))
theorem allPos_of {s : List Int} (h : ∀ x ∈ s, 0 ≤ x) (hp : 0 < prod s) : allPos s := by
  intro x hx
  have h0 := h x hx
  rcases Int.lt_or_eq_of_le h0 with h1 | h1
  · exact h1
  · exfalso
    have : ∀ s : List Int, (0 : Int) ∈ s → prod s = 0 := by
      intro s
      induction s with
      | nil => intro h; simp at h
      | cons y s ih =>
        intro h
        rcases List.mem_cons.mp h with h | h
        · simp [prod, ← h]
        · simp [prod, ih h]
    rw [this s (h1 ▸ hx)] at hp
    omega
theorem dig_in : ∀ {s : List Int} {k : Int}, allPos s → 0 ≤ k → k < prod s → inShape s (dig s k)
  | [], k, _, h0, h1 => trivial
  | x :: s, k, h, h0, h1 => by
    have hs : allPos s := fun y hy => h y (List.mem_cons_of_mem _ hy)
    have hp := hs.pprod
    refine ⟨Int.ediv_nonneg h0 (by omega), ?_, dig_in hs (Int.emod_nonneg _ (by omega)) (Int.emod_lt_of_pos _ hp)⟩
    exact Int.ediv_lt_of_lt_mul hp h1
theorem off_dig : ∀ {s : List Int} {k : Int}, allPos s → 0 ≤ k → k < prod s → off s (dig s k) = k
  | [], k, _, h0, h1 => by simp [prod] at h1; simp [dig, off]; omega
  | x :: s, k, h, h0, h1 => by
    have hs : allPos s := fun y hy => h y (List.mem_cons_of_mem _ hy)
    have hp := hs.pprod
    simp only [dig, off]
    rw [off_dig hs (Int.emod_nonneg _ (by omega)) (Int.emod_lt_of_pos _ hp)]
    rw [Int.mul_comm]; exact Int.mul_ediv_add_emod k (prod s)
theorem dig_len : ∀ (s : List Int) (k : Int), (dig s k).length = s.length
  | [], _ => rfl
  | x :: s, k => by simp [dig, dig_len s]
theorem prod_nonneg : ∀ {s : List Int}, (∀ x ∈ s, 0 ≤ x) → 0 ≤ prod s
  | [], _ => by simp [prod]
  | x :: s, h => Int.mul_nonneg (h x List.mem_cons_self) (prod_nonneg fun y hy => h y (List.mem_cons_of_mem _ hy))
theorem prod_append : ∀ (s t : List Int), prod (s ++ t) = prod s * prod t
  | [], t => by simp [prod]
  | x :: s, t => by simp [prod, prod_append s t, Int.mul_assoc]

/-- the size of a shape, or the error. -/
def shSize (s : List Int) : Int × Int :=
  if 4 < s.length then (0, 24) else if s.any (fun x => decide (x < 0)) then (0, 1) else if s.any (fun x => decide (x > 10000)) || decide (prod s > 10000) then (0, 27) else (prod s, 0)
def shOk (s : List Int) : Prop := s.length ≤ 4 ∧ (∀ x ∈ s, 0 ≤ x ∧ x ≤ 10000) ∧ prod s ≤ 10000
instance (s : List Int) : Decidable (shOk s) := by unfold shOk; exact inferInstance
theorem shSize_ok {s : List Int} (h : shOk s) : shSize s = (prod s, 0) := by
  obtain ⟨h1, h2, h3⟩ := h
  unfold shSize
  rw [if_neg (by omega), if_neg, if_neg]
  · simp only [Bool.or_eq_true, List.any_eq_true, decide_eq_true_eq]
    rintro (⟨x, hx, h⟩ | h)
    · have := h2 x hx; omega
    · omega
  · simp only [List.any_eq_true, decide_eq_true_eq]
    rintro ⟨x, hx, h⟩
    have := h2 x hx; omega
theorem shSize_zero {s : List Int} : (shSize s).2 = 0 ↔ shOk s := by
  constructor
  · intro h
    unfold shSize at h
    split at h
    · cases h
    · rename_i h1
      split at h
      · cases h
      · rename_i h2
        split at h
        · cases h
        · rename_i h3
          simp only [List.any_eq_true, decide_eq_true_eq, not_exists, not_and] at h2
          simp only [Bool.or_eq_true, List.any_eq_true, decide_eq_true_eq, not_or, not_exists, not_and] at h3
          exact ⟨by omega, fun x hx => ⟨by have := h2 x hx; omega, by have := h3.1 x hx; omega⟩, by omega⟩
  · intro h; rw [shSize_ok h]
theorem shSize_cases (s : List Int) : (shOk s ∧ shSize s = (prod s, 0)) ∨ (¬ shOk s ∧ (shSize s).2 ≠ 0 ∧ (shSize s).1 = 0) := by
  by_cases h : shOk s
  · exact .inl ⟨h, shSize_ok h⟩
  · refine .inr ⟨h, fun hh => h (shSize_zero.mp hh), ?_⟩
    unfold shSize
    split
    · rfl
    · rename_i h1
      split
      · rfl
      · rename_i h2
        split
        · rfl
        · rename_i h3
          exfalso; apply h
          simp only [List.any_eq_true, decide_eq_true_eq, not_exists, not_and] at h2
          simp only [Bool.or_eq_true, List.any_eq_true, decide_eq_true_eq, not_or, not_exists, not_and] at h3
          exact ⟨by omega, fun x hx => ⟨by have := h2 x hx; omega, by have := h3.1 x hx; omega⟩, by omega⟩
theorem dig_bound {s : List Int} {k : Int} (hok : shOk s) (h0 : 0 ≤ k) (h1 : k < prod s) : ∀ x ∈ dig s k, 0 ≤ x ∧ x ≤ 10000 := by
  have hpos : allPos s := allPos_of (fun x hx => (hok.2.1 x hx).1) (by omega)
  have key : ∀ (s at_ : List Int), inShape s at_ → (∀ x ∈ s, 0 ≤ x ∧ x ≤ 10000) → ∀ x ∈ at_, 0 ≤ x ∧ x ≤ 10000 := by
    intro s
    induction s with
    | nil => intro at_ h _ x hx; cases at_ with | nil => simp at hx | cons _ _ => exact h.elim
    | cons y s ih =>
      intro at_ h hb x hx
      cases at_ with
      | nil => exact h.elim
      | cons a at_ =>
        obtain ⟨h1, h2, h3⟩ := h
        rcases List.mem_cons.mp hx with rfl | hx
        · have := hb y List.mem_cons_self; omega
        · exact ih at_ h3 (fun z hz => hb z (List.mem_cons_of_mem _ hz)) x hx
  exact key s _ (dig_in hpos h0 h1) hok.2.1
theorem dig_zero : ∀ {s : List Int}, allPos s → dig s 0 = List.replicate s.length 0
  | [], _ => rfl
  | x :: s, h => by
    have hs : allPos s := fun y hy => h y (List.mem_cons_of_mem _ hy)
    simp only [dig, Int.zero_ediv, Int.zero_emod, dig_zero hs]; rfl

theorem contains_int {s : List Int} {f : Int → Option Bool} {g : Int → Bool} (hf : ∀ x ∈ s, f x = some (g x)) (hl : s.length ≤ 4611686018427387904) : M.slices_ContainsFunc__int s f = some (s.any g) := by
  have key := wloop_ind (f := M.slices_IndexFunc__int_L1 s f) (fun n i => ∃ k : Nat, i = k ∧ k ≤ s.length ∧ n = s.length - k ∧ (s.take k).any g = false)
    (fun b => (∃ i : Int, b = .done i ∧ 0 ≤ i ∧ s.any g = true) ∨ (b = .next () ∧ s.any g = false)) (fun n i h => by
      obtain ⟨k, rfl, hk, rfl, hn⟩ := h
      unfold M.slices_IndexFunc__int_L1
      by_cases hlt : k < s.length
      · simp only [show decide ((k : Int) < (s.length : Int)) = true from by simp; exact hlt, if_true, idx_get hlt, Option.bind_some, hf _ (List.getElem_mem hlt)]
        cases hg : g s[k] with
        | true =>
          right
          refine ⟨_, rfl, .inl ⟨_, rfl, by omega, ?_⟩⟩
          rw [List.any_eq_true]
          exact ⟨_, List.getElem_mem hlt, hg⟩
        | false =>
          left
          refine ⟨_, s.length - (k + 1), rfl, by omega, k + 1, ?_, by omega, rfl, ?_⟩
          · rw [w64_id (by omega) (by omega)]; omega
          · rw [List.take_succ_eq_append_getElem hlt, List.any_append, hn]; simp [hg]
      · have : k = s.length := by omega
        subst this
        right
        simp only [show decide ((s.length : Int) < (s.length : Int)) = false from by simp, Bool.false_eq_true, if_false]
        exact ⟨_, rfl, .inr ⟨rfl, by simpa using hn⟩⟩) s.length 0 ⟨0, rfl, by omega, by omega, by simp⟩
  unfold M.slices_ContainsFunc__int M.slices_IndexFunc__int
  obtain ⟨b, hb, ⟨i, rfl, h0, ha⟩ | ⟨rfl, ha⟩⟩ := key
  · rw [hb, ha]; simp [h0]
  · rw [hb, ha]; simp
theorem one_le_pow : ∀ k : Nat, (1 : Int) ≤ 10000 ^ k
  | 0 => by simp
  | k + 1 => by rw [Int.pow_succ]; have := one_le_pow k; omega
theorem prod_bound : ∀ (s : List Int) (k : Nat), s.length ≤ k → (∀ x ∈ s, 0 ≤ x ∧ x ≤ 10000) → 0 ≤ prod s ∧ prod s ≤ 10000 ^ k
  | [], k, _, _ => ⟨by simp [prod], one_le_pow k⟩
  | x :: s, k + 1, hl, h => by
    have h1 := h x List.mem_cons_self
    have h2 := prod_bound s k (by simpa using hl) (fun y hy => h y (List.mem_cons_of_mem _ hy))
    refine ⟨Int.mul_nonneg h1.1 h2.1, ?_⟩
    simp only [prod]
    have h3 : x * prod s ≤ 10000 * prod s := Int.mul_le_mul_of_nonneg_right h1.2 h2.1
    have h4 : (10000 : Int) ^ (k + 1) = 10000 ^ k * 10000 := Int.pow_succ _ _
    omega
  | x :: s, 0, hl, h => by simp at hl

theorem product_eq {s : List Int} (hl : s.length ≤ 4) (hb : ∀ x ∈ s, 0 ≤ x ∧ x ≤ 10000) : M.shape_product s = some (prod s) := by
  have key := wloop_ind (f := M.shape_product_L1 s) (fun n st => ∃ k : Nat, st = (prod (s.take k), (k : Int)) ∧ k ≤ s.length ∧ n = s.length - k)
    (fun b => b = .next (prod s)) (fun n st h => by
      obtain ⟨k, rfl, hk, rfl⟩ := h
      unfold M.shape_product_L1
      by_cases hlt : k < s.length
      · left
        simp only [show decide ((k : Int) < (s.length : Int)) = true from by simp; exact hlt, if_true, idx_get hlt, Option.bind_some]
        have e : prod (s.take k) * s[k] = prod (s.take (k + 1)) := by
          rw [List.take_succ_eq_append_getElem hlt, prod_append]; simp [prod]
        have hp := prod_bound (s.take (k + 1)) 4 (by rw [List.length_take]; omega) (fun x hx => hb x (List.mem_of_mem_take hx))
        refine ⟨_, s.length - (k + 1), rfl, by omega, k + 1, ?_, by omega, rfl⟩
        rw [e, w64_id (by omega) (by omega), w64_id (by omega) (by omega)]
        simp
      · have : k = s.length := by omega
        subst this
        right
        simp)
    s.length (1, 0) ⟨0, by simp [prod], by omega, by omega⟩
  obtain ⟨b, hb, rfl⟩ := key
  unfold M.shape_product
  rw [hb]; rfl

theorem shape_Size_eq {s : List Int} (hl : s.length ≤ maxLen) : M.shape_Size s = some (shSize s) := by
  have hm : maxLen = 9223372036854775807 := rfl
  unfold M.shape_Size shSize
  by_cases h4 : 4 < s.length
  · rw [if_pos h4, if_pos (by simp; omega)]
  · rw [if_neg h4, if_neg (by simp; omega)]
    rw [contains_int (s := s) (f := fun x0 => M.shape_Size_1 x0) (g := fun x => decide (x < 0)) (fun x _ => rfl) (by omega), Option.bind_some]
    cases hneg : s.any (fun x => decide (x < 0)) with
    | true => simp
    | false =>
      simp only [Bool.false_eq_true, if_false]
      rw [contains_int (s := s) (f := fun x0 => M.shape_Size_2 x0) (g := fun x => decide (x > 10000)) (fun x _ => rfl) (by omega), Option.bind_some]
      cases hbig : s.any (fun x => decide (x > 10000)) with
      | true => simp
      | false =>
        have hb : ∀ x ∈ s, 0 ≤ x ∧ x ≤ 10000 := by
          intro x hx
          simp only [List.any_eq_false, decide_eq_true_eq] at hneg hbig
          have := hneg x hx; have := hbig x hx; omega
        simp only [Bool.false_eq_true, if_false, product_eq (by omega) hb, Option.bind_some, Bool.false_or]
        split <;> simp_all
theorem sized_eq {s : List Int} (hl : s.length ≤ maxLen) : M.shape_sized s = some ((shSize s).2 == 0) := by
  unfold M.shape_sized; rw [shape_Size_eq hl]; rfl
theorem sub_take {α : Type} {l : List α} {k : Nat} (h : k ≤ l.length) : sub l 0 (k : Int) = some (l.take k) := by
  unfold sub
  rw [if_pos ⟨by omega, by omega, by omega⟩]
  simp
/-- what is ahead of an axis, it, what is behind. -/
def splitOf (s : List Int) (axis : Int) : Int × Int × Int × Bool :=
  if h : shOk s ∧ 0 ≤ axis ∧ axis < s.length then (prod (s.take axis.toNat), s[axis.toNat]'(by omega), prod (s.drop (axis.toNat + 1)), true) else (0, 0, 0, false)
theorem shape_Split_eq {s : List Int} {axis : Int} (hl : s.length ≤ maxLen) (ha : -9223372036854775808 ≤ axis ∧ axis ≤ 9223372036854775807) : M.shape_Split s axis = some (splitOf s axis) := by
  have hm : maxLen = 9223372036854775807 := rfl
  unfold M.shape_Split splitOf
  by_cases hr : 0 ≤ axis ∧ axis < s.length
  · have e : (decide (axis < 0) || decide (axis ≥ (s.length : Int))) = false := by
      rw [decide_eq_false (by omega), decide_eq_false (by omega)]; rfl
    rw [e, sized_eq hl]
    simp only [Bool.false_eq_true, if_false, Option.bind_some]
    rcases shSize_cases s with ⟨hok, he⟩ | ⟨hok, he, _⟩
    · obtain ⟨k, rfl⟩ : ∃ k : Nat, axis = k := ⟨axis.toNat, by omega⟩
      have hk : k < s.length := by omega
      have h4 := hok.1
      rw [he, dif_pos ⟨hok, hr⟩]
      simp only [beq_self_eq_true, Bool.not_true, Bool.false_eq_true, if_false]
      rw [sub_take (by omega), Option.bind_some, product_eq (by rw [List.length_take]; omega) (fun x hx => hok.2.1 x (List.mem_of_mem_take hx)), Option.bind_some, idx_get hk, Option.bind_some, w64_id (by omega) (by omega),
        show (k : Int) + 1 = ((k + 1 : Nat) : Int) by omega, sub_drop (by omega), Option.bind_some, product_eq (by rw [List.length_drop]; omega) (fun x hx => hok.2.1 x (List.mem_of_mem_drop hx))]
      rfl
    · have : ((shSize s).2 == 0) = false := by simpa using he
      rw [this, dif_neg (fun h => hok h.1)]
      rfl
  · have e : (decide (axis < 0) || decide (axis ≥ (s.length : Int))) = true := by
      simp; omega
    rw [e, dif_neg (fun h => hr h.2)]
    rfl
/-- a shape without an axis. -/
def wo (s : List Int) (axis : Int) : List Int := if 0 ≤ axis ∧ axis < s.length then s.take axis.toNat ++ s.drop (axis.toNat + 1) else s
theorem shape_Without_eq {s : List Int} {axis : Int} (hl : s.length ≤ 1000000) (ha : -9223372036854775808 ≤ axis ∧ axis ≤ 9223372036854775807) : M.shape_Without s axis = some (wo s axis) := by
  unfold M.shape_Without M.slices_Clone__int wo
  rw [app_ok (by simp; omega), List.nil_append, Option.bind_some]
  by_cases hr : 0 ≤ axis ∧ axis < s.length
  · obtain ⟨k, rfl⟩ : ∃ k : Nat, axis = k := ⟨axis.toNat, by omega⟩
    rw [if_neg (by simp; omega), if_pos hr, w64_id (by omega) (by omega)]
    unfold M.slices_Delete__int del
    rw [if_pos ⟨by omega, by omega, by omega⟩]
    have : ((k : Int) + 1).toNat = k + 1 := by omega
    simp [this]
  · rw [if_pos (by simp; omega), if_neg hr]
theorem wo_prod {s : List Int} {k : Nat} (h : k < s.length) : prod (wo s k) = prod (s.take k) * prod (s.drop (k + 1)) := by
  unfold wo
  rw [if_pos ⟨by omega, by omega⟩, prod_append]; simp
theorem prod_split {s : List Int} {k : Nat} (h : k < s.length) : prod s = prod (s.take k) * s[k] * prod (s.drop (k + 1)) := by
  conv => lhs; rw [← List.take_append_drop k s, drop_cons h, prod_append]
  simp only [prod]
  rw [Int.mul_assoc]
theorem shapeSplits_true (s : List Int) (axis : Int) (gs : ∀ x ∈ s, (Lit.int .i64 x).wf = true) (hs : s.length ≤ maxLen) (ga : (Lit.int .i64 axis).wf = true) : M.anamnesislaw03_ShapeSplits s axis = some true := by
  have ha := wf64 ga
  unfold M.anamnesislaw03_ShapeSplits
  by_cases h8 : (s.length : Int) > 8
  · rw [if_pos (by simpa using h8)]
  rw [if_neg (by simpa using h8), shape_Size_eq hs]
  simp only [Option.bind_some]
  rw [shape_Split_eq hs ha, Option.bind_some]
  unfold splitOf
  by_cases hok : shOk s ∧ 0 ≤ axis ∧ axis < s.length
  · obtain ⟨hok, ha0, ha1⟩ := hok
    rw [dif_pos ⟨hok, ha0, ha1⟩, shSize_ok hok]
    obtain ⟨k, rfl⟩ : ∃ k : Nat, axis = k := ⟨axis.toNat, by omega⟩
    have hk : k < s.length := by omega
    have h4 := hok.1
    simp only [beq_self_eq_true, Bool.true_and, show decide ((k : Int) ≥ 0) = true from decide_eq_true (by omega), show decide ((k : Int) < (s.length : Int)) = true from decide_eq_true (by omega), Bool.not_true, Bool.false_eq_true, if_false, Int.toNat_natCast]
    rw [shape_Without_eq (by omega) ha, Option.bind_some]
    have hwl : (wo s k).length ≤ maxLen := by
      unfold wo; split
      · simp; omega
      · exact hs
    rw [shape_Size_eq hwl]
    simp only [Option.bind_some]
    have b1 := prod_bound (s.take k) 3 (by rw [List.length_take]; omega) (fun x hx => hok.2.1 x (List.mem_of_mem_take hx))
    have b2 := prod_bound (s.drop (k + 1)) 3 (by rw [List.length_drop]; omega) (fun x hx => hok.2.1 x (List.mem_of_mem_drop hx))
    have hx := hok.2.1 _ (List.getElem_mem hk)
    have hww : ∀ x ∈ wo s k, 0 ≤ x ∧ x ≤ 10000 := by
      intro x hx
      unfold wo at hx
      rw [if_pos ⟨by omega, by omega⟩] at hx
      rcases List.mem_append.mp hx with hx | hx
      · exact hok.2.1 x (List.mem_of_mem_take hx)
      · exact hok.2.1 x (List.mem_of_mem_drop hx)
    have hwl3 : (wo s k).length ≤ 3 := by
      unfold wo
      rw [if_pos ⟨by omega, by omega⟩]; simp; omega
    have b3 := prod_bound (wo s k) 3 hwl3 hww
    rw [wo_prod hk] at b3
    have hps := prod_split hk
    have hmul : 0 ≤ prod (s.take k) * s[k] := Int.mul_nonneg b1.1 hx.1
    have hmul2 : prod (s.take k) * s[k] ≤ 10000 ^ 3 * 10000 := Int.mul_le_mul b1.2 hx.2 hx.1 (by omega)
    have hle := hok.2.2
    have hp0 : 0 ≤ prod s := prod_nonneg fun x hx => (hok.2.1 x hx).1
    have w1 := w64_id (x := prod (s.take k) * prod (s.drop (k + 1))) (by omega) (by omega)
    have w2 := w64_id (x := prod (s.take k) * s[k]) (by omega) (by omega)
    have w3 := w64_id (x := prod (s.take k) * s[k] * prod (s.drop (k + 1))) (by rw [← hps]; omega) (by rw [← hps]; omega)
    simp only [w1, w2, w3]
    have hc : (((shSize (wo s k)).2 == 0 && ((shSize (wo s k)).1 != prod (s.take k) * prod (s.drop (k + 1)))) || ((shSize (wo s k)).2 != 0 && decide (prod (s.take k) * prod (s.drop (k + 1)) ≤ 10000))) = false := by
      rcases shSize_cases (wo s k) with ⟨ho, he⟩ | ⟨ho, he, _⟩
      · rw [he, wo_prod hk]; simp
      · have h1 : ((shSize (wo s k)).2 == 0) = false := by simpa using he
        have h2 : ¬ (prod (s.take k) * prod (s.drop (k + 1)) ≤ 10000) := fun h => ho ⟨by omega, hww, by rw [wo_prod hk]; exact h⟩
        rw [h1]; simp [h2]
    rw [hc]
    simp only [Bool.false_eq_true, if_false]
    rw [← hps]
    simp [idx_get hk]
  · rw [dif_neg hok]
    have hz : (((shSize s).2 == 0) && decide (axis ≥ 0) && decide (axis < (s.length : Int))) = false := by
      rcases shSize_cases s with ⟨ho, he⟩ | ⟨ho, he, _⟩
      · by_cases h1 : 0 ≤ axis
        · have h2 : ¬ axis < s.length := fun h => hok ⟨ho, h1, h⟩
          simp [h2]
        · simp [h1]
      · have : ((shSize s).2 == 0) = false := by simpa using he
        rw [this]; rfl
    rw [hz]
    simp

end Go.Proofs.Ytlcpnakgolfofaa.shapeSplits
