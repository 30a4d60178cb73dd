/- RandDeals: what the code that the law reaches computes, as plain functions; and that the law comes to true. -/
import Derived.Test.YtpkfklfakegbjaaAmU
set_option linter.unusedVariables false
set_option linter.unusedSimpArgs false
set_option maxRecDepth 100000
open Go Go.Am
namespace Go.Proofs.Ytpkfklfakegbjaa.randDeals
noncomputable def M.anamnesislaw13_one (n1 : Int) : Option (Val) :=
  some (Val.mk false ([]) ([n1]))
noncomputable def M.value_One (v1 : Val) : Option (Int × Bool) :=
  if (v1.Char || ((v1.Data.length : Int) != 1)) then
    some (0, false)
  else
    (idx v1.Data 0).bind fun y1 =>
    some (y1, true)
noncomputable def M.slices_IndexFunc__int64_L1 (s1 : (List Int)) (f1 : (Int → Option (Bool))) (s : Int) : Option (Ctl (Int) (Ctl (Unit) (Int))) :=
  match s with
  | t1 =>
    if (decide (t1 < (s1.length : Int))) then
      (idx s1 t1).bind fun y1 =>
      (f1 y1).bind fun r1 =>
      if r1 then
        some (.done (.done t1))
      else
        some (.next (IntKind.i64.wrap (t1 + 1)))
    else
      some (.done (.next ()))
noncomputable def M.slices_IndexFunc__int64 (s1 : (List Int)) (f1 : (Int → Option (Bool))) : Option (Int) :=
  (wloop (M.slices_IndexFunc__int64_L1 s1 f1) 0).bind fun k => joinK k fun _ =>
  some (-1)
noncomputable def M.slices_ContainsFunc__int64 (s1 : (List Int)) (f1 : (Int → Option (Bool))) : Option (Bool) :=
  (M.slices_IndexFunc__int64 s1 f1).bind fun r1 =>
  some (decide (r1 ≥ 0))
noncomputable def M.unicode_utf8_ValidRune (r1 : Int) : Option (Bool) :=
  if ((decide (0 ≤ r1)) && (decide (r1 < 55296))) then
    some true
  else
    if ((decide (57343 < r1)) && (decide (r1 ≤ 1114111))) then
      some true
    else
      some false
noncomputable def M.value_character (n1 : Int) : Option (Bool) :=
  (if ((decide (n1 ≥ 0)) && (decide (n1 ≤ 1114111))) then
  (M.unicode_utf8_ValidRune (IntKind.i32.wrap n1)).bind fun r1 =>
  some r1 else
  some false).bind fun c2 =>
  some c2
noncomputable def M.value_Right_1 (n1 : Int) : Option (Bool) :=
  (M.value_character n1).bind fun r1 =>
  some (!r1)
noncomputable def M.value_Right_L1 (v1 : Val) (s : Int × Int) : Option (Ctl (Int × Int) (Ctl (Int) (Bool))) :=
  match s with
  | (size1, t1) =>
    if (decide (t1 < (v1.Shape.length : Int))) then
      (idx v1.Shape t1).bind fun y1 =>
      if ((decide (y1 < 0)) || (decide (y1 > 10000))) then
        some (.done (.done false))
      else
        some (.next ((IntKind.i64.wrap (size1 * y1)), (IntKind.i64.wrap (t1 + 1))))
    else
      some (.done (.next size1))
noncomputable def M.value_Right (v1 : Val) : Option (Bool) :=
  if (decide ((v1.Shape.length : Int) > 4)) then
    some false
  else
    (wloop (M.value_Right_L1 v1) (1, 0)).bind fun k => joinK k fun size1 =>
    if ((decide (size1 > 10000)) || (size1 != (v1.Data.length : Int))) then
      some false
    else
      (if (!v1.Char) then
      some true else
      (M.slices_ContainsFunc__int64 v1.Data (fun x0 => M.value_Right_1 x0)).bind fun r1 =>
      some (!r1)).bind fun c4 =>
      some c4
noncomputable def M.rand_drawn (draws1 : (List Int)) (at1 : Int) (n1 : Int) : Option (Int) :=
  if (decide (at1 ≥ (draws1.length : Int))) then
    some 0
  else
    (idx draws1 at1).bind fun y1 =>
    (remI y1 (IntKind.u64.wrap n1)).bind fun q1 =>
    some (IntKind.i64.wrap q1)
noncomputable def M.slices_Clone__int64 (s1 : (List Int)) : Option ((List Int)) :=
  app 8 [] s1
noncomputable def M.value_Vector (l1 : (List Int)) : Option (Val) :=
  (sub l1 0 (if 10000 < (l1.length : Int) then 10000 else (l1.length : Int))).bind fun l2 =>
  (M.slices_Clone__int64 l2).bind fun r1 =>
  some (Val.mk false ([(r1.length : Int)]) r1)
noncomputable def M.rand_Deal_L2 (draws1 : (List Int)) (at1 : Int) (r1 : Int) (r3 : Int) (s : Int × (List Int)) : Option (Ctl (Int × (List Int)) (Ctl ((List Int)) (Val × Int × Int))) :=
  match s with
  | (t2, l3) =>
    if (decide (t2 < r1)) then
      (M.rand_drawn draws1 (IntKind.i64.wrap (at1 + t2)) (IntKind.i64.wrap (r3 - t2))).bind fun r7 =>
      (idx l3 (IntKind.i64.wrap (t2 + r7))).bind fun y1 =>
      (idx l3 t2).bind fun y2 =>
      (idx l3 t2).bind fun y3 =>
      (upd l3 t2 y1).bind fun l4 =>
      (idx l4 (IntKind.i64.wrap (t2 + r7))).bind fun y4 =>
      (upd l4 (IntKind.i64.wrap (t2 + r7)) y2).bind fun l5 =>
      some (.next ((IntKind.i64.wrap (t2 + 1)), l5))
    else
      some (.done (.next l3))
noncomputable def M.rand_Deal_L1 (r3 : Int) (s : (List Int) × Int) : Option (Ctl ((List Int) × Int) (Ctl ((List Int)) (Val × Int × Int))) :=
  match s with
  | (l1, t1) =>
    if (decide (t1 < r3)) then
      (app 8 l1 ([(IntKind.i64.wrap (t1 + 1))])).bind fun l2 =>
      some (.next (l2, (IntKind.i64.wrap (t1 + 1))))
    else
      some (.done (.next l1))
noncomputable def M.rand_Deal (a1 : Val) (b1 : Val) (draws1 : (List Int)) (at1 : Int) : Option (Val × Int × Int) :=
  (M.value_One a1).bind fun (r1, r2) =>
  (M.value_One b1).bind fun (r3, r4) =>
  (M.value_Right a1).bind fun r5 =>
  (if (!r5) then
  some true else
  (M.value_Right b1).bind fun r6 =>
  some (!r6)).bind fun c1 =>
  if ((c1 || (decide (at1 < 0))) || (decide (at1 > 1099511627776))) then
    some ((Val.mk false ([]) ([])), at1, 1)
  else
    if ((decide ((a1.Shape.length : Int) > 1)) || (decide ((b1.Shape.length : Int) > 1))) then
      some ((Val.mk false ([]) ([])), at1, 24)
    else
      if (((a1.Data.length : Int) != 1) || ((b1.Data.length : Int) != 1)) then
        some ((Val.mk false ([]) ([])), at1, 25)
      else
        if ((((!r2) || (!r4)) || (decide (r1 < 0))) || (decide (r3 < r1))) then
          some ((Val.mk false ([]) ([])), at1, 23)
        else
          if (decide (r3 > 10000)) then
            some ((Val.mk false ([]) ([])), at1, 27)
          else
            (wloop (M.rand_Deal_L1 r3) ([], 0)).bind fun k => joinK k fun l1 =>
            (wloop (M.rand_Deal_L2 draws1 at1 r1 r3) (0, l1)).bind fun k => joinK k fun l3 =>
            (sub l3 0 r1).bind fun l6 =>
            (M.value_Vector l6).bind fun r8 =>
            some (r8, (IntKind.i64.wrap (at1 + r1)), 0)
noncomputable def M.anamnesisref06_Same_L2 (a1 : Val) (b1 : Val) (s : Int) : Option (Ctl (Int) (Ctl (Unit) (Bool))) :=
  match s with
  | i2 =>
    if (decide (i2 < (a1.Data.length : Int))) then
      (idx a1.Data i2).bind fun y3 =>
      (idx b1.Data i2).bind fun y4 =>
      if (y3 != y4) then
        some (.done (.done false))
      else
        some (.next (IntKind.i64.wrap (i2 + 1)))
    else
      some (.done (.next ()))
noncomputable def M.anamnesisref06_Same_L1 (a1 : Val) (b1 : Val) (s : Int) : Option (Ctl (Int) (Ctl (Unit) (Bool))) :=
  match s with
  | i1 =>
    if (decide (i1 < (a1.Shape.length : Int))) then
      (idx a1.Shape i1).bind fun y1 =>
      (idx b1.Shape i1).bind fun y2 =>
      if (y1 != y2) then
        some (.done (.done false))
      else
        some (.next (IntKind.i64.wrap (i1 + 1)))
    else
      some (.done (.next ()))
noncomputable def M.anamnesisref06_Same (a1 : Val) (b1 : Val) : Option (Bool) :=
  if (((!(a1.Char == b1.Char)) || ((a1.Shape.length : Int) != (b1.Shape.length : Int))) || ((a1.Data.length : Int) != (b1.Data.length : Int))) then
    some false
  else
    (wloop (M.anamnesisref06_Same_L1 a1 b1) 0).bind fun k => joinK k fun _ =>
    (wloop (M.anamnesisref06_Same_L2 a1 b1) 0).bind fun k => joinK k fun _ =>
    some true
noncomputable def M.anamnesislaw13_vec (l1 : (List Int)) : Option (Val) :=
  some (Val.mk false ([(l1.length : Int)]) l1)
noncomputable def M.anamnesislaw13_RandDeals_L2 (b1 : Int) (q1 : Int) (r3 : Val) (s : Int × (List Bool)) : Option (Ctl (Int × (List Bool)) (Ctl (Unit) (Bool))) :=
  match s with
  | (i2, l4) =>
    if (decide (i2 < q1)) then
      (idx r3.Data i2).bind fun y2 =>
      (if ((decide (y2 < 1)) || (decide (y2 > (IntKind.i64.wrap (Int.tmod b1 61))))) then
      some true else
      (idx l4 y2).bind fun y3 =>
      some y3).bind fun c8 =>
      if c8 then
        some (.done (.done false))
      else
        (idx l4 y2).bind fun y4 =>
        (upd l4 y2 true).bind fun l5 =>
        some (.next ((IntKind.i64.wrap (i2 + 1)), l5))
    else
      some (.done (.next ()))
noncomputable def M.anamnesislaw13_RandDeals_L1 (draws1 : (List Int)) (q1 : Int) (s : (List Int) × Int) : Option (Ctl ((List Int) × Int) (Ctl ((List Int)) (Bool))) :=
  match s with
  | (used1, i1) =>
    if (decide (i1 < q1)) then
      (if (decide (i1 < (draws1.length : Int))) then
        (idx draws1 i1).bind fun y1 =>
        some y1
      else
        some 0).bind fun d1 =>
      (app 8 used1 ([d1])).bind fun l1 =>
      some (.next (l1, (IntKind.i64.wrap (i1 + 1))))
    else
      some (.done (.next used1))
noncomputable def M.anamnesislaw13_RandDeals (a1 : Int) (b1 : Int) (draws1 : (List Int)) (behind1 : (List Int)) : Option (Bool) :=
  (remI (IntKind.i64.wrap a1) (IntKind.i64.wrap ((IntKind.i64.wrap (Int.tmod b1 61)) + 1))).bind fun q1 =>
  (wloop (M.anamnesislaw13_RandDeals_L1 draws1 q1) ([], 0)).bind fun k => joinK k fun used1 =>
  (M.anamnesislaw13_one q1).bind fun r1 =>
  (M.anamnesislaw13_one (IntKind.i64.wrap (Int.tmod b1 61))).bind fun r2 =>
  (M.rand_Deal r1 r2 draws1 0).bind fun (r3, r4, r5) =>
  (M.anamnesislaw13_one q1).bind fun r6 =>
  (M.anamnesislaw13_one (IntKind.i64.wrap (Int.tmod b1 61))).bind fun r7 =>
  (app 8 used1 behind1).bind fun l2 =>
  (M.rand_Deal r6 r7 l2 0).bind fun (r8, r9, r10) =>
  (if ((((r5 != 0) || (r10 != 0)) || (r4 != q1)) || ((r3.Data.length : Int) != q1)) then
  some true else
  (M.anamnesisref06_Same r3 r8).bind fun r11 =>
  some (!r11)).bind fun c5 =>
  if c5 then
    some false
  else
    (mk 1 (false : Bool) (IntKind.i64.wrap ((IntKind.i64.wrap (Int.tmod b1 61)) + 1)) (IntKind.i64.wrap ((IntKind.i64.wrap (Int.tmod b1 61)) + 1))).bind fun l3 =>
    (wloop (M.anamnesislaw13_RandDeals_L2 b1 q1 r3) (0, l3)).bind fun k => joinK k fun _ =>
    (M.anamnesislaw13_one (IntKind.i64.wrap (Int.tdiv q1 2))).bind fun r12 =>
    (M.anamnesislaw13_one (IntKind.i64.wrap (Int.tmod b1 61))).bind fun r13 =>
    (M.rand_Deal r12 r13 draws1 0).bind fun (r14, r15, r16) =>
    (if (r16 == 0) then
    (sub r3.Data 0 (IntKind.i64.wrap (Int.tdiv q1 2))).bind fun l6 =>
    (M.anamnesislaw13_vec l6).bind fun r17 =>
    (M.anamnesisref06_Same r14 r17).bind fun r18 =>
    some r18 else
    some false).bind fun c9 =>
    some (c9 && true)
theorem w64_id {x : Int} (h1 : -9223372036854775808 ≤ x) (h2 : x ≤ 9223372036854775807) : IntKind.i64.wrap x = x := wrap_id h1 h2
theorem u8_mod (x : Int) : IntKind.u8.wrap x = x % 256 := by simp [IntKind.wrap, IntKind.bits, IntKind.signed]
theorem u8_id {x : Int} (h1 : 0 ≤ x) (h2 : x ≤ 255) : IntKind.u8.wrap x = x := by rw [u8_mod]; omega
theorem u32_id {x : Int} (h1 : 0 ≤ x) (h2 : x ≤ 1114111) : IntKind.u32.wrap x = x := by
  have : IntKind.u32.wrap x = x % 4294967296 := by simp [IntKind.wrap, IntKind.bits, IntKind.signed]
  rw [this]; omega
/-- A loop comes to an end in a state with Q: P holds ahead of each round, and its number falls. -/
theorem wloop_ind {σ β : Type} {f : σ → Option (Ctl σ β)} (P : Nat → σ → Prop) (Q : β → Prop)
    (h : ∀ n s, P n s → (∃ s' n', f s = some (.next s') ∧ n' < n ∧ P n' s') ∨ (∃ b, f s = some (.done b) ∧ Q b)) : ∀ n s, P n s → ∃ b, wloop f s = some b ∧ Q b := by
  intro n
  induction n using Nat.strongRecOn with
  | _ n ih =>
    intro s hp
    rcases h n s hp with ⟨s', n', hf, hn, hp'⟩ | ⟨b, hf, hq⟩
    · obtain ⟨b, hb, hq⟩ := ih n' hn s' hp'
      exact ⟨b, by rw [wloop_next hf]; exact hb, hq⟩
    · exact ⟨b, wloop_done hf, hq⟩
theorem idx_nat {α : Type} (l : List α) (k : Nat) : idx l (k : Int) = l[k]? := by
  unfold idx; rw [if_pos (by omega)]; rfl
theorem idx_get {α : Type} {l : List α} {k : Nat} (h : k < l.length) : idx l (k : Int) = some l[k] := by rw [idx_nat, List.getElem?_eq_getElem h]
theorem upd_nat {α : Type} {l : List α} {k : Nat} {x : α} (h : k < l.length) : upd l (k : Int) x = some (l.set k x) := by
  unfold upd; rw [if_pos ⟨by omega, by omega⟩]; rfl
theorem app_ok {α : Type} {b : Nat} {l m : List α} (h : (l.length + m.length) * b ≤ 140737488355328) : app b l m = some (l ++ m) := by
  unfold app; rw [if_pos (.inr h)]
theorem mk_ok {α : Type} {b : Nat} {z : α} {n : Nat} (h : b * n ≤ 140737488355328) (h' : n ≤ 140737488355328) : mk b z (n : Int) (n : Int) = some (List.replicate n z) := by
  unfold mk
  have : ((b : Int) * (n : Int)) ≤ 140737488355328 := by
    have h2 : ((b * n : Nat) : Int) ≤ 140737488355328 := by omega
    rwa [Int.natCast_mul] at h2
  rw [if_pos ⟨by omega, by omega, this, by omega⟩]; rfl
/-- the numbers that a kind has. -/
theorem wf64 {n : Int} (h : (Lit.int .i64 n).wf = true) : -9223372036854775808 ≤ n ∧ n ≤ 9223372036854775807 := by
  have h2 : (decide (IntKind.i64.min ≤ n) && decide (n ≤ IntKind.i64.max)) = true := h
  have e1 : IntKind.i64.min = -9223372036854775808 := by decide
  have e2 : IntKind.i64.max = 9223372036854775807 := by decide
  rw [e1, e2] at h2
  simpa using h2
theorem sub_drop {α : Type} {l : List α} {k : Nat} (h : k ≤ l.length) : sub l (k : Int) (l.length : Int) = some (l.drop k) := by
  unfold sub
  rw [if_pos ⟨by omega, by omega, by omega⟩]
  simp
theorem drop_cons {α : Type} {l : List α} {k : Nat} (h : k < l.length) : l.drop k = l[k] :: l.drop (k + 1) := List.drop_eq_getElem_cons h
theorem same_loop {f : Int → Option (Ctl Int (Ctl Unit Bool))} {a b : List Int} (hl : a.length = b.length) (hm : a.length ≤ maxLen)
    (hf : ∀ k : Nat, ∀ h : k < a.length, f k = if a[k] = b[k]'(hl ▸ h) then some (.next ((k : Int) + 1)) else some (.done (.done false))) (he : f a.length = some (.done (.next ()))) :
    wloop f 0 = some (if a = b then .next () else .done false) := by
  have key := wloop_ind (f := f) (fun n i => ∃ k : Nat, i = k ∧ k ≤ a.length ∧ n = a.length - k ∧ a.take k = b.take k)
    (fun c => (c = .done false ∧ a ≠ b) ∨ (c = .next () ∧ a = b)) (fun n i h => by
      obtain ⟨k, rfl, hk, rfl, hn⟩ := h
      by_cases hlt : k < a.length
      · rw [hf k hlt]
        by_cases he : a[k] = b[k]
        · rw [if_pos he]
          left
          refine ⟨_, a.length - (k + 1), rfl, by omega, k + 1, by omega, by omega, rfl, ?_⟩
          rw [List.take_succ_eq_append_getElem hlt, List.take_succ_eq_append_getElem (by omega), hn, he]
        · rw [if_neg he]
          right
          refine ⟨_, rfl, .inl ⟨rfl, fun h => he ?_⟩⟩
          subst h; rfl
      · have : k = a.length := by omega
        subst this
        right
        refine ⟨_, he, .inr ⟨rfl, ?_⟩⟩
        rw [List.take_length, hl, List.take_length] at hn
        exact hn) a.length 0 ⟨0, rfl, by omega, by omega, by simp⟩
  obtain ⟨c, hc, ⟨rfl, h⟩ | ⟨rfl, h⟩⟩ := key
  · rw [hc]; simp [h]
  · rw [hc]; simp [h]

theorem same_step {f : Int → Option (Ctl Int (Ctl Unit Bool))} {a b : List Int} (hl : a.length = b.length) (hm : a.length ≤ maxLen)
    (hf : ∀ k : Nat, ∀ h : k < a.length, f k = if a[k] = b[k]'(hl ▸ h) then some (.next ((k : Int) + 1)) else some (.done (.done false))) (he : f a.length = some (.done (.next ()))) :
    (wloop f 0).bind (fun k => joinK k fun _ => some true) = some (decide (a = b)) := by
  rw [same_loop hl hm hf he]
  by_cases h : a = b
  · rw [if_pos h, decide_eq_true h]; rfl
  · rw [if_neg h, decide_eq_false h]; rfl
/-- a loop that counts up. -/
theorem loop_up {S τ β : Type} {f : S → Option (Ctl S β)} (st : Nat → τ → S) (n : Nat) (I : Nat → τ → Prop) (out : τ → β) (a : τ) (h0 : I 0 a)
    (hf : ∀ k m, k < n → I k m → ∃ m', f (st k m) = some (.next (st (k + 1) m')) ∧ I (k + 1) m') (he : ∀ m, I n m → f (st n m) = some (.done (out m))) :
    ∃ m, I n m ∧ wloop f (st 0 a) = some (out m) := by
  have key := wloop_ind (f := f) (fun j s => ∃ k m, s = st k m ∧ j = n - k ∧ k ≤ n ∧ I k m) (fun b => ∃ m, b = out m ∧ I n m) (fun j s h => by
    obtain ⟨k, m, rfl, rfl, hk, hi⟩ := h
    by_cases hlt : k < n
    · left
      obtain ⟨m', h1, h2⟩ := hf k m hlt hi
      exact ⟨_, n - (k + 1), h1, by omega, k + 1, m', rfl, rfl, by omega, h2⟩
    · have : k = n := by omega
      subst this
      exact .inr ⟨_, he m hi, m, rfl, hi⟩) n (st 0 a) ⟨0, a, rfl, by omega, by omega, h0⟩
  obtain ⟨b, hb, m, rfl, hi⟩ := key
  exact ⟨m, hi, hb⟩
/-- a loop that counts up, each of whose states is told. -/
theorem loop_fun {S β : Type} {f : S → Option (Ctl S β)} (st : Nat → S) (n : Nat) {b : β} (hf : ∀ k, k < n → f (st k) = some (.next (st (k + 1)))) (he : f (st n) = some (.done b)) : wloop f (st 0) = some b := by
  obtain ⟨_, _, h⟩ := loop_up (f := f) (fun k (_ : Unit) => st k) n (fun _ _ => True) (fun _ => b) () trivial (fun k m hk _ => ⟨(), hf k hk, trivial⟩) (fun m _ => he)
  exact h
theorem lin_lt {i k R C : Nat} (h : i < R) (hk : k < C) : i * C + k < R * C := by
  have := Nat.mul_le_mul_right C (show i + 1 ≤ R from h)
  rw [Nat.succ_mul] at this; omega
theorem lin_inj {i k i' k' C : Nat} (hk : k < C) (hk' : k' < C) (h : i * C + k = i' * C + k') : i = i' ∧ k = k' := by
  have hc : 0 < C := by omega
  have e : ∀ (a b : Nat), b < C → (a * C + b) / C = a := fun a b hb => by
    rw [Nat.mul_comm, Nat.mul_add_div hc, Nat.div_eq_of_lt hb, Nat.add_zero]
  have h1 := e i k hk
  rw [h, e i' k' hk'] at h1
  subst h1; omega
/-- a matrix, row by row. -/
def tab (R C : Nat) (f : Nat → Nat → Int) : List Int := (List.range (R * C)).map fun p => f (p / C) (p % C)
theorem tab_len (R C : Nat) (f : Nat → Nat → Int) : (tab R C f).length = R * C := by simp [tab]
theorem tab_get {R C i k : Nat} (f : Nat → Nat → Int) (hi : i < R) (hk : k < C) : (tab R C f)[i * C + k]? = some (f i k) := by
  have hc : 0 < C := by omega
  unfold tab
  rw [List.getElem?_map, List.getElem?_range (lin_lt hi hk)]
  show some (f ((i * C + k) / C) ((i * C + k) % C)) = _
  rw [Nat.mul_comm, Nat.mul_add_div hc, Nat.div_eq_of_lt hk, Nat.mul_add_mod, Nat.mod_eq_of_lt hk, Nat.add_zero]
theorem tab_ext {R C : Nat} {f : Nat → Nat → Int} {l : List Int} (hl : l.length = R * C) (h : ∀ i k, i < R → k < C → l[i * C + k]? = some (f i k)) : l = tab R C f := by
  apply List.ext_getElem?
  intro p
  by_cases hp : p < R * C
  · have hc : 0 < C := by
      rcases Nat.eq_zero_or_pos C with h | h
      · subst h; simp at hp
      · exact h
    have h1 : p / C < R := by rw [Nat.div_lt_iff_lt_mul hc]; exact hp
    have h2 : p % C < C := Nat.mod_lt _ hc
    have e : p / C * C + p % C = p := by rw [Nat.mul_comm]; exact Nat.div_add_mod p C
    have a := h _ _ h1 h2
    have b := tab_get f h1 h2
    rw [e] at a b
    rw [a, b]
  · rw [List.getElem?_eq_none (by omega), List.getElem?_eq_none (by rw [tab_len]; omega)]
theorem contains_int64 {s : List Int} {f : Int → Option Bool} {g : Int → Bool} (hf : ∀ x ∈ s, f x = some (g x)) (hl : s.length ≤ 9223372036854775807) : M.slices_ContainsFunc__int64 s f = some (s.any g) := by
  have key := wloop_ind (f := M.slices_IndexFunc__int64_L1 s f) (fun n i => ∃ k : Nat, i = k ∧ k ≤ s.length ∧ n = s.length - k ∧ (s.take k).any g = false)
    (fun b => (∃ i : Int, b = .done i ∧ 0 ≤ i ∧ s.any g = true) ∨ (b = .next () ∧ s.any g = false)) (fun n i h => by
      obtain ⟨k, rfl, hk, rfl, hn⟩ := h
      unfold M.slices_IndexFunc__int64_L1
      by_cases hlt : k < s.length
      · simp only [show decide ((k : Int) < (s.length : Int)) = true from by simp; exact hlt, if_true, idx_get hlt, Option.bind_some, hf _ (List.getElem_mem hlt)]
        cases hg : g s[k] with
        | true =>
          right
          refine ⟨_, rfl, .inl ⟨_, rfl, by omega, ?_⟩⟩
          rw [List.any_eq_true]
          exact ⟨_, List.getElem_mem hlt, hg⟩
        | false =>
          left
          refine ⟨_, s.length - (k + 1), rfl, by omega, k + 1, ?_, by omega, rfl, ?_⟩
          · rw [w64_id (by omega) (by omega)]; omega
          · rw [List.take_succ_eq_append_getElem hlt, List.any_append, hn]; simp [hg]
      · have : k = s.length := by omega
        subst this
        right
        simp only [show decide ((s.length : Int) < (s.length : Int)) = false from by simp, Bool.false_eq_true, if_false]
        exact ⟨_, rfl, .inr ⟨rfl, by simpa using hn⟩⟩) s.length 0 ⟨0, rfl, by omega, by omega, by simp⟩
  unfold M.slices_ContainsFunc__int64 M.slices_IndexFunc__int64
  obtain ⟨b, hb, ⟨i, rfl, h0, ha⟩ | ⟨rfl, ha⟩⟩ := key
  · rw [hb, ha]; simp [h0]
  · rw [hb, ha]; simp
def prod : List Int → Int
  | [] => 1
  | x :: s => x * prod s
def off : List Int → List Int → Int
  | x :: s, a :: at_ => a * prod s + off s at_
  | _, _ => 0
def dig : List Int → Int → List Int
  | [], _ => []
  | _ :: s, k => k / prod s :: dig s (k % prod s)
/-- is a place in a shape? -/
def inShape : List Int → List Int → Prop
  | [], [] => True
  | x :: s, a :: at_ => 0 ≤ a ∧ a < x ∧ inShape s at_
  | _, _ => False
instance : (s at_ : List Int) → Decidable (inShape s at_)
  | [], [] => isTrue trivial
  | x :: s, a :: at_ =>
    have := instDecidableInShape s at_
    by unfold inShape; exact inferInstance
  | [], _ :: _ => isFalse (fun h => h)
  | _ :: _, [] => isFalse (fun h => h)
theorem inShape.len : ∀ {s at_ : List Int}, inShape s at_ → at_.length = s.length
  | [], [], _ => rfl
  | x :: s, a :: at_, ⟨_, _, h⟩ => by simp [h.len]
  | [], _ :: _, h => h.elim
  | _ :: _, [], h => h.elim
theorem inShape.pos : ∀ {s at_ : List Int}, inShape s at_ → 0 < prod s
  | [], [], _ => by simp [prod]
  | x :: s, a :: at_, ⟨h0, h1, h⟩ => by
    have := h.pos
    exact Int.mul_pos (by omega) this
  | [], _ :: _, h => h.elim
  | _ :: _, [], h => h.elim
theorem off_range : ∀ {s at_ : List Int}, inShape s at_ → 0 ≤ off s at_ ∧ off s at_ < prod s
  | [], [], _ => by simp [prod, off]
  | x :: s, a :: at_, ⟨h0, h1, h⟩ => by
    have h2 := off_range h
    have h3 := h.pos
    have h4 : (a + 1) * prod s ≤ x * prod s := Int.mul_le_mul_of_nonneg_right (by omega) (by omega)
    have h5 : 0 ≤ a * prod s := Int.mul_nonneg h0 (by omega)
    rw [Int.add_mul] at h4
    simp only [prod, off]
    omega
  | [], _ :: _, h => h.elim
  | _ :: _, [], h => h.elim
theorem dig_off : ∀ {s at_ : List Int}, inShape s at_ → dig s (off s at_) = at_
  | [], [], _ => rfl
  | x :: s, a :: at_, ⟨h0, h1, h⟩ => by
    have h2 := off_range h
    have h3 := h.pos
    simp only [dig, off]
    rw [Int.add_comm, Int.mul_comm, Int.add_mul_ediv_left _ _ (by omega), Int.add_mul_emod_self_left, Int.emod_eq_of_lt h2.1 h2.2, dig_off h, Int.ediv_eq_zero_of_lt h2.1 h2.2]
    simp
  | [], _ :: _, h => h.elim
  | _ :: _, [], h => h.elim
def allPos (s : List Int) : Prop := ∀ x ∈ s, 0 < x
theorem allPos.pprod : ∀ {s : List Int}, allPos s → 0 < prod s
  | [], _ => by simp [prod]
  | x :: s, h => Int.mul_pos (h x List.mem_cons_self) (allPos.pprod fun y hy => h y (List.mem_cons_of_mem _ hy))
theorem allPos_of {s : List Int} (h : ∀ x ∈ s, 0 ≤ x) (hp : 0 < prod s) : allPos s := by
  intro x hx
  have h0 := h x hx
  rcases Int.lt_or_eq_of_le h0 with h1 | h1
  · exact h1
  · exfalso
    have : ∀ s : List Int, (0 : Int) ∈ s → prod s = 0 := by
      intro s
      induction s with
      | nil => intro h; simp at h
      | cons y s ih =>
        intro h
        rcases List.mem_cons.mp h with h | h
        · simp [prod, ← h]
        · simp [prod, ih h]
    rw [this s (h1 ▸ hx)] at hp
    omega
theorem dig_in : ∀ {s : List Int} {k : Int}, allPos s → 0 ≤ k → k < prod s → inShape s (dig s k)
  | [], k, _, h0, h1 => trivial
  | x :: s, k, h, h0, h1 => by
    have hs : allPos s := fun y hy => h y (List.mem_cons_of_mem _ hy)
    have hp := hs.pprod
    refine ⟨Int.ediv_nonneg h0 (by omega), ?_, dig_in hs (Int.emod_nonneg _ (by omega)) (Int.emod_lt_of_pos _ hp)⟩
    exact Int.ediv_lt_of_lt_mul hp h1
theorem off_dig : ∀ {s : List Int} {k : Int}, allPos s → 0 ≤ k → k < prod s → off s (dig s k) = k
  | [], k, _, h0, h1 => by simp [prod] at h1; simp [dig, off]; omega
  | x :: s, k, h, h0, h1 => by
    have hs : allPos s := fun y hy => h y (List.mem_cons_of_mem _ hy)
    have hp := hs.pprod
    simp only [dig, off]
    rw [off_dig hs (Int.emod_nonneg _ (by omega)) (Int.emod_lt_of_pos _ hp)]
    rw [Int.mul_comm]; exact Int.mul_ediv_add_emod k (prod s)
theorem dig_len : ∀ (s : List Int) (k : Int), (dig s k).length = s.length
  | [], _ => rfl
  | x :: s, k => by simp [dig, dig_len s]
theorem prod_nonneg : ∀ {s : List Int}, (∀ x ∈ s, 0 ≤ x) → 0 ≤ prod s
  | [], _ => by simp [prod]
  | x :: s, h => Int.mul_nonneg (h x List.mem_cons_self) (prod_nonneg fun y hy => h y (List.mem_cons_of_mem _ hy))
theorem prod_append : ∀ (s t : List Int), prod (s ++ t) = prod s * prod t
  | [], t => by simp [prod]
  | x :: s, t => by simp [prod, prod_append s t, Int.mul_assoc]

/-- the size of a shape, or the error. -/
def shSize (s : List Int) : Int × Int :=
  if 4 < s.length then (0, 24) else if s.any (fun x => decide (x < 0)) then (0, 1) else if s.any (fun x => decide (x > 10000)) || decide (prod s > 10000) then (0, 27) else (prod s, 0)
def shOk (s : List Int) : Prop := s.length ≤ 4 ∧ (∀ x ∈ s, 0 ≤ x ∧ x ≤ 10000) ∧ prod s ≤ 10000
instance (s : List Int) : Decidable (shOk s) := by unfold shOk; exact inferInstance
theorem shSize_ok {s : List Int} (h : shOk s) : shSize s = (prod s, 0) := by
  obtain ⟨h1, h2, h3⟩ := h
  unfold shSize
  rw [if_neg (by omega), if_neg, if_neg]
  · simp only [Bool.or_eq_true, List.any_eq_true, decide_eq_true_eq]
    rintro (⟨x, hx, h⟩ | h)
    · have := h2 x hx; omega
    · omega
  · simp only [List.any_eq_true, decide_eq_true_eq]
    rintro ⟨x, hx, h⟩
    have := h2 x hx; omega
theorem shSize_zero {s : List Int} : (shSize s).2 = 0 ↔ shOk s := by
  constructor
  · intro h
    unfold shSize at h
    split at h
    · cases h
    · rename_i h1
      split at h
      · cases h
      · rename_i h2
        split at h
        · cases h
        · rename_i h3
          simp only [List.any_eq_true, decide_eq_true_eq, not_exists, not_and] at h2
          simp only [Bool.or_eq_true, List.any_eq_true, decide_eq_true_eq, not_or, not_exists, not_and] at h3
          exact ⟨by omega, fun x hx => ⟨by have := h2 x hx; omega, by have := h3.1 x hx; omega⟩, by omega⟩
  · intro h; rw [shSize_ok h]
theorem shSize_cases (s : List Int) : (shOk s ∧ shSize s = (prod s, 0)) ∨ (¬ shOk s ∧ (shSize s).2 ≠ 0 ∧ (shSize s).1 = 0) := by
  by_cases h : shOk s
  · exact .inl ⟨h, shSize_ok h⟩
  · refine .inr ⟨h, fun hh => h (shSize_zero.mp hh), ?_⟩
    unfold shSize
    split
    · rfl
    · rename_i h1
      split
      · rfl
      · rename_i h2
        split
        · rfl
        · rename_i h3
          exfalso; apply h
          simp only [List.any_eq_true, decide_eq_true_eq, not_exists, not_and] at h2
          simp only [Bool.or_eq_true, List.any_eq_true, decide_eq_true_eq, not_or, not_exists, not_and] at h3
          exact ⟨by omega, fun x hx => ⟨by have := h2 x hx; omega, by have := h3.1 x hx; omega⟩, by omega⟩
theorem dig_bound {s : List Int} {k : Int} (hok : shOk s) (h0 : 0 ≤ k) (h1 : k < prod s) : ∀ x ∈ dig s k, 0 ≤ x ∧ x ≤ 10000 := by
  have hpos : allPos s := allPos_of (fun x hx => (hok.2.1 x hx).1) (by omega)
  have key : ∀ (s at_ : List Int), inShape s at_ → (∀ x ∈ s, 0 ≤ x ∧ x ≤ 10000) → ∀ x ∈ at_, 0 ≤ x ∧ x ≤ 10000 := by
    intro s
    induction s with
    | nil => intro at_ h _ x hx; cases at_ with | nil => simp at hx | cons _ _ => exact h.elim
    | cons y s ih =>
      intro at_ h hb x hx
      cases at_ with
      | nil => exact h.elim
      | cons a at_ =>
        obtain ⟨h1, h2, h3⟩ := h
        rcases List.mem_cons.mp hx with rfl | hx
        · have := hb y List.mem_cons_self; omega
        · exact ih at_ h3 (fun z hz => hb z (List.mem_cons_of_mem _ hz)) x hx
  exact key s _ (dig_in hpos h0 h1) hok.2.1
theorem dig_zero : ∀ {s : List Int}, allPos s → dig s 0 = List.replicate s.length 0
  | [], _ => rfl
  | x :: s, h => by
    have hs : allPos s := fun y hy => h y (List.mem_cons_of_mem _ hy)
    simp only [dig, Int.zero_ediv, Int.zero_emod, dig_zero hs]; rfl

theorem one_le_pow : ∀ k : Nat, (1 : Int) ≤ 10000 ^ k
  | 0 => by simp
  | k + 1 => by rw [Int.pow_succ]; have := one_le_pow k; omega
theorem prod_bound : ∀ (s : List Int) (k : Nat), s.length ≤ k → (∀ x ∈ s, 0 ≤ x ∧ x ≤ 10000) → 0 ≤ prod s ∧ prod s ≤ 10000 ^ k
  | [], k, _, _ => ⟨by simp [prod], one_le_pow k⟩
  | x :: s, k + 1, hl, h => by
    have h1 := h x List.mem_cons_self
    have h2 := prod_bound s k (by simpa using hl) (fun y hy => h y (List.mem_cons_of_mem _ hy))
    refine ⟨Int.mul_nonneg h1.1 h2.1, ?_⟩
    simp only [prod]
    have h3 : x * prod s ≤ 10000 * prod s := Int.mul_le_mul_of_nonneg_right h1.2 h2.1
    have h4 : (10000 : Int) ^ (k + 1) = 10000 ^ k * 10000 := Int.pow_succ _ _
    omega
  | x :: s, 0, hl, h => by simp at hl

/-- is a number a character? -/
def chOk (c : Int) : Bool := decide (0 ≤ c ∧ c ≤ 1114111) && !decide (55296 ≤ c ∧ c ≤ 57343)
/-- may an array be? -/
def vRight (v : Val) : Bool := decide (shOk v.Shape) && decide (prod v.Shape = v.Data.length) && (!v.Char || v.Data.all chOk)
def vSame (a b : Val) : Bool := (a.Char == b.Char) && decide (a.Shape = b.Shape) && decide (a.Data = b.Data)
theorem vSame_iff {a b : Val} : vSame a b = true ↔ a = b := by
  obtain ⟨c, s, d⟩ := a
  obtain ⟨c', s', d'⟩ := b
  simp only [vSame, Bool.and_eq_true, beq_iff_eq, decide_eq_true_eq, Val.mk.injEq]
  constructor
  · rintro ⟨⟨h1, h2⟩, h3⟩; exact ⟨h1, h2, h3⟩
  · rintro ⟨h1, h2, h3⟩; exact ⟨⟨h1, h2⟩, h3⟩
theorem vSame_refl (a : Val) : vSame a a = true := vSame_iff.mpr rfl
theorem vSame_eq (a b : Val) : vSame a b = true ∧ a = b ∨ vSame a b = false ∧ a ≠ b := by
  cases h : vSame a b with
  | true => exact .inl ⟨rfl, vSame_iff.mp h⟩
  | false => exact .inr ⟨rfl, fun hh => by rw [vSame_iff.mpr hh] at h; cases h⟩
theorem vRight_iff {v : Val} : vRight v = true ↔ shOk v.Shape ∧ prod v.Shape = v.Data.length ∧ (v.Char = true → ∀ c ∈ v.Data, chOk c = true) := by
  simp only [vRight, Bool.and_eq_true, decide_eq_true_eq, Bool.or_eq_true, Bool.not_eq_true', List.all_eq_true]
  constructor
  · rintro ⟨⟨h1, h2⟩, h3⟩
    refine ⟨h1, h2, fun h => ?_⟩
    rcases h3 with h3 | h3
    · rw [h3] at h; cases h
    · exact h3
  · rintro ⟨h1, h2, h3⟩
    refine ⟨⟨h1, h2⟩, ?_⟩
    cases h : v.Char with
    | true => exact .inr (h3 h)
    | false => exact .inl rfl

theorem right_loop {f : Int × Int → Option (Ctl (Int × Int) (Ctl Int Bool))} {s : List Int} (h4 : s.length ≤ 4)
    (hf : ∀ k : Nat, ∀ h : k < s.length, ∀ z, f (z, (k : Int)) = if s[k] < 0 ∨ s[k] > 10000 then some (.done (.done false)) else some (.next (IntKind.i64.wrap (z * s[k]), (k : Int) + 1)))
    (he : ∀ z, f (z, (s.length : Int)) = some (.done (.next z))) :
    ((∀ x ∈ s, 0 ≤ x ∧ x ≤ 10000) ∧ wloop f (1, 0) = some (.next (prod s))) ∨ (¬ (∀ x ∈ s, 0 ≤ x ∧ x ≤ 10000) ∧ wloop f (1, 0) = some (.done false)) := by
  have key := wloop_ind (f := f) (fun n st => ∃ k : Nat, n = s.length - k ∧ k ≤ s.length ∧ st = (prod (s.take k), (k : Int)) ∧ ∀ x ∈ s.take k, 0 ≤ x ∧ x ≤ 10000)
    (fun b => (b = .next (prod s) ∧ ∀ x ∈ s, 0 ≤ x ∧ x ≤ 10000) ∨ (b = .done false ∧ ¬ ∀ x ∈ s, 0 ≤ x ∧ x ≤ 10000)) (fun n st h => by
      obtain ⟨k, rfl, hk, rfl, hall⟩ := h
      by_cases hlt : k < s.length
      · rw [hf k hlt]
        by_cases hb : s[k] < 0 ∨ s[k] > 10000
        · rw [if_pos hb]
          right
          refine ⟨_, rfl, .inr ⟨rfl, fun hh => ?_⟩⟩
          have := hh _ (List.getElem_mem hlt); omega
        · rw [if_neg hb]
          left
          have e := List.take_succ_eq_append_getElem hlt
          have hall2 : ∀ x ∈ s.take (k + 1), 0 ≤ x ∧ x ≤ 10000 := by
            intro x hx
            rw [e] at hx
            rcases List.mem_append.mp hx with hx | hx
            · exact hall x hx
            · rw [List.mem_singleton.mp hx]; omega
          have hp := prod_bound (s.take (k + 1)) 4 (by rw [List.length_take]; omega) hall2
          have e2 : prod (s.take (k + 1)) = prod (s.take k) * s[k] := by rw [e, prod_append]; simp [prod]
          refine ⟨_, s.length - (k + 1), rfl, by omega, k + 1, rfl, by omega, ?_, hall2⟩
          rw [← e2, w64_id (by omega) (by omega)]; simp
      · have : k = s.length := by omega
        subst this
        rw [he]
        rw [List.take_length] at hall ⊢
        exact .inr ⟨_, rfl, .inl ⟨rfl, hall⟩⟩)
    s.length (1, 0) ⟨0, by omega, by omega, by simp [prod], by simp⟩
  obtain ⟨b, hb, ⟨rfl, h⟩ | ⟨rfl, h⟩⟩ := key
  · exact .inl ⟨h, hb⟩
  · exact .inr ⟨h, hb⟩
theorem all_loop {f : Int → Option (Ctl Int (Ctl Unit Bool))} {l : List Int} {p : Int → Bool}
    (hf : ∀ k : Nat, ∀ h : k < l.length, f k = if p l[k] = true then some (.next ((k : Int) + 1)) else some (.done (.done false))) (he : f l.length = some (.done (.next ()))) :
    wloop f 0 = some (if l.all p = true then .next () else .done false) := by
  have key := wloop_ind (f := f) (fun n i => ∃ k : Nat, i = k ∧ k ≤ l.length ∧ n = l.length - k ∧ (l.take k).all p = true)
    (fun c => (c = .done false ∧ l.all p = false) ∨ (c = .next () ∧ l.all p = true)) (fun n i h => by
      obtain ⟨k, rfl, hk, rfl, hn⟩ := h
      by_cases hlt : k < l.length
      · rw [hf k hlt]
        by_cases hp : p l[k] = true
        · rw [if_pos hp]
          left
          refine ⟨_, l.length - (k + 1), rfl, by omega, k + 1, by omega, by omega, rfl, ?_⟩
          rw [List.take_succ_eq_append_getElem hlt, List.all_append, hn]; simp [hp]
        · rw [if_neg hp]
          right
          refine ⟨_, rfl, .inl ⟨rfl, ?_⟩⟩
          rw [List.all_eq_false]
          exact ⟨_, List.getElem_mem hlt, hp⟩
      · have : k = l.length := by omega
        subst this
        right
        rw [List.take_length] at hn
        exact ⟨_, he, .inr ⟨rfl, hn⟩⟩) l.length 0 ⟨0, rfl, by omega, by omega, by simp⟩
  obtain ⟨c, hc, ⟨rfl, h⟩ | ⟨rfl, h⟩⟩ := key
  · rw [hc, h]; simp
  · rw [hc, h]; simp
theorem w32_id {x : Int} (h1 : 0 ≤ x) (h2 : x ≤ 1114111) : IntKind.i32.wrap x = x := by
  have e : IntKind.i32.wrap x = if x % 4294967296 ≥ 2147483648 then x % 4294967296 - 4294967296 else x % 4294967296 := by
    simp [IntKind.wrap, IntKind.bits, IntKind.signed]
  rw [e]
  split <;> omega
theorem character_eq (c : Int) : M.value_character c = some (chOk c) := by
  unfold M.value_character chOk
  by_cases h : 0 ≤ c ∧ c ≤ 1114111
  · have e : (decide (c ≥ 0) && decide (c ≤ 1114111)) = true := by simp; omega
    simp only [e, if_true, h, and_self, decide_true, Bool.true_and]
    rw [w32_id h.1 h.2]
    unfold M.unicode_utf8_ValidRune
    by_cases h1 : c < 55296
    · have e1 : (decide (0 ≤ c) && decide (c < 55296)) = true := by simp; omega
      have e2 : decide (55296 ≤ c ∧ c ≤ 57343) = false := decide_eq_false (by omega)
      simp only [e1, e2, if_true, Option.bind_some, Bool.not_false]
    · have e1 : (decide (0 ≤ c) && decide (c < 55296)) = false := by simp; omega
      simp only [e1, Bool.false_eq_true, if_false]
      by_cases h2 : 57343 < c
      · have e3 : (decide (57343 < c) && decide (c ≤ 1114111)) = true := by simp; omega
        have e2 : decide (55296 ≤ c ∧ c ≤ 57343) = false := decide_eq_false (by omega)
        simp only [e3, e2, if_true, Option.bind_some, Bool.not_false]
      · have e3 : (decide (57343 < c) && decide (c ≤ 1114111)) = false := by simp; omega
        have e2 : decide (55296 ≤ c ∧ c ≤ 57343) = true := decide_eq_true (by omega)
        simp only [e3, e2, Bool.false_eq_true, if_false, Option.bind_some, Bool.not_true]
  · have e : (decide (c ≥ 0) && decide (c ≤ 1114111)) = false := by simp; omega
    simp only [e, Bool.false_eq_true, if_false, h, decide_false, Bool.false_and, Option.bind_some]
theorem value_Right_eq {v : Val} (hd : v.Data.length ≤ 9223372036854775807) : M.value_Right v = some (vRight v) := by
  unfold M.value_Right
  by_cases h4 : 4 < v.Shape.length
  · rw [if_pos (by simp; omega)]
    have : vRight v = false := by
      cases h : vRight v with
      | false => rfl
      | true => have := (vRight_iff.mp h).1.1; omega
    rw [this]
  · rw [if_neg (by simp; omega)]
    have hloop := right_loop (f := M.value_Right_L1 v) (s := v.Shape) (by omega) (fun k h z => by
      unfold M.value_Right_L1
      simp only [show decide ((k : Int) < (v.Shape.length : Int)) = true from decide_eq_true (by omega), if_true, idx_get h, Option.bind_some]
      by_cases hb : v.Shape[k] < 0 ∨ v.Shape[k] > 10000
      · rw [if_pos hb, if_pos (by simpa using hb)]
      · rw [if_neg hb, if_neg (by simpa using hb), w64_id (x := (k : Int) + 1) (by omega) (by omega)]) (fun z => by unfold M.value_Right_L1; simp)
    rcases hloop with ⟨hall, hw⟩ | ⟨hall, hw⟩
    · rw [hw]
      simp only [Option.bind_some, joinK_next]
      have hp0 : 0 ≤ prod v.Shape := prod_nonneg fun x hx => (hall x hx).1
      by_cases hsz : prod v.Shape ≤ 10000 ∧ prod v.Shape = v.Data.length
      · have e : (decide (prod v.Shape > 10000) || (prod v.Shape != (v.Data.length : Int))) = false := by simp; omega
        simp only [e, Bool.false_eq_true, if_false]
        have hok : shOk v.Shape := ⟨by omega, hall, hsz.1⟩
        have hv : vRight v = (!v.Char || v.Data.all chOk) := by unfold vRight; simp [hok, hsz.2]
        rw [hv]
        cases hc : v.Char with
        | false => simp
        | true =>
          simp only [Bool.not_true, Bool.false_eq_true, if_false, Bool.false_or]
          rw [contains_int64 (s := v.Data) (f := fun x0 => M.value_Right_1 x0) (g := fun x => !chOk x) (fun x _ => by unfold M.value_Right_1; rw [character_eq]; rfl) hd]
          simp only [Option.bind_some]
          congr 1
          rw [List.not_any_eq_all_not]; simp
      · have e : (decide (prod v.Shape > 10000) || (prod v.Shape != (v.Data.length : Int))) = true := by
          simp; omega
        simp only [e, if_true]
        have : vRight v = false := by
          cases h : vRight v with
          | false => rfl
          | true => have := vRight_iff.mp h; exact absurd ⟨this.1.2.2, this.2.1⟩ hsz
        rw [this]
    · rw [hw]
      have : vRight v = false := by
        cases h : vRight v with
        | false => rfl
        | true => exact absurd (vRight_iff.mp h).1.2.1 hall
      rw [this]; rfl
theorem ref06_Same_eq {a b : Val} (hs : a.Shape.length ≤ maxLen) (hd : a.Data.length ≤ maxLen) : M.anamnesisref06_Same a b = some (vSame a b) := by
  have hm : maxLen = 9223372036854775807 := rfl
  unfold M.anamnesisref06_Same
  by_cases hl : (a.Char = b.Char ∧ a.Shape.length = b.Shape.length) ∧ a.Data.length = b.Data.length
  · obtain ⟨⟨h1, h2⟩, h3⟩ := hl
    rw [if_neg (by simp [h1, h2, h3])]
    have l1 := same_loop (f := M.anamnesisref06_Same_L1 a b) h2 hs (fun k h => by
      unfold M.anamnesisref06_Same_L1
      simp only [show decide ((k : Int) < (a.Shape.length : Int)) = true from decide_eq_true (by omega), if_true, idx_get h, idx_get (show k < b.Shape.length by omega), Option.bind_some]
      by_cases he : a.Shape[k] = b.Shape[k]
      · rw [if_pos he, if_neg (by simp [he]), w64_id (by omega) (by omega)]
      · rw [if_neg he, if_pos (by simp [he])]) (by unfold M.anamnesisref06_Same_L1; simp)
    have l2 := same_loop (f := M.anamnesisref06_Same_L2 a b) h3 hd (fun k h => by
      unfold M.anamnesisref06_Same_L2
      simp only [show decide ((k : Int) < (a.Data.length : Int)) = true from decide_eq_true (by omega), if_true, idx_get h, idx_get (show k < b.Data.length by omega), Option.bind_some]
      by_cases he : a.Data[k] = b.Data[k]
      · rw [if_pos he, if_neg (by simp [he]), w64_id (by omega) (by omega)]
      · rw [if_neg he, if_pos (by simp [he])]) (by unfold M.anamnesisref06_Same_L2; simp)
    rw [l1, l2]
    unfold vSame
    simp only [h1, BEq.rfl, Bool.true_and]
    by_cases he : a.Shape = b.Shape
    · rw [if_pos he, decide_eq_true he]
      by_cases hd : a.Data = b.Data
      · rw [if_pos hd, decide_eq_true hd]; rfl
      · rw [if_neg hd, decide_eq_false hd]; rfl
    · rw [if_neg he, decide_eq_false he]; rfl
  · have e : ((!(a.Char == b.Char) || ((a.Shape.length : Int) != (b.Shape.length : Int))) || ((a.Data.length : Int) != (b.Data.length : Int))) = true := by
      cases hq : ((!(a.Char == b.Char) || ((a.Shape.length : Int) != (b.Shape.length : Int))) || ((a.Data.length : Int) != (b.Data.length : Int))) with
      | true => rfl
      | false =>
        exfalso; apply hl
        simp only [Bool.or_eq_false_iff, Bool.not_eq_false', beq_iff_eq, bne_eq_false_iff_eq] at hq
        obtain ⟨⟨q1, q2⟩, q3⟩ := hq
        exact ⟨⟨q1, by omega⟩, by omega⟩
    rw [if_pos e]
    have : vSame a b = false := by
      cases hq : vSame a b with
      | false => rfl
      | true => have := vSame_iff.mp hq; subst this; simp at hl
    rw [this]
/-- the draw at a place. -/
def dr (draws : List Int) (a : Int) : Int := (draws[a.toNat]?).getD 0
theorem dr_get {draws : List Int} {k : Nat} (h : k < draws.length) : dr draws k = draws[k] := by
  unfold dr; rw [Int.toNat_natCast, List.getElem?_eq_getElem h]; rfl
theorem dr_out {draws : List Int} {a : Int} (h : (draws.length : Int) ≤ a) : dr draws a = 0 := by
  unfold dr; rw [List.getElem?_eq_none (by omega)]; rfl
theorem dr_good {draws : List Int} (h : ∀ x ∈ draws, 0 ≤ x) (a : Int) : 0 ≤ dr draws a := by
  unfold dr
  cases e : draws[a.toNat]? with
  | none => simp
  | some x => exact h x (List.mem_of_getElem? e)
theorem wfu64 {n : Int} (h : (Lit.int .u64 n).wf = true) : 0 ≤ n ∧ n ≤ 18446744073709551615 := by
  have h2 : (decide (IntKind.u64.min ≤ n) && decide (n ≤ IntKind.u64.max)) = true := h
  have e1 : IntKind.u64.min = 0 := by decide
  have e2 : IntKind.u64.max = 18446744073709551615 := by decide
  rw [e1, e2] at h2
  simpa using h2
theorem u64_id {x : Int} (h1 : 0 ≤ x) (h2 : x ≤ 18446744073709551615) : IntKind.u64.wrap x = x := by
  have : IntKind.u64.wrap x = x % 18446744073709551616 := by simp [IntKind.wrap, IntKind.bits, IntKind.signed]
  rw [this]; omega
/-- what is rolled. -/
def rollL (draws : List Int) (a : Int) (l : List Int) : List Int := l.mapIdx fun k x => dr draws (a + k) % x + 1
/-- what is dealt of a heap. -/
def dealL (draws : List Int) : Nat → Int → List Int → List Int
  | 0, _, _ => []
  | n + 1, a, p => (p[(dr draws a % p.length).toNat]?).getD 0 :: dealL draws n (a + 1) ((p.set (dr draws a % p.length).toNat ((p[0]?).getD 0)).tail)
theorem dealL_len (draws : List Int) : ∀ (n : Nat) (a : Int) (p : List Int), (dealL draws n a p).length = n
  | 0, _, _ => rfl
  | n + 1, a, p => by simp only [dealL, List.length_cons, dealL_len draws n]
theorem map_loop {β : Type} {f : Int × List Int → Option (Ctl (Int × List Int) (Ctl (List Int) β))} {l : List Int} {g : Nat → Int → Int}
    (hf : ∀ k : Nat, ∀ h : k < l.length, ∀ m : List Int, m.length = l.length → m[k]? = some l[k] → f ((k : Int), m) = some (.next ((k : Int) + 1, m.set k (g k l[k]))))
    (he : ∀ m, f ((l.length : Int), m) = some (.done (.next m))) : wloop f (0, l) = some (.next (l.mapIdx g)) := by
  have key := wloop_ind (f := f) (fun n st => ∃ k : Nat, ∃ m : List Int, n = l.length - k ∧ k ≤ l.length ∧ st = ((k : Int), m) ∧ m.length = l.length ∧ (∀ i, i < k → m[i]? = (l.mapIdx g)[i]?) ∧ ∀ i, k ≤ i → m[i]? = l[i]?)
    (fun b => b = .next (l.mapIdx g)) (fun n st h => by
      obtain ⟨k, m, rfl, hk, rfl, hm, h1, h2⟩ := h
      by_cases hlt : k < l.length
      · left
        rw [hf k hlt m hm (by rw [h2 k (by omega), List.getElem?_eq_getElem hlt])]
        refine ⟨_, l.length - (k + 1), rfl, by omega, k + 1, _, rfl, by omega, rfl, by simp [hm], fun i hi => ?_, fun i hi => ?_⟩
        · by_cases e : i = k
          · subst e
            rw [List.getElem?_set_self (by omega), List.getElem?_mapIdx, List.getElem?_eq_getElem hlt]; rfl
          · rw [List.getElem?_set_ne (by omega)]; exact h1 i (by omega)
        · rw [List.getElem?_set_ne (by omega)]; exact h2 i (by omega)
      · have : k = l.length := by omega
        subst this
        right
        rw [he]
        refine ⟨_, rfl, ?_⟩
        congr 1
        apply List.ext_getElem?
        intro i
        by_cases hi : i < l.length
        · exact h1 i hi
        · rw [List.getElem?_eq_none (by omega), List.getElem?_eq_none (by simp; omega)]) l.length (0, l) ⟨0, l, by omega, by omega, rfl, rfl, by omega, by simp⟩
  obtain ⟨b, hb, rfl⟩ := key
  exact hb
/-- a loop that appends, or goes out where an element is bad. -/
theorem app_loop {β : Type} {f : Int × List Int → Option (Ctl (Int × List Int) (Ctl (List Int) β))} {l : List Int} {bad : Int → Bool} {r : β} {g : Nat → Int → Int}
    (hf : ∀ k : Nat, ∀ h : k < l.length, ∀ m : List Int, m.length = k → f ((k : Int), m) = if bad l[k] = true then some (.done (.done r)) else some (.next ((k : Int) + 1, m ++ [g k l[k]])))
    (he : ∀ m, f ((l.length : Int), m) = some (.done (.next m))) : wloop f (0, []) = some (if l.any bad = true then .done r else .next (l.mapIdx g)) := by
  have key := wloop_ind (f := f) (fun n st => ∃ k : Nat, n = l.length - k ∧ k ≤ l.length ∧ st = ((k : Int), (l.take k).mapIdx g) ∧ (l.take k).any bad = false)
    (fun b => (l.any bad = true ∧ b = .done r) ∨ (l.any bad = false ∧ b = .next (l.mapIdx g))) (fun n st h => by
      obtain ⟨k, rfl, hk, rfl, hn⟩ := h
      by_cases hlt : k < l.length
      · rw [hf k hlt _ (by simp; omega)]
        cases hb : bad l[k] with
        | true =>
          right
          refine ⟨_, rfl, .inl ⟨?_, rfl⟩⟩
          rw [List.any_eq_true]; exact ⟨_, List.getElem_mem hlt, hb⟩
        | false =>
          left
          have e := List.take_succ_eq_append_getElem hlt
          refine ⟨_, l.length - (k + 1), rfl, by omega, k + 1, rfl, by omega, ?_, ?_⟩
          · rw [e, List.mapIdx_append]
            simp [List.length_take, Nat.min_eq_left hk]
          · rw [e, List.any_append, hn]; simp [hb]
      · have : k = l.length := by omega
        subst this
        right
        rw [he, List.take_length]
        rw [List.take_length] at hn
        exact ⟨_, rfl, .inr ⟨hn, rfl⟩⟩) l.length (0, []) ⟨0, by omega, by omega, by simp, by simp⟩
  obtain ⟨b, hb, ⟨h, rfl⟩ | ⟨h, rfl⟩⟩ := key
  · rw [hb, h]; rfl
  · rw [hb, h]; rfl
theorem drawn_eq {draws : List Int} (hd : ∀ x ∈ draws, 0 ≤ x ∧ x ≤ 18446744073709551615) {a n : Int} (h0 : 0 ≤ a) (h1 : 1 ≤ n) (h2 : n ≤ 9223372036854775807) : M.rand_drawn draws a n = some (dr draws a % n) := by
  unfold M.rand_drawn
  by_cases h : (draws.length : Int) ≤ a
  · rw [if_pos (by simpa using h), dr_out h]; simp
  · rw [if_neg (by simpa using h)]
    obtain ⟨k, rfl⟩ := Int.eq_ofNat_of_zero_le h0
    have hk : k < draws.length := by omega
    have hx := hd _ (List.getElem_mem hk)
    rw [dr_get hk]
    unfold dr at *
    rw [idx_get hk, Option.bind_some, u64_id (by omega) (by omega)]
    unfold remI
    have m1 := Int.emod_nonneg draws[k] (show n ≠ 0 by omega)
    have m2 := Int.emod_lt_of_pos draws[k] (show 0 < n by omega)
    rw [if_neg (by omega), Option.bind_some, Int.tmod_eq_emod_of_nonneg hx.1, w64_id (by omega) (by omega)]
theorem or3 {p : Bool} {a : Int} : ((!p || decide (a < 0)) || decide (a > 1099511627776)) = decide (p = false ∨ a < 0 ∨ a > 1099511627776) := by cases p <;> simp
def iota (n : Nat) : List Int := (List.range n).map fun (i : Nat) => (i : Int) + 1
theorem iota_len (n : Nat) : (iota n).length = n := by simp [iota]
theorem iota_succ (n : Nat) : iota (n + 1) = iota n ++ [(n : Int) + 1] := by simp [iota, List.range_succ]
/-- one dealt: what a swap of the heap's first leaves. -/
theorem deal_loop {β : Type} {f : Int × List Int → Option (Ctl (Int × List Int) (Ctl (List Int) β))} {draws l : List Int} {a : Int} {n : Nat} (hn : n ≤ l.length)
    (hf : ∀ k : Nat, k < n → ∀ m : List Int, m.length = l.length → f ((k : Int), m) = some (.next ((k : Int) + 1,
      (m.set k ((m[k + (dr draws (a + k) % (l.length - k : Nat)).toNat]?).getD 0)).set (k + (dr draws (a + k) % (l.length - k : Nat)).toNat) ((m[k]?).getD 0))))
    (he : ∀ m, f ((n : Int), m) = some (.done (.next m))) : ∃ m, m.length = l.length ∧ m.take n = dealL draws n a l ∧ wloop f (0, l) = some (.next m) := by
  have key := wloop_ind (f := f) (fun j st => ∃ k : Nat, ∃ m : List Int, j = n - k ∧ k ≤ n ∧ st = ((k : Int), m) ∧ m.length = l.length ∧ m.take k ++ dealL draws (n - k) (a + k) (m.drop k) = dealL draws n a l)
    (fun b => ∃ m, b = .next m ∧ m.length = l.length ∧ m.take n = dealL draws n a l) (fun j st h => by
      obtain ⟨k, m, rfl, hk, rfl, hm, h1⟩ := h
      by_cases hlt : k < n
      · left
        rw [hf k hlt m hm]
        refine ⟨_, n - (k + 1), rfl, by omega, k + 1, _, rfl, by omega, rfl, by simp [hm], ?_⟩
        rw [← h1, show n - k = (n - (k + 1)) + 1 by omega, dealL]
        have hpos : (0 : Int) < ((l.length - k : Nat) : Int) := by omega
        have m1 := Int.emod_nonneg (dr draws (a + k)) (show ((l.length - k : Nat) : Int) ≠ 0 by omega)
        have m2 := Int.emod_lt_of_pos (dr draws (a + k)) hpos
        have hdl : (m.drop k).length = l.length - k := by simp [hm]
        rw [hdl]
        generalize hq : (dr draws (a + k) % ((l.length - k : Nat) : Int)).toNat = q
        have hq2 : q < l.length - k := by omega
        have e0 : (m.drop k)[q]? = m[k + q]? := by rw [List.getElem?_drop]
        have e1 : (m.drop k)[0]? = m[k]? := by rw [List.getElem?_drop]; rfl
        rw [e0, e1, show a + ((k + 1 : Nat) : Int) = a + k + 1 by omega]
        generalize hx : (m[k + q]?).getD 0 = x
        generalize hy : (m[k]?).getD 0 = y
        have t1 : ((m.set k x).set (k + q) y).drop (k + 1) = (((m.drop k).set q y).tail) := by
          apply List.ext_getElem?
          intro i
          rw [List.getElem?_drop, List.getElem?_tail]
          by_cases hi : i + 1 = q
          · subst hi
            rw [show k + 1 + i = k + (i + 1) by omega, List.getElem?_set_self (by simp; omega), List.getElem?_set_self (by simp; omega)]
          · rw [List.getElem?_set_ne (by omega), List.getElem?_set_ne (by omega), List.getElem?_set_ne (by omega), List.getElem?_drop, show k + (i + 1) = k + 1 + i by omega]
        have t2 : ((m.set k x).set (k + q) y).take (k + 1) = m.take k ++ [x] := by
          apply List.ext_getElem?
          intro i
          by_cases hi : i < k
          · rw [List.getElem?_take_of_lt (by omega), List.getElem?_set_ne (by omega), List.getElem?_set_ne (by omega), List.getElem?_append_left (by simp; omega), List.getElem?_take_of_lt hi]
          · by_cases hi2 : i = k
            · subst hi2
              rw [List.getElem?_take_of_lt (by omega), List.getElem?_append_right (by rw [List.length_take]; omega), show (m.take i).length = i by rw [List.length_take]; omega, Nat.sub_self]
              by_cases hq0 : q = 0
              · subst hq0
                rw [Nat.add_zero, List.getElem?_set_self (by simp; omega)]
                rw [Nat.add_zero] at hx
                rw [← hx, ← hy]; rfl
              · rw [List.getElem?_set_ne (by omega), List.getElem?_set_self (by omega)]; rfl
            · rw [List.getElem?_eq_none (by simp; omega), List.getElem?_eq_none (by simp; omega)]
        rw [t1, t2, List.append_assoc]; rfl
      · have : k = n := by omega
        subst this
        right
        rw [he]
        refine ⟨_, rfl, m, rfl, hm, ?_⟩
        rw [← h1, Nat.sub_self, dealL, List.append_nil]) n (0, l) ⟨0, l, by omega, by omega, rfl, rfl, by simp⟩
  obtain ⟨b, hb, m, rfl, h1, h2⟩ := key
  exact ⟨m, h1, h2, hb⟩
theorem value_One_eq (v : Val) : M.value_One v = some (if v.Char = false ∧ v.Data.length = 1 then ((v.Data[0]?).getD 0, true) else (0, false)) := by
  unfold M.value_One
  by_cases h : v.Char = false ∧ v.Data.length = 1
  · rw [if_pos h, if_neg (by simp [h.1, h.2]), show (0 : Int) = ((0 : Nat) : Int) from rfl, idx_get (show 0 < v.Data.length by omega), List.getElem?_eq_getElem (show 0 < v.Data.length by omega)]; rfl
  · rw [if_neg h, if_pos (by
      cases hc : v.Char with
      | true => rfl
      | false => simp; intro h2; exact h ⟨hc, by omega⟩)]
theorem value_Vector_eq {l : List Int} (h : l.length ≤ 10000) : M.value_Vector l = some ⟨false, [(l.length : Int)], l⟩ := by
  unfold M.value_Vector M.slices_Clone__int64
  rw [if_neg (by omega), show sub l 0 (l.length : Int) = some l from by rw [show (0 : Int) = ((0 : Nat) : Int) from rfl, sub_drop (by omega)]; rfl]
  simp only [Option.bind_some]
  rw [app_ok (by simp; omega)]; rfl
/-- the first number of an array. -/
def fst1 (v : Val) : Int := (v.Data[0]?).getD 0
def dealOk (a b : Val) (at_ : Int) : Int :=
  if (vRight a = false ∨ vRight b = false) ∨ at_ < 0 ∨ at_ > 1099511627776 then 1
  else if a.Shape.length > 1 ∨ b.Shape.length > 1 then 24
  else if a.Data.length ≠ 1 ∨ b.Data.length ≠ 1 then 25
  else if a.Char = true ∨ b.Char = true ∨ fst1 a < 0 ∨ fst1 b < fst1 a then 23
  else if fst1 b > 10000 then 27 else 0
def dealV (a b : Val) (draws : List Int) (at_ : Int) : Val :=
  if dealOk a b at_ = 0 then ⟨false, [fst1 a], dealL draws (fst1 a).toNat at_ (iota (fst1 b).toNat)⟩ else ⟨false, [], []⟩
theorem iota_loop {β : Type} {f : List Int × Int → Option (Ctl (List Int × Int) (Ctl (List Int) β))} {n : Nat} (hn : n ≤ 10000)
    (hf : ∀ k : Nat, k < n → ∀ m : List Int, m.length = k → f (m, (k : Int)) = some (.next (m ++ [(k : Int) + 1], (k : Int) + 1))) (he : ∀ m, f (m, (n : Int)) = some (.done (.next m))) :
    wloop f ([], 0) = some (.next (iota n)) := by
  have key := wloop_ind (f := f) (fun j st => ∃ k : Nat, j = n - k ∧ k ≤ n ∧ st = (iota k, (k : Int))) (fun b => b = .next (iota n)) (fun j st h => by
      obtain ⟨k, rfl, hk, rfl⟩ := h
      by_cases hlt : k < n
      · left
        rw [hf k hlt _ (iota_len k)]
        exact ⟨_, n - (k + 1), rfl, by omega, k + 1, rfl, by omega, by rw [iota_succ]; rfl⟩
      · have : k = n := by omega
        subst this
        right
        exact ⟨_, he _, rfl⟩) n ([], 0) ⟨0, by omega, by omega, rfl⟩
  obtain ⟨b, hb, rfl⟩ := key
  exact hb
theorem rand_Deal_eq {a b : Val} {draws : List Int} {t : Int} (hla : a.Data.length ≤ 9223372036854775807) (hlb : b.Data.length ≤ 9223372036854775807) (hd : ∀ x ∈ draws, 0 ≤ x ∧ x ≤ 18446744073709551615) :
    M.rand_Deal a b draws t = some (dealV a b draws t, if dealOk a b t = 0 then t + fst1 a else t, dealOk a b t) := by
  unfold M.rand_Deal
  rw [value_One_eq, value_One_eq, value_Right_eq hla, value_Right_eq hlb]
  simp only [Option.bind_some]
  have ec : (if (!vRight a) = true then some true else some (!vRight b)) = some (decide (vRight a = false ∨ vRight b = false)) := by cases vRight a <;> cases vRight b <;> rfl
  rw [ec]
  simp only [Option.bind_some]
  by_cases h1 : (vRight a = false ∨ vRight b = false) ∨ t < 0 ∨ t > 1099511627776
  · have e : dealOk a b t = 1 := by unfold dealOk; rw [if_pos h1]
    unfold dealV
    rw [e, if_pos (by simp only [Bool.or_eq_true, decide_eq_true_eq]; grind)]; rfl
  · rw [if_neg (by simp only [Bool.or_eq_true, decide_eq_true_eq]; grind)]
    by_cases h2 : a.Shape.length > 1 ∨ b.Shape.length > 1
    · have e : dealOk a b t = 24 := by unfold dealOk; rw [if_neg h1, if_pos h2]
      unfold dealV
      rw [e, if_pos (by simp only [Bool.or_eq_true, decide_eq_true_eq]; omega)]; rfl
    · rw [if_neg (by simp only [Bool.or_eq_true, decide_eq_true_eq]; omega)]
      by_cases h3 : a.Data.length ≠ 1 ∨ b.Data.length ≠ 1
      · have e : dealOk a b t = 25 := by unfold dealOk; rw [if_neg h1, if_neg h2, if_pos h3]
        unfold dealV
        rw [e, if_pos (by simp only [Bool.or_eq_true, bne_iff_ne]; omega)]; rfl
      · have h3a : a.Data.length = 1 := by omega
        have h3b : b.Data.length = 1 := by omega
        rw [if_neg (by simp only [Bool.or_eq_true, bne_iff_ne]; omega)]
        by_cases h4 : a.Char = true ∨ b.Char = true ∨ fst1 a < 0 ∨ fst1 b < fst1 a
        · have e : dealOk a b t = 23 := by unfold dealOk; rw [if_neg h1, if_neg h2, if_neg h3, if_pos h4]
          unfold dealV
          rw [e, if_pos (by
            cases hca : a.Char with
            | true => simp
            | false =>
              cases hcb : b.Char with
              | true => simp
              | false =>
                unfold fst1 at h4
                simp [h3a, h3b]
                rcases h4 with h | h | h
                · rw [hca] at h; cases h
                · rw [hcb] at h; cases h
                · rw [List.getElem?_eq_getElem (show 0 < a.Data.length by omega), List.getElem?_eq_getElem (show 0 < b.Data.length by omega)] at h; exact h)]; rfl
        · have hca : a.Char = false := by
            cases h : a.Char with
            | false => rfl
            | true => exact absurd (.inl h) h4
          have hcb : b.Char = false := by
            cases h : b.Char with
            | false => rfl
            | true => exact absurd (.inr (.inl h)) h4
          rw [if_pos (⟨hca, h3a⟩ : a.Char = false ∧ a.Data.length = 1), if_pos (⟨hcb, h3b⟩ : b.Char = false ∧ b.Data.length = 1)]
          have ea : (a.Data[0]?).getD 0 = fst1 a := rfl
          have eb : (b.Data[0]?).getD 0 = fst1 b := rfl
          simp only [ea, eb]
          have h5 : 0 ≤ fst1 a ∧ fst1 a ≤ fst1 b := by
            refine ⟨?_, ?_⟩
            · by_cases h : fst1 a < 0
              · exact absurd (.inr (.inr (.inl h))) h4
              · omega
            · by_cases h : fst1 b < fst1 a
              · exact absurd (.inr (.inr (.inr h))) h4
              · omega
          rw [if_neg (by simp; omega)]
          by_cases h6 : fst1 b > 10000
          · have e : dealOk a b t = 27 := by unfold dealOk; rw [if_neg h1, if_neg h2, if_neg h3, if_neg h4, if_pos h6]
            unfold dealV
            rw [e, if_pos (by simpa using h6)]; rfl
          · have e : dealOk a b t = 0 := by unfold dealOk; rw [if_neg h1, if_neg h2, if_neg h3, if_neg h4, if_neg h6]
            unfold dealV
            rw [e, if_neg (by simpa using h6), if_pos rfl]
            have ht : 0 ≤ t ∧ t ≤ 1099511627776 := by
              refine ⟨?_, ?_⟩
              · by_cases h : t < 0
                · exact absurd (.inr (.inl h)) h1
                · omega
              · by_cases h : t > 1099511627776
                · exact absurd (.inr (.inr h)) h1
                · omega
            obtain ⟨n, hn⟩ := Int.eq_ofNat_of_zero_le h5.1
            obtain ⟨N, hN⟩ := Int.eq_ofNat_of_zero_le (show 0 ≤ fst1 b by omega)
            have h5' : (n : Int) ≤ (N : Int) := by rw [hn, hN] at h5; exact h5.2
            have h6' : (N : Int) ≤ 10000 := by rw [hN] at h6; omega
            rw [hn, hN]
            clear h5 h6 h4 e ea eb h1 h2 h3 ec
            simp only [Int.toNat_natCast]
            have l1 := iota_loop (f := M.rand_Deal_L1 (N : Int)) (n := N) (by omega) (fun k hk m hm => by
              unfold M.rand_Deal_L1
              simp only [show decide ((k : Int) < (N : Int)) = true from decide_eq_true (by omega), if_true]
              rw [w64_id (by omega) (by omega), app_ok (by simp; omega)]; rfl) (fun m => by unfold M.rand_Deal_L1; simp)
            rw [l1]
            simp only [Option.bind_some, joinK_next]
            obtain ⟨m, hm1, hm2, hm3⟩ := deal_loop (f := M.rand_Deal_L2 draws t (n : Int) (N : Int)) (draws := draws) (l := iota N) (a := t) (n := n) (by rw [iota_len]; omega) (fun k hk m hm => by
              rw [iota_len] at hm ⊢
              unfold M.rand_Deal_L2
              simp only [show decide ((k : Int) < (n : Int)) = true from decide_eq_true (by omega), if_true]
              rw [w64_id (x := t + k) (by omega) (by omega), w64_id (x := (N : Int) - k) (by omega) (by omega), drawn_eq hd (by omega) (by omega) (by omega), show ((N : Int) - (k : Int)) = ((N - k : Nat) : Int) by omega]
              have m1 := Int.emod_nonneg (dr draws (t + k)) (show ((N - k : Nat) : Int) ≠ 0 by omega)
              have m2 := Int.emod_lt_of_pos (dr draws (t + k)) (show (0 : Int) < ((N - k : Nat) : Int) by omega)
              obtain ⟨q, hq⟩ := Int.eq_ofNat_of_zero_le m1
              rw [hq] at m2 ⊢
              simp only [Option.bind_some, Int.toNat_natCast]
              rw [w64_id (x := (k : Int) + q) (by omega) (by omega), show (k : Int) + (q : Int) = ((k + q : Nat) : Int) by omega, idx_get (show k + q < m.length by omega), idx_get (show k < m.length by omega)]
              simp only [Option.bind_some]
              rw [upd_nat (by omega)]
              simp only [Option.bind_some]
              rw [idx_get (show k + q < (m.set k m[k + q]).length by simp; omega)]
              simp only [Option.bind_some]
              rw [upd_nat (by simp; omega), w64_id (by omega) (by omega), List.getElem?_eq_getElem (show k + q < m.length by omega), List.getElem?_eq_getElem (show k < m.length by omega)]; rfl) (fun m => by unfold M.rand_Deal_L2; simp)
            rw [iota_len] at hm1
            rw [hm3]
            simp only [Option.bind_some, joinK_next]
            have hsub : sub m 0 (n : Int) = some (m.take n) := by
              unfold sub
              rw [if_pos ⟨by omega, by omega, by omega⟩]; simp
            rw [hsub]
            simp only [Option.bind_some]
            have hml : (m.take n).length = n := by simp; omega
            rw [value_Vector_eq (by rw [hml]; omega), w64_id (by omega) (by omega), hml, hm2]; rfl
theorem swap_perm : ∀ (t : List Int) (q : Nat) (h : Int), (hq : q < t.length) → (h :: t).Perm (t[q] :: t.set q h)
  | x :: s, 0, h, _ => by simpa using List.Perm.swap x h s
  | x :: s, q + 1, h, hq => by
    have hq' : q < s.length := by simpa using hq
    have ih := swap_perm s q h hq'
    show (h :: x :: s).Perm (s[q] :: x :: s.set q h)
    exact (List.Perm.swap x h s).trans ((ih.cons x).trans (List.Perm.swap _ _ _))
theorem deal_perm {p : List Int} {q : Nat} (hq : q < p.length) : p.Perm ((p[q]?).getD 0 :: (p.set q ((p[0]?).getD 0)).tail) := by
  match p, q, hq with
  | h :: t, 0, _ => simp
  | h :: t, q + 1, hq =>
    have hq' : q < t.length := by simpa using hq
    have := swap_perm t q h hq'
    simpa [List.getElem?_eq_getElem hq'] using this
theorem dealL_sub (draws : List Int) : ∀ (n : Nat) (a : Int) (p : List Int), n ≤ p.length → ∃ r, p.Perm (dealL draws n a p ++ r)
  | 0, _, p, _ => ⟨p, by simp [dealL]⟩
  | n + 1, a, p, h => by
    have m1 := Int.emod_nonneg (dr draws a) (show (p.length : Int) ≠ 0 by omega)
    have m2 := Int.emod_lt_of_pos (dr draws a) (show (0 : Int) < p.length by omega)
    obtain ⟨r, hr⟩ := dealL_sub draws n (a + 1) ((p.set (dr draws a % p.length).toNat ((p[0]?).getD 0)).tail) (by simp; omega)
    refine ⟨r, ?_⟩
    rw [dealL, List.cons_append]
    exact (deal_perm (by omega)).trans (hr.cons _)
theorem dealL_take (draws : List Int) : ∀ (m n : Nat) (a : Int) (p : List Int), m ≤ n → (dealL draws n a p).take m = dealL draws m a p
  | 0, _, _, _, _ => by simp [dealL]
  | m + 1, n + 1, a, p, h => by rw [dealL, dealL, List.take_succ_cons, dealL_take draws m n _ _ (by omega)]
theorem dealL_congr {d d' : List Int} : ∀ (n : Nat) (a : Int) (p : List Int), (∀ k : Nat, k < n → dr d (a + k) = dr d' (a + k)) → dealL d n a p = dealL d' n a p
  | 0, _, _, _ => rfl
  | n + 1, a, p, h => by
    have h0 := h 0 (by omega)
    simp at h0
    have ih := fun p => dealL_congr (d := d) (d' := d') n (a + 1) p (fun k hk => by
      have := h (k + 1) (by omega)
      rw [show a + ((k + 1 : Nat) : Int) = a + 1 + k by omega] at this
      exact this)
    rw [dealL, dealL, h0, ih]
theorem iota_mem {n : Nat} {x : Int} : x ∈ iota n ↔ 1 ≤ x ∧ x ≤ n := by
  unfold iota
  rw [List.mem_map]
  constructor
  · rintro ⟨i, hi, rfl⟩
    rw [List.mem_range] at hi; omega
  · rintro ⟨h1, h2⟩
    exact ⟨(x - 1).toNat, List.mem_range.mpr (by omega), by omega⟩
theorem iota_nodup (n : Nat) : (iota n).Nodup := by
  unfold iota
  rw [List.Nodup, List.pairwise_map]
  exact List.Pairwise.imp (fun h => by intro e; omega) List.nodup_range
theorem vRight_one (x : Int) : vRight ⟨false, [], [x]⟩ = true := by
  refine vRight_iff.mpr ⟨⟨by simp, by simp, by simp [prod]⟩, by simp [prod], by simp⟩
theorem deal_one {x y : Int} (h0 : 0 ≤ x) (h1 : x ≤ y) (h2 : y ≤ 10000) : dealOk ⟨false, [], [x]⟩ ⟨false, [], [y]⟩ 0 = 0 := by
  unfold dealOk
  rw [vRight_one, vRight_one, if_neg (by simp), if_neg (by simp), if_neg (by simp), if_neg (by simp [fst1]; omega), if_neg (by simp [fst1]; omega)]
/-- the marks of what was dealt. -/
theorem mark_loop {f : Int × List Bool → Option (Ctl (Int × List Bool) (Ctl Unit Bool))} {l : List Int} {N : Nat} (hN : ∀ x ∈ l, 1 ≤ x ∧ x ≤ N) (hnd : l.Nodup)
    (hf : ∀ k : Nat, ∀ h : k < l.length, ∀ m : List Bool, m.length = N + 1 → m[l[k].toNat]? = some false → f ((k : Int), m) = some (.next ((k : Int) + 1, m.set l[k].toNat true)))
    (he : ∀ m, f ((l.length : Int), m) = some (.done (.next ()))) : wloop f (0, List.replicate (N + 1) false) = some (.next ()) := by
  have key := wloop_ind (f := f) (fun j st => ∃ k : Nat, ∃ m : List Bool, j = l.length - k ∧ k ≤ l.length ∧ st = ((k : Int), m) ∧ m.length = N + 1 ∧ ∀ i (h : i < l.length), k ≤ i → m[l[i].toNat]? = some false)
    (fun b => b = .next ()) (fun j st h => by
      obtain ⟨k, m, rfl, hk, rfl, hm, h1⟩ := h
      by_cases hlt : k < l.length
      · left
        rw [hf k hlt m hm (h1 k hlt (by omega))]
        refine ⟨_, l.length - (k + 1), rfl, by omega, k + 1, _, rfl, by omega, rfl, by simp [hm], fun i hi hki => ?_⟩
        have hne : l[k] ≠ l[i] := by
          intro e
          have := (List.getElem_inj (h₀ := hlt) (h₁ := hi) hnd).mp e
          omega
        have b1 := hN _ (List.getElem_mem hlt)
        have b2 := hN _ (List.getElem_mem hi)
        rw [List.getElem?_set_ne (by omega)]
        exact h1 i hi (by omega)
      · have : k = l.length := by omega
        subst this
        right
        exact ⟨_, he m, rfl⟩) l.length (0, List.replicate (N + 1) false) ⟨0, _, by omega, by omega, rfl, by simp, fun i hi _ => by
          have b2 := hN _ (List.getElem_mem hi)
          rw [List.getElem?_replicate, if_pos (by omega)]⟩
  obtain ⟨b, hb, rfl⟩ := key
  exact hb
theorem randDeals_true (a b : Int) (draws behind : List Int) (ga : (Lit.int .u8 a).wf = true) (gb : (Lit.int .u8 b).wf = true) (gd : ∀ x ∈ draws, (Lit.int .u64 x).wf = true) (ld0 : draws.length * 8 ≤ reachBytes)
    (gh : ∀ x ∈ behind, (Lit.int .u64 x).wf = true) (lh0 : behind.length * 8 ≤ reachBytes) : M.anamnesislaw13_RandDeals a b draws behind = some true := by
  have hm : maxLen = 9223372036854775807 := rfl
  have hrb : reachBytes = 140737488351232 := by decide
  have ld : draws.length ≤ maxLen := by omega
  have w8 : ∀ {c : Int}, (Lit.int .u8 c).wf = true → 0 ≤ c ∧ c ≤ 255 := by
    intro c gc
    have h2 : (decide (IntKind.u8.min ≤ c) && decide (c ≤ IntKind.u8.max)) = true := gc
    rw [show IntKind.u8.min = 0 by decide, show IntKind.u8.max = 255 by decide] at h2
    simpa using h2
  have ha := w8 ga
  have hb := w8 gb
  have hd := fun x hx => wfu64 (gd x hx)
  have hh := fun x hx => wfu64 (gh x hx)
  obtain ⟨N, hN⟩ := Int.eq_ofNat_of_zero_le (Int.emod_nonneg b (show (61 : Int) ≠ 0 by omega))
  have hN61 : N < 61 := by
    have := Int.emod_lt_of_pos b (show (0 : Int) < 61 by omega)
    omega
  obtain ⟨n, hn, hnN⟩ : ∃ n : Nat, a % ((N : Int) + 1) = n ∧ n ≤ N := by
    have m1 := Int.emod_nonneg a (show (N : Int) + 1 ≠ 0 by omega)
    have m2 := Int.emod_lt_of_pos a (show (0 : Int) < (N : Int) + 1 by omega)
    exact ⟨(a % ((N : Int) + 1)).toNat, by omega, by omega⟩
  unfold M.anamnesislaw13_RandDeals M.anamnesislaw13_one M.anamnesislaw13_vec
  have eb : IntKind.i64.wrap (Int.tmod b 61) = (N : Int) := by rw [Int.tmod_eq_emod_of_nonneg hb.1, hN, w64_id (by omega) (by omega)]
  have eq : remI (IntKind.i64.wrap a) (IntKind.i64.wrap ((N : Int) + 1)) = some (n : Int) := by
    unfold remI
    rw [w64_id (by omega) (by omega), w64_id (by omega) (by omega), if_neg (by omega), Int.tmod_eq_emod_of_nonneg ha.1, hn]
  simp only [eb, eq, Option.bind_some]
  have hL1 : wloop (M.anamnesislaw13_RandDeals_L1 draws (n : Int)) ([], 0) = some (.next ((List.range n).map fun (i : Nat) => dr draws (i : Int))) := by
    have key := wloop_ind (f := M.anamnesislaw13_RandDeals_L1 draws (n : Int)) (fun j st => ∃ k : Nat, j = n - k ∧ k ≤ n ∧ st = ((List.range k).map fun (i : Nat) => dr draws (i : Int), (k : Int)))
      (fun c => c = .next ((List.range n).map fun (i : Nat) => dr draws (i : Int))) (fun j st h => by
        obtain ⟨k, rfl, hk, rfl⟩ := h
        by_cases hlt : k < n
        · left
          unfold M.anamnesislaw13_RandDeals_L1
          simp only [show decide ((k : Int) < (n : Int)) = true from decide_eq_true (by omega), if_true]
          have e : (if decide ((k : Int) < (draws.length : Int)) = true then (idx draws (k : Int)).bind fun y1 => some y1 else some 0) = some (dr draws k) := by
            by_cases h : k < draws.length
            · rw [if_pos (by simpa using h), idx_get h, dr_get h]; rfl
            · rw [if_neg (by simpa using h), dr_out (by omega)]
          rw [e]
          simp only [Option.bind_some]
          rw [app_ok (by simp; omega), w64_id (by omega) (by omega)]
          refine ⟨_, n - (k + 1), rfl, by omega, k + 1, rfl, by omega, ?_⟩
          rw [List.range_succ, List.map_append]; rfl
        · have : k = n := by omega
          subst this
          right
          unfold M.anamnesislaw13_RandDeals_L1
          simp only [show decide ((k : Int) < (k : Int)) = false from decide_eq_false (by omega), Bool.false_eq_true, if_false]
          exact ⟨_, rfl, rfl⟩) n ([], 0) ⟨0, by omega, by omega, rfl⟩
    obtain ⟨c, hc, rfl⟩ := key
    exact hc
  rw [hL1]
  simp only [Option.bind_some, joinK_next]
  have o1 := deal_one (x := (n : Int)) (y := (N : Int)) (by omega) (by omega) (by omega)
  have o2 := deal_one (x := ((n / 2 : Nat) : Int)) (y := (N : Int)) (by omega) (by omega) (by omega)
  have v1 : ∀ (d : List Int) (k : Nat), dealOk ⟨false, [], [(k : Int)]⟩ ⟨false, [], [(N : Int)]⟩ 0 = 0 → dealV ⟨false, [], [(k : Int)]⟩ ⟨false, [], [(N : Int)]⟩ d 0 = ⟨false, [(k : Int)], dealL d k 0 (iota N)⟩ := by
    intro d k hk
    unfold dealV; rw [if_pos hk]; simp [fst1]
  generalize hu : ((List.range n).map fun (i : Nat) => dr draws (i : Int)) = used
  have hul : used.length = n := by rw [← hu]; simp
  have hug : ∀ x ∈ used, 0 ≤ x ∧ x ≤ 18446744073709551615 := by
    intro x hx
    rw [← hu, List.mem_map] at hx
    obtain ⟨i, _, rfl⟩ := hx
    by_cases h : i < draws.length
    · rw [dr_get h]; exact hd _ (List.getElem_mem h)
    · rw [dr_out (by omega)]; omega
  rw [rand_Deal_eq (by simp) (by simp) hd, o1, app_ok (by omega), rand_Deal_eq (by simp) (by simp) hd]
  simp only [Option.bind_some]
  rw [rand_Deal_eq (by simp) (by simp) (by
    intro x hx
    rcases List.mem_append.mp hx with hx | hx
    · exact hug x hx
    · exact hh x hx), o1]
  have hcong : dealL (used ++ behind) n 0 (iota N) = dealL draws n 0 (iota N) := dealL_congr n 0 _ (fun k hk => by
    rw [Int.zero_add]
    have hk' : k < (used ++ behind).length := by simp; omega
    rw [dr_get hk', List.getElem_append_left (by omega)]
    subst hu
    simp)
  rw [v1 _ _ o1, v1 _ _ o1, hcong]
  simp only [Option.bind_some, if_true, fst1, dealL_len, bne_self_eq_false, Bool.or_self, Bool.false_eq_true, if_false, Int.zero_add, List.getElem?_cons_zero, Option.getD_some]
  rw [ref06_Same_eq (by simp [maxLen]) (by simp only [dealL_len]; omega), vSame_refl]
  simp only [Option.bind_some, Bool.not_true, Bool.false_eq_true, if_false]
  rw [w64_id (x := (N : Int) + 1) (by omega) (by omega), show ((N : Int) + 1) = ((N + 1 : Nat) : Int) by omega, mk_ok (by omega) (by omega)]
  simp only [Option.bind_some]
  obtain ⟨r, hr⟩ := dealL_sub draws n 0 (iota N) (by rw [iota_len]; exact hnN)
  have hmem : ∀ x ∈ dealL draws n 0 (iota N), 1 ≤ x ∧ x ≤ N := fun x hx => iota_mem.mp (hr.mem_iff.mpr (List.mem_append_left _ hx))
  have hnd : (dealL draws n 0 (iota N)).Nodup := (List.nodup_append.mp (hr.nodup_iff.mp (iota_nodup N))).1
  have hL2 := mark_loop (f := M.anamnesislaw13_RandDeals_L2 b (n : Int) ⟨false, [(n : Int)], dealL draws n 0 (iota N)⟩) hmem hnd (fun k h m hm he => by
    unfold M.anamnesislaw13_RandDeals_L2
    have hkn : k < n := by rw [dealL_len] at h; exact h
    have hx := hmem _ (List.getElem_mem h)
    simp only [show decide ((k : Int) < (n : Int)) = true from decide_eq_true (by omega), if_true, idx_get h, Option.bind_some, eb]
    generalize (dealL draws n 0 (iota N))[k] = y at *
    obtain ⟨z, rfl⟩ := Int.eq_ofNat_of_zero_le (show 0 ≤ y by omega)
    rw [Int.toNat_natCast] at he
    have hzl : z < m.length := by omega
    have hz : m[z] = false := by rw [List.getElem?_eq_getElem hzl] at he; exact Option.some.inj he
    rw [show (decide ((z : Int) < 1) || decide ((z : Int) > (N : Int))) = false by simp; omega]
    simp only [Bool.false_eq_true, if_false]
    rw [idx_get hzl, hz]
    simp only [Option.bind_some, Bool.false_eq_true, if_false]
    rw [upd_nat hzl, w64_id (by omega) (by omega)]; rfl) (fun m => by
      unfold M.anamnesislaw13_RandDeals_L2
      rw [dealL_len]; simp)
  rw [hL2]
  simp only [Option.bind_some, joinK_next]
  have eh : IntKind.i64.wrap (Int.tdiv (n : Int) 2) = ((n / 2 : Nat) : Int) := by
    rw [Int.tdiv_eq_ediv_of_nonneg (by omega), w64_id (by omega) (by omega)]; omega
  rw [eh, o2, v1 _ _ o2]
  have s1 : sub (dealL draws n 0 (iota N)) 0 ((n / 2 : Nat) : Int) = some ((dealL draws n 0 (iota N)).take (n / 2)) := by
    unfold sub
    rw [if_pos ⟨by omega, by omega, by rw [dealL_len]; omega⟩]
    simp
    rw [show ((n : Int) / 2).toNat = n / 2 by omega]
  rw [s1, dealL_take draws (n / 2) n 0 _ (by omega)]
  simp only [Option.bind_some, dealL_len, BEq.rfl, if_true]
  rw [ref06_Same_eq (by simp [maxLen]) (by simp only [dealL_len]; omega), vSame_refl]
  rfl

end Go.Proofs.Ytpkfklfakegbjaa.randDeals
