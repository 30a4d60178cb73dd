/- ValueTexts: what the code that the law reaches computes, as plain functions; and that the law comes to true. -/
import Derived.Test.YtpkfklfakegbjaaAmU
set_option linter.unusedVariables false
set_option linter.unusedSimpArgs false
set_option maxRecDepth 100000
open Go Go.Am
namespace Go.Proofs.Ytpkfklfakegbjaa.valueTexts
noncomputable def M.value_Text_L1 (s1 : ByteArray) (s : (List Int) × Nat) : Option (Ctl ((List Int) × Nat) (Ctl ((List Int)) ((List Int)))) :=
  match s with
  | (Data2, pos1) =>
    if (decide (pos1 < s1.size)) then
      if ((Data2.length : Int) == 10000) then
        some (.done (.next Data2))
      else
        (app 8 Data2 ([(IntKind.i64.wrap (runeAt s1 pos1))])).bind fun l1 =>
        some (.next (l1, (nextP s1 pos1)))
    else
      some (.done (.next Data2))
noncomputable def M.value_Text (s1 : ByteArray) : Option (Val) :=
  ((wloop (M.value_Text_L1 s1) ([], 0)).bind fun k => joinK k fun jx =>
  some jx).bind fun Data1 =>
  some (Val.mk true ([(Data1.length : Int)]) Data1)
noncomputable def M.anamnesisref02_take_L1 (s1 : ByteArray) (i1 : Int) (n1 : Int) (s : Int × Int) : Option (Ctl (Int × Int) (Ctl (Int) (Int × Int))) :=
  match s with
  | (c5, k2) =>
    if (decide (k2 < n1)) then
      (sidx s1 (IntKind.i64.wrap (i1 + k2))).bind fun y2 =>
      (if (decide (y2 < 128)) then
      some true else
      (sidx s1 (IntKind.i64.wrap (i1 + k2))).bind fun y3 =>
      some (decide (y3 ≥ 192))).bind fun c7 =>
      if c7 then
        some (.done (.done (65533, 1)))
      else
        (sidx s1 (IntKind.i64.wrap (i1 + k2))).bind fun y4 =>
        some (.next ((IntKind.i64.wrap ((IntKind.i64.wrap (64 * c5)) + (IntKind.i64.wrap (IntKind.u8.wrap (y4 - 128))))), (IntKind.i64.wrap (k2 + 1))))
    else
      some (.done (.next c5))
noncomputable def M.anamnesisref02_take (s1 : ByteArray) (i1 : Int) : Option (Int × Int) :=
  (sidx s1 i1).bind fun y1 =>
  (if (decide ((IntKind.i64.wrap y1) < 128)) then
    some (.done ((IntKind.i64.wrap y1), 1))
  else
    if ((decide ((IntKind.i64.wrap y1) ≥ 192)) && (decide ((IntKind.i64.wrap y1) < 224))) then
      some (.next ((IntKind.i64.wrap ((IntKind.i64.wrap y1) - 192)), 2, 128))
    else
      if ((decide ((IntKind.i64.wrap y1) ≥ 224)) && (decide ((IntKind.i64.wrap y1) < 240))) then
        some (.next ((IntKind.i64.wrap ((IntKind.i64.wrap y1) - 224)), 3, 2048))
      else
        if ((decide ((IntKind.i64.wrap y1) ≥ 240)) && (decide ((IntKind.i64.wrap y1) < 248))) then
          some (.next ((IntKind.i64.wrap ((IntKind.i64.wrap y1) - 240)), 4, 65536))
        else
          some (.done (65533, 1))).bind fun k => joinK k fun (c1, n1, least1) =>
  if (decide ((IntKind.i64.wrap (i1 + n1)) > (s1.size : Int))) then
    some (65533, 1)
  else
    (wloop (M.anamnesisref02_take_L1 s1 i1 n1) (c1, 1)).bind fun k => joinK k fun c5 =>
    if (((decide (c5 < least1)) || (decide (c5 > 1114111))) || ((decide (c5 ≥ 55296)) && (decide (c5 ≤ 57343)))) then
      some (65533, 1)
    else
      some (c5, n1)
noncomputable def M.anamnesisref02_Text_L1 (s1 : ByteArray) (s : Int × (List Int)) : Option (Ctl (Int × (List Int)) (Ctl ((List Int)) (Val))) :=
  match s with
  | (i1, Data1) =>
    if ((decide (i1 < (s1.size : Int))) && (decide ((Data1.length : Int) < 10000))) then
      (M.anamnesisref02_take s1 i1).bind fun (r1, r2) =>
      (app 8 Data1 ([r1])).bind fun l1 =>
      some (.next ((IntKind.i64.wrap (i1 + r2)), l1))
    else
      some (.done (.next Data1))
noncomputable def M.anamnesisref02_Text (s1 : ByteArray) : Option (Val) :=
  (wloop (M.anamnesisref02_Text_L1 s1) (0, [])).bind fun k => joinK k fun Data1 =>
  some (Val.mk true ([(Data1.length : Int)]) Data1)
noncomputable def M.anamnesisref02_Same_L2 (a1 : Val) (b1 : Val) (s : Int) : Option (Ctl (Int) (Ctl (Unit) (Bool))) :=
  match s with
  | i2 =>
    if (decide (i2 < (a1.Data.length : Int))) then
      (idx a1.Data i2).bind fun y3 =>
      (idx b1.Data i2).bind fun y4 =>
      if (y3 != y4) then
        some (.done (.done false))
      else
        some (.next (IntKind.i64.wrap (i2 + 1)))
    else
      some (.done (.next ()))
noncomputable def M.anamnesisref02_Same_L1 (a1 : Val) (b1 : Val) (s : Int) : Option (Ctl (Int) (Ctl (Unit) (Bool))) :=
  match s with
  | i1 =>
    if (decide (i1 < (a1.Shape.length : Int))) then
      (idx a1.Shape i1).bind fun y1 =>
      (idx b1.Shape i1).bind fun y2 =>
      if (y1 != y2) then
        some (.done (.done false))
      else
        some (.next (IntKind.i64.wrap (i1 + 1)))
    else
      some (.done (.next ()))
noncomputable def M.anamnesisref02_Same (a1 : Val) (b1 : Val) : Option (Bool) :=
  if (((!(a1.Char == b1.Char)) || ((a1.Shape.length : Int) != (b1.Shape.length : Int))) || ((a1.Data.length : Int) != (b1.Data.length : Int))) then
    some false
  else
    (wloop (M.anamnesisref02_Same_L1 a1 b1) 0).bind fun k => joinK k fun _ =>
    (wloop (M.anamnesisref02_Same_L2 a1 b1) 0).bind fun k => joinK k fun _ =>
    some true
noncomputable def M.anamnesislaw02_ValueTexts (s1 : ByteArray) : Option (Bool) :=
  (if (decide ((s1.size : Int) > 20000)) then
    (ssub s1 0 20000).bind fun s3 =>
    some s3
  else
    some s1).bind fun s2 =>
  (M.value_Text s2).bind fun r1 =>
  (M.anamnesisref02_Text s2).bind fun r2 =>
  (M.anamnesisref02_Same r1 r2).bind fun r3 =>
  some (r3 && true)
theorem w64_id {x : Int} (h1 : -9223372036854775808 ≤ x) (h2 : x ≤ 9223372036854775807) : IntKind.i64.wrap x = x := wrap_id h1 h2
theorem u8_mod (x : Int) : IntKind.u8.wrap x = x % 256 := by simp [IntKind.wrap, IntKind.bits, IntKind.signed]
theorem u8_id {x : Int} (h1 : 0 ≤ x) (h2 : x ≤ 255) : IntKind.u8.wrap x = x := by rw [u8_mod]; omega
theorem u32_id {x : Int} (h1 : 0 ≤ x) (h2 : x ≤ 1114111) : IntKind.u32.wrap x = x := by
  have : IntKind.u32.wrap x = x % 4294967296 := by simp [IntKind.wrap, IntKind.bits, IntKind.signed]
  rw [this]; omega
/-- A loop comes to an end in a state with Q: P holds ahead of each round, and its number falls. -/
theorem wloop_ind {σ β : Type} {f : σ → Option (Ctl σ β)} (P : Nat → σ → Prop) (Q : β → Prop)
    (h : ∀ n s, P n s → (∃ s' n', f s = some (.next s') ∧ n' < n ∧ P n' s') ∨ (∃ b, f s = some (.done b) ∧ Q b)) : ∀ n s, P n s → ∃ b, wloop f s = some b ∧ Q b := by
  intro n
  induction n using Nat.strongRecOn with
  | _ n ih =>
    intro s hp
    rcases h n s hp with ⟨s', n', hf, hn, hp'⟩ | ⟨b, hf, hq⟩
    · obtain ⟨b, hb, hq⟩ := ih n' hn s' hp'
      exact ⟨b, by rw [wloop_next hf]; exact hb, hq⟩
    · exact ⟨b, wloop_done hf, hq⟩
theorem idx_nat {α : Type} (l : List α) (k : Nat) : idx l (k : Int) = l[k]? := by
  unfold idx; rw [if_pos (by omega)]; rfl
theorem idx_get {α : Type} {l : List α} {k : Nat} (h : k < l.length) : idx l (k : Int) = some l[k] := by rw [idx_nat, List.getElem?_eq_getElem h]
theorem upd_nat {α : Type} {l : List α} {k : Nat} {x : α} (h : k < l.length) : upd l (k : Int) x = some (l.set k x) := by
  unfold upd; rw [if_pos ⟨by omega, by omega⟩]; rfl
theorem app_ok {α : Type} {b : Nat} {l m : List α} (h : (l.length + m.length) * b ≤ 140737488355328) : app b l m = some (l ++ m) := by
  unfold app; rw [if_pos (.inr h)]
theorem mk_ok {α : Type} {b : Nat} {z : α} {n : Nat} (h : b * n ≤ 140737488355328) (h' : n ≤ 140737488355328) : mk b z (n : Int) (n : Int) = some (List.replicate n z) := by
  unfold mk
  have : ((b : Int) * (n : Int)) ≤ 140737488355328 := by
    have h2 : ((b * n : Nat) : Int) ≤ 140737488355328 := by omega
    rwa [Int.natCast_mul] at h2
  rw [if_pos ⟨by omega, by omega, this, by omega⟩]; rfl
/-- the numbers that a kind has. -/
theorem wf64 {n : Int} (h : (Lit.int .i64 n).wf = true) : -9223372036854775808 ≤ n ∧ n ≤ 9223372036854775807 := by
  have h2 : (decide (IntKind.i64.min ≤ n) && decide (n ≤ IntKind.i64.max)) = true := h
  have e1 : IntKind.i64.min = -9223372036854775808 := by decide
  have e2 : IntKind.i64.max = 9223372036854775807 := by decide
  rw [e1, e2] at h2
  simpa using h2
theorem sub_drop {α : Type} {l : List α} {k : Nat} (h : k ≤ l.length) : sub l (k : Int) (l.length : Int) = some (l.drop k) := by
  unfold sub
  rw [if_pos ⟨by omega, by omega, by omega⟩]
  simp
theorem drop_cons {α : Type} {l : List α} {k : Nat} (h : k < l.length) : l.drop k = l[k] :: l.drop (k + 1) := List.drop_eq_getElem_cons h
theorem same_loop {f : Int → Option (Ctl Int (Ctl Unit Bool))} {a b : List Int} (hl : a.length = b.length) (hm : a.length ≤ maxLen)
    (hf : ∀ k : Nat, ∀ h : k < a.length, f k = if a[k] = b[k]'(hl ▸ h) then some (.next ((k : Int) + 1)) else some (.done (.done false))) (he : f a.length = some (.done (.next ()))) :
    wloop f 0 = some (if a = b then .next () else .done false) := by
  have key := wloop_ind (f := f) (fun n i => ∃ k : Nat, i = k ∧ k ≤ a.length ∧ n = a.length - k ∧ a.take k = b.take k)
    (fun c => (c = .done false ∧ a ≠ b) ∨ (c = .next () ∧ a = b)) (fun n i h => by
      obtain ⟨k, rfl, hk, rfl, hn⟩ := h
      by_cases hlt : k < a.length
      · rw [hf k hlt]
        by_cases he : a[k] = b[k]
        · rw [if_pos he]
          left
          refine ⟨_, a.length - (k + 1), rfl, by omega, k + 1, by omega, by omega, rfl, ?_⟩
          rw [List.take_succ_eq_append_getElem hlt, List.take_succ_eq_append_getElem (by omega), hn, he]
        · rw [if_neg he]
          right
          refine ⟨_, rfl, .inl ⟨rfl, fun h => he ?_⟩⟩
          subst h; rfl
      · have : k = a.length := by omega
        subst this
        right
        refine ⟨_, he, .inr ⟨rfl, ?_⟩⟩
        rw [List.take_length, hl, List.take_length] at hn
        exact hn) a.length 0 ⟨0, rfl, by omega, by omega, by simp⟩
  obtain ⟨c, hc, ⟨rfl, h⟩ | ⟨rfl, h⟩⟩ := key
  · rw [hc]; simp [h]
  · rw [hc]; simp [h]

theorem same_step {f : Int → Option (Ctl Int (Ctl Unit Bool))} {a b : List Int} (hl : a.length = b.length) (hm : a.length ≤ maxLen)
    (hf : ∀ k : Nat, ∀ h : k < a.length, f k = if a[k] = b[k]'(hl ▸ h) then some (.next ((k : Int) + 1)) else some (.done (.done false))) (he : f a.length = some (.done (.next ()))) :
    (wloop f 0).bind (fun k => joinK k fun _ => some true) = some (decide (a = b)) := by
  rw [same_loop hl hm hf he]
  by_cases h : a = b
  · rw [if_pos h, decide_eq_true h]; rfl
  · rw [if_neg h, decide_eq_false h]; rfl
/-- a loop that counts up. -/
theorem loop_up {S τ β : Type} {f : S → Option (Ctl S β)} (st : Nat → τ → S) (n : Nat) (I : Nat → τ → Prop) (out : τ → β) (a : τ) (h0 : I 0 a)
    (hf : ∀ k m, k < n → I k m → ∃ m', f (st k m) = some (.next (st (k + 1) m')) ∧ I (k + 1) m') (he : ∀ m, I n m → f (st n m) = some (.done (out m))) :
    ∃ m, I n m ∧ wloop f (st 0 a) = some (out m) := by
  have key := wloop_ind (f := f) (fun j s => ∃ k m, s = st k m ∧ j = n - k ∧ k ≤ n ∧ I k m) (fun b => ∃ m, b = out m ∧ I n m) (fun j s h => by
    obtain ⟨k, m, rfl, rfl, hk, hi⟩ := h
    by_cases hlt : k < n
    · left
      obtain ⟨m', h1, h2⟩ := hf k m hlt hi
      exact ⟨_, n - (k + 1), h1, by omega, k + 1, m', rfl, rfl, by omega, h2⟩
    · have : k = n := by omega
      subst this
      exact .inr ⟨_, he m hi, m, rfl, hi⟩) n (st 0 a) ⟨0, a, rfl, by omega, by omega, h0⟩
  obtain ⟨b, hb, m, rfl, hi⟩ := key
  exact ⟨m, hi, hb⟩
/-- a loop that counts up, each of whose states is told. -/
theorem loop_fun {S β : Type} {f : S → Option (Ctl S β)} (st : Nat → S) (n : Nat) {b : β} (hf : ∀ k, k < n → f (st k) = some (.next (st (k + 1)))) (he : f (st n) = some (.done b)) : wloop f (st 0) = some b := by
  obtain ⟨_, _, h⟩ := loop_up (f := f) (fun k (_ : Unit) => st k) n (fun _ _ => True) (fun _ => b) () trivial (fun k m hk _ => ⟨(), hf k hk, trivial⟩) (fun m _ => he)
  exact h
theorem lin_lt {i k R C : Nat} (h : i < R) (hk : k < C) : i * C + k < R * C := by
  have := Nat.mul_le_mul_right C (show i + 1 ≤ R from h)
  rw [Nat.succ_mul] at this; omega
theorem lin_inj {i k i' k' C : Nat} (hk : k < C) (hk' : k' < C) (h : i * C + k = i' * C + k') : i = i' ∧ k = k' := by
  have hc : 0 < C := by omega
  have e : ∀ (a b : Nat), b < C → (a * C + b) / C = a := fun a b hb => by
    rw [Nat.mul_comm, Nat.mul_add_div hc, Nat.div_eq_of_lt hb, Nat.add_zero]
  have h1 := e i k hk
  rw [h, e i' k' hk'] at h1
  subst h1; omega
/-- a matrix, row by row. -/
def tab (R C : Nat) (f : Nat → Nat → Int) : List Int := (List.range (R * C)).map fun p => f (p / C) (p % C)
theorem tab_len (R C : Nat) (f : Nat → Nat → Int) : (tab R C f).length = R * C := by simp [tab]
theorem tab_get {R C i k : Nat} (f : Nat → Nat → Int) (hi : i < R) (hk : k < C) : (tab R C f)[i * C + k]? = some (f i k) := by
  have hc : 0 < C := by omega
  unfold tab
  rw [List.getElem?_map, List.getElem?_range (lin_lt hi hk)]
  show some (f ((i * C + k) / C) ((i * C + k) % C)) = _
  rw [Nat.mul_comm, Nat.mul_add_div hc, Nat.div_eq_of_lt hk, Nat.mul_add_mod, Nat.mod_eq_of_lt hk, Nat.add_zero]
theorem tab_ext {R C : Nat} {f : Nat → Nat → Int} {l : List Int} (hl : l.length = R * C) (h : ∀ i k, i < R → k < C → l[i * C + k]? = some (f i k)) : l = tab R C f := by
  apply List.ext_getElem?
  intro p
  by_cases hp : p < R * C
  · have hc : 0 < C := by
      rcases Nat.eq_zero_or_pos C with h | h
      · subst h; simp at hp
      · exact h
    have h1 : p / C < R := by rw [Nat.div_lt_iff_lt_mul hc]; exact hp
    have h2 : p % C < C := Nat.mod_lt _ hc
    have e : p / C * C + p % C = p := by rw [Nat.mul_comm]; exact Nat.div_add_mod p C
    have a := h _ _ h1 h2
    have b := tab_get f h1 h2
    rw [e] at a b
    rw [a, b]
  · rw [List.getElem?_eq_none (by omega), List.getElem?_eq_none (by rw [tab_len]; omega)]
def prod : List Int → Int
  | [] => 1
  | x :: s => x * prod s
def off : List Int → List Int → Int
  | x :: s, a :: at_ => a * prod s + off s at_
  | _, _ => 0
def dig : List Int → Int → List Int
  | [], _ => []
  | _ :: s, k => k / prod s :: dig s (k % prod s)
/-- is a place in a shape? -/
def inShape : List Int → List Int → Prop
  | [], [] => True
  | x :: s, a :: at_ => 0 ≤ a ∧ a < x ∧ inShape s at_
  | _, _ => False
instance : (s at_ : List Int) → Decidable (inShape s at_)
  | [], [] => isTrue trivial
  | x :: s, a :: at_ =>
    have := instDecidableInShape s at_
    by unfold inShape; exact inferInstance
  | [], _ :: _ => isFalse (fun h => h)
  | _ :: _, [] => isFalse (fun h => h)
theorem inShape.len : ∀ {s at_ : List Int}, inShape s at_ → at_.length = s.length
  | [], [], _ => rfl
  | x :: s, a :: at_, ⟨_, _, h⟩ => by simp [h.len]
  | [], _ :: _, h => h.elim
  | _ :: _, [], h => h.elim
theorem inShape.pos : ∀ {s at_ : List Int}, inShape s at_ → 0 < prod s
  | [], [], _ => by simp [prod]
  | x :: s, a :: at_, ⟨h0, h1, h⟩ => by
    have := h.pos
    exact Int.mul_pos (by omega) this
  | [], _ :: _, h => h.elim
  | _ :: _, [], h => h.elim
theorem off_range : ∀ {s at_ : List Int}, inShape s at_ → 0 ≤ off s at_ ∧ off s at_ < prod s
  | [], [], _ => by simp [prod, off]
  | x :: s, a :: at_, ⟨h0, h1, h⟩ => by
    have h2 := off_range h
    have h3 := h.pos
    have h4 : (a + 1) * prod s ≤ x * prod s := Int.mul_le_mul_of_nonneg_right (by omega) (by omega)
    have h5 : 0 ≤ a * prod s := Int.mul_nonneg h0 (by omega)
    rw [Int.add_mul] at h4
    simp only [prod, off]
    omega
  | [], _ :: _, h => h.elim
  | _ :: _, [], h => h.elim
theorem dig_off : ∀ {s at_ : List Int}, inShape s at_ → dig s (off s at_) = at_
  | [], [], _ => rfl
  | x :: s, a :: at_, ⟨h0, h1, h⟩ => by
    have h2 := off_range h
    have h3 := h.pos
    simp only [dig, off]
    rw [Int.add_comm, Int.mul_comm, Int.add_mul_ediv_left _ _ (by omega), Int.add_mul_emod_self_left, Int.emod_eq_of_lt h2.1 h2.2, dig_off h, Int.ediv_eq_zero_of_lt h2.1 h2.2]
    simp
  | [], _ :: _, h => h.elim
  | _ :: _, [], h => h.elim
def allPos (s : List Int) : Prop := ∀ x ∈ s, 0 < x
theorem allPos.pprod : ∀ {s : List Int}, allPos s → 0 < prod s
  | [], _ => by simp [prod]
  | x :: s, h => Int.mul_pos (h x List.mem_cons_self) (allPos.pprod fun y hy => h y (List.mem_cons_of_mem _ hy))
theorem allPos_of {s : List Int} (h : ∀ x ∈ s, 0 ≤ x) (hp : 0 < prod s) : allPos s := by
  intro x hx
  have h0 := h x hx
  rcases Int.lt_or_eq_of_le h0 with h1 | h1
  · exact h1
  · exfalso
    have : ∀ s : List Int, (0 : Int) ∈ s → prod s = 0 := by
      intro s
      induction s with
      | nil => intro h; simp at h
      | cons y s ih =>
        intro h
        rcases List.mem_cons.mp h with h | h
        · simp [prod, ← h]
        · simp [prod, ih h]
    rw [this s (h1 ▸ hx)] at hp
    omega
theorem dig_in : ∀ {s : List Int} {k : Int}, allPos s → 0 ≤ k → k < prod s → inShape s (dig s k)
  | [], k, _, h0, h1 => trivial
  | x :: s, k, h, h0, h1 => by
    have hs : allPos s := fun y hy => h y (List.mem_cons_of_mem _ hy)
    have hp := hs.pprod
    refine ⟨Int.ediv_nonneg h0 (by omega), ?_, dig_in hs (Int.emod_nonneg _ (by omega)) (Int.emod_lt_of_pos _ hp)⟩
    exact Int.ediv_lt_of_lt_mul hp h1
theorem off_dig : ∀ {s : List Int} {k : Int}, allPos s → 0 ≤ k → k < prod s → off s (dig s k) = k
  | [], k, _, h0, h1 => by simp [prod] at h1; simp [dig, off]; omega
  | x :: s, k, h, h0, h1 => by
    have hs : allPos s := fun y hy => h y (List.mem_cons_of_mem _ hy)
    have hp := hs.pprod
    simp only [dig, off]
    rw [off_dig hs (Int.emod_nonneg _ (by omega)) (Int.emod_lt_of_pos _ hp)]
    rw [Int.mul_comm]; exact Int.mul_ediv_add_emod k (prod s)
theorem dig_len : ∀ (s : List Int) (k : Int), (dig s k).length = s.length
  | [], _ => rfl
  | x :: s, k => by simp [dig, dig_len s]
theorem prod_nonneg : ∀ {s : List Int}, (∀ x ∈ s, 0 ≤ x) → 0 ≤ prod s
  | [], _ => by simp [prod]
  | x :: s, h => Int.mul_nonneg (h x List.mem_cons_self) (prod_nonneg fun y hy => h y (List.mem_cons_of_mem _ hy))
theorem prod_append : ∀ (s t : List Int), prod (s ++ t) = prod s * prod t
  | [], t => by simp [prod]
  | x :: s, t => by simp [prod, prod_append s t, Int.mul_assoc]

/-- the size of a shape, or the error. -/
def shSize (s : List Int) : Int × Int :=
  if 4 < s.length then (0, 24) else if s.any (fun x => decide (x < 0)) then (0, 1) else if s.any (fun x => decide (x > 10000)) || decide (prod s > 10000) then (0, 27) else (prod s, 0)
def shOk (s : List Int) : Prop := s.length ≤ 4 ∧ (∀ x ∈ s, 0 ≤ x ∧ x ≤ 10000) ∧ prod s ≤ 10000
instance (s : List Int) : Decidable (shOk s) := by unfold shOk; exact inferInstance
theorem shSize_ok {s : List Int} (h : shOk s) : shSize s = (prod s, 0) := by
  obtain ⟨h1, h2, h3⟩ := h
  unfold shSize
  rw [if_neg (by omega), if_neg, if_neg]
  · simp only [Bool.or_eq_true, List.any_eq_true, decide_eq_true_eq]
    rintro (⟨x, hx, h⟩ | h)
    · have := h2 x hx; omega
    · omega
  · simp only [List.any_eq_true, decide_eq_true_eq]
    rintro ⟨x, hx, h⟩
    have := h2 x hx; omega
theorem shSize_zero {s : List Int} : (shSize s).2 = 0 ↔ shOk s := by
  constructor
  · intro h
    unfold shSize at h
    split at h
    · cases h
    · rename_i h1
      split at h
      · cases h
      · rename_i h2
        split at h
        · cases h
        · rename_i h3
          simp only [List.any_eq_true, decide_eq_true_eq, not_exists, not_and] at h2
          simp only [Bool.or_eq_true, List.any_eq_true, decide_eq_true_eq, not_or, not_exists, not_and] at h3
          exact ⟨by omega, fun x hx => ⟨by have := h2 x hx; omega, by have := h3.1 x hx; omega⟩, by omega⟩
  · intro h; rw [shSize_ok h]
theorem shSize_cases (s : List Int) : (shOk s ∧ shSize s = (prod s, 0)) ∨ (¬ shOk s ∧ (shSize s).2 ≠ 0 ∧ (shSize s).1 = 0) := by
  by_cases h : shOk s
  · exact .inl ⟨h, shSize_ok h⟩
  · refine .inr ⟨h, fun hh => h (shSize_zero.mp hh), ?_⟩
    unfold shSize
    split
    · rfl
    · rename_i h1
      split
      · rfl
      · rename_i h2
        split
        · rfl
        · rename_i h3
          exfalso; apply h
          simp only [List.any_eq_true, decide_eq_true_eq, not_exists, not_and] at h2
          simp only [Bool.or_eq_true, List.any_eq_true, decide_eq_true_eq, not_or, not_exists, not_and] at h3
          exact ⟨by omega, fun x hx => ⟨by have := h2 x hx; omega, by have := h3.1 x hx; omega⟩, by omega⟩
theorem dig_bound {s : List Int} {k : Int} (hok : shOk s) (h0 : 0 ≤ k) (h1 : k < prod s) : ∀ x ∈ dig s k, 0 ≤ x ∧ x ≤ 10000 := by
  have hpos : allPos s := allPos_of (fun x hx => (hok.2.1 x hx).1) (by omega)
  have key : ∀ (s at_ : List Int), inShape s at_ → (∀ x ∈ s, 0 ≤ x ∧ x ≤ 10000) → ∀ x ∈ at_, 0 ≤ x ∧ x ≤ 10000 := by
    intro s
    induction s with
    | nil => intro at_ h _ x hx; cases at_ with | nil => simp at hx | cons _ _ => exact h.elim
    | cons y s ih =>
      intro at_ h hb x hx
      cases at_ with
      | nil => exact h.elim
      | cons a at_ =>
        obtain ⟨h1, h2, h3⟩ := h
        rcases List.mem_cons.mp hx with rfl | hx
        · have := hb y List.mem_cons_self; omega
        · exact ih at_ h3 (fun z hz => hb z (List.mem_cons_of_mem _ hz)) x hx
  exact key s _ (dig_in hpos h0 h1) hok.2.1
theorem dig_zero : ∀ {s : List Int}, allPos s → dig s 0 = List.replicate s.length 0
  | [], _ => rfl
  | x :: s, h => by
    have hs : allPos s := fun y hy => h y (List.mem_cons_of_mem _ hy)
    simp only [dig, Int.zero_ediv, Int.zero_emod, dig_zero hs]; rfl

theorem one_le_pow : ∀ k : Nat, (1 : Int) ≤ 10000 ^ k
  | 0 => by simp
  | k + 1 => by rw [Int.pow_succ]; have := one_le_pow k; omega
theorem prod_bound : ∀ (s : List Int) (k : Nat), s.length ≤ k → (∀ x ∈ s, 0 ≤ x ∧ x ≤ 10000) → 0 ≤ prod s ∧ prod s ≤ 10000 ^ k
  | [], k, _, _ => ⟨by simp [prod], one_le_pow k⟩
  | x :: s, k + 1, hl, h => by
    have h1 := h x List.mem_cons_self
    have h2 := prod_bound s k (by simpa using hl) (fun y hy => h y (List.mem_cons_of_mem _ hy))
    refine ⟨Int.mul_nonneg h1.1 h2.1, ?_⟩
    simp only [prod]
    have h3 : x * prod s ≤ 10000 * prod s := Int.mul_le_mul_of_nonneg_right h1.2 h2.1
    have h4 : (10000 : Int) ^ (k + 1) = 10000 ^ k * 10000 := Int.pow_succ _ _
    omega
  | x :: s, 0, hl, h => by simp at hl

/-- is a number a character? -/
def chOk (c : Int) : Bool := decide (0 ≤ c ∧ c ≤ 1114111) && !decide (55296 ≤ c ∧ c ≤ 57343)
/-- may an array be? -/
def vRight (v : Val) : Bool := decide (shOk v.Shape) && decide (prod v.Shape = v.Data.length) && (!v.Char || v.Data.all chOk)
def vSame (a b : Val) : Bool := (a.Char == b.Char) && decide (a.Shape = b.Shape) && decide (a.Data = b.Data)
theorem vSame_iff {a b : Val} : vSame a b = true ↔ a = b := by
  obtain ⟨c, s, d⟩ := a
  obtain ⟨c', s', d'⟩ := b
  simp only [vSame, Bool.and_eq_true, beq_iff_eq, decide_eq_true_eq, Val.mk.injEq]
  constructor
  · rintro ⟨⟨h1, h2⟩, h3⟩; exact ⟨h1, h2, h3⟩
  · rintro ⟨h1, h2, h3⟩; exact ⟨⟨h1, h2⟩, h3⟩
theorem vSame_refl (a : Val) : vSame a a = true := vSame_iff.mpr rfl
theorem vSame_eq (a b : Val) : vSame a b = true ∧ a = b ∨ vSame a b = false ∧ a ≠ b := by
  cases h : vSame a b with
  | true => exact .inl ⟨rfl, vSame_iff.mp h⟩
  | false => exact .inr ⟨rfl, fun hh => by rw [vSame_iff.mpr hh] at h; cases h⟩
theorem vRight_iff {v : Val} : vRight v = true ↔ shOk v.Shape ∧ prod v.Shape = v.Data.length ∧ (v.Char = true → ∀ c ∈ v.Data, chOk c = true) := by
  simp only [vRight, Bool.and_eq_true, decide_eq_true_eq, Bool.or_eq_true, Bool.not_eq_true', List.all_eq_true]
  constructor
  · rintro ⟨⟨h1, h2⟩, h3⟩
    refine ⟨h1, h2, fun h => ?_⟩
    rcases h3 with h3 | h3
    · rw [h3] at h; cases h
    · exact h3
  · rintro ⟨h1, h2, h3⟩
    refine ⟨⟨h1, h2⟩, ?_⟩
    cases h : v.Char with
    | true => exact .inr (h3 h)
    | false => exact .inl rfl

theorem right_loop {f : Int × Int → Option (Ctl (Int × Int) (Ctl Int Bool))} {s : List Int} (h4 : s.length ≤ 4)
    (hf : ∀ k : Nat, ∀ h : k < s.length, ∀ z, f (z, (k : Int)) = if s[k] < 0 ∨ s[k] > 10000 then some (.done (.done false)) else some (.next (IntKind.i64.wrap (z * s[k]), (k : Int) + 1)))
    (he : ∀ z, f (z, (s.length : Int)) = some (.done (.next z))) :
    ((∀ x ∈ s, 0 ≤ x ∧ x ≤ 10000) ∧ wloop f (1, 0) = some (.next (prod s))) ∨ (¬ (∀ x ∈ s, 0 ≤ x ∧ x ≤ 10000) ∧ wloop f (1, 0) = some (.done false)) := by
  have key := wloop_ind (f := f) (fun n st => ∃ k : Nat, n = s.length - k ∧ k ≤ s.length ∧ st = (prod (s.take k), (k : Int)) ∧ ∀ x ∈ s.take k, 0 ≤ x ∧ x ≤ 10000)
    (fun b => (b = .next (prod s) ∧ ∀ x ∈ s, 0 ≤ x ∧ x ≤ 10000) ∨ (b = .done false ∧ ¬ ∀ x ∈ s, 0 ≤ x ∧ x ≤ 10000)) (fun n st h => by
      obtain ⟨k, rfl, hk, rfl, hall⟩ := h
      by_cases hlt : k < s.length
      · rw [hf k hlt]
        by_cases hb : s[k] < 0 ∨ s[k] > 10000
        · rw [if_pos hb]
          right
          refine ⟨_, rfl, .inr ⟨rfl, fun hh => ?_⟩⟩
          have := hh _ (List.getElem_mem hlt); omega
        · rw [if_neg hb]
          left
          have e := List.take_succ_eq_append_getElem hlt
          have hall2 : ∀ x ∈ s.take (k + 1), 0 ≤ x ∧ x ≤ 10000 := by
            intro x hx
            rw [e] at hx
            rcases List.mem_append.mp hx with hx | hx
            · exact hall x hx
            · rw [List.mem_singleton.mp hx]; omega
          have hp := prod_bound (s.take (k + 1)) 4 (by rw [List.length_take]; omega) hall2
          have e2 : prod (s.take (k + 1)) = prod (s.take k) * s[k] := by rw [e, prod_append]; simp [prod]
          refine ⟨_, s.length - (k + 1), rfl, by omega, k + 1, rfl, by omega, ?_, hall2⟩
          rw [← e2, w64_id (by omega) (by omega)]; simp
      · have : k = s.length := by omega
        subst this
        rw [he]
        rw [List.take_length] at hall ⊢
        exact .inr ⟨_, rfl, .inl ⟨rfl, hall⟩⟩)
    s.length (1, 0) ⟨0, by omega, by omega, by simp [prod], by simp⟩
  obtain ⟨b, hb, ⟨rfl, h⟩ | ⟨rfl, h⟩⟩ := key
  · exact .inl ⟨h, hb⟩
  · exact .inr ⟨h, hb⟩
theorem all_loop {f : Int → Option (Ctl Int (Ctl Unit Bool))} {l : List Int} {p : Int → Bool}
    (hf : ∀ k : Nat, ∀ h : k < l.length, f k = if p l[k] = true then some (.next ((k : Int) + 1)) else some (.done (.done false))) (he : f l.length = some (.done (.next ()))) :
    wloop f 0 = some (if l.all p = true then .next () else .done false) := by
  have key := wloop_ind (f := f) (fun n i => ∃ k : Nat, i = k ∧ k ≤ l.length ∧ n = l.length - k ∧ (l.take k).all p = true)
    (fun c => (c = .done false ∧ l.all p = false) ∨ (c = .next () ∧ l.all p = true)) (fun n i h => by
      obtain ⟨k, rfl, hk, rfl, hn⟩ := h
      by_cases hlt : k < l.length
      · rw [hf k hlt]
        by_cases hp : p l[k] = true
        · rw [if_pos hp]
          left
          refine ⟨_, l.length - (k + 1), rfl, by omega, k + 1, by omega, by omega, rfl, ?_⟩
          rw [List.take_succ_eq_append_getElem hlt, List.all_append, hn]; simp [hp]
        · rw [if_neg hp]
          right
          refine ⟨_, rfl, .inl ⟨rfl, ?_⟩⟩
          rw [List.all_eq_false]
          exact ⟨_, List.getElem_mem hlt, hp⟩
      · have : k = l.length := by omega
        subst this
        right
        rw [List.take_length] at hn
        exact ⟨_, he, .inr ⟨rfl, hn⟩⟩) l.length 0 ⟨0, rfl, by omega, by omega, by simp⟩
  obtain ⟨c, hc, ⟨rfl, h⟩ | ⟨rfl, h⟩⟩ := key
  · rw [hc, h]; simp
  · rw [hc, h]; simp
theorem ref02_Same_eq {a b : Val} (hs : a.Shape.length ≤ maxLen) (hd : a.Data.length ≤ maxLen) : M.anamnesisref02_Same a b = some (vSame a b) := by
  have hm : maxLen = 9223372036854775807 := rfl
  unfold M.anamnesisref02_Same
  by_cases hl : (a.Char = b.Char ∧ a.Shape.length = b.Shape.length) ∧ a.Data.length = b.Data.length
  · obtain ⟨⟨h1, h2⟩, h3⟩ := hl
    rw [if_neg (by simp [h1, h2, h3])]
    have l1 := same_loop (f := M.anamnesisref02_Same_L1 a b) h2 hs (fun k h => by
      unfold M.anamnesisref02_Same_L1
      simp only [show decide ((k : Int) < (a.Shape.length : Int)) = true from decide_eq_true (by omega), if_true, idx_get h, idx_get (show k < b.Shape.length by omega), Option.bind_some]
      by_cases he : a.Shape[k] = b.Shape[k]
      · rw [if_pos he, if_neg (by simp [he]), w64_id (by omega) (by omega)]
      · rw [if_neg he, if_pos (by simp [he])]) (by unfold M.anamnesisref02_Same_L1; simp)
    have l2 := same_loop (f := M.anamnesisref02_Same_L2 a b) h3 hd (fun k h => by
      unfold M.anamnesisref02_Same_L2
      simp only [show decide ((k : Int) < (a.Data.length : Int)) = true from decide_eq_true (by omega), if_true, idx_get h, idx_get (show k < b.Data.length by omega), Option.bind_some]
      by_cases he : a.Data[k] = b.Data[k]
      · rw [if_pos he, if_neg (by simp [he]), w64_id (by omega) (by omega)]
      · rw [if_neg he, if_pos (by simp [he])]) (by unfold M.anamnesisref02_Same_L2; simp)
    rw [l1, l2]
    unfold vSame
    simp only [h1, BEq.rfl, Bool.true_and]
    by_cases he : a.Shape = b.Shape
    · rw [if_pos he, decide_eq_true he]
      by_cases hd : a.Data = b.Data
      · rw [if_pos hd, decide_eq_true hd]; rfl
      · rw [if_neg hd, decide_eq_false hd]; rfl
    · rw [if_neg he, decide_eq_false he]; rfl
  · have e : ((!(a.Char == b.Char) || ((a.Shape.length : Int) != (b.Shape.length : Int))) || ((a.Data.length : Int) != (b.Data.length : Int))) = true := by
      cases hq : ((!(a.Char == b.Char) || ((a.Shape.length : Int) != (b.Shape.length : Int))) || ((a.Data.length : Int) != (b.Data.length : Int))) with
      | true => rfl
      | false =>
        exfalso; apply hl
        simp only [Bool.or_eq_false_iff, Bool.not_eq_false', beq_iff_eq, bne_eq_false_iff_eq] at hq
        obtain ⟨⟨q1, q2⟩, q3⟩ := hq
        exact ⟨⟨q1, by omega⟩, by omega⟩
    rw [if_pos e]
    have : vSame a b = false := by
      cases hq : vSame a b with
      | false => rfl
      | true => have := vSame_iff.mp hq; subst this; simp at hl
    rw [this]
/-- the byte at a place of a text. -/
def byteAt (s : ByteArray) (k : Nat) : Nat := (s.get! k).toNat
theorem byteAt_lt (s : ByteArray) (k : Nat) : byteAt s k < 256 := (s.get! k).toNat_lt
theorem sidx_get {s : ByteArray} {k : Nat} (h : k < s.size) : sidx s (k : Int) = some (byteAt s k : Int) := by
  unfold sidx byteAt
  rw [if_pos (by omega), Int.toNat_natCast, getElem?_pos s k h]
  show some (((s[k]).toNat : Nat) : Int) = _
  have : s.get! k = s[k] := by
    show s.data[k]! = s.data[k]
    rw [getElem!_pos s.data k h]
  rw [this]
def isCont (b : Nat) : Bool := b / 64 == 2
/-- the characters of a text from a place on, not more than so many. -/
def runes (s : ByteArray) : Nat → Nat → List Int
  | 0, _ => []
  | n + 1, p => if p < s.size then runeAt s p :: runes s n (p + (Utf8.decode s p).2) else []
theorem runes_len (s : ByteArray) : ∀ (n p : Nat), (runes s n p).length ≤ n
  | 0, _ => by simp [runes]
  | n + 1, p => by
    rw [runes]; split
    · have := runes_len s n (p + (Utf8.decode s p).2); simp; omega
    · simp
theorem decode_bounds (s : ByteArray) (i : Nat) : (Utf8.decode s i).1 ≤ 1114111 ∧ 1 ≤ (Utf8.decode s i).2 ∧ (Utf8.decode s i).2 ≤ 4 := by
  have b0 := byteAt_lt s i
  unfold Utf8.decode
  unfold byteAt at b0
  simp only [Nat.add_zero]
  split
  · rename_i h; refine ⟨?_, by omega, by omega⟩; simp only []; omega
  · split
    · split
      · refine ⟨by simp only []; omega, by simp only []; omega, by simp only []; omega⟩
      · exact ⟨by decide, by decide, by decide⟩
    · split
      · split
        · refine ⟨by simp only []; omega, by simp only []; omega, by simp only []; omega⟩
        · exact ⟨by decide, by decide, by decide⟩
      · split
        · split
          · rename_i h
            rw [Bool.and_eq_true] at h
            have h2 := h.2
            unfold Utf8.valid at h2
            simp at h2
            refine ⟨by simp only []; omega, by simp only []; omega, by simp only []; omega⟩
          · exact ⟨by decide, by decide, by decide⟩
        · exact ⟨by decide, by decide, by decide⟩
theorem value_Text_eq (s : ByteArray) : M.value_Text s = some ⟨true, [((runes s 10000 0).length : Int)], runes s 10000 0⟩ := by
  have key := wloop_ind (f := M.value_Text_L1 s) (fun n st => ∃ (l : List Int) (p : Nat), st = (l, p) ∧ n = s.size + 1 - p ∧ l.length ≤ 10000 ∧ l ++ runes s (10000 - l.length) p = runes s 10000 0)
    (fun b => b = .next (runes s 10000 0)) (fun n st h => by
      obtain ⟨l, p, rfl, rfl, hl, he⟩ := h
      obtain ⟨d1, d2, d3⟩ := decode_bounds s p
      unfold M.value_Text_L1
      by_cases hp : p < s.size
      · simp only [decide_eq_true hp, if_true]
        by_cases h4 : l.length = 10000
        · right
          rw [if_pos (by simp [h4])]
          refine ⟨_, rfl, ?_⟩
          rw [h4, Nat.sub_self, runes, List.append_nil] at he
          rw [he]
        · left
          have hr : runeAt s p ≤ 1114111 := by unfold runeAt; omega
          have hr0 : 0 ≤ runeAt s p := by unfold runeAt; omega
          rw [if_neg (by simp <;> omega), w64_id (by omega) (by omega), app_ok (by simp <;> omega)]
          refine ⟨_, s.size + 1 - nextP s p, rfl, by unfold nextP; rw [if_pos hp]; omega, _, _, rfl, rfl, by simp; omega, ?_⟩
          rw [← he, show 10000 - l.length = (10000 - (l ++ [runeAt s p]).length) + 1 by simp; omega, runes, if_pos hp, List.append_assoc]
          unfold nextP; rw [if_pos hp]; rfl
      · right
        simp only [decide_eq_false hp, Bool.false_eq_true, if_false]
        refine ⟨_, rfl, ?_⟩
        have : runes s (10000 - l.length) p = [] := by
          cases hm : 10000 - l.length with
          | zero => rfl
          | succ m => rw [runes, if_neg hp]
        rw [this, List.append_nil] at he
        rw [he]) (s.size + 1) ([], 0) ⟨[], 0, rfl, by omega, by simp, by simp⟩
  obtain ⟨b, hb, rfl⟩ := key
  unfold M.value_Text
  rw [hb]; rfl
/-- one round of a reading: a byte more. -/
theorem take_step {s : ByteArray} {i n k : Nat} {c : Nat} (hin : i + n ≤ s.size) (hs : s.size ≤ 20000) (hk : k < n) (hn : n ≤ 4) (hc : c ≤ 100000000) :
    M.anamnesisref02_take_L1 s (i : Int) (n : Int) ((c : Int), (k : Int)) = if isCont (byteAt s (i + k)) then some (.next (((c * 64 + byteAt s (i + k) % 64 : Nat) : Int), ((k + 1 : Nat) : Int))) else some (.done (.done (65533, 1))) := by
  have hb := byteAt_lt s (i + k)
  unfold M.anamnesisref02_take_L1
  simp only []
  rw [w64_id (x := (i : Int) + k) (by omega) (by omega), show (i : Int) + (k : Int) = ((i + k : Nat) : Int) by omega, sidx_get (by omega)]
  simp only [show decide ((k : Int) < (n : Int)) = true from decide_eq_true (by omega), if_true, Option.bind_some]
  unfold isCont
  by_cases h1 : byteAt s (i + k) < 128
  · rw [if_pos (by simp <;> omega), if_neg (by simp <;> omega)]
    simp
  · rw [if_neg (by simp <;> omega)]
    simp only [Option.bind_some]
    by_cases h2 : byteAt s (i + k) ≥ 192
    · rw [if_pos (by simp <;> omega), if_neg (by simp <;> omega)]
    · rw [if_neg (by simp <;> omega), if_pos (by simp <;> omega), u8_id (by omega) (by omega), w64_id (x := 64 * (c : Int)) (by omega) (by omega), w64_id (x := (byteAt s (i + k) : Int) - 128) (by omega) (by omega), w64_id (by omega) (by omega), w64_id (by omega) (by omega)]
      simp only [Option.some.injEq, Ctl.next.injEq, Prod.mk.injEq]
      omega
theorem take_end {s : ByteArray} {i n : Nat} {c : Nat} : M.anamnesisref02_take_L1 s (i : Int) (n : Int) ((c : Int), (n : Int)) = some (.done (.next (c : Int))) := by
  unfold M.anamnesisref02_take_L1
  simp
/-- what the bytes behind the first one tell. -/
def contN (s : ByteArray) (i : Nat) : Nat → Nat → Nat → Option Nat
  | 0, _, c => some c
  | m + 1, k, c => if isCont (byteAt s (i + k)) then contN s i m (k + 1) (c * 64 + byteAt s (i + k) % 64) else none
theorem take_loop {s : ByteArray} {i n : Nat} (hin : i + n ≤ s.size) (hs : s.size ≤ 20000) (hn : n ≤ 4) : ∀ (m k c : Nat), k + m = n → (c + 1) * 64 ^ m ≤ 100000000 →
    wloop (M.anamnesisref02_take_L1 s (i : Int) (n : Int)) ((c : Int), (k : Int)) = some (match contN s i m k c with | some c' => .next (c' : Int) | none => .done (65533, 1))
  | 0, k, c, hk, hc => by
    have : k = n := by omega
    subst this
    rw [wloop_done take_end]; rfl
  | m + 1, k, c, hk, hc => by
    have hc1 : c + 1 ≤ 100000000 := Nat.le_trans (Nat.le_mul_of_pos_right _ (Nat.pow_pos (by omega))) hc
    have st := take_step (s := s) (i := i) (n := n) (k := k) (c := c) hin hs (by omega) hn (by omega)
    rw [contN]
    cases hb : isCont (byteAt s (i + k)) with
    | false =>
      rw [hb] at st
      rw [wloop_done (by rw [st]; rfl)]; rfl
    | true =>
      rw [hb, if_pos rfl] at st
      rw [wloop_next st, if_pos rfl]
      refine take_loop hin hs hn m (k + 1) _ (by omega) (Nat.le_trans (Nat.mul_le_mul_right (64 ^ m) (show c * 64 + byteAt s (i + k) % 64 + 1 ≤ (c + 1) * 64 by omega)) ?_)
      rw [Nat.mul_assoc, ← Nat.pow_succ']; exact hc
/-- the character at a place, as the document reads it. -/
theorem take_eq {s : ByteArray} {i : Nat} (hi : i < s.size) (hs : s.size ≤ 20000) : M.anamnesisref02_take s (i : Int) = some (runeAt s i, ((Utf8.decode s i).2 : Int)) := by
  have b0 := byteAt_lt s i
  have b1 := byteAt_lt s (i + 1)
  have b2 := byteAt_lt s (i + 2)
  have b3 := byteAt_lt s (i + 3)
  have hd : Utf8.decode s i = if byteAt s i < 128 then (byteAt s i, 1)
    else if byteAt s i / 32 == 6 && (decide (i + 1 < s.size) && isCont (byteAt s (i + 1))) then
      if (byteAt s i % 32) * 64 + byteAt s (i + 1) % 64 ≥ 128 then ((byteAt s i % 32) * 64 + byteAt s (i + 1) % 64, 2) else (65533, 1)
    else if byteAt s i / 16 == 14 && (decide (i + 1 < s.size) && isCont (byteAt s (i + 1))) && (decide (i + 2 < s.size) && isCont (byteAt s (i + 2))) then
      if (decide ((byteAt s i % 16) * 4096 + (byteAt s (i + 1) % 64) * 64 + byteAt s (i + 2) % 64 ≥ 2048) && Utf8.valid ((byteAt s i % 16) * 4096 + (byteAt s (i + 1) % 64) * 64 + byteAt s (i + 2) % 64 : Nat)) then ((byteAt s i % 16) * 4096 + (byteAt s (i + 1) % 64) * 64 + byteAt s (i + 2) % 64, 3) else (65533, 1)
    else if byteAt s i / 8 == 30 && (decide (i + 1 < s.size) && isCont (byteAt s (i + 1))) && (decide (i + 2 < s.size) && isCont (byteAt s (i + 2))) && (decide (i + 3 < s.size) && isCont (byteAt s (i + 3))) then
      if (decide ((byteAt s i % 8) * 262144 + (byteAt s (i + 1) % 64) * 4096 + (byteAt s (i + 2) % 64) * 64 + byteAt s (i + 3) % 64 ≥ 65536) && Utf8.valid ((byteAt s i % 8) * 262144 + (byteAt s (i + 1) % 64) * 4096 + (byteAt s (i + 2) % 64) * 64 + byteAt s (i + 3) % 64 : Nat)) then ((byteAt s i % 8) * 262144 + (byteAt s (i + 1) % 64) * 4096 + (byteAt s (i + 2) % 64) * 64 + byteAt s (i + 3) % 64, 4) else (65533, 1)
    else (65533, 1) := rfl
  unfold runeAt
  rw [hd]
  unfold M.anamnesisref02_take
  rw [sidx_get hi]
  simp only [Option.bind_some]
  rw [w64_id (x := (byteAt s i : Int)) (by omega) (by omega)]
  have hv : ∀ c : Nat, Utf8.valid (c : Int) = decide (c < 55296 ∨ 57344 ≤ c ∧ c ≤ 1114111) := by
    intro c; unfold Utf8.valid; rw [Bool.eq_iff_iff]; simp; omega
  -- the end of a reading
  have fin : ∀ (n least c0 : Nat), 1 ≤ n → n ≤ 4 → (c0 + 1) * 64 ^ (n - 1) ≤ 100000000 → ((if decide (IntKind.i64.wrap ((i : Int) + (n : Int)) > (s.size : Int)) = true then some ((65533 : Int), (1 : Int)) else
      (wloop (M.anamnesisref02_take_L1 s (i : Int) (n : Int)) ((c0 : Int), 1)).bind fun k => joinK k fun c5 =>
      if (((decide (c5 < (least : Int))) || (decide (c5 > 1114111))) || ((decide (c5 ≥ 55296)) && (decide (c5 ≤ 57343)))) then some (65533, 1) else some (c5, (n : Int))) =
      some (if i + n ≤ s.size then match contN s i (n - 1) 1 c0 with | some c => if least ≤ c ∧ (c < 55296 ∨ 57344 ≤ c ∧ c ≤ 1114111) then ((c : Int), (n : Int)) else (65533, 1) | none => (65533, 1) else (65533, 1))) := by
    intro n least c0 h1 h4 hc
    rw [w64_id (by omega) (by omega)]
    by_cases hin : i + n ≤ s.size
    · rw [if_neg (by simp <;> omega), if_pos hin, show (1 : Int) = ((1 : Nat) : Int) from rfl, take_loop hin hs h4 (n - 1) 1 c0 (by omega) hc]
      cases contN s i (n - 1) 1 c0 with
      | none => rfl
      | some c =>
        simp only [Option.bind_some, joinK_next]
        by_cases hg : least ≤ c ∧ (c < 55296 ∨ 57344 ≤ c ∧ c ≤ 1114111)
        · rw [if_pos hg, if_neg (by simp <;> omega)]
        · rw [if_neg hg, if_pos (by simp <;> omega)]
    · rw [if_pos (by simp <;> omega), if_neg hin]
  by_cases h1 : byteAt s i < 128
  · rw [if_pos (by simp <;> omega), if_pos h1]; rfl
  rw [if_neg (by simp <;> omega), if_neg h1]
  by_cases h2 : 192 ≤ byteAt s i ∧ byteAt s i < 224
  · rw [if_pos (by simp <;> omega), w64_id (by omega) (by omega), show (byteAt s i : Int) - 192 = ((byteAt s i % 32 : Nat) : Int) by omega]
    simp only [Option.bind_some, joinK_next]
    rw [show (128 : Int) = ((128 : Nat) : Int) from rfl, show (2 : Int) = ((2 : Nat) : Int) from rfl, fin 2 128 _ (by omega) (by omega) (by omega)]
    have e6 : (byteAt s i / 32 == 6) = true := by simp; omega
    have e14 : (byteAt s i / 16 == 14) = false := by simp; omega
    have e30 : (byteAt s i / 8 == 30) = false := by simp; omega
    rw [e6, e14, e30]
    simp only [Bool.true_and, Bool.false_and, Bool.false_eq_true, if_false, contN]
    congr 1
    by_cases hin : i + 1 < s.size
    · rw [if_pos (by omega), decide_eq_true hin]
      cases hb : isCont (byteAt s (i + 1)) with
      | false => simp
      | true =>
        simp only [Bool.true_and, if_true]
        by_cases hg : 128 ≤ byteAt s i % 32 * 64 + byteAt s (i + 1) % 64
        · rw [if_pos (by omega), if_pos hg]
        · rw [if_neg (by omega), if_neg hg]; rfl
    · rw [if_neg (by omega), decide_eq_false hin]; simp
  rw [if_neg (by simp <;> omega)]
  have e6 : (byteAt s i / 32 == 6) = false := by simp; omega
  rw [e6]
  simp only [Bool.false_and, Bool.false_eq_true, if_false]
  by_cases h3 : 224 ≤ byteAt s i ∧ byteAt s i < 240
  · rw [if_pos (by simp <;> omega), w64_id (by omega) (by omega), show (byteAt s i : Int) - 224 = ((byteAt s i % 16 : Nat) : Int) by omega]
    simp only [Option.bind_some, joinK_next]
    rw [show (2048 : Int) = ((2048 : Nat) : Int) from rfl, show (3 : Int) = ((3 : Nat) : Int) from rfl, fin 3 2048 _ (by omega) (by omega) (by omega)]
    have e14 : (byteAt s i / 16 == 14) = true := by simp; omega
    have e30 : (byteAt s i / 8 == 30) = false := by simp; omega
    rw [e14, e30, hv]
    simp only [Bool.true_and, Bool.false_and, Bool.false_eq_true, if_false, contN]
    have eq : (byteAt s i % 16 * 64 + byteAt s (i + 1) % 64) * 64 + byteAt s (i + 2) % 64 = byteAt s i % 16 * 4096 + byteAt s (i + 1) % 64 * 64 + byteAt s (i + 2) % 64 := by omega
    rw [eq]
    congr 1
    by_cases hin : i + 2 < s.size
    · rw [if_pos (by omega), decide_eq_true hin, decide_eq_true (show i + 1 < s.size by omega)]
      cases hb : isCont (byteAt s (i + 1)) with
      | false => simp
      | true =>
        cases hb2 : isCont (byteAt s (i + 2)) with
        | false => simp
        | true =>
          simp only [Bool.true_and, if_true]
          generalize byteAt s i % 16 * 4096 + byteAt s (i + 1) % 64 * 64 + byteAt s (i + 2) % 64 = c
          by_cases hg : 2048 ≤ c ∧ (c < 55296 ∨ 57344 ≤ c ∧ c ≤ 1114111)
          · rw [if_pos hg, if_pos (by simp <;> omega)]
          · rw [if_neg hg, if_neg (by simp <;> omega)]; rfl
    · rw [if_neg (by omega), decide_eq_false hin]; simp
  rw [if_neg (by simp <;> omega)]
  have e14 : (byteAt s i / 16 == 14) = false := by simp; omega
  rw [e14]
  simp only [Bool.false_and, Bool.false_eq_true, if_false]
  by_cases h4 : 240 ≤ byteAt s i ∧ byteAt s i < 248
  · rw [if_pos (by simp <;> omega), w64_id (by omega) (by omega), show (byteAt s i : Int) - 240 = ((byteAt s i % 8 : Nat) : Int) by omega]
    simp only [Option.bind_some, joinK_next]
    rw [show (65536 : Int) = ((65536 : Nat) : Int) from rfl, show (4 : Int) = ((4 : Nat) : Int) from rfl, fin 4 65536 _ (by omega) (by omega) (by omega)]
    have e30 : (byteAt s i / 8 == 30) = true := by simp; omega
    rw [e30, hv]
    simp only [Bool.true_and, Bool.false_and, Bool.false_eq_true, if_false, contN]
    have eq : ((byteAt s i % 8 * 64 + byteAt s (i + 1) % 64) * 64 + byteAt s (i + 2) % 64) * 64 + byteAt s (i + 3) % 64 = byteAt s i % 8 * 262144 + byteAt s (i + 1) % 64 * 4096 + byteAt s (i + 2) % 64 * 64 + byteAt s (i + 3) % 64 := by omega
    rw [eq]
    congr 1
    by_cases hin : i + 3 < s.size
    · rw [if_pos (by omega), decide_eq_true hin, decide_eq_true (show i + 1 < s.size by omega), decide_eq_true (show i + 2 < s.size by omega)]
      cases hb : isCont (byteAt s (i + 1)) with
      | false => simp
      | true =>
        cases hb2 : isCont (byteAt s (i + 2)) with
        | false => simp
        | true =>
          cases hb3 : isCont (byteAt s (i + 3)) with
          | false => simp
          | true =>
            simp only [Bool.true_and, if_true]
            generalize byteAt s i % 8 * 262144 + byteAt s (i + 1) % 64 * 4096 + byteAt s (i + 2) % 64 * 64 + byteAt s (i + 3) % 64 = c
            by_cases hg : 65536 ≤ c ∧ (c < 55296 ∨ 57344 ≤ c ∧ c ≤ 1114111)
            · rw [if_pos hg, if_pos (by simp <;> omega)]
            · rw [if_neg hg, if_neg (by simp <;> omega)]; rfl
    · rw [if_neg (by omega), decide_eq_false hin]; simp
  · rw [if_neg (by simp <;> omega)]
    have e30 : (byteAt s i / 8 == 30) = false := by simp; omega
    rw [e30]
    simp
theorem ref02_Text_eq {s : ByteArray} (hs : s.size ≤ 20000) : M.anamnesisref02_Text s = some ⟨true, [((runes s 10000 0).length : Int)], runes s 10000 0⟩ := by
  have key := wloop_ind (f := M.anamnesisref02_Text_L1 s) (fun n st => ∃ (l : List Int) (p : Nat), st = ((p : Int), l) ∧ p ≤ 20010 ∧ n = s.size + 1 - p ∧ l.length ≤ 10000 ∧ l ++ runes s (10000 - l.length) p = runes s 10000 0)
    (fun b => b = .next (runes s 10000 0)) (fun n st h => by
      obtain ⟨l, p, rfl, hp0, rfl, hl, he⟩ := h
      obtain ⟨d1, d2, d3⟩ := decode_bounds s p
      unfold M.anamnesisref02_Text_L1
      by_cases hg : p < s.size ∧ l.length < 10000
      · left
        obtain ⟨hp, h4⟩ := hg
        simp only [take_eq hp hs, show (decide ((p : Int) < (s.size : Int)) && decide ((l.length : Int) < 10000)) = true by simp; omega, if_true, Option.bind_some]
        rw [app_ok (by simp <;> omega), w64_id (by omega) (by omega)]
        refine ⟨_, s.size + 1 - (p + (Utf8.decode s p).2), rfl, by omega, _, p + (Utf8.decode s p).2, rfl, by omega, rfl, by simp; omega, ?_⟩
        rw [← he, show 10000 - l.length = (10000 - (l ++ [runeAt s p]).length) + 1 by simp; omega, runes, if_pos hp, List.append_assoc]; rfl
      · right
        simp only [show (decide ((p : Int) < (s.size : Int)) && decide ((l.length : Int) < 10000)) = false by simp; omega, Bool.false_eq_true, if_false]
        refine ⟨_, rfl, ?_⟩
        have : runes s (10000 - l.length) p = [] := by
          cases hm : 10000 - l.length with
          | zero => rfl
          | succ m => rw [runes, if_neg (by omega)]
        rw [this, List.append_nil] at he
        rw [he]) (s.size + 1) ((0 : Int), []) ⟨[], 0, rfl, by omega, by omega, by simp, by simp⟩
  obtain ⟨b, hb, rfl⟩ := key
  unfold M.anamnesisref02_Text
  rw [hb]; rfl
theorem valueTexts_true (s : ByteArray) (g : s.size ≤ maxLen) : M.anamnesislaw02_ValueTexts s = some true := by
  unfold M.anamnesislaw02_ValueTexts
  have h : ∃ s2 : ByteArray, s2.size ≤ 20000 ∧ (if (decide ((s.size : Int) > 20000)) then (ssub s 0 20000).bind fun s3 => some s3 else some s) = some s2 := by
    by_cases h : s.size > 20000
    · rw [if_pos (by simp <;> omega)]
      unfold ssub
      rw [if_pos ⟨by omega, by omega, by omega⟩]
      refine ⟨_, ?_, rfl⟩
      simp [ByteArray.size_extract]
      omega
    · rw [if_neg (by simp <;> omega)]
      exact ⟨s, by omega, rfl⟩
  obtain ⟨s2, hs2, e⟩ := h
  rw [e]
  have hl := runes_len s2 10000 0
  simp only [Option.bind_some]
  rw [value_Text_eq, ref02_Text_eq hs2]
  simp only [Option.bind_some]
  rw [ref02_Same_eq (by simp [maxLen]) (by simp only [maxLen]; omega), vSame_refl]
  rfl

end Go.Proofs.Ytpkfklfakegbjaa.valueTexts
