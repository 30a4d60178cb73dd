/- ValueBack: what the code that the law reaches computes, as plain functions; and that the law comes to true. -/
import Derived.Test.YtpkfklfakegbjaaAmU
set_option linter.unusedVariables false
set_option linter.unusedSimpArgs false
set_option maxRecDepth 100000
open Go Go.Am
namespace Go.Proofs.Ytpkfklfakegbjaa.valueBack
noncomputable def M.value_Text_L1 (s1 : ByteArray) (s : (List Int) × Nat) : Option (Ctl ((List Int) × Nat) (Ctl ((List Int)) ((List Int)))) :=
  match s with
  | (Data2, pos1) =>
    if (decide (pos1 < s1.size)) then
      if ((Data2.length : Int) == 10000) then
        some (.done (.next Data2))
      else
        (app 8 Data2 ([(IntKind.i64.wrap (runeAt s1 pos1))])).bind fun l1 =>
        some (.next (l1, (nextP s1 pos1)))
    else
      some (.done (.next Data2))
noncomputable def M.value_Text (s1 : ByteArray) : Option (Val) :=
  ((wloop (M.value_Text_L1 s1) ([], 0)).bind fun k => joinK k fun jx =>
  some jx).bind fun Data1 =>
  some (Val.mk true ([(Data1.length : Int)]) Data1)
noncomputable def M.slices_IndexFunc__int64_L1 (s1 : (List Int)) (f1 : (Int → Option (Bool))) (s : Int) : Option (Ctl (Int) (Ctl (Unit) (Int))) :=
  match s with
  | t1 =>
    if (decide (t1 < (s1.length : Int))) then
      (idx s1 t1).bind fun y1 =>
      (f1 y1).bind fun r1 =>
      if r1 then
        some (.done (.done t1))
      else
        some (.next (IntKind.i64.wrap (t1 + 1)))
    else
      some (.done (.next ()))
noncomputable def M.slices_IndexFunc__int64 (s1 : (List Int)) (f1 : (Int → Option (Bool))) : Option (Int) :=
  (wloop (M.slices_IndexFunc__int64_L1 s1 f1) 0).bind fun k => joinK k fun _ =>
  some (-1)
noncomputable def M.slices_ContainsFunc__int64 (s1 : (List Int)) (f1 : (Int → Option (Bool))) : Option (Bool) :=
  (M.slices_IndexFunc__int64 s1 f1).bind fun r1 =>
  some (decide (r1 ≥ 0))
noncomputable def M.unicode_utf8_ValidRune (r1 : Int) : Option (Bool) :=
  if ((decide (0 ≤ r1)) && (decide (r1 < 55296))) then
    some true
  else
    if ((decide (57343 < r1)) && (decide (r1 ≤ 1114111))) then
      some true
    else
      some false
noncomputable def M.value_character (n1 : Int) : Option (Bool) :=
  (if ((decide (n1 ≥ 0)) && (decide (n1 ≤ 1114111))) then
  (M.unicode_utf8_ValidRune (IntKind.i32.wrap n1)).bind fun r1 =>
  some r1 else
  some false).bind fun c2 =>
  some c2
noncomputable def M.value_Right_1 (n1 : Int) : Option (Bool) :=
  (M.value_character n1).bind fun r1 =>
  some (!r1)
noncomputable def M.value_Right_L1 (v1 : Val) (s : Int × Int) : Option (Ctl (Int × Int) (Ctl (Int) (Bool))) :=
  match s with
  | (size1, t1) =>
    if (decide (t1 < (v1.Shape.length : Int))) then
      (idx v1.Shape t1).bind fun y1 =>
      if ((decide (y1 < 0)) || (decide (y1 > 10000))) then
        some (.done (.done false))
      else
        some (.next ((IntKind.i64.wrap (size1 * y1)), (IntKind.i64.wrap (t1 + 1))))
    else
      some (.done (.next size1))
noncomputable def M.value_Right (v1 : Val) : Option (Bool) :=
  if (decide ((v1.Shape.length : Int) > 4)) then
    some false
  else
    (wloop (M.value_Right_L1 v1) (1, 0)).bind fun k => joinK k fun size1 =>
    if ((decide (size1 > 10000)) || (size1 != (v1.Data.length : Int))) then
      some false
    else
      (if (!v1.Char) then
      some true else
      (M.slices_ContainsFunc__int64 v1.Data (fun x0 => M.value_Right_1 x0)).bind fun r1 =>
      some (!r1)).bind fun c4 =>
      some c4
noncomputable def M.value_Scalar (n1 : Int) : Option (Val) :=
  some (Val.mk false ([]) ([n1]))
noncomputable def M.slices_Clone__int64 (s1 : (List Int)) : Option ((List Int)) :=
  app 8 [] s1
noncomputable def M.value_Vector (l1 : (List Int)) : Option (Val) :=
  (sub l1 0 (if 10000 < (l1.length : Int) then 10000 else (l1.length : Int))).bind fun l2 =>
  (M.slices_Clone__int64 l2).bind fun r1 =>
  some (Val.mk false ([(r1.length : Int)]) r1)
noncomputable def M.unicode_utf8_appendRuneNonASCII (p1 : (List Int)) (r1 : Int) : Option ((List Int)) :=
  if (decide ((IntKind.u32.wrap r1) ≤ 2047)) then
    (app 1 p1 ([(IntKind.u8.wrap (BitVec.ofInt IntKind.u8.bits 192 ||| BitVec.ofInt IntKind.u8.bits (IntKind.u8.wrap (Int.fdiv r1 (2 ^ (min (Int.toNat 6) IntKind.i32.bits))))).toNat), (IntKind.u8.wrap (BitVec.ofInt IntKind.u8.bits 128 ||| BitVec.ofInt IntKind.u8.bits (IntKind.u8.wrap (BitVec.ofInt IntKind.u8.bits (IntKind.u8.wrap r1) &&& BitVec.ofInt IntKind.u8.bits 63).toNat)).toNat)])).bind fun l1 =>
    some l1
  else
    (if (decide ((IntKind.u32.wrap r1) < 55296)) then
      some (decide ((IntKind.u32.wrap r1) < 55296))
    else
      some ((decide (57343 < (IntKind.u32.wrap r1))) && (decide ((IntKind.u32.wrap r1) ≤ 65535)))).bind fun t1 =>
    if t1 then
      (app 1 p1 ([(IntKind.u8.wrap (BitVec.ofInt IntKind.u8.bits 224 ||| BitVec.ofInt IntKind.u8.bits (IntKind.u8.wrap (Int.fdiv r1 (2 ^ (min (Int.toNat 12) IntKind.i32.bits))))).toNat), (IntKind.u8.wrap (BitVec.ofInt IntKind.u8.bits 128 ||| BitVec.ofInt IntKind.u8.bits (IntKind.u8.wrap (BitVec.ofInt IntKind.u8.bits (IntKind.u8.wrap (Int.fdiv r1 (2 ^ (min (Int.toNat 6) IntKind.i32.bits)))) &&& BitVec.ofInt IntKind.u8.bits 63).toNat)).toNat), (IntKind.u8.wrap (BitVec.ofInt IntKind.u8.bits 128 ||| BitVec.ofInt IntKind.u8.bits (IntKind.u8.wrap (BitVec.ofInt IntKind.u8.bits (IntKind.u8.wrap r1) &&& BitVec.ofInt IntKind.u8.bits 63).toNat)).toNat)])).bind fun l2 =>
      some l2
    else
      if ((decide ((IntKind.u32.wrap r1) > 65535)) && (decide ((IntKind.u32.wrap r1) ≤ 1114111))) then
        (app 1 p1 ([(IntKind.u8.wrap (BitVec.ofInt IntKind.u8.bits 240 ||| BitVec.ofInt IntKind.u8.bits (IntKind.u8.wrap (Int.fdiv r1 (2 ^ (min (Int.toNat 18) IntKind.i32.bits))))).toNat), (IntKind.u8.wrap (BitVec.ofInt IntKind.u8.bits 128 ||| BitVec.ofInt IntKind.u8.bits (IntKind.u8.wrap (BitVec.ofInt IntKind.u8.bits (IntKind.u8.wrap (Int.fdiv r1 (2 ^ (min (Int.toNat 12) IntKind.i32.bits)))) &&& BitVec.ofInt IntKind.u8.bits 63).toNat)).toNat), (IntKind.u8.wrap (BitVec.ofInt IntKind.u8.bits 128 ||| BitVec.ofInt IntKind.u8.bits (IntKind.u8.wrap (BitVec.ofInt IntKind.u8.bits (IntKind.u8.wrap (Int.fdiv r1 (2 ^ (min (Int.toNat 6) IntKind.i32.bits)))) &&& BitVec.ofInt IntKind.u8.bits 63).toNat)).toNat), (IntKind.u8.wrap (BitVec.ofInt IntKind.u8.bits 128 ||| BitVec.ofInt IntKind.u8.bits (IntKind.u8.wrap (BitVec.ofInt IntKind.u8.bits (IntKind.u8.wrap r1) &&& BitVec.ofInt IntKind.u8.bits 63).toNat)).toNat)])).bind fun l3 =>
        some l3
      else
        (app 1 p1 ([239, 191, 189])).bind fun l4 =>
        some l4
noncomputable def M.unicode_utf8_AppendRune (p1 : (List Int)) (r1 : Int) : Option ((List Int)) :=
  if (decide ((IntKind.u32.wrap r1) ≤ 127)) then
    (app 1 p1 ([(IntKind.u8.wrap r1)])).bind fun l1 =>
    some l1
  else
    (M.unicode_utf8_appendRuneNonASCII p1 r1).bind fun r2 =>
    some r2
noncomputable def M.value_String_L1 (v1 : Val) (s : (List Int) × Int) : Option (Ctl ((List Int) × Int) (Ctl ((List Int)) (ByteArray))) :=
  match s with
  | (out1, t1) =>
    if (decide (t1 < (v1.Data.length : Int))) then
      (idx v1.Data t1).bind fun y1 =>
      (M.unicode_utf8_AppendRune out1 (IntKind.i32.wrap y1)).bind fun r2 =>
      some (.next (r2, (IntKind.i64.wrap (t1 + 1))))
    else
      some (.done (.next out1))
noncomputable def M.value_String (v1 : Val) : Option (ByteArray) :=
  (if (!v1.Char) then
  some true else
  (M.value_Right v1).bind fun r1 =>
  some (!r1)).bind fun c1 =>
  if c1 then
    some ByteArray.empty
  else
    (wloop (M.value_String_L1 v1) ([], 0)).bind fun k => joinK k fun out1 =>
    some (strOf out1)
noncomputable def M.slices_Equal__int_L1 (s1 : (List Int)) (s2 : (List Int)) (s : Int) : Option (Ctl (Int) (Ctl (Unit) (Bool))) :=
  match s with
  | t1 =>
    if (decide (t1 < (s1.length : Int))) then
      (idx s1 t1).bind fun y1 =>
      (idx s2 t1).bind fun y2 =>
      if (y1 != y2) then
        some (.done (.done false))
      else
        some (.next (IntKind.i64.wrap (t1 + 1)))
    else
      some (.done (.next ()))
noncomputable def M.slices_Equal__int (s1 : (List Int)) (s2 : (List Int)) : Option (Bool) :=
  if ((s1.length : Int) != (s2.length : Int)) then
    some false
  else
    (wloop (M.slices_Equal__int_L1 s1 s2) 0).bind fun k => joinK k fun _ =>
    some true
noncomputable def M.slices_Equal__int64_L1 (s1 : (List Int)) (s2 : (List Int)) (s : Int) : Option (Ctl (Int) (Ctl (Unit) (Bool))) :=
  match s with
  | t1 =>
    if (decide (t1 < (s1.length : Int))) then
      (idx s1 t1).bind fun y1 =>
      (idx s2 t1).bind fun y2 =>
      if (y1 != y2) then
        some (.done (.done false))
      else
        some (.next (IntKind.i64.wrap (t1 + 1)))
    else
      some (.done (.next ()))
noncomputable def M.slices_Equal__int64 (s1 : (List Int)) (s2 : (List Int)) : Option (Bool) :=
  if ((s1.length : Int) != (s2.length : Int)) then
    some false
  else
    (wloop (M.slices_Equal__int64_L1 s1 s2) 0).bind fun k => joinK k fun _ =>
    some true
noncomputable def M.value_Same (a1 : Val) (b1 : Val) : Option (Bool) :=
  (if (a1.Char == b1.Char) then
  (M.slices_Equal__int a1.Shape b1.Shape).bind fun r1 =>
  some r1 else
  some false).bind fun c1 =>
  (if c1 then
  (M.slices_Equal__int64 a1.Data b1.Data).bind fun r2 =>
  some r2 else
  some false).bind fun c2 =>
  some c2
noncomputable def M.slices_Clone__int (s1 : (List Int)) : Option ((List Int)) :=
  app 8 [] s1
noncomputable def M.value_Copy (v1 : Val) : Option (Val) :=
  (M.slices_Clone__int v1.Shape).bind fun r1 =>
  (M.slices_Clone__int64 v1.Data).bind fun r2 =>
  some (Val.mk v1.Char r1 r2)
noncomputable def M.anamnesislaw02_ValueBack_L2 (v1 : Val) (s : Int × (List Int)) : Option (Ctl (Int × (List Int)) (Ctl (Unit) (Bool))) :=
  match s with
  | (i2, l3) =>
    if (decide (i2 < (l3.length : Int))) then
      (idx l3 i2).bind fun y5 =>
      (idx l3 i2).bind fun y6 =>
      (upd l3 i2 (IntKind.i64.wrap (y5 + 1))).bind fun l4 =>
      (idx l4 i2).bind fun y7 =>
      (idx v1.Shape i2).bind fun y8 =>
      if (y7 == y8) then
        some (.done (.done false))
      else
        some (.next ((IntKind.i64.wrap (i2 + 1)), l4))
    else
      some (.done (.next ()))
noncomputable def M.anamnesislaw02_ValueBack_L1 (v1 : Val) (s : Int × (List Int)) : Option (Ctl (Int × (List Int)) (Ctl ((List Int)) (Bool))) :=
  match s with
  | (i1, l1) =>
    if (decide (i1 < (l1.length : Int))) then
      (idx l1 i1).bind fun y1 =>
      (idx l1 i1).bind fun y2 =>
      (upd l1 i1 (IntKind.i64.wrap (y1 + 1))).bind fun l2 =>
      (idx l2 i1).bind fun y3 =>
      (idx v1.Data i1).bind fun y4 =>
      if (y3 == y4) then
        some (.done (.done false))
      else
        some (.next ((IntKind.i64.wrap (i1 + 1)), l2))
    else
      some (.done (.next l1))
noncomputable def M.anamnesislaw02_ValueBack (v1 : Val) (s1 : ByteArray) (n1 : Int) : Option (Bool) :=
  if ((decide ((v1.Data.length : Int) > 10100)) || (decide ((v1.Shape.length : Int) > 10))) then
    some true
  else
    (if (decide ((s1.size : Int) > 20000)) then
      (ssub s1 0 20000).bind fun s3 =>
      some s3
    else
      some s1).bind fun s2 =>
    (M.value_Text s2).bind fun r1 =>
    (M.value_Right r1).bind fun r2 =>
    (if (!r2) then
    some true else
    (M.value_Scalar n1).bind fun r3 =>
    (M.value_Right r3).bind fun r4 =>
    some (!r4)).bind fun c2 =>
    (if c2 then
    some true else
    (M.value_Vector v1.Data).bind fun r5 =>
    (M.value_Right r5).bind fun r6 =>
    some (!r6)).bind fun c3 =>
    (if c3 then
    some true else
    (M.value_String r1).bind fun r7 =>
    (M.value_Text r7).bind fun r8 =>
    (M.value_Same r8 r1).bind fun r9 =>
    some (!r9)).bind fun c4 =>
    if c4 then
      some false
    else
      ((if v1.Char then
      (M.value_Right v1).bind fun r10 =>
      some r10 else
      some false).bind fun c5 =>
      if c5 then
        (M.value_String v1).bind fun r11 =>
        (M.value_Text r11).bind fun r12 =>
        (M.value_Same (Val.mk r12.Char v1.Shape r12.Data) v1).bind fun r13 =>
        if (!r13) then
          some (.done false)
        else
          some (.next ())
      else
        some (.next ())).bind fun k => joinK k fun _ =>
      (M.value_Copy v1).bind fun r14 =>
      (M.value_Same r14 v1).bind fun r15 =>
      (if (!r15) then
      some true else
      (M.value_Same v1 r14).bind fun r16 =>
      some (!r16)).bind fun c6 =>
      if c6 then
        some false
      else
        (wloop (M.anamnesislaw02_ValueBack_L1 v1) (0, r14.Data)).bind fun k => joinK k fun l1 =>
        (wloop (M.anamnesislaw02_ValueBack_L2 v1) (0, r14.Shape)).bind fun k => joinK k fun _ =>
        some true
theorem w64_id {x : Int} (h1 : -9223372036854775808 ≤ x) (h2 : x ≤ 9223372036854775807) : IntKind.i64.wrap x = x := wrap_id h1 h2
theorem u8_mod (x : Int) : IntKind.u8.wrap x = x % 256 := by simp [IntKind.wrap, IntKind.bits, IntKind.signed]
theorem u8_id {x : Int} (h1 : 0 ≤ x) (h2 : x ≤ 255) : IntKind.u8.wrap x = x := by rw [u8_mod]; omega
theorem u32_id {x : Int} (h1 : 0 ≤ x) (h2 : x ≤ 1114111) : IntKind.u32.wrap x = x := by
  have : IntKind.u32.wrap x = x % 4294967296 := by simp [IntKind.wrap, IntKind.bits, IntKind.signed]
  rw [this]; omega
/-- A loop comes to an end in a state with Q: P holds ahead of each round, and its number falls. -/
theorem wloop_ind {σ β : Type} {f : σ → Option (Ctl σ β)} (P : Nat → σ → Prop) (Q : β → Prop)
    (h : ∀ n s, P n s → (∃ s' n', f s = some (.next s') ∧ n' < n ∧ P n' s') ∨ (∃ b, f s = some (.done b) ∧ Q b)) : ∀ n s, P n s → ∃ b, wloop f s = some b ∧ Q b := by
  intro n
  induction n using Nat.strongRecOn with
  | _ n ih =>
    intro s hp
    rcases h n s hp with ⟨s', n', hf, hn, hp'⟩ | ⟨b, hf, hq⟩
    · obtain ⟨b, hb, hq⟩ := ih n' hn s' hp'
      exact ⟨b, by rw [wloop_next hf]; exact hb, hq⟩
    · exact ⟨b, wloop_done hf, hq⟩
theorem idx_nat {α : Type} (l : List α) (k : Nat) : idx l (k : Int) = l[k]? := by
  unfold idx; rw [if_pos (by omega)]; rfl
theorem idx_get {α : Type} {l : List α} {k : Nat} (h : k < l.length) : idx l (k : Int) = some l[k] := by rw [idx_nat, List.getElem?_eq_getElem h]
theorem upd_nat {α : Type} {l : List α} {k : Nat} {x : α} (h : k < l.length) : upd l (k : Int) x = some (l.set k x) := by
  unfold upd; rw [if_pos ⟨by omega, by omega⟩]; rfl
theorem app_ok {α : Type} {b : Nat} {l m : List α} (h : (l.length + m.length) * b ≤ 140737488355328) : app b l m = some (l ++ m) := by
  unfold app; rw [if_pos (.inr h)]
theorem mk_ok {α : Type} {b : Nat} {z : α} {n : Nat} (h : b * n ≤ 140737488355328) (h' : n ≤ 140737488355328) : mk b z (n : Int) (n : Int) = some (List.replicate n z) := by
  unfold mk
  have : ((b : Int) * (n : Int)) ≤ 140737488355328 := by
    have h2 : ((b * n : Nat) : Int) ≤ 140737488355328 := by omega
    rwa [Int.natCast_mul] at h2
  rw [if_pos ⟨by omega, by omega, this, by omega⟩]; rfl
/-- the numbers that a kind has. -/
theorem wf64 {n : Int} (h : (Lit.int .i64 n).wf = true) : -9223372036854775808 ≤ n ∧ n ≤ 9223372036854775807 := by
  have h2 : (decide (IntKind.i64.min ≤ n) && decide (n ≤ IntKind.i64.max)) = true := h
  have e1 : IntKind.i64.min = -9223372036854775808 := by decide
  have e2 : IntKind.i64.max = 9223372036854775807 := by decide
  rw [e1, e2] at h2
  simpa using h2
theorem sub_drop {α : Type} {l : List α} {k : Nat} (h : k ≤ l.length) : sub l (k : Int) (l.length : Int) = some (l.drop k) := by
  unfold sub
  rw [if_pos ⟨by omega, by omega, by omega⟩]
  simp
theorem drop_cons {α : Type} {l : List α} {k : Nat} (h : k < l.length) : l.drop k = l[k] :: l.drop (k + 1) := List.drop_eq_getElem_cons h
theorem same_loop {f : Int → Option (Ctl Int (Ctl Unit Bool))} {a b : List Int} (hl : a.length = b.length) (hm : a.length ≤ maxLen)
    (hf : ∀ k : Nat, ∀ h : k < a.length, f k = if a[k] = b[k]'(hl ▸ h) then some (.next ((k : Int) + 1)) else some (.done (.done false))) (he : f a.length = some (.done (.next ()))) :
    wloop f 0 = some (if a = b then .next () else .done false) := by
  have key := wloop_ind (f := f) (fun n i => ∃ k : Nat, i = k ∧ k ≤ a.length ∧ n = a.length - k ∧ a.take k = b.take k)
    (fun c => (c = .done false ∧ a ≠ b) ∨ (c = .next () ∧ a = b)) (fun n i h => by
      obtain ⟨k, rfl, hk, rfl, hn⟩ := h
      by_cases hlt : k < a.length
      · rw [hf k hlt]
        by_cases he : a[k] = b[k]
        · rw [if_pos he]
          left
          refine ⟨_, a.length - (k + 1), rfl, by omega, k + 1, by omega, by omega, rfl, ?_⟩
          rw [List.take_succ_eq_append_getElem hlt, List.take_succ_eq_append_getElem (by omega), hn, he]
        · rw [if_neg he]
          right
          refine ⟨_, rfl, .inl ⟨rfl, fun h => he ?_⟩⟩
          subst h; rfl
      · have : k = a.length := by omega
        subst this
        right
        refine ⟨_, he, .inr ⟨rfl, ?_⟩⟩
        rw [List.take_length, hl, List.take_length] at hn
        exact hn) a.length 0 ⟨0, rfl, by omega, by omega, by simp⟩
  obtain ⟨c, hc, ⟨rfl, h⟩ | ⟨rfl, h⟩⟩ := key
  · rw [hc]; simp [h]
  · rw [hc]; simp [h]

theorem same_step {f : Int → Option (Ctl Int (Ctl Unit Bool))} {a b : List Int} (hl : a.length = b.length) (hm : a.length ≤ maxLen)
    (hf : ∀ k : Nat, ∀ h : k < a.length, f k = if a[k] = b[k]'(hl ▸ h) then some (.next ((k : Int) + 1)) else some (.done (.done false))) (he : f a.length = some (.done (.next ()))) :
    (wloop f 0).bind (fun k => joinK k fun _ => some true) = some (decide (a = b)) := by
  rw [same_loop hl hm hf he]
  by_cases h : a = b
  · rw [if_pos h, decide_eq_true h]; rfl
  · rw [if_neg h, decide_eq_false h]; rfl
/-- a loop that counts up. -/
theorem loop_up {S τ β : Type} {f : S → Option (Ctl S β)} (st : Nat → τ → S) (n : Nat) (I : Nat → τ → Prop) (out : τ → β) (a : τ) (h0 : I 0 a)
    (hf : ∀ k m, k < n → I k m → ∃ m', f (st k m) = some (.next (st (k + 1) m')) ∧ I (k + 1) m') (he : ∀ m, I n m → f (st n m) = some (.done (out m))) :
    ∃ m, I n m ∧ wloop f (st 0 a) = some (out m) := by
  have key := wloop_ind (f := f) (fun j s => ∃ k m, s = st k m ∧ j = n - k ∧ k ≤ n ∧ I k m) (fun b => ∃ m, b = out m ∧ I n m) (fun j s h => by
    obtain ⟨k, m, rfl, rfl, hk, hi⟩ := h
    by_cases hlt : k < n
    · left
      obtain ⟨m', h1, h2⟩ := hf k m hlt hi
      exact ⟨_, n - (k + 1), h1, by omega, k + 1, m', rfl, rfl, by omega, h2⟩
    · have : k = n := by omega
      subst this
      exact .inr ⟨_, he m hi, m, rfl, hi⟩) n (st 0 a) ⟨0, a, rfl, by omega, by omega, h0⟩
  obtain ⟨b, hb, m, rfl, hi⟩ := key
  exact ⟨m, hi, hb⟩
/-- a loop that counts up, each of whose states is told. -/
theorem loop_fun {S β : Type} {f : S → Option (Ctl S β)} (st : Nat → S) (n : Nat) {b : β} (hf : ∀ k, k < n → f (st k) = some (.next (st (k + 1)))) (he : f (st n) = some (.done b)) : wloop f (st 0) = some b := by
  obtain ⟨_, _, h⟩ := loop_up (f := f) (fun k (_ : Unit) => st k) n (fun _ _ => True) (fun _ => b) () trivial (fun k m hk _ => ⟨(), hf k hk, trivial⟩) (fun m _ => he)
  exact h
theorem lin_lt {i k R C : Nat} (h : i < R) (hk : k < C) : i * C + k < R * C := by
  have := Nat.mul_le_mul_right C (show i + 1 ≤ R from h)
  rw [Nat.succ_mul] at this; omega
theorem lin_inj {i k i' k' C : Nat} (hk : k < C) (hk' : k' < C) (h : i * C + k = i' * C + k') : i = i' ∧ k = k' := by
  have hc : 0 < C := by omega
  have e : ∀ (a b : Nat), b < C → (a * C + b) / C = a := fun a b hb => by
    rw [Nat.mul_comm, Nat.mul_add_div hc, Nat.div_eq_of_lt hb, Nat.add_zero]
  have h1 := e i k hk
  rw [h, e i' k' hk'] at h1
  subst h1; omega
/-- a matrix, row by row. -/
def tab (R C : Nat) (f : Nat → Nat → Int) : List Int := (List.range (R * C)).map fun p => f (p / C) (p % C)
theorem tab_len (R C : Nat) (f : Nat → Nat → Int) : (tab R C f).length = R * C := by simp [tab]
theorem tab_get {R C i k : Nat} (f : Nat → Nat → Int) (hi : i < R) (hk : k < C) : (tab R C f)[i * C + k]? = some (f i k) := by
  have hc : 0 < C := by omega
  unfold tab
  rw [List.getElem?_map, List.getElem?_range (lin_lt hi hk)]
  show some (f ((i * C + k) / C) ((i * C + k) % C)) = _
  rw [Nat.mul_comm, Nat.mul_add_div hc, Nat.div_eq_of_lt hk, Nat.mul_add_mod, Nat.mod_eq_of_lt hk, Nat.add_zero]
theorem tab_ext {R C : Nat} {f : Nat → Nat → Int} {l : List Int} (hl : l.length = R * C) (h : ∀ i k, i < R → k < C → l[i * C + k]? = some (f i k)) : l = tab R C f := by
  apply List.ext_getElem?
  intro p
  by_cases hp : p < R * C
  · have hc : 0 < C := by
      rcases Nat.eq_zero_or_pos C with h | h
      · subst h; simp at hp
      · exact h
    have h1 : p / C < R := by rw [Nat.div_lt_iff_lt_mul hc]; exact hp
    have h2 : p % C < C := Nat.mod_lt _ hc
    have e : p / C * C + p % C = p := by rw [Nat.mul_comm]; exact Nat.div_add_mod p C
    have a := h _ _ h1 h2
    have b := tab_get f h1 h2
    rw [e] at a b
    rw [a, b]
  · rw [List.getElem?_eq_none (by omega), List.getElem?_eq_none (by rw [tab_len]; omega)]
theorem contains_int64 {s : List Int} {f : Int → Option Bool} {g : Int → Bool} (hf : ∀ x ∈ s, f x = some (g x)) (hl : s.length ≤ 9223372036854775807) : M.slices_ContainsFunc__int64 s f = some (s.any g) := by
  have key := wloop_ind (f := M.slices_IndexFunc__int64_L1 s f) (fun n i => ∃ k : Nat, i = k ∧ k ≤ s.length ∧ n = s.length - k ∧ (s.take k).any g = false)
    (fun b => (∃ i : Int, b = .done i ∧ 0 ≤ i ∧ s.any g = true) ∨ (b = .next () ∧ s.any g = false)) (fun n i h => by
      obtain ⟨k, rfl, hk, rfl, hn⟩ := h
      unfold M.slices_IndexFunc__int64_L1
      by_cases hlt : k < s.length
      · simp only [show decide ((k : Int) < (s.length : Int)) = true from by simp; exact hlt, if_true, idx_get hlt, Option.bind_some, hf _ (List.getElem_mem hlt)]
        cases hg : g s[k] with
        | true =>
          right
          refine ⟨_, rfl, .inl ⟨_, rfl, by omega, ?_⟩⟩
          rw [List.any_eq_true]
          exact ⟨_, List.getElem_mem hlt, hg⟩
        | false =>
          left
          refine ⟨_, s.length - (k + 1), rfl, by omega, k + 1, ?_, by omega, rfl, ?_⟩
          · rw [w64_id (by omega) (by omega)]; omega
          · rw [List.take_succ_eq_append_getElem hlt, List.any_append, hn]; simp [hg]
      · have : k = s.length := by omega
        subst this
        right
        simp only [show decide ((s.length : Int) < (s.length : Int)) = false from by simp, Bool.false_eq_true, if_false]
        exact ⟨_, rfl, .inr ⟨rfl, by simpa using hn⟩⟩) s.length 0 ⟨0, rfl, by omega, by omega, by simp⟩
  unfold M.slices_ContainsFunc__int64 M.slices_IndexFunc__int64
  obtain ⟨b, hb, ⟨i, rfl, h0, ha⟩ | ⟨rfl, ha⟩⟩ := key
  · rw [hb, ha]; simp [h0]
  · rw [hb, ha]; simp
def prod : List Int → Int
  | [] => 1
  | x :: s => x * prod s
def off : List Int → List Int → Int
  | x :: s, a :: at_ => a * prod s + off s at_
  | _, _ => 0
def dig : List Int → Int → List Int
  | [], _ => []
  | _ :: s, k => k / prod s :: dig s (k % prod s)
/-- is a place in a shape? -/
def inShape : List Int → List Int → Prop
  | [], [] => True
  | x :: s, a :: at_ => 0 ≤ a ∧ a < x ∧ inShape s at_
  | _, _ => False
instance : (s at_ : List Int) → Decidable (inShape s at_)
  | [], [] => isTrue trivial
  | x :: s, a :: at_ =>
    have := instDecidableInShape s at_
    by unfold inShape; exact inferInstance
  | [], _ :: _ => isFalse (fun h => h)
  | _ :: _, [] => isFalse (fun h => h)
theorem inShape.len : ∀ {s at_ : List Int}, inShape s at_ → at_.length = s.length
  | [], [], _ => rfl
  | x :: s, a :: at_, ⟨_, _, h⟩ => by simp [h.len]
  | [], _ :: _, h => h.elim
  | _ :: _, [], h => h.elim
theorem inShape.pos : ∀ {s at_ : List Int}, inShape s at_ → 0 < prod s
  | [], [], _ => by simp [prod]
  | x :: s, a :: at_, ⟨h0, h1, h⟩ => by
    have := h.pos
    exact Int.mul_pos (by omega) this
  | [], _ :: _, h => h.elim
  | _ :: _, [], h => h.elim
theorem off_range : ∀ {s at_ : List Int}, inShape s at_ → 0 ≤ off s at_ ∧ off s at_ < prod s
  | [], [], _ => by simp [prod, off]
  | x :: s, a :: at_, ⟨h0, h1, h⟩ => by
    have h2 := off_range h
    have h3 := h.pos
    have h4 : (a + 1) * prod s ≤ x * prod s := Int.mul_le_mul_of_nonneg_right (by omega) (by omega)
    have h5 : 0 ≤ a * prod s := Int.mul_nonneg h0 (by omega)
    rw [Int.add_mul] at h4
    simp only [prod, off]
    omega
  | [], _ :: _, h => h.elim
  | _ :: _, [], h => h.elim
theorem dig_off : ∀ {s at_ : List Int}, inShape s at_ → dig s (off s at_) = at_
  | [], [], _ => rfl
  | x :: s, a :: at_, ⟨h0, h1, h⟩ => by
    have h2 := off_range h
    have h3 := h.pos
    simp only [dig, off]
    rw [Int.add_comm, Int.mul_comm, Int.add_mul_ediv_left _ _ (by omega), Int.add_mul_emod_self_left, Int.emod_eq_of_lt h2.1 h2.2, dig_off h, Int.ediv_eq_zero_of_lt h2.1 h2.2]
    simp
  | [], _ :: _, h => h.elim
  | _ :: _, [], h => h.elim
def allPos (s : List Int) : Prop := ∀ x ∈ s, 0 < x
theorem allPos.pprod : ∀ {s : List Int}, allPos s → 0 < prod s
  | [], _ => by simp [prod]
  | x :: s, h => Int.mul_pos (h x List.mem_cons_self) (allPos.pprod fun y hy => h y (List.mem_cons_of_mem _ hy))
theorem allPos_of {s : List Int} (h : ∀ x ∈ s, 0 ≤ x) (hp : 0 < prod s) : allPos s := by
  intro x hx
  have h0 := h x hx
  rcases Int.lt_or_eq_of_le h0 with h1 | h1
  · exact h1
  · exfalso
    have : ∀ s : List Int, (0 : Int) ∈ s → prod s = 0 := by
      intro s
      induction s with
      | nil => intro h; simp at h
      | cons y s ih =>
        intro h
        rcases List.mem_cons.mp h with h | h
        · simp [prod, ← h]
        · simp [prod, ih h]
    rw [this s (h1 ▸ hx)] at hp
    omega
theorem dig_in : ∀ {s : List Int} {k : Int}, allPos s → 0 ≤ k → k < prod s → inShape s (dig s k)
  | [], k, _, h0, h1 => trivial
  | x :: s, k, h, h0, h1 => by
    have hs : allPos s := fun y hy => h y (List.mem_cons_of_mem _ hy)
    have hp := hs.pprod
    refine ⟨Int.ediv_nonneg h0 (by omega), ?_, dig_in hs (Int.emod_nonneg _ (by omega)) (Int.emod_lt_of_pos _ hp)⟩
    exact Int.ediv_lt_of_lt_mul hp h1
theorem off_dig : ∀ {s : List Int} {k : Int}, allPos s → 0 ≤ k → k < prod s → off s (dig s k) = k
  | [], k, _, h0, h1 => by simp [prod] at h1; simp [dig, off]; omega
  | x :: s, k, h, h0, h1 => by
    have hs : allPos s := fun y hy => h y (List.mem_cons_of_mem _ hy)
    have hp := hs.pprod
    simp only [dig, off]
    rw [off_dig hs (Int.emod_nonneg _ (by omega)) (Int.emod_lt_of_pos _ hp)]
    rw [Int.mul_comm]; exact Int.mul_ediv_add_emod k (prod s)
theorem dig_len : ∀ (s : List Int) (k : Int), (dig s k).length = s.length
  | [], _ => rfl
  | x :: s, k => by simp [dig, dig_len s]
theorem prod_nonneg : ∀ {s : List Int}, (∀ x ∈ s, 0 ≤ x) → 0 ≤ prod s
  | [], _ => by simp [prod]
  | x :: s, h => Int.mul_nonneg (h x List.mem_cons_self) (prod_nonneg fun y hy => h y (List.mem_cons_of_mem _ hy))
theorem prod_append : ∀ (s t : List Int), prod (s ++ t) = prod s * prod t
  | [], t => by simp [prod]
  | x :: s, t => by simp [prod, prod_append s t, Int.mul_assoc]

/-- the size of a shape, or the error. -/
def shSize (s : List Int) : Int × Int :=
  if 4 < s.length then (0, 24) else if s.any (fun x => decide (x < 0)) then (0, 1) else if s.any (fun x => decide (x > 10000)) || decide (prod s > 10000) then (0, 27) else (prod s, 0)
def shOk (s : List Int) : Prop := s.length ≤ 4 ∧ (∀ x ∈ s, 0 ≤ x ∧ x ≤ 10000) ∧ prod s ≤ 10000
instance (s : List Int) : Decidable (shOk s) := by unfold shOk; exact inferInstance
theorem shSize_ok {s : List Int} (h : shOk s) : shSize s = (prod s, 0) := by
  obtain ⟨h1, h2, h3⟩ := h
  unfold shSize
  rw [if_neg (by omega), if_neg, if_neg]
  · simp only [Bool.or_eq_true, List.any_eq_true, decide_eq_true_eq]
    rintro (⟨x, hx, h⟩ | h)
    · have := h2 x hx; omega
    · omega
  · simp only [List.any_eq_true, decide_eq_true_eq]
    rintro ⟨x, hx, h⟩
    have := h2 x hx; omega
theorem shSize_zero {s : List Int} : (shSize s).2 = 0 ↔ shOk s := by
  constructor
  · intro h
    unfold shSize at h
    split at h
    · cases h
    · rename_i h1
      split at h
      · cases h
      · rename_i h2
        split at h
        · cases h
        · rename_i h3
          simp only [List.any_eq_true, decide_eq_true_eq, not_exists, not_and] at h2
          simp only [Bool.or_eq_true, List.any_eq_true, decide_eq_true_eq, not_or, not_exists, not_and] at h3
          exact ⟨by omega, fun x hx => ⟨by have := h2 x hx; omega, by have := h3.1 x hx; omega⟩, by omega⟩
  · intro h; rw [shSize_ok h]
theorem shSize_cases (s : List Int) : (shOk s ∧ shSize s = (prod s, 0)) ∨ (¬ shOk s ∧ (shSize s).2 ≠ 0 ∧ (shSize s).1 = 0) := by
  by_cases h : shOk s
  · exact .inl ⟨h, shSize_ok h⟩
  · refine .inr ⟨h, fun hh => h (shSize_zero.mp hh), ?_⟩
    unfold shSize
    split
    · rfl
    · rename_i h1
      split
      · rfl
      · rename_i h2
        split
        · rfl
        · rename_i h3
          exfalso; apply h
          simp only [List.any_eq_true, decide_eq_true_eq, not_exists, not_and] at h2
          simp only [Bool.or_eq_true, List.any_eq_true, decide_eq_true_eq, not_or, not_exists, not_and] at h3
          exact ⟨by omega, fun x hx => ⟨by have := h2 x hx; omega, by have := h3.1 x hx; omega⟩, by omega⟩
theorem dig_bound {s : List Int} {k : Int} (hok : shOk s) (h0 : 0 ≤ k) (h1 : k < prod s) : ∀ x ∈ dig s k, 0 ≤ x ∧ x ≤ 10000 := by
  have hpos : allPos s := allPos_of (fun x hx => (hok.2.1 x hx).1) (by omega)
  have key : ∀ (s at_ : List Int), inShape s at_ → (∀ x ∈ s, 0 ≤ x ∧ x ≤ 10000) → ∀ x ∈ at_, 0 ≤ x ∧ x ≤ 10000 := by
    intro s
    induction s with
    | nil => intro at_ h _ x hx; cases at_ with | nil => simp at hx | cons _ _ => exact h.elim
    | cons y s ih =>
      intro at_ h hb x hx
      cases at_ with
      | nil => exact h.elim
      | cons a at_ =>
        obtain ⟨h1, h2, h3⟩ := h
        rcases List.mem_cons.mp hx with rfl | hx
        · have := hb y List.mem_cons_self; omega
        · exact ih at_ h3 (fun z hz => hb z (List.mem_cons_of_mem _ hz)) x hx
  exact key s _ (dig_in hpos h0 h1) hok.2.1
theorem dig_zero : ∀ {s : List Int}, allPos s → dig s 0 = List.replicate s.length 0
  | [], _ => rfl
  | x :: s, h => by
    have hs : allPos s := fun y hy => h y (List.mem_cons_of_mem _ hy)
    simp only [dig, Int.zero_ediv, Int.zero_emod, dig_zero hs]; rfl

theorem one_le_pow : ∀ k : Nat, (1 : Int) ≤ 10000 ^ k
  | 0 => by simp
  | k + 1 => by rw [Int.pow_succ]; have := one_le_pow k; omega
theorem prod_bound : ∀ (s : List Int) (k : Nat), s.length ≤ k → (∀ x ∈ s, 0 ≤ x ∧ x ≤ 10000) → 0 ≤ prod s ∧ prod s ≤ 10000 ^ k
  | [], k, _, _ => ⟨by simp [prod], one_le_pow k⟩
  | x :: s, k + 1, hl, h => by
    have h1 := h x List.mem_cons_self
    have h2 := prod_bound s k (by simpa using hl) (fun y hy => h y (List.mem_cons_of_mem _ hy))
    refine ⟨Int.mul_nonneg h1.1 h2.1, ?_⟩
    simp only [prod]
    have h3 : x * prod s ≤ 10000 * prod s := Int.mul_le_mul_of_nonneg_right h1.2 h2.1
    have h4 : (10000 : Int) ^ (k + 1) = 10000 ^ k * 10000 := Int.pow_succ _ _
    omega
  | x :: s, 0, hl, h => by simp at hl

/-- is a number a character? -/
def chOk (c : Int) : Bool := decide (0 ≤ c ∧ c ≤ 1114111) && !decide (55296 ≤ c ∧ c ≤ 57343)
/-- may an array be? -/
def vRight (v : Val) : Bool := decide (shOk v.Shape) && decide (prod v.Shape = v.Data.length) && (!v.Char || v.Data.all chOk)
def vSame (a b : Val) : Bool := (a.Char == b.Char) && decide (a.Shape = b.Shape) && decide (a.Data = b.Data)
theorem vSame_iff {a b : Val} : vSame a b = true ↔ a = b := by
  obtain ⟨c, s, d⟩ := a
  obtain ⟨c', s', d'⟩ := b
  simp only [vSame, Bool.and_eq_true, beq_iff_eq, decide_eq_true_eq, Val.mk.injEq]
  constructor
  · rintro ⟨⟨h1, h2⟩, h3⟩; exact ⟨h1, h2, h3⟩
  · rintro ⟨h1, h2, h3⟩; exact ⟨⟨h1, h2⟩, h3⟩
theorem vSame_refl (a : Val) : vSame a a = true := vSame_iff.mpr rfl
theorem vSame_eq (a b : Val) : vSame a b = true ∧ a = b ∨ vSame a b = false ∧ a ≠ b := by
  cases h : vSame a b with
  | true => exact .inl ⟨rfl, vSame_iff.mp h⟩
  | false => exact .inr ⟨rfl, fun hh => by rw [vSame_iff.mpr hh] at h; cases h⟩
theorem vRight_iff {v : Val} : vRight v = true ↔ shOk v.Shape ∧ prod v.Shape = v.Data.length ∧ (v.Char = true → ∀ c ∈ v.Data, chOk c = true) := by
  simp only [vRight, Bool.and_eq_true, decide_eq_true_eq, Bool.or_eq_true, Bool.not_eq_true', List.all_eq_true]
  constructor
  · rintro ⟨⟨h1, h2⟩, h3⟩
    refine ⟨h1, h2, fun h => ?_⟩
    rcases h3 with h3 | h3
    · rw [h3] at h; cases h
    · exact h3
  · rintro ⟨h1, h2, h3⟩
    refine ⟨⟨h1, h2⟩, ?_⟩
    cases h : v.Char with
    | true => exact .inr (h3 h)
    | false => exact .inl rfl

theorem right_loop {f : Int × Int → Option (Ctl (Int × Int) (Ctl Int Bool))} {s : List Int} (h4 : s.length ≤ 4)
    (hf : ∀ k : Nat, ∀ h : k < s.length, ∀ z, f (z, (k : Int)) = if s[k] < 0 ∨ s[k] > 10000 then some (.done (.done false)) else some (.next (IntKind.i64.wrap (z * s[k]), (k : Int) + 1)))
    (he : ∀ z, f (z, (s.length : Int)) = some (.done (.next z))) :
    ((∀ x ∈ s, 0 ≤ x ∧ x ≤ 10000) ∧ wloop f (1, 0) = some (.next (prod s))) ∨ (¬ (∀ x ∈ s, 0 ≤ x ∧ x ≤ 10000) ∧ wloop f (1, 0) = some (.done false)) := by
  have key := wloop_ind (f := f) (fun n st => ∃ k : Nat, n = s.length - k ∧ k ≤ s.length ∧ st = (prod (s.take k), (k : Int)) ∧ ∀ x ∈ s.take k, 0 ≤ x ∧ x ≤ 10000)
    (fun b => (b = .next (prod s) ∧ ∀ x ∈ s, 0 ≤ x ∧ x ≤ 10000) ∨ (b = .done false ∧ ¬ ∀ x ∈ s, 0 ≤ x ∧ x ≤ 10000)) (fun n st h => by
      obtain ⟨k, rfl, hk, rfl, hall⟩ := h
      by_cases hlt : k < s.length
      · rw [hf k hlt]
        by_cases hb : s[k] < 0 ∨ s[k] > 10000
        · rw [if_pos hb]
          right
          refine ⟨_, rfl, .inr ⟨rfl, fun hh => ?_⟩⟩
          have := hh _ (List.getElem_mem hlt); omega
        · rw [if_neg hb]
          left
          have e := List.take_succ_eq_append_getElem hlt
          have hall2 : ∀ x ∈ s.take (k + 1), 0 ≤ x ∧ x ≤ 10000 := by
            intro x hx
            rw [e] at hx
            rcases List.mem_append.mp hx with hx | hx
            · exact hall x hx
            · rw [List.mem_singleton.mp hx]; omega
          have hp := prod_bound (s.take (k + 1)) 4 (by rw [List.length_take]; omega) hall2
          have e2 : prod (s.take (k + 1)) = prod (s.take k) * s[k] := by rw [e, prod_append]; simp [prod]
          refine ⟨_, s.length - (k + 1), rfl, by omega, k + 1, rfl, by omega, ?_, hall2⟩
          rw [← e2, w64_id (by omega) (by omega)]; simp
      · have : k = s.length := by omega
        subst this
        rw [he]
        rw [List.take_length] at hall ⊢
        exact .inr ⟨_, rfl, .inl ⟨rfl, hall⟩⟩)
    s.length (1, 0) ⟨0, by omega, by omega, by simp [prod], by simp⟩
  obtain ⟨b, hb, ⟨rfl, h⟩ | ⟨rfl, h⟩⟩ := key
  · exact .inl ⟨h, hb⟩
  · exact .inr ⟨h, hb⟩
theorem all_loop {f : Int → Option (Ctl Int (Ctl Unit Bool))} {l : List Int} {p : Int → Bool}
    (hf : ∀ k : Nat, ∀ h : k < l.length, f k = if p l[k] = true then some (.next ((k : Int) + 1)) else some (.done (.done false))) (he : f l.length = some (.done (.next ()))) :
    wloop f 0 = some (if l.all p = true then .next () else .done false) := by
  have key := wloop_ind (f := f) (fun n i => ∃ k : Nat, i = k ∧ k ≤ l.length ∧ n = l.length - k ∧ (l.take k).all p = true)
    (fun c => (c = .done false ∧ l.all p = false) ∨ (c = .next () ∧ l.all p = true)) (fun n i h => by
      obtain ⟨k, rfl, hk, rfl, hn⟩ := h
      by_cases hlt : k < l.length
      · rw [hf k hlt]
        by_cases hp : p l[k] = true
        · rw [if_pos hp]
          left
          refine ⟨_, l.length - (k + 1), rfl, by omega, k + 1, by omega, by omega, rfl, ?_⟩
          rw [List.take_succ_eq_append_getElem hlt, List.all_append, hn]; simp [hp]
        · rw [if_neg hp]
          right
          refine ⟨_, rfl, .inl ⟨rfl, ?_⟩⟩
          rw [List.all_eq_false]
          exact ⟨_, List.getElem_mem hlt, hp⟩
      · have : k = l.length := by omega
        subst this
        right
        rw [List.take_length] at hn
        exact ⟨_, he, .inr ⟨rfl, hn⟩⟩) l.length 0 ⟨0, rfl, by omega, by omega, by simp⟩
  obtain ⟨c, hc, ⟨rfl, h⟩ | ⟨rfl, h⟩⟩ := key
  · rw [hc, h]; simp
  · rw [hc, h]; simp
theorem w32_id {x : Int} (h1 : 0 ≤ x) (h2 : x ≤ 1114111) : IntKind.i32.wrap x = x := by
  have e : IntKind.i32.wrap x = if x % 4294967296 ≥ 2147483648 then x % 4294967296 - 4294967296 else x % 4294967296 := by
    simp [IntKind.wrap, IntKind.bits, IntKind.signed]
  rw [e]
  split <;> omega
theorem character_eq (c : Int) : M.value_character c = some (chOk c) := by
  unfold M.value_character chOk
  by_cases h : 0 ≤ c ∧ c ≤ 1114111
  · have e : (decide (c ≥ 0) && decide (c ≤ 1114111)) = true := by simp; omega
    simp only [e, if_true, h, and_self, decide_true, Bool.true_and]
    rw [w32_id h.1 h.2]
    unfold M.unicode_utf8_ValidRune
    by_cases h1 : c < 55296
    · have e1 : (decide (0 ≤ c) && decide (c < 55296)) = true := by simp; omega
      have e2 : decide (55296 ≤ c ∧ c ≤ 57343) = false := decide_eq_false (by omega)
      simp only [e1, e2, if_true, Option.bind_some, Bool.not_false]
    · have e1 : (decide (0 ≤ c) && decide (c < 55296)) = false := by simp; omega
      simp only [e1, Bool.false_eq_true, if_false]
      by_cases h2 : 57343 < c
      · have e3 : (decide (57343 < c) && decide (c ≤ 1114111)) = true := by simp; omega
        have e2 : decide (55296 ≤ c ∧ c ≤ 57343) = false := decide_eq_false (by omega)
        simp only [e3, e2, if_true, Option.bind_some, Bool.not_false]
      · have e3 : (decide (57343 < c) && decide (c ≤ 1114111)) = false := by simp; omega
        have e2 : decide (55296 ≤ c ∧ c ≤ 57343) = true := decide_eq_true (by omega)
        simp only [e3, e2, Bool.false_eq_true, if_false, Option.bind_some, Bool.not_true]
  · have e : (decide (c ≥ 0) && decide (c ≤ 1114111)) = false := by simp; omega
    simp only [e, Bool.false_eq_true, if_false, h, decide_false, Bool.false_and, Option.bind_some]
theorem value_Right_eq {v : Val} (hd : v.Data.length ≤ 9223372036854775807) : M.value_Right v = some (vRight v) := by
  unfold M.value_Right
  by_cases h4 : 4 < v.Shape.length
  · rw [if_pos (by simp; omega)]
    have : vRight v = false := by
      cases h : vRight v with
      | false => rfl
      | true => have := (vRight_iff.mp h).1.1; omega
    rw [this]
  · rw [if_neg (by simp; omega)]
    have hloop := right_loop (f := M.value_Right_L1 v) (s := v.Shape) (by omega) (fun k h z => by
      unfold M.value_Right_L1
      simp only [show decide ((k : Int) < (v.Shape.length : Int)) = true from decide_eq_true (by omega), if_true, idx_get h, Option.bind_some]
      by_cases hb : v.Shape[k] < 0 ∨ v.Shape[k] > 10000
      · rw [if_pos hb, if_pos (by simpa using hb)]
      · rw [if_neg hb, if_neg (by simpa using hb), w64_id (x := (k : Int) + 1) (by omega) (by omega)]) (fun z => by unfold M.value_Right_L1; simp)
    rcases hloop with ⟨hall, hw⟩ | ⟨hall, hw⟩
    · rw [hw]
      simp only [Option.bind_some, joinK_next]
      have hp0 : 0 ≤ prod v.Shape := prod_nonneg fun x hx => (hall x hx).1
      by_cases hsz : prod v.Shape ≤ 10000 ∧ prod v.Shape = v.Data.length
      · have e : (decide (prod v.Shape > 10000) || (prod v.Shape != (v.Data.length : Int))) = false := by simp; omega
        simp only [e, Bool.false_eq_true, if_false]
        have hok : shOk v.Shape := ⟨by omega, hall, hsz.1⟩
        have hv : vRight v = (!v.Char || v.Data.all chOk) := by unfold vRight; simp [hok, hsz.2]
        rw [hv]
        cases hc : v.Char with
        | false => simp
        | true =>
          simp only [Bool.not_true, Bool.false_eq_true, if_false, Bool.false_or]
          rw [contains_int64 (s := v.Data) (f := fun x0 => M.value_Right_1 x0) (g := fun x => !chOk x) (fun x _ => by unfold M.value_Right_1; rw [character_eq]; rfl) hd]
          simp only [Option.bind_some]
          congr 1
          rw [List.not_any_eq_all_not]; simp
      · have e : (decide (prod v.Shape > 10000) || (prod v.Shape != (v.Data.length : Int))) = true := by
          simp; omega
        simp only [e, if_true]
        have : vRight v = false := by
          cases h : vRight v with
          | false => rfl
          | true => have := vRight_iff.mp h; exact absurd ⟨this.1.2.2, this.2.1⟩ hsz
        rw [this]
    · rw [hw]
      have : vRight v = false := by
        cases h : vRight v with
        | false => rfl
        | true => exact absurd (vRight_iff.mp h).1.2.1 hall
      rw [this]; rfl
theorem Equal_int_eq {a b : List Int} (ha : a.length ≤ maxLen) : M.slices_Equal__int a b = some (decide (a = b)) := by
  have hm : maxLen = 9223372036854775807 := rfl
  unfold M.slices_Equal__int
  by_cases hl : a.length = b.length
  · rw [if_neg (by simp [hl])]
    refine same_step hl ha (fun k h => ?_) ?_
    · unfold M.slices_Equal__int_L1
      simp only [show decide ((k : Int) < (a.length : Int)) = true from by simp; exact h, if_true, idx_get h, idx_get (hl ▸ h : k < b.length), Option.bind_some]
      by_cases he : a[k] = b[k]'(hl ▸ h)
      · rw [if_pos he, if_neg (by simp [he]), w64_id (by omega) (by omega)]
      · rw [if_neg he, if_pos (by simp [he])]
    · unfold M.slices_Equal__int_L1; simp
  · rw [if_pos (by simp; omega)]
    have : a ≠ b := fun h => hl (by rw [h])
    simp [this]
theorem Equal_int64_eq {a b : List Int} (ha : a.length ≤ maxLen) : M.slices_Equal__int64 a b = some (decide (a = b)) := by
  have hm : maxLen = 9223372036854775807 := rfl
  unfold M.slices_Equal__int64
  by_cases hl : a.length = b.length
  · rw [if_neg (by simp [hl])]
    refine same_step hl ha (fun k h => ?_) ?_
    · unfold M.slices_Equal__int64_L1
      simp only [show decide ((k : Int) < (a.length : Int)) = true from by simp; exact h, if_true, idx_get h, idx_get (hl ▸ h : k < b.length), Option.bind_some]
      by_cases he : a[k] = b[k]'(hl ▸ h)
      · rw [if_pos he, if_neg (by simp [he]), w64_id (by omega) (by omega)]
      · rw [if_neg he, if_pos (by simp [he])]
    · unfold M.slices_Equal__int64_L1; simp
  · rw [if_pos (by simp; omega)]
    have : a ≠ b := fun h => hl (by rw [h])
    simp [this]
theorem value_Same_eq {a b : Val} (hs : a.Shape.length ≤ maxLen) (hd : a.Data.length ≤ maxLen) : M.value_Same a b = some (vSame a b) := by
  unfold M.value_Same
  rw [Equal_int_eq hs, Equal_int64_eq hd]
  unfold vSame
  cases (a.Char == b.Char) <;> cases decide (a.Shape = b.Shape) <;> cases decide (a.Data = b.Data) <;> rfl
theorem value_Copy_eq {v : Val} (hs : v.Shape.length ≤ 1000000000) (hd : v.Data.length ≤ 1000000000) : M.value_Copy v = some v := by
  unfold M.value_Copy M.slices_Clone__int M.slices_Clone__int64
  rw [app_ok (by simp; omega), app_ok (by simp; omega)]; rfl
/-- a character's bytes. -/
def enc (c : Int) : List Int :=
  if c < 128 then [c] else if c < 2048 then [192 + c / 64, 128 + c % 64] else if c < 65536 then [224 + c / 4096, 128 + c / 64 % 64, 128 + c % 64]
  else [240 + c / 262144, 128 + c / 4096 % 64, 128 + c / 64 % 64, 128 + c % 64]
theorem enc_len (c : Int) : (enc c).length ≤ 4 := by
  unfold enc
  split
  · simp
  · split
    · simp
    · split <;> simp
theorem or_fin (b : Int) (n : Nat) (h : ∀ k : Fin n, IntKind.u8.wrap (BitVec.ofInt IntKind.u8.bits b ||| BitVec.ofInt IntKind.u8.bits (k.val : Int)).toNat = b + k.val) {x : Int} (h1 : 0 ≤ x) (h2 : x < n) :
    IntKind.u8.wrap (BitVec.ofInt IntKind.u8.bits b ||| BitVec.ofInt IntKind.u8.bits x).toNat = b + x := by
  have := h ⟨x.toNat, by omega⟩
  simpa [Int.toNat_of_nonneg h1] using this
theorem or192 {x : Int} (h1 : 0 ≤ x) (h2 : x < (32 : Nat)) : IntKind.u8.wrap (BitVec.ofInt IntKind.u8.bits 192 ||| BitVec.ofInt IntKind.u8.bits x).toNat = 192 + x := or_fin 192 32 (by decide) h1 h2
theorem or224 {x : Int} (h1 : 0 ≤ x) (h2 : x < (16 : Nat)) : IntKind.u8.wrap (BitVec.ofInt IntKind.u8.bits 224 ||| BitVec.ofInt IntKind.u8.bits x).toNat = 224 + x := or_fin 224 16 (by decide) h1 h2
theorem or240 {x : Int} (h1 : 0 ≤ x) (h2 : x < (8 : Nat)) : IntKind.u8.wrap (BitVec.ofInt IntKind.u8.bits 240 ||| BitVec.ofInt IntKind.u8.bits x).toNat = 240 + x := or_fin 240 8 (by decide) h1 h2
theorem or128 {x : Int} (h1 : 0 ≤ x) (h2 : x < (64 : Nat)) : IntKind.u8.wrap (BitVec.ofInt IntKind.u8.bits 128 ||| BitVec.ofInt IntKind.u8.bits x).toNat = 128 + x := or_fin 128 64 (by decide) h1 h2
theorem and63 (x : Int) : IntKind.u8.wrap (BitVec.ofInt IntKind.u8.bits (IntKind.u8.wrap x) &&& BitVec.ofInt IntKind.u8.bits 63).toNat = x % 64 := by
  have key : ∀ k : Fin 256, IntKind.u8.wrap (BitVec.ofInt IntKind.u8.bits (k.val : Int) &&& BitVec.ofInt IntKind.u8.bits 63).toNat = (k.val : Int) % 64 := by decide
  rw [u8_mod x]
  have := key ⟨(x % 256).toNat, by omega⟩
  have e : (((x % 256).toNat : Nat) : Int) = x % 256 := Int.toNat_of_nonneg (by omega)
  simp only [e] at this
  rw [this]; omega
theorem cont (x : Int) : IntKind.u8.wrap (BitVec.ofInt IntKind.u8.bits 128 ||| BitVec.ofInt IntKind.u8.bits (IntKind.u8.wrap (BitVec.ofInt IntKind.u8.bits (IntKind.u8.wrap x) &&& BitVec.ofInt IntKind.u8.bits 63).toNat)).toNat = 128 + x % 64 := by
  rw [and63, or128 (by omega) (by omega)]
theorem sh6 (c : Int) (h : 0 ≤ c) : Int.fdiv c (2 ^ (min (Int.toNat 6) IntKind.i32.bits)) = c / 64 := by
  rw [show (2 : Int) ^ (min (Int.toNat 6) IntKind.i32.bits) = 64 from rfl, Int.fdiv_eq_ediv_of_nonneg _ (by omega)]
theorem sh12 (c : Int) (h : 0 ≤ c) : Int.fdiv c (2 ^ (min (Int.toNat 12) IntKind.i32.bits)) = c / 4096 := by
  rw [show (2 : Int) ^ (min (Int.toNat 12) IntKind.i32.bits) = 4096 from rfl, Int.fdiv_eq_ediv_of_nonneg _ (by omega)]
theorem sh18 (c : Int) (h : 0 ≤ c) : Int.fdiv c (2 ^ (min (Int.toNat 18) IntKind.i32.bits)) = c / 262144 := by
  rw [show (2 : Int) ^ (min (Int.toNat 18) IntKind.i32.bits) = 262144 from rfl, Int.fdiv_eq_ediv_of_nonneg _ (by omega)]
theorem chOk_iff {c : Int} : chOk c = true ↔ (0 ≤ c ∧ c ≤ 1114111) ∧ ¬ (55296 ≤ c ∧ c ≤ 57343) := by
  unfold chOk; simp; omega
theorem AppendRune_eq {p : List Int} {c : Int} (h : chOk c = true) (hp : p.length ≤ 1000000000) : M.unicode_utf8_AppendRune p c = some (p ++ enc c) := by
  obtain ⟨⟨h0, h1⟩, h2⟩ := chOk_iff.mp h
  unfold M.unicode_utf8_AppendRune M.unicode_utf8_appendRuneNonASCII enc
  rw [u32_id h0 h1, cont, sh6 c h0, sh12 c h0, sh18 c h0, cont, cont]
  by_cases g1 : c < 128
  · rw [if_pos (by simp; omega), if_pos g1, u8_id h0 (by omega), app_ok (by simp; omega)]; rfl
  · rw [if_neg (by simp; omega), if_neg g1]
    by_cases g2 : c < 2048
    · rw [if_pos (by simp; omega), if_pos g2, u8_id (x := c / 64) (by omega) (by omega), or192 (by omega) (by omega), app_ok (by simp; omega)]; rfl
    · rw [if_neg (by simp; omega), if_neg g2]
      by_cases g3 : c < 65536
      · have e : (if decide (c < 55296) = true then some (decide (c < 55296)) else some (decide (57343 < c) && decide (c ≤ 65535))) = some true := by
          by_cases g : c < 55296
          · rw [if_pos (by simpa using g), decide_eq_true g]
          · rw [if_neg (by simpa using g), decide_eq_true (show 57343 < c by omega), decide_eq_true (show c ≤ 65535 by omega)]; rfl
        rw [e, if_pos g3]
        simp only [Option.bind_some, if_true]
        rw [u8_id (x := c / 4096) (by omega) (by omega), or224 (by omega) (by omega), app_ok (by simp; omega)]; rfl
      · have e : (if decide (c < 55296) = true then some (decide (c < 55296)) else some (decide (57343 < c) && decide (c ≤ 65535))) = some false := by
          rw [if_neg (by simp; omega), decide_eq_true (show 57343 < c by omega), decide_eq_false (show ¬ c ≤ 65535 by omega)]; rfl
        rw [e, if_neg g3]
        simp only [Option.bind_some, Bool.false_eq_true, if_false]
        rw [if_pos (by simp; omega), u8_id (x := c / 262144) (by omega) (by omega), or240 (by omega) (by omega), app_ok (by simp; omega)]; rfl
theorem enc_loop {β : Type} {f : List Int × Int → Option (Ctl (List Int × Int) (Ctl (List Int) β))} {l : List Int} (hl : l.length ≤ 10000)
    (hf : ∀ k : Nat, ∀ h : k < l.length, ∀ p : List Int, p.length ≤ 40000 → f (p, (k : Int)) = some (.next (p ++ enc l[k], (k : Int) + 1))) (he : ∀ p, f (p, (l.length : Int)) = some (.done (.next p))) :
    wloop f ([], 0) = some (.next (l.flatMap enc)) := by
  have key := wloop_ind (f := f) (fun n st => ∃ k : Nat, n = l.length - k ∧ k ≤ l.length ∧ st = ((l.take k).flatMap enc, (k : Int)) ∧ ((l.take k).flatMap enc).length ≤ 4 * k)
    (fun b => b = .next (l.flatMap enc)) (fun n st h => by
      obtain ⟨k, rfl, hk, rfl, hlen⟩ := h
      by_cases hlt : k < l.length
      · left
        rw [hf k hlt _ (by omega)]
        have e : (l.take (k + 1)).flatMap enc = (l.take k).flatMap enc ++ enc l[k] := by rw [List.take_succ_eq_append_getElem hlt, List.flatMap_append]; simp only [List.flatMap_cons, List.flatMap_nil, List.append_nil]
        refine ⟨_, l.length - (k + 1), rfl, by omega, k + 1, rfl, by omega, by rw [e]; simp, ?_⟩
        have := enc_len l[k]
        rw [e, List.length_append]; omega
      · have : k = l.length := by omega
        subst this
        right
        rw [he, List.take_length]
        exact ⟨_, rfl, rfl⟩) l.length ([], 0) ⟨0, by omega, by omega, by simp, by simp⟩
  obtain ⟨b, hb, rfl⟩ := key
  exact hb
theorem right_data {v : Val} (h : vRight v = true) : v.Data.length ≤ 10000 := by
  obtain ⟨⟨_, _, h2⟩, h3, _⟩ := vRight_iff.mp h
  omega
theorem value_String_eq {v : Val} (hd : v.Data.length ≤ 9223372036854775807) : M.value_String v = some (if v.Char && vRight v then strOf (v.Data.flatMap enc) else ByteArray.empty) := by
  unfold M.value_String
  rw [value_Right_eq hd]
  cases hc : v.Char with
  | false => rfl
  | true =>
    cases hr : vRight v with
    | false => rfl
    | true =>
      have h4 := right_data hr
      have hch := (vRight_iff.mp hr).2.2 hc
      have := enc_loop (f := M.value_String_L1 v) (l := v.Data) h4 (fun k h p hp => by
        unfold M.value_String_L1
        have hok := hch _ (List.getElem_mem h)
        have hok2 := chOk_iff.mp hok
        simp only [show decide ((k : Int) < (v.Data.length : Int)) = true from decide_eq_true (by omega), if_true, idx_get h, Option.bind_some]
        rw [w32_id (by omega) (by omega), AppendRune_eq hok (by omega), w64_id (by omega) (by omega)]; rfl) (fun p => by unfold M.value_String_L1; simp)
      rw [this]; rfl
/-- the byte at a place of a text. -/
def byteAt (s : ByteArray) (k : Nat) : Nat := (s.get! k).toNat
theorem byteAt_lt (s : ByteArray) (k : Nat) : byteAt s k < 256 := (s.get! k).toNat_lt
theorem sidx_get {s : ByteArray} {k : Nat} (h : k < s.size) : sidx s (k : Int) = some (byteAt s k : Int) := by
  unfold sidx byteAt
  rw [if_pos (by omega), Int.toNat_natCast, getElem?_pos s k h]
  show some (((s[k]).toNat : Nat) : Int) = _
  have : s.get! k = s[k] := by
    show s.data[k]! = s.data[k]
    rw [getElem!_pos s.data k h]
  rw [this]
def isCont (b : Nat) : Bool := b / 64 == 2
/-- the characters of a text from a place on, not more than so many. -/
def runes (s : ByteArray) : Nat → Nat → List Int
  | 0, _ => []
  | n + 1, p => if p < s.size then runeAt s p :: runes s n (p + (Utf8.decode s p).2) else []
theorem runes_len (s : ByteArray) : ∀ (n p : Nat), (runes s n p).length ≤ n
  | 0, _ => by simp [runes]
  | n + 1, p => by
    rw [runes]; split
    · have := runes_len s n (p + (Utf8.decode s p).2); simp; omega
    · simp
theorem decode_bounds (s : ByteArray) (i : Nat) : (Utf8.decode s i).1 ≤ 1114111 ∧ 1 ≤ (Utf8.decode s i).2 ∧ (Utf8.decode s i).2 ≤ 4 := by
  have b0 := byteAt_lt s i
  unfold Utf8.decode
  unfold byteAt at b0
  simp only [Nat.add_zero]
  split
  · rename_i h; refine ⟨?_, by omega, by omega⟩; simp only []; omega
  · split
    · split
      · refine ⟨by simp only []; omega, by simp only []; omega, by simp only []; omega⟩
      · exact ⟨by decide, by decide, by decide⟩
    · split
      · split
        · refine ⟨by simp only []; omega, by simp only []; omega, by simp only []; omega⟩
        · exact ⟨by decide, by decide, by decide⟩
      · split
        · split
          · rename_i h
            rw [Bool.and_eq_true] at h
            have h2 := h.2
            unfold Utf8.valid at h2
            simp at h2
            refine ⟨by simp only []; omega, by simp only []; omega, by simp only []; omega⟩
          · exact ⟨by decide, by decide, by decide⟩
        · exact ⟨by decide, by decide, by decide⟩
theorem value_Text_eq (s : ByteArray) : M.value_Text s = some ⟨true, [((runes s 10000 0).length : Int)], runes s 10000 0⟩ := by
  have key := wloop_ind (f := M.value_Text_L1 s) (fun n st => ∃ (l : List Int) (p : Nat), st = (l, p) ∧ n = s.size + 1 - p ∧ l.length ≤ 10000 ∧ l ++ runes s (10000 - l.length) p = runes s 10000 0)
    (fun b => b = .next (runes s 10000 0)) (fun n st h => by
      obtain ⟨l, p, rfl, rfl, hl, he⟩ := h
      obtain ⟨d1, d2, d3⟩ := decode_bounds s p
      unfold M.value_Text_L1
      by_cases hp : p < s.size
      · simp only [decide_eq_true hp, if_true]
        by_cases h4 : l.length = 10000
        · right
          rw [if_pos (by simp [h4])]
          refine ⟨_, rfl, ?_⟩
          rw [h4, Nat.sub_self, runes, List.append_nil] at he
          rw [he]
        · left
          have hr : runeAt s p ≤ 1114111 := by unfold runeAt; omega
          have hr0 : 0 ≤ runeAt s p := by unfold runeAt; omega
          rw [if_neg (by simp <;> omega), w64_id (by omega) (by omega), app_ok (by simp <;> omega)]
          refine ⟨_, s.size + 1 - nextP s p, rfl, by unfold nextP; rw [if_pos hp]; omega, _, _, rfl, rfl, by simp; omega, ?_⟩
          rw [← he, show 10000 - l.length = (10000 - (l ++ [runeAt s p]).length) + 1 by simp; omega, runes, if_pos hp, List.append_assoc]
          unfold nextP; rw [if_pos hp]; rfl
      · right
        simp only [decide_eq_false hp, Bool.false_eq_true, if_false]
        refine ⟨_, rfl, ?_⟩
        have : runes s (10000 - l.length) p = [] := by
          cases hm : 10000 - l.length with
          | zero => rfl
          | succ m => rw [runes, if_neg hp]
        rw [this, List.append_nil] at he
        rw [he]) (s.size + 1) ([], 0) ⟨[], 0, rfl, by omega, by simp, by simp⟩
  obtain ⟨b, hb, rfl⟩ := key
  unfold M.value_Text
  rw [hb]; rfl
theorem strOf_size (l : List Int) : (strOf l).size = l.length := by
  unfold strOf
  show (List.toArray _).size = _
  simp
theorem byteAt_strOf {l : List Int} {k : Nat} (h : k < l.length) (h0 : 0 ≤ l[k]) (h1 : l[k] ≤ 255) : (byteAt (strOf l) k : Int) = l[k] := by
  unfold byteAt
  have e : (strOf l).get! k = UInt8.ofNat (l[k]).toNat := by
    show (strOf l).data[k]! = _
    rw [getElem!_pos _ k (by show k < (List.toArray _).size; simpa using h)]
    unfold strOf
    simp
  rw [e, UInt8.toNat_ofNat']
  omega
theorem decode_eq (s : ByteArray) (i : Nat) : Utf8.decode s i = if byteAt s i < 128 then (byteAt s i, 1)
    else if byteAt s i / 32 == 6 && (decide (i + 1 < s.size) && isCont (byteAt s (i + 1))) then
      if (byteAt s i % 32) * 64 + byteAt s (i + 1) % 64 ≥ 128 then ((byteAt s i % 32) * 64 + byteAt s (i + 1) % 64, 2) else (65533, 1)
    else if byteAt s i / 16 == 14 && (decide (i + 1 < s.size) && isCont (byteAt s (i + 1))) && (decide (i + 2 < s.size) && isCont (byteAt s (i + 2))) then
      if (decide ((byteAt s i % 16) * 4096 + (byteAt s (i + 1) % 64) * 64 + byteAt s (i + 2) % 64 ≥ 2048) && Utf8.valid ((byteAt s i % 16) * 4096 + (byteAt s (i + 1) % 64) * 64 + byteAt s (i + 2) % 64 : Nat)) then ((byteAt s i % 16) * 4096 + (byteAt s (i + 1) % 64) * 64 + byteAt s (i + 2) % 64, 3) else (65533, 1)
    else if byteAt s i / 8 == 30 && (decide (i + 1 < s.size) && isCont (byteAt s (i + 1))) && (decide (i + 2 < s.size) && isCont (byteAt s (i + 2))) && (decide (i + 3 < s.size) && isCont (byteAt s (i + 3))) then
      if (decide ((byteAt s i % 8) * 262144 + (byteAt s (i + 1) % 64) * 4096 + (byteAt s (i + 2) % 64) * 64 + byteAt s (i + 3) % 64 ≥ 65536) && Utf8.valid ((byteAt s i % 8) * 262144 + (byteAt s (i + 1) % 64) * 4096 + (byteAt s (i + 2) % 64) * 64 + byteAt s (i + 3) % 64 : Nat)) then ((byteAt s i % 8) * 262144 + (byteAt s (i + 1) % 64) * 4096 + (byteAt s (i + 2) % 64) * 64 + byteAt s (i + 3) % 64, 4) else (65533, 1)
    else (65533, 1) := rfl
theorem utf8_valid (c : Nat) : Utf8.valid (c : Int) = decide (c < 55296 ∨ 57344 ≤ c ∧ c ≤ 1114111) := by
  unfold Utf8.valid; rw [Bool.eq_iff_iff]; simp; omega
theorem rune_ok (s : ByteArray) (i : Nat) : chOk (runeAt s i) = true := by
  have b0 := byteAt_lt s i
  rw [chOk_iff]
  unfold runeAt
  rw [decode_eq]
  split
  · simp only []; omega
  · split
    · split
      · simp only []; omega
      · simp
    · split
      · split
        · rename_i h
          rw [Bool.and_eq_true, utf8_valid] at h
          have h1 := of_decide_eq_true h.1
          have h2 := of_decide_eq_true h.2
          simp only []; omega
        · simp
      · split
        · split
          · rename_i h
            rw [Bool.and_eq_true, utf8_valid] at h
            have h1 := of_decide_eq_true h.1
            have h2 := of_decide_eq_true h.2
            simp only []; omega
          · simp
        · simp
theorem runes_ok (s : ByteArray) : ∀ (n p : Nat), ∀ c ∈ runes s n p, chOk c = true
  | 0, _ => by simp [runes]
  | n + 1, p => by
    rw [runes]; split
    · intro c hc
      rcases List.mem_cons.mp hc with rfl | hc
      · exact rune_ok s p
      · exact runes_ok s n _ c hc
    · simp
theorem text_right {l : List Int} (h : l.length ≤ 10000) (hc : ∀ c ∈ l, chOk c = true) : vRight ⟨true, [(l.length : Int)], l⟩ = true := by
  refine vRight_iff.mpr ⟨⟨by simp, by simp; omega, by simp [prod]; omega⟩, by simp [prod], fun _ => hc⟩
theorem vec_right {l : List Int} (h : l.length ≤ 10000) : vRight ⟨false, [(l.length : Int)], l⟩ = true := by
  refine vRight_iff.mpr ⟨⟨by simp, by simp; omega, by simp [prod]; omega⟩, by simp [prod], by simp⟩
theorem scal_right (x : Int) : vRight ⟨false, [], [x]⟩ = true := by
  refine vRight_iff.mpr ⟨⟨by simp, by simp, by simp [prod]⟩, by simp [prod], by simp⟩
/-- what is written is read again. -/
theorem decode_enc {pre post : List Int} {c : Int} (h : chOk c = true) : Utf8.decode (strOf (pre ++ enc c ++ post)) pre.length = (c.toNat, (enc c).length) := by
  obtain ⟨⟨h0, h1⟩, h2⟩ := chOk_iff.mp h
  have hb : ∀ (k : Nat) (x : Int), (enc c)[k]? = some x → 0 ≤ x → x ≤ 255 → (byteAt (strOf (pre ++ enc c ++ post)) (pre.length + k) : Int) = x ∧ pre.length + k < (strOf (pre ++ enc c ++ post)).size := by
    intro k x hk x0 x1
    obtain ⟨hk1, rfl⟩ := List.getElem?_eq_some_iff.mp hk
    have hlt : pre.length + k < (pre ++ enc c ++ post).length := by simp; omega
    have e : (pre ++ enc c ++ post)[pre.length + k] = (enc c)[k] := by
      apply Option.some.inj
      rw [← List.getElem?_eq_getElem hlt, ← hk, List.append_assoc, List.getElem?_append_right (by omega), Nat.add_sub_cancel_left, List.getElem?_append_left hk1]
    refine ⟨?_, by rw [strOf_size]; exact hlt⟩
    rw [byteAt_strOf hlt (by rw [e]; exact x0) (by rw [e]; exact x1), e]
  generalize hs : strOf (pre ++ enc c ++ post) = s at hb
  rw [decode_eq, utf8_valid, utf8_valid]
  unfold enc at hb ⊢
  by_cases g1 : c < 128
  · rw [if_pos g1] at hb ⊢
    have q0 := hb 0 _ rfl (by omega) (by omega)
    rw [Nat.add_zero] at q0
    rw [if_pos (by omega), List.length_singleton]
    congr 1
    omega
  rw [if_neg g1] at hb ⊢
  by_cases g2 : c < 2048
  · rw [if_pos g2] at hb ⊢
    have q0 := hb 0 _ rfl (by omega) (by omega)
    have q1 := hb 1 _ rfl (by omega) (by omega)
    rw [Nat.add_zero] at q0
    have c1 : isCont (byteAt s (pre.length + 1)) = true := by unfold isCont; simp; omega
    rw [if_neg (by omega), if_pos (by rw [c1]; simp; omega), if_pos (by omega)]
    show (_, 2) = (_, 2)
    congr 1
    omega
  rw [if_neg g2] at hb ⊢
  by_cases g3 : c < 65536
  · rw [if_pos g3] at hb ⊢
    have q0 := hb 0 _ rfl (by omega) (by omega)
    have q1 := hb 1 _ rfl (by omega) (by omega)
    have q2 := hb 2 _ rfl (by omega) (by omega)
    rw [Nat.add_zero] at q0
    have c1 : isCont (byteAt s (pre.length + 1)) = true := by unfold isCont; simp; omega
    have c2 : isCont (byteAt s (pre.length + 2)) = true := by unfold isCont; simp; omega
    rw [if_neg (by omega), if_neg (by simp; omega), if_pos (by rw [c1, c2]; simp; omega), if_pos (by simp; omega)]
    show (_, 3) = (_, 3)
    congr 1
    omega
  · rw [if_neg g3] at hb ⊢
    have q0 := hb 0 _ rfl (by omega) (by omega)
    have q1 := hb 1 _ rfl (by omega) (by omega)
    have q2 := hb 2 _ rfl (by omega) (by omega)
    have q3 := hb 3 _ rfl (by omega) (by omega)
    rw [Nat.add_zero] at q0
    have c1 : isCont (byteAt s (pre.length + 1)) = true := by unfold isCont; simp; omega
    have c2 : isCont (byteAt s (pre.length + 2)) = true := by unfold isCont; simp; omega
    have c3 : isCont (byteAt s (pre.length + 3)) = true := by unfold isCont; simp; omega
    rw [if_neg (by omega), if_neg (by simp; omega), if_neg (by simp; omega), if_pos (by rw [c1, c2, c3]; simp; omega), if_pos (by simp; omega)]
    show (_, 4) = (_, 4)
    congr 1
    omega
theorem enc_pos (c : Int) : 0 < (enc c).length := by
  unfold enc
  split
  · simp
  · split
    · simp
    · split <;> simp
theorem runes_enc : ∀ (l : List Int) (n : Nat) (pre : List Int), (∀ c ∈ l, chOk c = true) → l.length ≤ n → runes (strOf (pre ++ l.flatMap enc)) n pre.length = l
  | [], n, pre, _, _ => by
    cases n with
    | zero => rfl
    | succ n => rw [runes, strOf_size]; simp
  | c :: l, 0, pre, _, h => by simp at h
  | c :: l, n + 1, pre, hc, h => by
    have h1 := hc c (by simp)
    have ep := enc_pos c
    have e : strOf (pre ++ (c :: l).flatMap enc) = strOf (pre ++ enc c ++ l.flatMap enc) := by rw [List.flatMap_cons, List.append_assoc]
    rw [e, runes, strOf_size, if_pos (by simp; omega)]
    unfold runeAt
    rw [decode_enc h1]
    have ih := runes_enc l n (pre ++ enc c) (fun x hx => hc x (by simp [hx])) (by simpa using h)
    rw [List.length_append] at ih
    simp only []
    rw [ih]
    obtain ⟨⟨h0, _⟩, _⟩ := chOk_iff.mp h1
    rw [Int.toNat_of_nonneg h0]
theorem back_text {l : List Int} (hc : ∀ c ∈ l, chOk c = true) (h : l.length ≤ 10000) : M.value_Text (strOf (l.flatMap enc)) = some ⟨true, [(l.length : Int)], l⟩ := by
  have := runes_enc l 10000 [] hc h
  simp only [List.nil_append, List.length_nil] at this
  rw [value_Text_eq, this]
theorem wrap_ne {x : Int} (h1 : -9223372036854775808 ≤ x) (h2 : x ≤ 9223372036854775807) : IntKind.i64.wrap (x + 1) ≠ x := by
  by_cases h : x = 9223372036854775807
  · subst h; decide
  · rw [w64_id (by omega) (by omega)]; omega
theorem grow_loop {β γ : Type} {f : Int × List Int → Option (Ctl (Int × List Int) (Ctl γ β))} {g : List Int → γ} {l : List Int}
    (hf : ∀ k : Nat, ∀ h : k < l.length, ∀ m : List Int, m.length = l.length → m[k]? = some l[k] → f ((k : Int), m) = some (.next ((k : Int) + 1, m.set k (IntKind.i64.wrap (l[k] + 1)))))
    (he : ∀ m : List Int, m.length = l.length → f ((l.length : Int), m) = some (.done (.next (g m)))) : ∃ m, wloop f (0, l) = some (.next (g m)) := by
  have key := wloop_ind (f := f) (fun n st => ∃ (k : Nat) (m : List Int), st = ((k : Int), m) ∧ n = l.length - k ∧ k ≤ l.length ∧ m.length = l.length ∧ ∀ j, k ≤ j → m[j]? = l[j]?)
    (fun b => ∃ m, b = .next (g m)) (fun n st h => by
      obtain ⟨k, m, rfl, rfl, hk, hm, hj⟩ := h
      by_cases hlt : k < l.length
      · left
        rw [hf k hlt m hm (by rw [hj k (Nat.le_refl _), List.getElem?_eq_getElem hlt])]
        refine ⟨_, l.length - (k + 1), rfl, by omega, k + 1, _, rfl, rfl, by omega, by simp [hm], fun j hkj => ?_⟩
        rw [List.getElem?_set_ne (by omega)]
        exact hj j (by omega)
      · have : k = l.length := by omega
        subst this
        right
        exact ⟨_, he m hm, m, rfl⟩) l.length ((0 : Int), l) ⟨0, l, rfl, by omega, by omega, rfl, fun _ _ => rfl⟩
  obtain ⟨b, hb, m, rfl⟩ := key
  exact ⟨m, hb⟩
theorem valueBack_true (v : Val) (s : ByteArray) (n : Int) (gv : (∀ x ∈ v.Shape, (Lit.int .i64 x).wf = true) ∧ (∀ x ∈ v.Data, (Lit.int .i64 x).wf = true) ∧ v.Shape.length ≤ maxLen ∧ v.Data.length ≤ maxLen)
    (gs : s.size ≤ maxLen) (gn : (Lit.int .i64 n).wf = true) : M.anamnesislaw02_ValueBack v s n = some true := by
  have hm : maxLen = 9223372036854775807 := rfl
  obtain ⟨w1, w2, _, _⟩ := gv
  unfold M.anamnesislaw02_ValueBack
  by_cases hbig : v.Data.length > 10100 ∨ v.Shape.length > 10
  · rw [if_pos (by simp; omega)]
  have hd : v.Data.length ≤ 10100 := by omega
  have hsh : v.Shape.length ≤ 10 := by omega
  rw [if_neg (by simp; omega)]
  have h : ∃ s2 : ByteArray, s2.size ≤ 20000 ∧ (if (decide ((s.size : Int) > 20000)) then (ssub s 0 20000).bind fun s3 => some s3 else some s) = some s2 := by
    by_cases h : s.size > 20000
    · rw [if_pos (by simp <;> omega)]
      unfold ssub
      rw [if_pos ⟨by omega, by omega, by omega⟩]
      refine ⟨_, ?_, rfl⟩
      simp [ByteArray.size_extract]
      omega
    · rw [if_neg (by simp <;> omega)]
      exact ⟨s, by omega, rfl⟩
  obtain ⟨s2, hs2, e⟩ := h
  rw [e]
  have hl := runes_len s2 10000 0
  have hro := runes_ok s2 10000 0
  simp only [Option.bind_some]
  rw [value_Text_eq]
  generalize runes s2 10000 0 = t at hl hro
  have rt := text_right hl hro
  simp only [Option.bind_some]
  rw [value_Right_eq (by simp only []; omega), rt]
  simp only [Option.bind_some, Bool.not_true, Bool.false_eq_true, if_false]
  unfold M.value_Scalar
  simp only [Option.bind_some]
  rw [value_Right_eq (by simp), scal_right]
  simp only [Option.bind_some, Bool.not_true, Bool.false_eq_true, if_false]
  have hv : M.value_Vector v.Data = some ⟨false, [((v.Data.take 10000).length : Int)], v.Data.take 10000⟩ := by
    unfold M.value_Vector M.slices_Clone__int64
    have en : (if 10000 < (v.Data.length : Int) then (10000 : Int) else (v.Data.length : Int)) = ((min v.Data.length 10000 : Nat) : Int) := by split <;> omega
    have : sub v.Data 0 ((min v.Data.length 10000 : Nat) : Int) = some (v.Data.take 10000) := by
      unfold sub
      rw [if_pos ⟨by omega, by omega, by omega⟩, Int.toNat_natCast]
      simp only [Int.toNat_zero, List.drop_zero]
      by_cases h : v.Data.length ≤ 10000
      · rw [Nat.min_eq_left h, List.take_of_length_le (Nat.le_refl _), List.take_of_length_le h]
      · rw [Nat.min_eq_right (by omega)]
    rw [en]
    rw [this]
    simp only [Option.bind_some]
    rw [app_ok (by simp; omega)]; rfl
  have htl : (v.Data.take 10000).length ≤ 10000 := by simp; omega
  rw [hv]
  simp only [Option.bind_some]
  rw [value_Right_eq (by simp only []; omega), vec_right htl]
  simp only [Option.bind_some, Bool.not_true, Bool.false_eq_true, if_false]
  rw [value_String_eq (by simp only []; omega), rt]
  simp only [Option.bind_some, Bool.and_self, if_true]
  rw [back_text hro hl]
  simp only [Option.bind_some]
  rw [value_Same_eq (by simp [maxLen]) (by simp only [maxLen]; omega), vSame_refl]
  simp only [Option.bind_some, Bool.not_true, Bool.false_eq_true, if_false]
  have hj : (if v.Char = true then (M.value_Right v).bind fun r10 => some r10 else some false) = some (v.Char && vRight v) := by
    cases hc : v.Char with
    | false => rfl
    | true => rw [if_pos rfl, value_Right_eq (by omega)]; rfl
  rw [hj]
  simp only [Option.bind_some]
  have hk : (if (v.Char && vRight v) = true then
        (M.value_String v).bind fun r11 =>
        (M.value_Text r11).bind fun r12 =>
        (M.value_Same (Val.mk r12.Char v.Shape r12.Data) v).bind fun r13 =>
        if (!r13) then
          some (Ctl.done (σ := Unit) false)
        else
          some (.next ())
      else
        some (.next ())) = some (.next ()) := by
    cases hc : v.Char && vRight v with
    | false => rfl
    | true =>
      rw [Bool.and_eq_true] at hc
      obtain ⟨_, h3, h4⟩ := vRight_iff.mp hc.2
      have h5 := right_data hc.2
      rw [if_pos rfl, value_String_eq (by omega), hc.1, hc.2]
      simp only [Option.bind_some, Bool.and_self, if_true]
      rw [back_text (h4 hc.1) h5]
      simp only [Option.bind_some]
      rw [value_Same_eq (by simp only [maxLen]; omega) (by simp only [maxLen]; omega)]
      have : vSame ⟨true, v.Shape, v.Data⟩ v = true := by rw [vSame_iff]; rw [← hc.1]
      rw [this]; rfl
  rw [hk]
  simp only [Option.bind_some, joinK_next]
  rw [value_Copy_eq (by omega) (by omega)]
  simp only [Option.bind_some]
  rw [value_Same_eq (by omega) (by omega), vSame_refl]
  simp only [Option.bind_some, Bool.not_true, Bool.false_eq_true, if_false]
  obtain ⟨m1, l1⟩ := grow_loop (f := M.anamnesislaw02_ValueBack_L1 v) (g := id) (l := v.Data) (fun k h m hml hmk => by
    obtain ⟨q1, q2⟩ := wf64 (w2 _ (List.getElem_mem h))
    have hk2 : k < m.length := by omega
    have hmk2 : m[k] = v.Data[k] := by rw [List.getElem?_eq_getElem hk2] at hmk; exact Option.some.inj hmk
    unfold M.anamnesislaw02_ValueBack_L1
    simp only [hml, show decide ((k : Int) < (v.Data.length : Int)) = true from decide_eq_true (by omega), if_true, idx_get hk2, idx_get h, Option.bind_some, hmk2]
    rw [upd_nat hk2]
    simp only [Option.bind_some]
    rw [idx_get (by simp; omega)]
    simp only [Option.bind_some, List.getElem_set_self]
    rw [if_neg (by simpa using wrap_ne q1 q2), w64_id (by omega) (by omega)]) (fun m hml => by
    unfold M.anamnesislaw02_ValueBack_L1
    simp [hml])
  rw [l1]
  simp only [Option.bind_some, joinK_next]
  obtain ⟨m2, l2⟩ := grow_loop (f := M.anamnesislaw02_ValueBack_L2 v) (g := fun _ => ()) (l := v.Shape) (fun k h m hml hmk => by
    obtain ⟨q1, q2⟩ := wf64 (w1 _ (List.getElem_mem h))
    have hk2 : k < m.length := by omega
    have hmk2 : m[k] = v.Shape[k] := by rw [List.getElem?_eq_getElem hk2] at hmk; exact Option.some.inj hmk
    unfold M.anamnesislaw02_ValueBack_L2
    simp only [hml, show decide ((k : Int) < (v.Shape.length : Int)) = true from decide_eq_true (by omega), if_true, idx_get hk2, idx_get h, Option.bind_some, hmk2]
    rw [upd_nat hk2]
    simp only [Option.bind_some]
    rw [idx_get (by simp; omega)]
    simp only [Option.bind_some, List.getElem_set_self]
    rw [if_neg (by simpa using wrap_ne q1 q2), w64_id (by omega) (by omega)]) (fun m hml => by
    unfold M.anamnesislaw02_ValueBack_L2
    simp [hml])
  rw [l2]
  rfl

end Go.Proofs.Ytpkfklfakegbjaa.valueBack
