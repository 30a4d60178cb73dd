/- ValueTells: what the code that the law reaches computes, as plain functions; and that the law comes to true. -/
import Derived.Test.YtpkfklfakegbjaaAmU
set_option linter.unusedVariables false
set_option linter.unusedSimpArgs false
set_option maxRecDepth 100000
open Go Go.Am
namespace Go.Proofs.Ytpkfklfakegbjaa.valueTells
noncomputable def M.anamnesisref02_Right_L2 (v1 : Val) (s : Int) : Option (Ctl (Int) (Ctl (Unit) (Bool))) :=
  match s with
  | i2 =>
    if ((decide (i2 < (v1.Data.length : Int))) && v1.Char) then
      (idx v1.Data i2).bind fun y4 =>
      if (((decide (y4 < 0)) || (decide (y4 > 1114111))) || ((decide (y4 ≥ 55296)) && (decide (y4 ≤ 57343)))) then
        some (.done (.done false))
      else
        some (.next (IntKind.i64.wrap (i2 + 1)))
    else
      some (.done (.next ()))
noncomputable def M.anamnesisref02_Right_L1 (v1 : Val) (s : Int × Int) : Option (Ctl (Int × Int) (Ctl (Int) (Bool))) :=
  match s with
  | (size1, i1) =>
    if (decide (i1 < (v1.Shape.length : Int))) then
      (idx v1.Shape i1).bind fun y1 =>
      (if (decide (y1 < 0)) then
      some true else
      (idx v1.Shape i1).bind fun y2 =>
      some (decide (y2 > 10000))).bind fun c2 =>
      if c2 then
        some (.done (.done false))
      else
        (idx v1.Shape i1).bind fun y3 =>
        some (.next ((IntKind.i64.wrap (size1 * y3)), (IntKind.i64.wrap (i1 + 1))))
    else
      some (.done (.next size1))
noncomputable def M.anamnesisref02_Right (v1 : Val) : Option (Bool) :=
  if (decide ((v1.Shape.length : Int) > 4)) then
    some false
  else
    (wloop (M.anamnesisref02_Right_L1 v1) (1, 0)).bind fun k => joinK k fun size1 =>
    (wloop (M.anamnesisref02_Right_L2 v1) 0).bind fun k => joinK k fun _ =>
    some ((size1 == (v1.Data.length : Int)) && (decide (size1 ≤ 10000)))
noncomputable def M.slices_IndexFunc__int64_L1 (s1 : (List Int)) (f1 : (Int → Option (Bool))) (s : Int) : Option (Ctl (Int) (Ctl (Unit) (Int))) :=
  match s with
  | t1 =>
    if (decide (t1 < (s1.length : Int))) then
      (idx s1 t1).bind fun y1 =>
      (f1 y1).bind fun r1 =>
      if r1 then
        some (.done (.done t1))
      else
        some (.next (IntKind.i64.wrap (t1 + 1)))
    else
      some (.done (.next ()))
noncomputable def M.slices_IndexFunc__int64 (s1 : (List Int)) (f1 : (Int → Option (Bool))) : Option (Int) :=
  (wloop (M.slices_IndexFunc__int64_L1 s1 f1) 0).bind fun k => joinK k fun _ =>
  some (-1)
noncomputable def M.slices_ContainsFunc__int64 (s1 : (List Int)) (f1 : (Int → Option (Bool))) : Option (Bool) :=
  (M.slices_IndexFunc__int64 s1 f1).bind fun r1 =>
  some (decide (r1 ≥ 0))
noncomputable def M.unicode_utf8_ValidRune (r1 : Int) : Option (Bool) :=
  if ((decide (0 ≤ r1)) && (decide (r1 < 55296))) then
    some true
  else
    if ((decide (57343 < r1)) && (decide (r1 ≤ 1114111))) then
      some true
    else
      some false
noncomputable def M.value_character (n1 : Int) : Option (Bool) :=
  (if ((decide (n1 ≥ 0)) && (decide (n1 ≤ 1114111))) then
  (M.unicode_utf8_ValidRune (IntKind.i32.wrap n1)).bind fun r1 =>
  some r1 else
  some false).bind fun c2 =>
  some c2
noncomputable def M.value_Right_1 (n1 : Int) : Option (Bool) :=
  (M.value_character n1).bind fun r1 =>
  some (!r1)
noncomputable def M.value_Right_L1 (v1 : Val) (s : Int × Int) : Option (Ctl (Int × Int) (Ctl (Int) (Bool))) :=
  match s with
  | (size1, t1) =>
    if (decide (t1 < (v1.Shape.length : Int))) then
      (idx v1.Shape t1).bind fun y1 =>
      if ((decide (y1 < 0)) || (decide (y1 > 10000))) then
        some (.done (.done false))
      else
        some (.next ((IntKind.i64.wrap (size1 * y1)), (IntKind.i64.wrap (t1 + 1))))
    else
      some (.done (.next size1))
noncomputable def M.value_Right (v1 : Val) : Option (Bool) :=
  if (decide ((v1.Shape.length : Int) > 4)) then
    some false
  else
    (wloop (M.value_Right_L1 v1) (1, 0)).bind fun k => joinK k fun size1 =>
    if ((decide (size1 > 10000)) || (size1 != (v1.Data.length : Int))) then
      some false
    else
      (if (!v1.Char) then
      some true else
      (M.slices_ContainsFunc__int64 v1.Data (fun x0 => M.value_Right_1 x0)).bind fun r1 =>
      some (!r1)).bind fun c4 =>
      some c4
noncomputable def M.slices_Equal__int_L1 (s1 : (List Int)) (s2 : (List Int)) (s : Int) : Option (Ctl (Int) (Ctl (Unit) (Bool))) :=
  match s with
  | t1 =>
    if (decide (t1 < (s1.length : Int))) then
      (idx s1 t1).bind fun y1 =>
      (idx s2 t1).bind fun y2 =>
      if (y1 != y2) then
        some (.done (.done false))
      else
        some (.next (IntKind.i64.wrap (t1 + 1)))
    else
      some (.done (.next ()))
noncomputable def M.slices_Equal__int (s1 : (List Int)) (s2 : (List Int)) : Option (Bool) :=
  if ((s1.length : Int) != (s2.length : Int)) then
    some false
  else
    (wloop (M.slices_Equal__int_L1 s1 s2) 0).bind fun k => joinK k fun _ =>
    some true
noncomputable def M.slices_Equal__int64_L1 (s1 : (List Int)) (s2 : (List Int)) (s : Int) : Option (Ctl (Int) (Ctl (Unit) (Bool))) :=
  match s with
  | t1 =>
    if (decide (t1 < (s1.length : Int))) then
      (idx s1 t1).bind fun y1 =>
      (idx s2 t1).bind fun y2 =>
      if (y1 != y2) then
        some (.done (.done false))
      else
        some (.next (IntKind.i64.wrap (t1 + 1)))
    else
      some (.done (.next ()))
noncomputable def M.slices_Equal__int64 (s1 : (List Int)) (s2 : (List Int)) : Option (Bool) :=
  if ((s1.length : Int) != (s2.length : Int)) then
    some false
  else
    (wloop (M.slices_Equal__int64_L1 s1 s2) 0).bind fun k => joinK k fun _ =>
    some true
noncomputable def M.value_Same (a1 : Val) (b1 : Val) : Option (Bool) :=
  (if (a1.Char == b1.Char) then
  (M.slices_Equal__int a1.Shape b1.Shape).bind fun r1 =>
  some r1 else
  some false).bind fun c1 =>
  (if c1 then
  (M.slices_Equal__int64 a1.Data b1.Data).bind fun r2 =>
  some r2 else
  some false).bind fun c2 =>
  some c2
noncomputable def M.anamnesisref02_Same_L2 (a1 : Val) (b1 : Val) (s : Int) : Option (Ctl (Int) (Ctl (Unit) (Bool))) :=
  match s with
  | i2 =>
    if (decide (i2 < (a1.Data.length : Int))) then
      (idx a1.Data i2).bind fun y3 =>
      (idx b1.Data i2).bind fun y4 =>
      if (y3 != y4) then
        some (.done (.done false))
      else
        some (.next (IntKind.i64.wrap (i2 + 1)))
    else
      some (.done (.next ()))
noncomputable def M.anamnesisref02_Same_L1 (a1 : Val) (b1 : Val) (s : Int) : Option (Ctl (Int) (Ctl (Unit) (Bool))) :=
  match s with
  | i1 =>
    if (decide (i1 < (a1.Shape.length : Int))) then
      (idx a1.Shape i1).bind fun y1 =>
      (idx b1.Shape i1).bind fun y2 =>
      if (y1 != y2) then
        some (.done (.done false))
      else
        some (.next (IntKind.i64.wrap (i1 + 1)))
    else
      some (.done (.next ()))
noncomputable def M.anamnesisref02_Same (a1 : Val) (b1 : Val) : Option (Bool) :=
  if (((!(a1.Char == b1.Char)) || ((a1.Shape.length : Int) != (b1.Shape.length : Int))) || ((a1.Data.length : Int) != (b1.Data.length : Int))) then
    some false
  else
    (wloop (M.anamnesisref02_Same_L1 a1 b1) 0).bind fun k => joinK k fun _ =>
    (wloop (M.anamnesisref02_Same_L2 a1 b1) 0).bind fun k => joinK k fun _ =>
    some true
noncomputable def M.anamnesisref02_put (c1 : Int) : Option ((List Int)) :=
  if (decide (c1 < 128)) then
    some ([(IntKind.u8.wrap c1)])
  else
    if (decide (c1 < 2048)) then
      some ([(IntKind.u8.wrap (IntKind.i64.wrap (192 + (IntKind.i64.wrap (Int.tdiv c1 64))))), (IntKind.u8.wrap (IntKind.i64.wrap (128 + (Int.tmod c1 64))))])
    else
      if (decide (c1 < 65536)) then
        some ([(IntKind.u8.wrap (IntKind.i64.wrap (224 + (IntKind.i64.wrap (Int.tdiv c1 4096))))), (IntKind.u8.wrap (IntKind.i64.wrap (128 + (Int.tmod (IntKind.i64.wrap (Int.tdiv c1 64)) 64)))), (IntKind.u8.wrap (IntKind.i64.wrap (128 + (Int.tmod c1 64))))])
      else
        some ([(IntKind.u8.wrap (IntKind.i64.wrap (240 + (IntKind.i64.wrap (Int.tdiv c1 262144))))), (IntKind.u8.wrap (IntKind.i64.wrap (128 + (Int.tmod (IntKind.i64.wrap (Int.tdiv c1 4096)) 64)))), (IntKind.u8.wrap (IntKind.i64.wrap (128 + (Int.tmod (IntKind.i64.wrap (Int.tdiv c1 64)) 64)))), (IntKind.u8.wrap (IntKind.i64.wrap (128 + (Int.tmod c1 64))))])
noncomputable def M.anamnesisref02_String_L1 (v1 : Val) (s : (List Int) × Int) : Option (Ctl ((List Int) × Int) (Ctl ((List Int)) (ByteArray))) :=
  match s with
  | (b2, i1) =>
    if (decide (i1 < (v1.Data.length : Int))) then
      (idx v1.Data i1).bind fun y1 =>
      (M.anamnesisref02_put y1).bind fun r1 =>
      (app 1 b2 r1).bind fun l1 =>
      some (.next (l1, (IntKind.i64.wrap (i1 + 1))))
    else
      some (.done (.next b2))
noncomputable def M.anamnesisref02_String (v1 : Val) : Option (ByteArray) :=
  (wloop (M.anamnesisref02_String_L1 v1) ([], 0)).bind fun k => joinK k fun b2 =>
  some (strOf b2)
noncomputable def M.value_One (v1 : Val) : Option (Int × Bool) :=
  if (v1.Char || ((v1.Data.length : Int) != 1)) then
    some (0, false)
  else
    (idx v1.Data 0).bind fun y1 =>
    some (y1, true)
noncomputable def M.unicode_utf8_appendRuneNonASCII (p1 : (List Int)) (r1 : Int) : Option ((List Int)) :=
  if (decide ((IntKind.u32.wrap r1) ≤ 2047)) then
    (app 1 p1 ([(IntKind.u8.wrap (BitVec.ofInt IntKind.u8.bits 192 ||| BitVec.ofInt IntKind.u8.bits (IntKind.u8.wrap (Int.fdiv r1 (2 ^ (min (Int.toNat 6) IntKind.i32.bits))))).toNat), (IntKind.u8.wrap (BitVec.ofInt IntKind.u8.bits 128 ||| BitVec.ofInt IntKind.u8.bits (IntKind.u8.wrap (BitVec.ofInt IntKind.u8.bits (IntKind.u8.wrap r1) &&& BitVec.ofInt IntKind.u8.bits 63).toNat)).toNat)])).bind fun l1 =>
    some l1
  else
    (if (decide ((IntKind.u32.wrap r1) < 55296)) then
      some (decide ((IntKind.u32.wrap r1) < 55296))
    else
      some ((decide (57343 < (IntKind.u32.wrap r1))) && (decide ((IntKind.u32.wrap r1) ≤ 65535)))).bind fun t1 =>
    if t1 then
      (app 1 p1 ([(IntKind.u8.wrap (BitVec.ofInt IntKind.u8.bits 224 ||| BitVec.ofInt IntKind.u8.bits (IntKind.u8.wrap (Int.fdiv r1 (2 ^ (min (Int.toNat 12) IntKind.i32.bits))))).toNat), (IntKind.u8.wrap (BitVec.ofInt IntKind.u8.bits 128 ||| BitVec.ofInt IntKind.u8.bits (IntKind.u8.wrap (BitVec.ofInt IntKind.u8.bits (IntKind.u8.wrap (Int.fdiv r1 (2 ^ (min (Int.toNat 6) IntKind.i32.bits)))) &&& BitVec.ofInt IntKind.u8.bits 63).toNat)).toNat), (IntKind.u8.wrap (BitVec.ofInt IntKind.u8.bits 128 ||| BitVec.ofInt IntKind.u8.bits (IntKind.u8.wrap (BitVec.ofInt IntKind.u8.bits (IntKind.u8.wrap r1) &&& BitVec.ofInt IntKind.u8.bits 63).toNat)).toNat)])).bind fun l2 =>
      some l2
    else
      if ((decide ((IntKind.u32.wrap r1) > 65535)) && (decide ((IntKind.u32.wrap r1) ≤ 1114111))) then
        (app 1 p1 ([(IntKind.u8.wrap (BitVec.ofInt IntKind.u8.bits 240 ||| BitVec.ofInt IntKind.u8.bits (IntKind.u8.wrap (Int.fdiv r1 (2 ^ (min (Int.toNat 18) IntKind.i32.bits))))).toNat), (IntKind.u8.wrap (BitVec.ofInt IntKind.u8.bits 128 ||| BitVec.ofInt IntKind.u8.bits (IntKind.u8.wrap (BitVec.ofInt IntKind.u8.bits (IntKind.u8.wrap (Int.fdiv r1 (2 ^ (min (Int.toNat 12) IntKind.i32.bits)))) &&& BitVec.ofInt IntKind.u8.bits 63).toNat)).toNat), (IntKind.u8.wrap (BitVec.ofInt IntKind.u8.bits 128 ||| BitVec.ofInt IntKind.u8.bits (IntKind.u8.wrap (BitVec.ofInt IntKind.u8.bits (IntKind.u8.wrap (Int.fdiv r1 (2 ^ (min (Int.toNat 6) IntKind.i32.bits)))) &&& BitVec.ofInt IntKind.u8.bits 63).toNat)).toNat), (IntKind.u8.wrap (BitVec.ofInt IntKind.u8.bits 128 ||| BitVec.ofInt IntKind.u8.bits (IntKind.u8.wrap (BitVec.ofInt IntKind.u8.bits (IntKind.u8.wrap r1) &&& BitVec.ofInt IntKind.u8.bits 63).toNat)).toNat)])).bind fun l3 =>
        some l3
      else
        (app 1 p1 ([239, 191, 189])).bind fun l4 =>
        some l4
noncomputable def M.unicode_utf8_AppendRune (p1 : (List Int)) (r1 : Int) : Option ((List Int)) :=
  if (decide ((IntKind.u32.wrap r1) ≤ 127)) then
    (app 1 p1 ([(IntKind.u8.wrap r1)])).bind fun l1 =>
    some l1
  else
    (M.unicode_utf8_appendRuneNonASCII p1 r1).bind fun r2 =>
    some r2
noncomputable def M.value_String_L1 (v1 : Val) (s : (List Int) × Int) : Option (Ctl ((List Int) × Int) (Ctl ((List Int)) (ByteArray))) :=
  match s with
  | (out1, t1) =>
    if (decide (t1 < (v1.Data.length : Int))) then
      (idx v1.Data t1).bind fun y1 =>
      (M.unicode_utf8_AppendRune out1 (IntKind.i32.wrap y1)).bind fun r2 =>
      some (.next (r2, (IntKind.i64.wrap (t1 + 1))))
    else
      some (.done (.next out1))
noncomputable def M.value_String (v1 : Val) : Option (ByteArray) :=
  (if (!v1.Char) then
  some true else
  (M.value_Right v1).bind fun r1 =>
  some (!r1)).bind fun c1 =>
  if c1 then
    some ByteArray.empty
  else
    (wloop (M.value_String_L1 v1) ([], 0)).bind fun k => joinK k fun out1 =>
    some (strOf out1)
noncomputable def M.value_Fill (v1 : Val) : Option (Int) :=
  if v1.Char then
    some 32
  else
    some 0
noncomputable def M.anamnesislaw02_ValueTells (a1 : Val) (b1 : Val) : Option (Bool) :=
  if ((((decide ((a1.Data.length : Int) > 10100)) || (decide ((b1.Data.length : Int) > 10100))) || (decide ((a1.Shape.length : Int) > 10))) || (decide ((b1.Shape.length : Int) > 10))) then
    some true
  else
    (M.anamnesisref02_Right a1).bind fun r1 =>
    (M.value_Right a1).bind fun r2 =>
    (if (!(r2 == r1)) then
    some true else
    (M.value_Same a1 b1).bind fun r3 =>
    (M.anamnesisref02_Same a1 b1).bind fun r4 =>
    some (!(r3 == r4))).bind fun c4 =>
    if c4 then
      some false
    else
      (if (a1.Char && r1) then
        (M.anamnesisref02_String a1).bind fun r5 =>
        some r5
      else
        some ByteArray.empty).bind fun s1 =>
      (M.value_One a1).bind fun (r6, r7) =>
      (if a1.Char then
        some 32
      else
        some 0).bind fun fill1 =>
      (M.value_String a1).bind fun r8 =>
      (if ((r8.toList == s1.toList) && (r7 == ((!a1.Char) && ((a1.Data.length : Int) == 1)))) then
      (if (!((!a1.Char) && ((a1.Data.length : Int) == 1))) then
      some true else
      (idx a1.Data 0).bind fun y1 =>
      some (r6 == y1)).bind fun c8 =>
      some c8 else
      some false).bind fun c8 =>
      (if (c8 && (((!a1.Char) && ((a1.Data.length : Int) == 1)) || (r6 == 0))) then
      (M.value_Fill a1).bind fun r9 =>
      some (r9 == fill1) else
      some false).bind fun c12 =>
      some (c12 && true)
theorem w64_id {x : Int} (h1 : -9223372036854775808 ≤ x) (h2 : x ≤ 9223372036854775807) : IntKind.i64.wrap x = x := wrap_id h1 h2
/-- A loop comes to an end in a state with Q: P holds ahead of each round, and its number falls. -/
theorem wloop_ind {σ β : Type} {f : σ → Option (Ctl σ β)} (P : Nat → σ → Prop) (Q : β → Prop)
    (h : ∀ n s, P n s → (∃ s' n', f s = some (.next s') ∧ n' < n ∧ P n' s') ∨ (∃ b, f s = some (.done b) ∧ Q b)) : ∀ n s, P n s → ∃ b, wloop f s = some b ∧ Q b := by
  intro n
  induction n using Nat.strongRecOn with
  | _ n ih =>
    intro s hp
    rcases h n s hp with ⟨s', n', hf, hn, hp'⟩ | ⟨b, hf, hq⟩
    · obtain ⟨b, hb, hq⟩ := ih n' hn s' hp'
      exact ⟨b, by rw [wloop_next hf]; exact hb, hq⟩
    · exact ⟨b, wloop_done hf, hq⟩
theorem idx_nat {α : Type} (l : List α) (k : Nat) : idx l (k : Int) = l[k]? := by
  unfold idx; rw [if_pos (by omega)]; rfl
theorem idx_get {α : Type} {l : List α} {k : Nat} (h : k < l.length) : idx l (k : Int) = some l[k] := by rw [idx_nat, List.getElem?_eq_getElem h]
theorem upd_nat {α : Type} {l : List α} {k : Nat} {x : α} (h : k < l.length) : upd l (k : Int) x = some (l.set k x) := by
  unfold upd; rw [if_pos ⟨by omega, by omega⟩]; rfl
theorem app_ok {α : Type} {b : Nat} {l m : List α} (h : (l.length + m.length) * b ≤ 140737488355328) : app b l m = some (l ++ m) := by
  unfold app; rw [if_pos (.inr h)]
theorem mk_ok {α : Type} {b : Nat} {z : α} {n : Nat} (h : b * n ≤ 140737488355328) (h' : n ≤ 140737488355328) : mk b z (n : Int) (n : Int) = some (List.replicate n z) := by
  unfold mk
  have : ((b : Int) * (n : Int)) ≤ 140737488355328 := by
    have h2 : ((b * n : Nat) : Int) ≤ 140737488355328 := by omega
    rwa [Int.natCast_mul] at h2
  rw [if_pos ⟨by omega, by omega, this, by omega⟩]; rfl
/-- the numbers that a kind has. -/
theorem wf64 {n : Int} (h : (Lit.int .i64 n).wf = true) : -9223372036854775808 ≤ n ∧ n ≤ 9223372036854775807 := by
  have h2 : (decide (IntKind.i64.min ≤ n) && decide (n ≤ IntKind.i64.max)) = true := h
  have e1 : IntKind.i64.min = -9223372036854775808 := by decide
  have e2 : IntKind.i64.max = 9223372036854775807 := by decide
  rw [e1, e2] at h2
  simpa using h2
theorem sub_drop {α : Type} {l : List α} {k : Nat} (h : k ≤ l.length) : sub l (k : Int) (l.length : Int) = some (l.drop k) := by
  unfold sub
  rw [if_pos ⟨by omega, by omega, by omega⟩]
  simp
theorem drop_cons {α : Type} {l : List α} {k : Nat} (h : k < l.length) : l.drop k = l[k] :: l.drop (k + 1) := List.drop_eq_getElem_cons h
theorem same_loop {f : Int → Option (Ctl Int (Ctl Unit Bool))} {a b : List Int} (hl : a.length = b.length) (hm : a.length ≤ maxLen)
    (hf : ∀ k : Nat, ∀ h : k < a.length, f k = if a[k] = b[k]'(hl ▸ h) then some (.next ((k : Int) + 1)) else some (.done (.done false))) (he : f a.length = some (.done (.next ()))) :
    wloop f 0 = some (if a = b then .next () else .done false) := by
  have key := wloop_ind (f := f) (fun n i => ∃ k : Nat, i = k ∧ k ≤ a.length ∧ n = a.length - k ∧ a.take k = b.take k)
    (fun c => (c = .done false ∧ a ≠ b) ∨ (c = .next () ∧ a = b)) (fun n i h => by
      obtain ⟨k, rfl, hk, rfl, hn⟩ := h
      by_cases hlt : k < a.length
      · rw [hf k hlt]
        by_cases he : a[k] = b[k]
        · rw [if_pos he]
          left
          refine ⟨_, a.length - (k + 1), rfl, by omega, k + 1, by omega, by omega, rfl, ?_⟩
          rw [List.take_succ_eq_append_getElem hlt, List.take_succ_eq_append_getElem (by omega), hn, he]
        · rw [if_neg he]
          right
          refine ⟨_, rfl, .inl ⟨rfl, fun h => he ?_⟩⟩
          subst h; rfl
      · have : k = a.length := by omega
        subst this
        right
        refine ⟨_, he, .inr ⟨rfl, ?_⟩⟩
        rw [List.take_length, hl, List.take_length] at hn
        exact hn) a.length 0 ⟨0, rfl, by omega, by omega, by simp⟩
  obtain ⟨c, hc, ⟨rfl, h⟩ | ⟨rfl, h⟩⟩ := key
  · rw [hc]; simp [h]
  · rw [hc]; simp [h]

theorem same_step {f : Int → Option (Ctl Int (Ctl Unit Bool))} {a b : List Int} (hl : a.length = b.length) (hm : a.length ≤ maxLen)
    (hf : ∀ k : Nat, ∀ h : k < a.length, f k = if a[k] = b[k]'(hl ▸ h) then some (.next ((k : Int) + 1)) else some (.done (.done false))) (he : f a.length = some (.done (.next ()))) :
    (wloop f 0).bind (fun k => joinK k fun _ => some true) = some (decide (a = b)) := by
  rw [same_loop hl hm hf he]
  by_cases h : a = b
  · rw [if_pos h, decide_eq_true h]; rfl
  · rw [if_neg h, decide_eq_false h]; rfl
theorem contains_int64 {s : List Int} {f : Int → Option Bool} {g : Int → Bool} (hf : ∀ x ∈ s, f x = some (g x)) (hl : s.length ≤ 9223372036854775807) : M.slices_ContainsFunc__int64 s f = some (s.any g) := by
  have key := wloop_ind (f := M.slices_IndexFunc__int64_L1 s f) (fun n i => ∃ k : Nat, i = k ∧ k ≤ s.length ∧ n = s.length - k ∧ (s.take k).any g = false)
    (fun b => (∃ i : Int, b = .done i ∧ 0 ≤ i ∧ s.any g = true) ∨ (b = .next () ∧ s.any g = false)) (fun n i h => by
      obtain ⟨k, rfl, hk, rfl, hn⟩ := h
      unfold M.slices_IndexFunc__int64_L1
      by_cases hlt : k < s.length
      · simp only [show decide ((k : Int) < (s.length : Int)) = true from by simp; exact hlt, if_true, idx_get hlt, Option.bind_some, hf _ (List.getElem_mem hlt)]
        cases hg : g s[k] with
        | true =>
          right
          refine ⟨_, rfl, .inl ⟨_, rfl, by omega, ?_⟩⟩
          rw [List.any_eq_true]
          exact ⟨_, List.getElem_mem hlt, hg⟩
        | false =>
          left
          refine ⟨_, s.length - (k + 1), rfl, by omega, k + 1, ?_, by omega, rfl, ?_⟩
          · rw [w64_id (by omega) (by omega)]; omega
          · rw [List.take_succ_eq_append_getElem hlt, List.any_append, hn]; simp [hg]
      · have : k = s.length := by omega
        subst this
        right
        simp only [show decide ((s.length : Int) < (s.length : Int)) = false from by simp, Bool.false_eq_true, if_false]
        exact ⟨_, rfl, .inr ⟨rfl, by simpa using hn⟩⟩) s.length 0 ⟨0, rfl, by omega, by omega, by simp⟩
  unfold M.slices_ContainsFunc__int64 M.slices_IndexFunc__int64
  obtain ⟨b, hb, ⟨i, rfl, h0, ha⟩ | ⟨rfl, ha⟩⟩ := key
  · rw [hb, ha]; simp [h0]
  · rw [hb, ha]; simp
def prod : List Int → Int
  | [] => 1
  | x :: s => x * prod s
def off : List Int → List Int → Int
  | x :: s, a :: at_ => a * prod s + off s at_
  | _, _ => 0
def dig : List Int → Int → List Int
  | [], _ => []
  | _ :: s, k => k / prod s :: dig s (k % prod s)
/-- is a place in a shape? -/
def inShape : List Int → List Int → Prop
  | [], [] => True
  | x :: s, a :: at_ => 0 ≤ a ∧ a < x ∧ inShape s at_
  | _, _ => False
instance : (s at_ : List Int) → Decidable (inShape s at_)
  | [], [] => isTrue trivial
  | x :: s, a :: at_ =>
    have := instDecidableInShape s at_
    by unfold inShape; exact inferInstance
  | [], _ :: _ => isFalse (fun h => h)
  | _ :: _, [] => isFalse (fun h => h)
theorem inShape.len : ∀ {s at_ : List Int}, inShape s at_ → at_.length = s.length
  | [], [], _ => rfl
  | x :: s, a :: at_, ⟨_, _, h⟩ => by simp [h.len]
  | [], _ :: _, h => h.elim
  | _ :: _, [], h => h.elim
theorem inShape.pos : ∀ {s at_ : List Int}, inShape s at_ → 0 < prod s
  | [], [], _ => by simp [prod]
  | x :: s, a :: at_, ⟨h0, h1, h⟩ => by
    have := h.pos
    exact Int.mul_pos (by omega) this
  | [], _ :: _, h => h.elim
  | _ :: _, [], h => h.elim
theorem off_range : ∀ {s at_ : List Int}, inShape s at_ → 0 ≤ off s at_ ∧ off s at_ < prod s
  | [], [], _ => by simp [prod, off]
  | x :: s, a :: at_, ⟨h0, h1, h⟩ => by
    have h2 := off_range h
    have h3 := h.pos
    have h4 : (a + 1) * prod s ≤ x * prod s := Int.mul_le_mul_of_nonneg_right (by omega) (by omega)
    have h5 : 0 ≤ a * prod s := Int.mul_nonneg h0 (by omega)
    rw [Int.add_mul] at h4
    simp only [prod, off]
    omega
  | [], _ :: _, h => h.elim
  | _ :: _, [], h => h.elim
theorem dig_off : ∀ {s at_ : List Int}, inShape s at_ → dig s (off s at_) = at_
  | [], [], _ => rfl
  | x :: s, a :: at_, ⟨h0, h1, h⟩ => by
    have h2 := off_range h
    have h3 := h.pos
    simp only [dig, off]
    rw [Int.add_comm, Int.mul_comm, Int.add_mul_ediv_left _ _ (by omega), Int.add_mul_emod_self_left, Int.emod_eq_of_lt h2.1 h2.2, dig_off h, Int.ediv_eq_zero_of_lt h2.1 h2.2]
    simp
  | [], _ :: _, h => h.elim
  | _ :: _, [], h => h.elim
def allPos (s : List Int) : Prop := ∀ x ∈ s, 0 < x
theorem allPos.pprod : ∀ {s : List Int}, allPos s → 0 < prod s
  | [], _ => by simp [prod]
  | x :: s, h => Int.mul_pos (h x List.mem_cons_self) (allPos.pprod fun y hy => h y (List.mem_cons_of_mem _ hy))
theorem allPos_of {s : List Int} (h : ∀ x ∈ s, 0 ≤ x) (hp : 0 < prod s) : allPos s := by
  intro x hx
  have h0 := h x hx
  rcases Int.lt_or_eq_of_le h0 with h1 | h1
  · exact h1
  · exfalso
    have : ∀ s : List Int, (0 : Int) ∈ s → prod s = 0 := by
      intro s
      induction s with
      | nil => intro h; simp at h
      | cons y s ih =>
        intro h
        rcases List.mem_cons.mp h with h | h
        · simp [prod, ← h]
        · simp [prod, ih h]
    rw [this s (h1 ▸ hx)] at hp
    omega
theorem dig_in : ∀ {s : List Int} {k : Int}, allPos s → 0 ≤ k → k < prod s → inShape s (dig s k)
  | [], k, _, h0, h1 => trivial
  | x :: s, k, h, h0, h1 => by
    have hs : allPos s := fun y hy => h y (List.mem_cons_of_mem _ hy)
    have hp := hs.pprod
    refine ⟨Int.ediv_nonneg h0 (by omega), ?_, dig_in hs (Int.emod_nonneg _ (by omega)) (Int.emod_lt_of_pos _ hp)⟩
    exact Int.ediv_lt_of_lt_mul hp h1
theorem off_dig : ∀ {s : List Int} {k : Int}, allPos s → 0 ≤ k → k < prod s → off s (dig s k) = k
  | [], k, _, h0, h1 => by simp [prod] at h1; simp [dig, off]; omega
  | x :: s, k, h, h0, h1 => by
    have hs : allPos s := fun y hy => h y (List.mem_cons_of_mem _ hy)
    have hp := hs.pprod
    simp only [dig, off]
    rw [off_dig hs (Int.emod_nonneg _ (by omega)) (Int.emod_lt_of_pos _ hp)]
    rw [Int.mul_comm]; exact Int.mul_ediv_add_emod k (prod s)
theorem dig_len : ∀ (s : List Int) (k : Int), (dig s k).length = s.length
  | [], _ => rfl
  | x :: s, k => by simp [dig, dig_len s]
theorem prod_nonneg : ∀ {s : List Int}, (∀ x ∈ s, 0 ≤ x) → 0 ≤ prod s
  | [], _ => by simp [prod]
  | x :: s, h => Int.mul_nonneg (h x List.mem_cons_self) (prod_nonneg fun y hy => h y (List.mem_cons_of_mem _ hy))
theorem prod_append : ∀ (s t : List Int), prod (s ++ t) = prod s * prod t
  | [], t => by simp [prod]
  | x :: s, t => by simp [prod, prod_append s t, Int.mul_assoc]

/-- the size of a shape, or the error. -/
def shSize (s : List Int) : Int × Int :=
  if 4 < s.length then (0, 24) else if s.any (fun x => decide (x < 0)) then (0, 1) else if s.any (fun x => decide (x > 10000)) || decide (prod s > 10000) then (0, 27) else (prod s, 0)
def shOk (s : List Int) : Prop := s.length ≤ 4 ∧ (∀ x ∈ s, 0 ≤ x ∧ x ≤ 10000) ∧ prod s ≤ 10000
instance (s : List Int) : Decidable (shOk s) := by unfold shOk; exact inferInstance
theorem shSize_ok {s : List Int} (h : shOk s) : shSize s = (prod s, 0) := by
  obtain ⟨h1, h2, h3⟩ := h
  unfold shSize
  rw [if_neg (by omega), if_neg, if_neg]
  · simp only [Bool.or_eq_true, List.any_eq_true, decide_eq_true_eq]
    rintro (⟨x, hx, h⟩ | h)
    · have := h2 x hx; omega
    · omega
  · simp only [List.any_eq_true, decide_eq_true_eq]
    rintro ⟨x, hx, h⟩
    have := h2 x hx; omega
theorem shSize_zero {s : List Int} : (shSize s).2 = 0 ↔ shOk s := by
  constructor
  · intro h
    unfold shSize at h
    split at h
    · cases h
    · rename_i h1
      split at h
      · cases h
      · rename_i h2
        split at h
        · cases h
        · rename_i h3
          simp only [List.any_eq_true, decide_eq_true_eq, not_exists, not_and] at h2
          simp only [Bool.or_eq_true, List.any_eq_true, decide_eq_true_eq, not_or, not_exists, not_and] at h3
          exact ⟨by omega, fun x hx => ⟨by have := h2 x hx; omega, by have := h3.1 x hx; omega⟩, by omega⟩
  · intro h; rw [shSize_ok h]
theorem shSize_cases (s : List Int) : (shOk s ∧ shSize s = (prod s, 0)) ∨ (¬ shOk s ∧ (shSize s).2 ≠ 0 ∧ (shSize s).1 = 0) := by
  by_cases h : shOk s
  · exact .inl ⟨h, shSize_ok h⟩
  · refine .inr ⟨h, fun hh => h (shSize_zero.mp hh), ?_⟩
    unfold shSize
    split
    · rfl
    · rename_i h1
      split
      · rfl
      · rename_i h2
        split
        · rfl
        · rename_i h3
          exfalso; apply h
          simp only [List.any_eq_true, decide_eq_true_eq, not_exists, not_and] at h2
          simp only [Bool.or_eq_true, List.any_eq_true, decide_eq_true_eq, not_or, not_exists, not_and] at h3
          exact ⟨by omega, fun x hx => ⟨by have := h2 x hx; omega, by have := h3.1 x hx; omega⟩, by omega⟩
theorem dig_bound {s : List Int} {k : Int} (hok : shOk s) (h0 : 0 ≤ k) (h1 : k < prod s) : ∀ x ∈ dig s k, 0 ≤ x ∧ x ≤ 10000 := by
  have hpos : allPos s := allPos_of (fun x hx => (hok.2.1 x hx).1) (by omega)
  have key : ∀ (s at_ : List Int), inShape s at_ → (∀ x ∈ s, 0 ≤ x ∧ x ≤ 10000) → ∀ x ∈ at_, 0 ≤ x ∧ x ≤ 10000 := by
    intro s
    induction s with
    | nil => intro at_ h _ x hx; cases at_ with | nil => simp at hx | cons _ _ => exact h.elim
    | cons y s ih =>
      intro at_ h hb x hx
      cases at_ with
      | nil => exact h.elim
      | cons a at_ =>
        obtain ⟨h1, h2, h3⟩ := h
        rcases List.mem_cons.mp hx with rfl | hx
        · have := hb y List.mem_cons_self; omega
        · exact ih at_ h3 (fun z hz => hb z (List.mem_cons_of_mem _ hz)) x hx
  exact key s _ (dig_in hpos h0 h1) hok.2.1
theorem dig_zero : ∀ {s : List Int}, allPos s → dig s 0 = List.replicate s.length 0
  | [], _ => rfl
  | x :: s, h => by
    have hs : allPos s := fun y hy => h y (List.mem_cons_of_mem _ hy)
    simp only [dig, Int.zero_ediv, Int.zero_emod, dig_zero hs]; rfl

theorem one_le_pow : ∀ k : Nat, (1 : Int) ≤ 10000 ^ k
  | 0 => by simp
  | k + 1 => by rw [Int.pow_succ]; have := one_le_pow k; omega
theorem prod_bound : ∀ (s : List Int) (k : Nat), s.length ≤ k → (∀ x ∈ s, 0 ≤ x ∧ x ≤ 10000) → 0 ≤ prod s ∧ prod s ≤ 10000 ^ k
  | [], k, _, _ => ⟨by simp [prod], one_le_pow k⟩
  | x :: s, k + 1, hl, h => by
    have h1 := h x List.mem_cons_self
    have h2 := prod_bound s k (by simpa using hl) (fun y hy => h y (List.mem_cons_of_mem _ hy))
    refine ⟨Int.mul_nonneg h1.1 h2.1, ?_⟩
    simp only [prod]
    have h3 : x * prod s ≤ 10000 * prod s := Int.mul_le_mul_of_nonneg_right h1.2 h2.1
    have h4 : (10000 : Int) ^ (k + 1) = 10000 ^ k * 10000 := Int.pow_succ _ _
    omega
  | x :: s, 0, hl, h => by simp at hl

/-- is a number a character? -/
def chOk (c : Int) : Bool := decide (0 ≤ c ∧ c ≤ 1114111) && !decide (55296 ≤ c ∧ c ≤ 57343)
/-- may an array be? -/
def vRight (v : Val) : Bool := decide (shOk v.Shape) && decide (prod v.Shape = v.Data.length) && (!v.Char || v.Data.all chOk)
def vSame (a b : Val) : Bool := (a.Char == b.Char) && decide (a.Shape = b.Shape) && decide (a.Data = b.Data)
theorem vSame_iff {a b : Val} : vSame a b = true ↔ a = b := by
  obtain ⟨c, s, d⟩ := a
  obtain ⟨c', s', d'⟩ := b
  simp only [vSame, Bool.and_eq_true, beq_iff_eq, decide_eq_true_eq, Val.mk.injEq]
  constructor
  · rintro ⟨⟨h1, h2⟩, h3⟩; exact ⟨h1, h2, h3⟩
  · rintro ⟨h1, h2, h3⟩; exact ⟨⟨h1, h2⟩, h3⟩
theorem vSame_refl (a : Val) : vSame a a = true := vSame_iff.mpr rfl
theorem vSame_eq (a b : Val) : vSame a b = true ∧ a = b ∨ vSame a b = false ∧ a ≠ b := by
  cases h : vSame a b with
  | true => exact .inl ⟨rfl, vSame_iff.mp h⟩
  | false => exact .inr ⟨rfl, fun hh => by rw [vSame_iff.mpr hh] at h; cases h⟩
theorem vRight_iff {v : Val} : vRight v = true ↔ shOk v.Shape ∧ prod v.Shape = v.Data.length ∧ (v.Char = true → ∀ c ∈ v.Data, chOk c = true) := by
  simp only [vRight, Bool.and_eq_true, decide_eq_true_eq, Bool.or_eq_true, Bool.not_eq_true', List.all_eq_true]
  constructor
  · rintro ⟨⟨h1, h2⟩, h3⟩
    refine ⟨h1, h2, fun h => ?_⟩
    rcases h3 with h3 | h3
    · rw [h3] at h; cases h
    · exact h3
  · rintro ⟨h1, h2, h3⟩
    refine ⟨⟨h1, h2⟩, ?_⟩
    cases h : v.Char with
    | true => exact .inr (h3 h)
    | false => exact .inl rfl

theorem right_loop {f : Int × Int → Option (Ctl (Int × Int) (Ctl Int Bool))} {s : List Int} (h4 : s.length ≤ 4)
    (hf : ∀ k : Nat, ∀ h : k < s.length, ∀ z, f (z, (k : Int)) = if s[k] < 0 ∨ s[k] > 10000 then some (.done (.done false)) else some (.next (IntKind.i64.wrap (z * s[k]), (k : Int) + 1)))
    (he : ∀ z, f (z, (s.length : Int)) = some (.done (.next z))) :
    ((∀ x ∈ s, 0 ≤ x ∧ x ≤ 10000) ∧ wloop f (1, 0) = some (.next (prod s))) ∨ (¬ (∀ x ∈ s, 0 ≤ x ∧ x ≤ 10000) ∧ wloop f (1, 0) = some (.done false)) := by
  have key := wloop_ind (f := f) (fun n st => ∃ k : Nat, n = s.length - k ∧ k ≤ s.length ∧ st = (prod (s.take k), (k : Int)) ∧ ∀ x ∈ s.take k, 0 ≤ x ∧ x ≤ 10000)
    (fun b => (b = .next (prod s) ∧ ∀ x ∈ s, 0 ≤ x ∧ x ≤ 10000) ∨ (b = .done false ∧ ¬ ∀ x ∈ s, 0 ≤ x ∧ x ≤ 10000)) (fun n st h => by
      obtain ⟨k, rfl, hk, rfl, hall⟩ := h
      by_cases hlt : k < s.length
      · rw [hf k hlt]
        by_cases hb : s[k] < 0 ∨ s[k] > 10000
        · rw [if_pos hb]
          right
          refine ⟨_, rfl, .inr ⟨rfl, fun hh => ?_⟩⟩
          have := hh _ (List.getElem_mem hlt); omega
        · rw [if_neg hb]
          left
          have e := List.take_succ_eq_append_getElem hlt
          have hall2 : ∀ x ∈ s.take (k + 1), 0 ≤ x ∧ x ≤ 10000 := by
            intro x hx
            rw [e] at hx
            rcases List.mem_append.mp hx with hx | hx
            · exact hall x hx
            · rw [List.mem_singleton.mp hx]; omega
          have hp := prod_bound (s.take (k + 1)) 4 (by rw [List.length_take]; omega) hall2
          have e2 : prod (s.take (k + 1)) = prod (s.take k) * s[k] := by rw [e, prod_append]; simp [prod]
          refine ⟨_, s.length - (k + 1), rfl, by omega, k + 1, rfl, by omega, ?_, hall2⟩
          rw [← e2, w64_id (by omega) (by omega)]; simp
      · have : k = s.length := by omega
        subst this
        rw [he]
        rw [List.take_length] at hall ⊢
        exact .inr ⟨_, rfl, .inl ⟨rfl, hall⟩⟩)
    s.length (1, 0) ⟨0, by omega, by omega, by simp [prod], by simp⟩
  obtain ⟨b, hb, ⟨rfl, h⟩ | ⟨rfl, h⟩⟩ := key
  · exact .inl ⟨h, hb⟩
  · exact .inr ⟨h, hb⟩
theorem all_loop {f : Int → Option (Ctl Int (Ctl Unit Bool))} {l : List Int} {p : Int → Bool}
    (hf : ∀ k : Nat, ∀ h : k < l.length, f k = if p l[k] = true then some (.next ((k : Int) + 1)) else some (.done (.done false))) (he : f l.length = some (.done (.next ()))) :
    wloop f 0 = some (if l.all p = true then .next () else .done false) := by
  have key := wloop_ind (f := f) (fun n i => ∃ k : Nat, i = k ∧ k ≤ l.length ∧ n = l.length - k ∧ (l.take k).all p = true)
    (fun c => (c = .done false ∧ l.all p = false) ∨ (c = .next () ∧ l.all p = true)) (fun n i h => by
      obtain ⟨k, rfl, hk, rfl, hn⟩ := h
      by_cases hlt : k < l.length
      · rw [hf k hlt]
        by_cases hp : p l[k] = true
        · rw [if_pos hp]
          left
          refine ⟨_, l.length - (k + 1), rfl, by omega, k + 1, by omega, by omega, rfl, ?_⟩
          rw [List.take_succ_eq_append_getElem hlt, List.all_append, hn]; simp [hp]
        · rw [if_neg hp]
          right
          refine ⟨_, rfl, .inl ⟨rfl, ?_⟩⟩
          rw [List.all_eq_false]
          exact ⟨_, List.getElem_mem hlt, hp⟩
      · have : k = l.length := by omega
        subst this
        right
        rw [List.take_length] at hn
        exact ⟨_, he, .inr ⟨rfl, hn⟩⟩) l.length 0 ⟨0, rfl, by omega, by omega, by simp⟩
  obtain ⟨c, hc, ⟨rfl, h⟩ | ⟨rfl, h⟩⟩ := key
  · rw [hc, h]; simp
  · rw [hc, h]; simp
theorem w32_id {x : Int} (h1 : 0 ≤ x) (h2 : x ≤ 1114111) : IntKind.i32.wrap x = x := by
  have e : IntKind.i32.wrap x = if x % 4294967296 ≥ 2147483648 then x % 4294967296 - 4294967296 else x % 4294967296 := by
    simp [IntKind.wrap, IntKind.bits, IntKind.signed]
  rw [e]
  split <;> omega
theorem character_eq (c : Int) : M.value_character c = some (chOk c) := by
  unfold M.value_character chOk
  by_cases h : 0 ≤ c ∧ c ≤ 1114111
  · have e : (decide (c ≥ 0) && decide (c ≤ 1114111)) = true := by simp; omega
    simp only [e, if_true, h, and_self, decide_true, Bool.true_and]
    rw [w32_id h.1 h.2]
    unfold M.unicode_utf8_ValidRune
    by_cases h1 : c < 55296
    · have e1 : (decide (0 ≤ c) && decide (c < 55296)) = true := by simp; omega
      have e2 : decide (55296 ≤ c ∧ c ≤ 57343) = false := decide_eq_false (by omega)
      simp only [e1, e2, if_true, Option.bind_some, Bool.not_false]
    · have e1 : (decide (0 ≤ c) && decide (c < 55296)) = false := by simp; omega
      simp only [e1, Bool.false_eq_true, if_false]
      by_cases h2 : 57343 < c
      · have e3 : (decide (57343 < c) && decide (c ≤ 1114111)) = true := by simp; omega
        have e2 : decide (55296 ≤ c ∧ c ≤ 57343) = false := decide_eq_false (by omega)
        simp only [e3, e2, if_true, Option.bind_some, Bool.not_false]
      · have e3 : (decide (57343 < c) && decide (c ≤ 1114111)) = false := by simp; omega
        have e2 : decide (55296 ≤ c ∧ c ≤ 57343) = true := decide_eq_true (by omega)
        simp only [e3, e2, Bool.false_eq_true, if_false, Option.bind_some, Bool.not_true]
  · have e : (decide (c ≥ 0) && decide (c ≤ 1114111)) = false := by simp; omega
    simp only [e, Bool.false_eq_true, if_false, h, decide_false, Bool.false_and, Option.bind_some]
theorem value_Right_eq {v : Val} (hd : v.Data.length ≤ 9223372036854775807) : M.value_Right v = some (vRight v) := by
  unfold M.value_Right
  by_cases h4 : 4 < v.Shape.length
  · rw [if_pos (by simp; omega)]
    have : vRight v = false := by
      cases h : vRight v with
      | false => rfl
      | true => have := (vRight_iff.mp h).1.1; omega
    rw [this]
  · rw [if_neg (by simp; omega)]
    have hloop := right_loop (f := M.value_Right_L1 v) (s := v.Shape) (by omega) (fun k h z => by
      unfold M.value_Right_L1
      simp only [show decide ((k : Int) < (v.Shape.length : Int)) = true from decide_eq_true (by omega), if_true, idx_get h, Option.bind_some]
      by_cases hb : v.Shape[k] < 0 ∨ v.Shape[k] > 10000
      · rw [if_pos hb, if_pos (by simpa using hb)]
      · rw [if_neg hb, if_neg (by simpa using hb), w64_id (x := (k : Int) + 1) (by omega) (by omega)]) (fun z => by unfold M.value_Right_L1; simp)
    rcases hloop with ⟨hall, hw⟩ | ⟨hall, hw⟩
    · rw [hw]
      simp only [Option.bind_some, joinK_next]
      have hp0 : 0 ≤ prod v.Shape := prod_nonneg fun x hx => (hall x hx).1
      by_cases hsz : prod v.Shape ≤ 10000 ∧ prod v.Shape = v.Data.length
      · have e : (decide (prod v.Shape > 10000) || (prod v.Shape != (v.Data.length : Int))) = false := by simp; omega
        simp only [e, Bool.false_eq_true, if_false]
        have hok : shOk v.Shape := ⟨by omega, hall, hsz.1⟩
        have hv : vRight v = (!v.Char || v.Data.all chOk) := by unfold vRight; simp [hok, hsz.2]
        rw [hv]
        cases hc : v.Char with
        | false => simp
        | true =>
          simp only [Bool.not_true, Bool.false_eq_true, if_false, Bool.false_or]
          rw [contains_int64 (s := v.Data) (f := fun x0 => M.value_Right_1 x0) (g := fun x => !chOk x) (fun x _ => by unfold M.value_Right_1; rw [character_eq]; rfl) hd]
          simp only [Option.bind_some]
          congr 1
          rw [List.not_any_eq_all_not]; simp
      · have e : (decide (prod v.Shape > 10000) || (prod v.Shape != (v.Data.length : Int))) = true := by
          simp; omega
        simp only [e, if_true]
        have : vRight v = false := by
          cases h : vRight v with
          | false => rfl
          | true => have := vRight_iff.mp h; exact absurd ⟨this.1.2.2, this.2.1⟩ hsz
        rw [this]
    · rw [hw]
      have : vRight v = false := by
        cases h : vRight v with
        | false => rfl
        | true => exact absurd (vRight_iff.mp h).1.2.1 hall
      rw [this]; rfl
theorem ref02_Right_eq {v : Val} (hd : v.Data.length ≤ 9223372036854775807) : M.anamnesisref02_Right v = some (vRight v) := by
  unfold M.anamnesisref02_Right
  by_cases h4 : 4 < v.Shape.length
  · rw [if_pos (by simp; omega)]
    have : vRight v = false := by
      cases h : vRight v with
      | false => rfl
      | true => have := (vRight_iff.mp h).1.1; omega
    rw [this]
  · rw [if_neg (by simp; omega)]
    have hloop := right_loop (f := M.anamnesisref02_Right_L1 v) (s := v.Shape) (by omega) (fun k h z => by
      unfold M.anamnesisref02_Right_L1
      simp only [show decide ((k : Int) < (v.Shape.length : Int)) = true from decide_eq_true (by omega), if_true, idx_get h, Option.bind_some]
      by_cases h0 : v.Shape[k] < 0
      · simp only [show decide (v.Shape[k] < 0) = true from decide_eq_true h0, if_true, Option.bind_some]
        rw [if_pos (.inl h0)]
      · simp only [show decide (v.Shape[k] < 0) = false from decide_eq_false h0, Bool.false_eq_true, if_false, Option.bind_some]
        by_cases h1 : v.Shape[k] > 10000
        · rw [if_pos (by simpa using h1), if_pos (.inr h1)]
        · rw [if_neg (by simpa using h1), if_neg (by omega), w64_id (x := (k : Int) + 1) (by omega) (by omega)]) (fun z => by unfold M.anamnesisref02_Right_L1; simp)
    have hchars : wloop (M.anamnesisref02_Right_L2 v) 0 = some (if (!v.Char || v.Data.all chOk) = true then .next () else .done false) := by
      cases hc : v.Char with
      | false =>
        simp only [Bool.not_false, Bool.true_or, if_true]
        exact wloop_done (by unfold M.anamnesisref02_Right_L2; simp [hc])
      | true =>
        simp only [Bool.not_true, Bool.false_or]
        refine all_loop (fun k h => ?_) ?_
        · unfold M.anamnesisref02_Right_L2
          simp only [hc, Bool.and_true, show decide ((k : Int) < (v.Data.length : Int)) = true from decide_eq_true (by omega), if_true, idx_get h, Option.bind_some]
          by_cases hok : chOk v.Data[k] = true
          · have e : ((decide (v.Data[k] < 0) || decide (v.Data[k] > 1114111)) || (decide (v.Data[k] ≥ 55296) && decide (v.Data[k] ≤ 57343))) = false := by
              unfold chOk at hok
              simp at hok ⊢; omega
            rw [e, if_neg (by simp), if_pos hok, w64_id (by omega) (by omega)]
          · have e : ((decide (v.Data[k] < 0) || decide (v.Data[k] > 1114111)) || (decide (v.Data[k] ≥ 55296) && decide (v.Data[k] ≤ 57343))) = true := by
              unfold chOk at hok
              simp at hok ⊢; omega
            rw [e, if_pos rfl, if_neg hok]
        · unfold M.anamnesisref02_Right_L2; simp
    rcases hloop with ⟨hall, hw⟩ | ⟨hall, hw⟩
    · rw [hw, hchars]
      simp only [Option.bind_some, joinK_next]
      have hok : ∀ b : Bool, (decide (shOk v.Shape) && decide (prod v.Shape = v.Data.length) && b) = ((prod v.Shape == (v.Data.length : Int)) && decide (prod v.Shape ≤ 10000) && b) := by
        intro b
        have : decide (shOk v.Shape) = decide (prod v.Shape ≤ 10000) := by
          by_cases h : prod v.Shape ≤ 10000
          · rw [decide_eq_true h, decide_eq_true (show shOk v.Shape from ⟨by omega, hall, h⟩)]
          · rw [decide_eq_false h, decide_eq_false (fun hh : shOk v.Shape => h hh.2.2)]
        rw [this]
        have e2 : (prod v.Shape == (v.Data.length : Int)) = decide (prod v.Shape = v.Data.length) := rfl
        rw [e2]
        cases decide (prod v.Shape ≤ 10000) <;> cases decide (prod v.Shape = (v.Data.length : Int)) <;> rfl
      unfold vRight
      rw [hok]
      cases hcb : (!v.Char || v.Data.all chOk) with
      | true => simp
      | false => simp
    · rw [hw]
      have : vRight v = false := by
        cases h : vRight v with
        | false => rfl
        | true => exact absurd (vRight_iff.mp h).1.2.1 hall
      rw [this]; rfl
theorem ref02_Same_eq {a b : Val} (hs : a.Shape.length ≤ maxLen) (hd : a.Data.length ≤ maxLen) : M.anamnesisref02_Same a b = some (vSame a b) := by
  have hm : maxLen = 9223372036854775807 := rfl
  unfold M.anamnesisref02_Same
  by_cases hl : (a.Char = b.Char ∧ a.Shape.length = b.Shape.length) ∧ a.Data.length = b.Data.length
  · obtain ⟨⟨h1, h2⟩, h3⟩ := hl
    rw [if_neg (by simp [h1, h2, h3])]
    have l1 := same_loop (f := M.anamnesisref02_Same_L1 a b) h2 hs (fun k h => by
      unfold M.anamnesisref02_Same_L1
      simp only [show decide ((k : Int) < (a.Shape.length : Int)) = true from decide_eq_true (by omega), if_true, idx_get h, idx_get (show k < b.Shape.length by omega), Option.bind_some]
      by_cases he : a.Shape[k] = b.Shape[k]
      · rw [if_pos he, if_neg (by simp [he]), w64_id (by omega) (by omega)]
      · rw [if_neg he, if_pos (by simp [he])]) (by unfold M.anamnesisref02_Same_L1; simp)
    have l2 := same_loop (f := M.anamnesisref02_Same_L2 a b) h3 hd (fun k h => by
      unfold M.anamnesisref02_Same_L2
      simp only [show decide ((k : Int) < (a.Data.length : Int)) = true from decide_eq_true (by omega), if_true, idx_get h, idx_get (show k < b.Data.length by omega), Option.bind_some]
      by_cases he : a.Data[k] = b.Data[k]
      · rw [if_pos he, if_neg (by simp [he]), w64_id (by omega) (by omega)]
      · rw [if_neg he, if_pos (by simp [he])]) (by unfold M.anamnesisref02_Same_L2; simp)
    rw [l1, l2]
    unfold vSame
    simp only [h1, BEq.rfl, Bool.true_and]
    by_cases he : a.Shape = b.Shape
    · rw [if_pos he, decide_eq_true he]
      by_cases hd : a.Data = b.Data
      · rw [if_pos hd, decide_eq_true hd]; rfl
      · rw [if_neg hd, decide_eq_false hd]; rfl
    · rw [if_neg he, decide_eq_false he]; rfl
  · have e : ((!(a.Char == b.Char) || ((a.Shape.length : Int) != (b.Shape.length : Int))) || ((a.Data.length : Int) != (b.Data.length : Int))) = true := by
      cases hq : ((!(a.Char == b.Char) || ((a.Shape.length : Int) != (b.Shape.length : Int))) || ((a.Data.length : Int) != (b.Data.length : Int))) with
      | true => rfl
      | false =>
        exfalso; apply hl
        simp only [Bool.or_eq_false_iff, Bool.not_eq_false', beq_iff_eq, bne_eq_false_iff_eq] at hq
        obtain ⟨⟨q1, q2⟩, q3⟩ := hq
        exact ⟨⟨q1, by omega⟩, by omega⟩
    rw [if_pos e]
    have : vSame a b = false := by
      cases hq : vSame a b with
      | false => rfl
      | true => have := vSame_iff.mp hq; subst this; simp at hl
    rw [this]
theorem Equal_int_eq {a b : List Int} (ha : a.length ≤ maxLen) : M.slices_Equal__int a b = some (decide (a = b)) := by
  have hm : maxLen = 9223372036854775807 := rfl
  unfold M.slices_Equal__int
  by_cases hl : a.length = b.length
  · rw [if_neg (by simp [hl])]
    refine same_step hl ha (fun k h => ?_) ?_
    · unfold M.slices_Equal__int_L1
      simp only [show decide ((k : Int) < (a.length : Int)) = true from by simp; exact h, if_true, idx_get h, idx_get (hl ▸ h : k < b.length), Option.bind_some]
      by_cases he : a[k] = b[k]'(hl ▸ h)
      · rw [if_pos he, if_neg (by simp [he]), w64_id (by omega) (by omega)]
      · rw [if_neg he, if_pos (by simp [he])]
    · unfold M.slices_Equal__int_L1; simp
  · rw [if_pos (by simp; omega)]
    have : a ≠ b := fun h => hl (by rw [h])
    simp [this]
theorem Equal_int64_eq {a b : List Int} (ha : a.length ≤ maxLen) : M.slices_Equal__int64 a b = some (decide (a = b)) := by
  have hm : maxLen = 9223372036854775807 := rfl
  unfold M.slices_Equal__int64
  by_cases hl : a.length = b.length
  · rw [if_neg (by simp [hl])]
    refine same_step hl ha (fun k h => ?_) ?_
    · unfold M.slices_Equal__int64_L1
      simp only [show decide ((k : Int) < (a.length : Int)) = true from by simp; exact h, if_true, idx_get h, idx_get (hl ▸ h : k < b.length), Option.bind_some]
      by_cases he : a[k] = b[k]'(hl ▸ h)
      · rw [if_pos he, if_neg (by simp [he]), w64_id (by omega) (by omega)]
      · rw [if_neg he, if_pos (by simp [he])]
    · unfold M.slices_Equal__int64_L1; simp
  · rw [if_pos (by simp; omega)]
    have : a ≠ b := fun h => hl (by rw [h])
    simp [this]
theorem value_Same_eq {a b : Val} (hs : a.Shape.length ≤ maxLen) (hd : a.Data.length ≤ maxLen) : M.value_Same a b = some (vSame a b) := by
  unfold M.value_Same
  rw [Equal_int_eq hs, Equal_int64_eq hd]
  unfold vSame
  cases (a.Char == b.Char) <;> cases decide (a.Shape = b.Shape) <;> cases decide (a.Data = b.Data) <;> rfl
/-- a character's bytes. -/
def enc (c : Int) : List Int :=
  if c < 128 then [c] else if c < 2048 then [192 + c / 64, 128 + c % 64] else if c < 65536 then [224 + c / 4096, 128 + c / 64 % 64, 128 + c % 64]
  else [240 + c / 262144, 128 + c / 4096 % 64, 128 + c / 64 % 64, 128 + c % 64]
theorem enc_len (c : Int) : (enc c).length ≤ 4 := by
  unfold enc
  split
  · simp
  · split
    · simp
    · split <;> simp
theorem u8_mod (x : Int) : IntKind.u8.wrap x = x % 256 := by simp [IntKind.wrap, IntKind.bits, IntKind.signed]
theorem u8_id {x : Int} (h1 : 0 ≤ x) (h2 : x ≤ 255) : IntKind.u8.wrap x = x := by rw [u8_mod]; omega
theorem u32_id {x : Int} (h1 : 0 ≤ x) (h2 : x ≤ 1114111) : IntKind.u32.wrap x = x := by
  have : IntKind.u32.wrap x = x % 4294967296 := by simp [IntKind.wrap, IntKind.bits, IntKind.signed]
  rw [this]; omega
theorem or_fin (b : Int) (n : Nat) (h : ∀ k : Fin n, IntKind.u8.wrap (BitVec.ofInt IntKind.u8.bits b ||| BitVec.ofInt IntKind.u8.bits (k.val : Int)).toNat = b + k.val) {x : Int} (h1 : 0 ≤ x) (h2 : x < n) :
    IntKind.u8.wrap (BitVec.ofInt IntKind.u8.bits b ||| BitVec.ofInt IntKind.u8.bits x).toNat = b + x := by
  have := h ⟨x.toNat, by omega⟩
  simpa [Int.toNat_of_nonneg h1] using this
theorem or192 {x : Int} (h1 : 0 ≤ x) (h2 : x < (32 : Nat)) : IntKind.u8.wrap (BitVec.ofInt IntKind.u8.bits 192 ||| BitVec.ofInt IntKind.u8.bits x).toNat = 192 + x := or_fin 192 32 (by decide) h1 h2
theorem or224 {x : Int} (h1 : 0 ≤ x) (h2 : x < (16 : Nat)) : IntKind.u8.wrap (BitVec.ofInt IntKind.u8.bits 224 ||| BitVec.ofInt IntKind.u8.bits x).toNat = 224 + x := or_fin 224 16 (by decide) h1 h2
theorem or240 {x : Int} (h1 : 0 ≤ x) (h2 : x < (8 : Nat)) : IntKind.u8.wrap (BitVec.ofInt IntKind.u8.bits 240 ||| BitVec.ofInt IntKind.u8.bits x).toNat = 240 + x := or_fin 240 8 (by decide) h1 h2
theorem or128 {x : Int} (h1 : 0 ≤ x) (h2 : x < (64 : Nat)) : IntKind.u8.wrap (BitVec.ofInt IntKind.u8.bits 128 ||| BitVec.ofInt IntKind.u8.bits x).toNat = 128 + x := or_fin 128 64 (by decide) h1 h2
theorem and63 (x : Int) : IntKind.u8.wrap (BitVec.ofInt IntKind.u8.bits (IntKind.u8.wrap x) &&& BitVec.ofInt IntKind.u8.bits 63).toNat = x % 64 := by
  have key : ∀ k : Fin 256, IntKind.u8.wrap (BitVec.ofInt IntKind.u8.bits (k.val : Int) &&& BitVec.ofInt IntKind.u8.bits 63).toNat = (k.val : Int) % 64 := by decide
  rw [u8_mod x]
  have := key ⟨(x % 256).toNat, by omega⟩
  have e : (((x % 256).toNat : Nat) : Int) = x % 256 := Int.toNat_of_nonneg (by omega)
  simp only [e] at this
  rw [this]; omega
theorem cont (x : Int) : IntKind.u8.wrap (BitVec.ofInt IntKind.u8.bits 128 ||| BitVec.ofInt IntKind.u8.bits (IntKind.u8.wrap (BitVec.ofInt IntKind.u8.bits (IntKind.u8.wrap x) &&& BitVec.ofInt IntKind.u8.bits 63).toNat)).toNat = 128 + x % 64 := by
  rw [and63, or128 (by omega) (by omega)]
theorem sh6 (c : Int) (h : 0 ≤ c) : Int.fdiv c (2 ^ (min (Int.toNat 6) IntKind.i32.bits)) = c / 64 := by
  rw [show (2 : Int) ^ (min (Int.toNat 6) IntKind.i32.bits) = 64 from rfl, Int.fdiv_eq_ediv_of_nonneg _ (by omega)]
theorem sh12 (c : Int) (h : 0 ≤ c) : Int.fdiv c (2 ^ (min (Int.toNat 12) IntKind.i32.bits)) = c / 4096 := by
  rw [show (2 : Int) ^ (min (Int.toNat 12) IntKind.i32.bits) = 4096 from rfl, Int.fdiv_eq_ediv_of_nonneg _ (by omega)]
theorem sh18 (c : Int) (h : 0 ≤ c) : Int.fdiv c (2 ^ (min (Int.toNat 18) IntKind.i32.bits)) = c / 262144 := by
  rw [show (2 : Int) ^ (min (Int.toNat 18) IntKind.i32.bits) = 262144 from rfl, Int.fdiv_eq_ediv_of_nonneg _ (by omega)]
theorem chOk_iff {c : Int} : chOk c = true ↔ (0 ≤ c ∧ c ≤ 1114111) ∧ ¬ (55296 ≤ c ∧ c ≤ 57343) := by
  unfold chOk; simp; omega
theorem AppendRune_eq {p : List Int} {c : Int} (h : chOk c = true) (hp : p.length ≤ 1000000000) : M.unicode_utf8_AppendRune p c = some (p ++ enc c) := by
  obtain ⟨⟨h0, h1⟩, h2⟩ := chOk_iff.mp h
  unfold M.unicode_utf8_AppendRune M.unicode_utf8_appendRuneNonASCII enc
  rw [u32_id h0 h1, cont, sh6 c h0, sh12 c h0, sh18 c h0, cont, cont]
  by_cases g1 : c < 128
  · rw [if_pos (by simp; omega), if_pos g1, u8_id h0 (by omega), app_ok (by simp; omega)]; rfl
  · rw [if_neg (by simp; omega), if_neg g1]
    by_cases g2 : c < 2048
    · rw [if_pos (by simp; omega), if_pos g2, u8_id (x := c / 64) (by omega) (by omega), or192 (by omega) (by omega), app_ok (by simp; omega)]; rfl
    · rw [if_neg (by simp; omega), if_neg g2]
      by_cases g3 : c < 65536
      · have e : (if decide (c < 55296) = true then some (decide (c < 55296)) else some (decide (57343 < c) && decide (c ≤ 65535))) = some true := by
          by_cases g : c < 55296
          · rw [if_pos (by simpa using g), decide_eq_true g]
          · rw [if_neg (by simpa using g), decide_eq_true (show 57343 < c by omega), decide_eq_true (show c ≤ 65535 by omega)]; rfl
        rw [e, if_pos g3]
        simp only [Option.bind_some, if_true]
        rw [u8_id (x := c / 4096) (by omega) (by omega), or224 (by omega) (by omega), app_ok (by simp; omega)]; rfl
      · have e : (if decide (c < 55296) = true then some (decide (c < 55296)) else some (decide (57343 < c) && decide (c ≤ 65535))) = some false := by
          rw [if_neg (by simp; omega), decide_eq_true (show 57343 < c by omega), decide_eq_false (show ¬ c ≤ 65535 by omega)]; rfl
        rw [e, if_neg g3]
        simp only [Option.bind_some, Bool.false_eq_true, if_false]
        rw [if_pos (by simp; omega), u8_id (x := c / 262144) (by omega) (by omega), or240 (by omega) (by omega), app_ok (by simp; omega)]; rfl
theorem enc_loop {β : Type} {f : List Int × Int → Option (Ctl (List Int × Int) (Ctl (List Int) β))} {l : List Int} (hl : l.length ≤ 10000)
    (hf : ∀ k : Nat, ∀ h : k < l.length, ∀ p : List Int, p.length ≤ 40000 → f (p, (k : Int)) = some (.next (p ++ enc l[k], (k : Int) + 1))) (he : ∀ p, f (p, (l.length : Int)) = some (.done (.next p))) :
    wloop f ([], 0) = some (.next (l.flatMap enc)) := by
  have key := wloop_ind (f := f) (fun n st => ∃ k : Nat, n = l.length - k ∧ k ≤ l.length ∧ st = ((l.take k).flatMap enc, (k : Int)) ∧ ((l.take k).flatMap enc).length ≤ 4 * k)
    (fun b => b = .next (l.flatMap enc)) (fun n st h => by
      obtain ⟨k, rfl, hk, rfl, hlen⟩ := h
      by_cases hlt : k < l.length
      · left
        rw [hf k hlt _ (by omega)]
        have e : (l.take (k + 1)).flatMap enc = (l.take k).flatMap enc ++ enc l[k] := by rw [List.take_succ_eq_append_getElem hlt, List.flatMap_append]; simp only [List.flatMap_cons, List.flatMap_nil, List.append_nil]
        refine ⟨_, l.length - (k + 1), rfl, by omega, k + 1, rfl, by omega, by rw [e]; simp, ?_⟩
        have := enc_len l[k]
        rw [e, List.length_append]; omega
      · have : k = l.length := by omega
        subst this
        right
        rw [he, List.take_length]
        exact ⟨_, rfl, rfl⟩) l.length ([], 0) ⟨0, by omega, by omega, by simp, by simp⟩
  obtain ⟨b, hb, rfl⟩ := key
  exact hb
theorem right_data {v : Val} (h : vRight v = true) : v.Data.length ≤ 10000 := by
  obtain ⟨⟨_, _, h2⟩, h3, _⟩ := vRight_iff.mp h
  omega
theorem value_String_eq {v : Val} (hd : v.Data.length ≤ 9223372036854775807) : M.value_String v = some (if v.Char && vRight v then strOf (v.Data.flatMap enc) else ByteArray.empty) := by
  unfold M.value_String
  rw [value_Right_eq hd]
  cases hc : v.Char with
  | false => rfl
  | true =>
    cases hr : vRight v with
    | false => rfl
    | true =>
      have h4 := right_data hr
      have hch := (vRight_iff.mp hr).2.2 hc
      have := enc_loop (f := M.value_String_L1 v) (l := v.Data) h4 (fun k h p hp => by
        unfold M.value_String_L1
        have hok := hch _ (List.getElem_mem h)
        have hok2 := chOk_iff.mp hok
        simp only [show decide ((k : Int) < (v.Data.length : Int)) = true from decide_eq_true (by omega), if_true, idx_get h, Option.bind_some]
        rw [w32_id (by omega) (by omega), AppendRune_eq hok (by omega), w64_id (by omega) (by omega)]; rfl) (fun p => by unfold M.value_String_L1; simp)
      rw [this]; rfl
theorem ref02_put_eq {c : Int} (h0 : 0 ≤ c) (h1 : c ≤ 1114111) : M.anamnesisref02_put c = some (enc c) := by
  unfold M.anamnesisref02_put enc
  simp only [Int.tdiv_eq_ediv_of_nonneg h0, Int.tmod_eq_emod_of_nonneg h0]
  rw [w64_id (x := c / 64) (by omega) (by omega), w64_id (x := c / 4096) (by omega) (by omega)]
  simp only [Int.tmod_eq_emod_of_nonneg (show 0 ≤ c / 64 by omega), Int.tmod_eq_emod_of_nonneg (show 0 ≤ c / 4096 by omega)]
  by_cases g1 : c < 128
  · rw [if_pos (by simpa using g1), if_pos g1, u8_id h0 (by omega)]
  · rw [if_neg (by simpa using g1), if_neg g1]
    rw [w64_id (x := 128 + c % 64) (by omega) (by omega), u8_id (x := 128 + c % 64) (by omega) (by omega)]
    by_cases g2 : c < 2048
    · rw [if_pos (by simpa using g2), if_pos g2, w64_id (x := 192 + c / 64) (by omega) (by omega), u8_id (x := 192 + c / 64) (by omega) (by omega)]
    · rw [if_neg (by simpa using g2), if_neg g2, w64_id (x := 128 + c / 64 % 64) (by omega) (by omega), u8_id (x := 128 + c / 64 % 64) (by omega) (by omega)]
      by_cases g3 : c < 65536
      · rw [if_pos (by simpa using g3), if_pos g3, w64_id (x := 224 + c / 4096) (by omega) (by omega), u8_id (x := 224 + c / 4096) (by omega) (by omega)]
      · rw [if_neg (by simpa using g3), if_neg g3, w64_id (x := c / 262144) (by omega) (by omega), w64_id (x := 240 + c / 262144) (by omega) (by omega), u8_id (x := 240 + c / 262144) (by omega) (by omega),
          w64_id (x := 128 + c / 4096 % 64) (by omega) (by omega), u8_id (x := 128 + c / 4096 % 64) (by omega) (by omega)]
theorem ref02_String_eq {v : Val} (hc : v.Char = true) (hr : vRight v = true) : M.anamnesisref02_String v = some (strOf (v.Data.flatMap enc)) := by
  have h4 := right_data hr
  have hch := (vRight_iff.mp hr).2.2 hc
  unfold M.anamnesisref02_String
  have := enc_loop (f := M.anamnesisref02_String_L1 v) (l := v.Data) h4 (fun k h p hp => by
    unfold M.anamnesisref02_String_L1
    have hok := hch _ (List.getElem_mem h)
    have hok2 := chOk_iff.mp hok
    have := enc_len v.Data[k]
    simp only [show decide ((k : Int) < (v.Data.length : Int)) = true from decide_eq_true (by omega), if_true, idx_get h, Option.bind_some]
    rw [ref02_put_eq (by omega) (by omega)]
    simp only [Option.bind_some]
    rw [app_ok (by omega), w64_id (by omega) (by omega)]; rfl) (fun p => by unfold M.anamnesisref02_String_L1; simp)
  rw [this]; rfl
/-- what the openings tell of an array. -/
def VGood (v : Val) : Prop := (∀ n ∈ v.Shape, (Lit.int .i64 n).wf = true) ∧ (∀ n ∈ v.Data, (Lit.int .i64 n).wf = true) ∧ v.Shape.length ≤ maxLen ∧ v.Data.length ≤ maxLen
theorem value_Fill_eq (v : Val) : M.value_Fill v = some (if v.Char = true then 32 else 0) := by
  unfold M.value_Fill; split <;> rfl
theorem value_One_eq (v : Val) : M.value_One v = some (if h : v.Char = false ∧ v.Data.length = 1 then (v.Data[0], true) else (0, false)) := by
  unfold M.value_One
  by_cases h : v.Char = false ∧ v.Data.length = 1
  · rw [dif_pos h, if_neg (by simp [h.1, h.2]), show (0 : Int) = ((0 : Nat) : Int) from rfl, idx_get (show 0 < v.Data.length by omega)]; rfl
  · rw [dif_neg h, if_pos (by
      cases hc : v.Char with
      | true => rfl
      | false => simp; intro h2; exact h ⟨hc, by omega⟩)]
theorem valueTells_true (a b : Val) (ga : VGood a) (gb : VGood b) : M.anamnesislaw02_ValueTells a b = some true := by
  obtain ⟨-, -, ga1, ga2⟩ := ga
  have hm : maxLen = 9223372036854775807 := rfl
  unfold M.anamnesislaw02_ValueTells
  by_cases hg : ((((decide ((a.Data.length : Int) > 10100)) || (decide ((b.Data.length : Int) > 10100))) || (decide ((a.Shape.length : Int) > 10))) || (decide ((b.Shape.length : Int) > 10))) = true
  · rw [if_pos hg]
  rw [if_neg hg, ref02_Right_eq (by omega), value_Right_eq (by omega), value_Same_eq ga1 ga2, ref02_Same_eq ga1 ga2, value_String_eq (by omega), value_One_eq, value_Fill_eq]
  have e1 : (if (a.Char && vRight a) = true then (M.anamnesisref02_String a).bind fun r5 => some r5 else some ByteArray.empty) = some (if a.Char && vRight a then strOf (a.Data.flatMap enc) else ByteArray.empty) := by
    by_cases h : (a.Char && vRight a) = true
    · have h2 := h
      simp only [Bool.and_eq_true] at h2
      rw [if_pos h, if_pos h, ref02_String_eq h2.1 h2.2]; rfl
    · rw [if_neg h, if_neg h]
  simp only [Option.bind_some, BEq.rfl, Bool.not_true, Bool.false_eq_true, if_false]
  rw [e1]
  simp only [Option.bind_some, BEq.rfl, Bool.true_and]
  by_cases h : a.Char = false ∧ a.Data.length = 1
  · rw [dif_pos h]
    rw [show (0 : Int) = ((0 : Nat) : Int) from rfl, idx_get (show 0 < a.Data.length by omega)]
    simp [h.1, h.2]
  · rw [dif_neg h]
    have e : ((!a.Char) && ((a.Data.length : Int) == 1)) = false := by
      cases hc : a.Char with
      | true => rfl
      | false => simp; intro h2; exact h ⟨hc, by omega⟩
    rw [e]
    cases a.Char <;> rfl

end Go.Proofs.Ytpkfklfakegbjaa.valueTells
