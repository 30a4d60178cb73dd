/- PlaneApplies: what the code that the law reaches computes, as plain functions; and that the law comes to true. -/
import Derived.Test.YtlcpnakgolfofaaAmU
set_option linter.unusedVariables false
set_option linter.unusedSimpArgs false
set_option maxRecDepth 100000
open Go Go.Am
namespace Go.Proofs.Ytlcpnakgolfofaa.planeApplies
noncomputable def M.anamnesisref02_Copy (v1 : Val) : Option (Val) :=
  (app 8 ([] : List Int) v1.Shape).bind fun l1 =>
  (app 8 ([] : List Int) v1.Data).bind fun l2 =>
  some (Val.mk v1.Char l1 l2)
noncomputable def M.slices_IndexFunc__int64_L1 (s1 : (List Int)) (f1 : (Int → Option (Bool))) (s : Int) : Option (Ctl (Int) (Ctl (Unit) (Int))) :=
  match s with
  | t1 =>
    if (decide (t1 < (s1.length : Int))) then
      (idx s1 t1).bind fun y1 =>
      (f1 y1).bind fun r1 =>
      if r1 then
        some (.done (.done t1))
      else
        some (.next (IntKind.i64.wrap (t1 + 1)))
    else
      some (.done (.next ()))
noncomputable def M.slices_IndexFunc__int64 (s1 : (List Int)) (f1 : (Int → Option (Bool))) : Option (Int) :=
  (wloop (M.slices_IndexFunc__int64_L1 s1 f1) 0).bind fun k => joinK k fun _ =>
  some (-1)
noncomputable def M.slices_ContainsFunc__int64 (s1 : (List Int)) (f1 : (Int → Option (Bool))) : Option (Bool) :=
  (M.slices_IndexFunc__int64 s1 f1).bind fun r1 =>
  some (decide (r1 ≥ 0))
noncomputable def M.unicode_utf8_ValidRune (r1 : Int) : Option (Bool) :=
  if ((decide (0 ≤ r1)) && (decide (r1 < 55296))) then
    some true
  else
    if ((decide (57343 < r1)) && (decide (r1 ≤ 1114111))) then
      some true
    else
      some false
noncomputable def M.value_character (n1 : Int) : Option (Bool) :=
  (if ((decide (n1 ≥ 0)) && (decide (n1 ≤ 1114111))) then
  (M.unicode_utf8_ValidRune (IntKind.i32.wrap n1)).bind fun r1 =>
  some r1 else
  some false).bind fun c2 =>
  some c2
noncomputable def M.value_Right_1 (n1 : Int) : Option (Bool) :=
  (M.value_character n1).bind fun r1 =>
  some (!r1)
noncomputable def M.value_Right_L1 (v1 : Val) (s : Int × Int) : Option (Ctl (Int × Int) (Ctl (Int) (Bool))) :=
  match s with
  | (size1, t1) =>
    if (decide (t1 < (v1.Shape.length : Int))) then
      (idx v1.Shape t1).bind fun y1 =>
      if ((decide (y1 < 0)) || (decide (y1 > 10000))) then
        some (.done (.done false))
      else
        some (.next ((IntKind.i64.wrap (size1 * y1)), (IntKind.i64.wrap (t1 + 1))))
    else
      some (.done (.next size1))
noncomputable def M.value_Right (v1 : Val) : Option (Bool) :=
  if (decide ((v1.Shape.length : Int) > 4)) then
    some false
  else
    (wloop (M.value_Right_L1 v1) (1, 0)).bind fun k => joinK k fun size1 =>
    if ((decide (size1 > 10000)) || (size1 != (v1.Data.length : Int))) then
      some false
    else
      (if (!v1.Char) then
      some true else
      (M.slices_ContainsFunc__int64 v1.Data (fun x0 => M.value_Right_1 x0)).bind fun r1 =>
      some (!r1)).bind fun c4 =>
      some c4
noncomputable def M.plane_right (turn1 : Int) : Option (Int) :=
  some (Int.tmod (IntKind.i64.wrap ((Int.tmod turn1 4) + 4)) 4)
noncomputable def M.plane_place (rows1 : Int) (cols1 : Int) (i1 : Int) (k1 : Int) : Option ((Nat × Nat)) :=
  some ((FloatKind.f64.nearest (IntKind.i64.wrap ((IntKind.i64.wrap (2 * k1)) - (IntKind.i64.wrap (cols1 - 1))))), (FloatKind.f64.nearest (IntKind.i64.wrap ((IntKind.i64.wrap (rows1 - 1)) - (IntKind.i64.wrap (2 * i1))))))
noncomputable def M.plane_conjugate (z1 : (Nat × Nat)) : Option ((Nat × Nat)) :=
  some (z1.1, (Op.negFloat .f64 z1.2))
noncomputable def M.plane_unit (turn1 : Int) : Option ((Nat × Nat)) :=
  (M.plane_right turn1).bind fun r1 =>
  (idx [(4607182418800017408, 0), (0, 4607182418800017408), (13830554455654793216, 0), (0, 13830554455654793216)] r1).bind fun y1 =>
  some (y1.1, y1.2)
noncomputable def M.plane_Sym_takes (a1 : Sym) (z1 : (Nat × Nat)) : Option ((Nat × Nat)) :=
  (if a1.Flip then
    (M.plane_conjugate (z1.1, z1.2)).bind fun r1 =>
    some r1
  else
    some z1).bind fun z2 =>
  (M.plane_unit a1.Turn).bind fun r2 =>
  (cMul .f64 r2.1 r2.2 z2.1 z2.2).bind fun z3 =>
  some (z3.1, z3.2)
noncomputable def M.plane_offset (rows1 : Int) (cols1 : Int) (z1 : (Nat × Nat)) : Option (Int) :=
  (f2i .i64 z1.1).bind fun n1 =>
  (f2i .i64 z1.2).bind fun n2 =>
  some (IntKind.i64.wrap ((IntKind.i64.wrap ((IntKind.i64.wrap (Int.tdiv (IntKind.i64.wrap ((IntKind.i64.wrap (rows1 - 1)) - n2)) 2)) * cols1)) + (IntKind.i64.wrap (Int.tdiv (IntKind.i64.wrap ((IntKind.i64.wrap (n1 + cols1)) - 1)) 2))))
noncomputable def M.plane_Apply_L2 (a1 : Sym) (v1 : Val) (y1 : Int) (y2 : Int) (Shape1 : (List Int)) (t1 : Int) (s : Int × (List Int)) : Option (Ctl (Int × (List Int)) (Ctl ((List Int)) (Ctl (Int × (List Int)) (Ctl ((List Int)) (Val × Int))))) :=
  match s with
  | (t2, l3) =>
    if (decide (t2 < y2)) then
      (idx Shape1 0).bind fun y3 =>
      (idx Shape1 1).bind fun y4 =>
      (M.plane_place y1 y2 t1 t2).bind fun r3 =>
      (M.plane_Sym_takes a1 (r3.1, r3.2)).bind fun r4 =>
      (M.plane_offset y3 y4 (r4.1, r4.2)).bind fun r5 =>
      (idx v1.Data (IntKind.i64.wrap ((IntKind.i64.wrap (t1 * y2)) + t2))).bind fun y5 =>
      (idx l3 r5).bind fun y6 =>
      (upd l3 r5 y5).bind fun l4 =>
      some (.next ((IntKind.i64.wrap (t2 + 1)), l4))
    else
      some (.done (.next l3))
noncomputable def M.plane_Apply_L1 (a1 : Sym) (v1 : Val) (y1 : Int) (y2 : Int) (Shape1 : (List Int)) (s : Int × (List Int)) : Option (Ctl (Int × (List Int)) (Ctl ((List Int)) (Val × Int))) :=
  match s with
  | (t1, l2) =>
    if (decide (t1 < y1)) then
      (wloop (M.plane_Apply_L2 a1 v1 y1 y2 Shape1 t1) (0, l2)).bind fun k => joinK k fun l3 =>
      some (.next ((IntKind.i64.wrap (t1 + 1)), l3))
    else
      some (.done (.next l2))
noncomputable def M.plane_Apply (a1 : Sym) (v1 : Val) : Option (Val × Int) :=
  (M.value_Right v1).bind fun r1 =>
  if (!r1) then
    some ((Val.mk false ([]) ([])), 1)
  else
    if ((v1.Shape.length : Int) != 2) then
      some ((Val.mk false ([]) ([])), 24)
    else
      (idx v1.Shape 0).bind fun y1 =>
      (idx v1.Shape 1).bind fun y2 =>
      (mk 8 (0 : Int) (v1.Data.length : Int) (v1.Data.length : Int)).bind fun l1 =>
      ((M.plane_right a1.Turn).bind fun r2 =>
      if ((Int.tmod r2 2) == 1) then
        some [y2, y1]
      else
        some [y1, y2]).bind fun Shape1 =>
      (wloop (M.plane_Apply_L1 a1 v1 y1 y2 Shape1) (0, l1)).bind fun k => joinK k fun l2 =>
      some ((Val.mk v1.Char Shape1 l2), 0)
noncomputable def M.anamnesisref02_Same_L2 (a1 : Val) (b1 : Val) (s : Int) : Option (Ctl (Int) (Ctl (Unit) (Bool))) :=
  match s with
  | i2 =>
    if (decide (i2 < (a1.Data.length : Int))) then
      (idx a1.Data i2).bind fun y3 =>
      (idx b1.Data i2).bind fun y4 =>
      if (y3 != y4) then
        some (.done (.done false))
      else
        some (.next (IntKind.i64.wrap (i2 + 1)))
    else
      some (.done (.next ()))
noncomputable def M.anamnesisref02_Same_L1 (a1 : Val) (b1 : Val) (s : Int) : Option (Ctl (Int) (Ctl (Unit) (Bool))) :=
  match s with
  | i1 =>
    if (decide (i1 < (a1.Shape.length : Int))) then
      (idx a1.Shape i1).bind fun y1 =>
      (idx b1.Shape i1).bind fun y2 =>
      if (y1 != y2) then
        some (.done (.done false))
      else
        some (.next (IntKind.i64.wrap (i1 + 1)))
    else
      some (.done (.next ()))
noncomputable def M.anamnesisref02_Same (a1 : Val) (b1 : Val) : Option (Bool) :=
  if (((!(a1.Char == b1.Char)) || ((a1.Shape.length : Int) != (b1.Shape.length : Int))) || ((a1.Data.length : Int) != (b1.Data.length : Int))) then
    some false
  else
    (wloop (M.anamnesisref02_Same_L1 a1 b1) 0).bind fun k => joinK k fun _ =>
    (wloop (M.anamnesisref02_Same_L2 a1 b1) 0).bind fun k => joinK k fun _ =>
    some true
noncomputable def M.anamnesisref02_Right_L2 (v1 : Val) (s : Int) : Option (Ctl (Int) (Ctl (Unit) (Bool))) :=
  match s with
  | i2 =>
    if ((decide (i2 < (v1.Data.length : Int))) && v1.Char) then
      (idx v1.Data i2).bind fun y4 =>
      if (((decide (y4 < 0)) || (decide (y4 > 1114111))) || ((decide (y4 ≥ 55296)) && (decide (y4 ≤ 57343)))) then
        some (.done (.done false))
      else
        some (.next (IntKind.i64.wrap (i2 + 1)))
    else
      some (.done (.next ()))
noncomputable def M.anamnesisref02_Right_L1 (v1 : Val) (s : Int × Int) : Option (Ctl (Int × Int) (Ctl (Int) (Bool))) :=
  match s with
  | (size1, i1) =>
    if (decide (i1 < (v1.Shape.length : Int))) then
      (idx v1.Shape i1).bind fun y1 =>
      (if (decide (y1 < 0)) then
      some true else
      (idx v1.Shape i1).bind fun y2 =>
      some (decide (y2 > 10000))).bind fun c2 =>
      if c2 then
        some (.done (.done false))
      else
        (idx v1.Shape i1).bind fun y3 =>
        some (.next ((IntKind.i64.wrap (size1 * y3)), (IntKind.i64.wrap (i1 + 1))))
    else
      some (.done (.next size1))
noncomputable def M.anamnesisref02_Right (v1 : Val) : Option (Bool) :=
  if (decide ((v1.Shape.length : Int) > 4)) then
    some false
  else
    (wloop (M.anamnesisref02_Right_L1 v1) (1, 0)).bind fun k => joinK k fun size1 =>
    (wloop (M.anamnesisref02_Right_L2 v1) 0).bind fun k => joinK k fun _ =>
    some ((size1 == (v1.Data.length : Int)) && (decide (size1 ≤ 10000)))
noncomputable def M.anamnesisref04_Mirror_L2 (v1 : Val) (y2 : Int) (i1 : Int) (s : Int × (List Int)) : Option (Ctl (Int × (List Int)) (Ctl ((List Int)) (Ctl (Int × (List Int)) (Ctl ((List Int)) (Val))))) :=
  match s with
  | (k2, Data2) =>
    if (decide (k2 < y2)) then
      (idx v1.Data (IntKind.i64.wrap ((IntKind.i64.wrap (i1 * y2)) + k2))).bind fun y3 =>
      (app 8 Data2 ([y3])).bind fun l1 =>
      some (.next ((IntKind.i64.wrap (k2 + 1)), l1))
    else
      some (.done (.next Data2))
noncomputable def M.anamnesisref04_Mirror_L1 (v1 : Val) (y2 : Int) (s : Int × (List Int)) : Option (Ctl (Int × (List Int)) (Ctl ((List Int)) (Val))) :=
  match s with
  | (i1, Data1) =>
    if (decide (i1 ≥ 0)) then
      (wloop (M.anamnesisref04_Mirror_L2 v1 y2 i1) (0, Data1)).bind fun k => joinK k fun Data2 =>
      some (.next ((IntKind.i64.wrap (i1 - 1)), Data2))
    else
      some (.done (.next Data1))
noncomputable def M.anamnesisref04_Mirror (v1 : Val) : Option (Val) :=
  (idx v1.Shape 0).bind fun y1 =>
  (idx v1.Shape 1).bind fun y2 =>
  (wloop (M.anamnesisref04_Mirror_L1 v1 y2) ((IntKind.i64.wrap (y1 - 1)), [])).bind fun k => joinK k fun Data1 =>
  some (Val.mk v1.Char ([y1, y2]) Data1)
noncomputable def M.anamnesisref04_Turn (t1 : Int) : Option (Int) :=
  (if (decide ((Int.tmod t1 4) < 0)) then
    some (IntKind.i64.wrap ((Int.tmod t1 4) + 4))
  else
    some (Int.tmod t1 4)).bind fun t2 =>
  some t2
noncomputable def M.anamnesisref04_Quarter_L2 (v1 : Val) (y1 : Int) (y2 : Int) (k1 : Int) (s : Int × (List Int)) : Option (Ctl (Int × (List Int)) (Ctl ((List Int)) (Ctl (Int × (List Int)) (Ctl ((List Int)) (Val))))) :=
  match s with
  | (i1, Data2) =>
    if (decide (i1 < y1)) then
      (idx v1.Data (IntKind.i64.wrap ((IntKind.i64.wrap (i1 * y2)) + k1))).bind fun y3 =>
      (app 8 Data2 ([y3])).bind fun l1 =>
      some (.next ((IntKind.i64.wrap (i1 + 1)), l1))
    else
      some (.done (.next Data2))
noncomputable def M.anamnesisref04_Quarter_L1 (v1 : Val) (y1 : Int) (y2 : Int) (s : Int × (List Int)) : Option (Ctl (Int × (List Int)) (Ctl ((List Int)) (Val))) :=
  match s with
  | (k1, Data1) =>
    if (decide (k1 ≥ 0)) then
      (wloop (M.anamnesisref04_Quarter_L2 v1 y1 y2 k1) (0, Data1)).bind fun k => joinK k fun Data2 =>
      some (.next ((IntKind.i64.wrap (k1 - 1)), Data2))
    else
      some (.done (.next Data1))
noncomputable def M.anamnesisref04_Quarter (v1 : Val) : Option (Val) :=
  (idx v1.Shape 0).bind fun y1 =>
  (idx v1.Shape 1).bind fun y2 =>
  (wloop (M.anamnesisref04_Quarter_L1 v1 y1 y2) ((IntKind.i64.wrap (y2 - 1)), [])).bind fun k => joinK k fun Data1 =>
  some (Val.mk v1.Char ([y2, y1]) Data1)
noncomputable def M.anamnesisref04_Apply_L1 (turn1 : Int) (s : Int × Bool × (List Int) × (List Int)) : Option (Ctl (Int × Bool × (List Int) × (List Int)) (Ctl (Bool × (List Int) × (List Int)) (Val))) :=
  match s with
  | (n1, Char2, Shape2, Data2) =>
    (M.anamnesisref04_Turn turn1).bind fun r2 =>
    if (decide (n1 < r2)) then
      (M.anamnesisref04_Quarter (Val.mk Char2 Shape2 Data2)).bind fun r3 =>
      some (.next ((IntKind.i64.wrap (n1 + 1)), r3.Char, r3.Shape, r3.Data))
    else
      some (.done (.next (Char2, Shape2, Data2)))
noncomputable def M.anamnesisref04_Apply (turn1 : Int) (flip1 : Bool) (v1 : Val) : Option (Val) :=
  (if flip1 then
    (M.anamnesisref04_Mirror v1).bind fun r1 =>
    some (r1.Char, r1.Shape, r1.Data)
  else
    some (v1.Char, v1.Shape, v1.Data)).bind fun (Char1, Shape1, Data1) =>
  (wloop (M.anamnesisref04_Apply_L1 turn1) (0, Char1, Shape1, Data1)).bind fun k => joinK k fun (Char2, Shape2, Data2) =>
  (app 8 ([] : List Int) Shape2).bind fun l1 =>
  (app 8 ([] : List Int) Data2).bind fun l2 =>
  some (Val.mk Char2 l1 l2)
noncomputable def M.anamnesislaw04_PlaneApplies (turn1 : Int) (flip1 : Bool) (v1 : Val) : Option (Bool) :=
  if ((decide ((v1.Data.length : Int) > 3000)) || (decide ((v1.Shape.length : Int) > 10))) then
    some true
  else
    (M.anamnesisref02_Copy v1).bind fun r1 =>
    (M.plane_Apply (Sym.mk turn1 flip1) v1).bind fun (r2, r3) =>
    (M.anamnesisref02_Same v1 r1).bind fun r4 =>
    if (!r4) then
      some false
    else
      (M.anamnesisref02_Right v1).bind fun r5 =>
      if (!r5) then
        (if (r3 == 1) then
        (M.anamnesisref02_Same r2 (Val.mk false ([]) ([]))).bind fun r6 =>
        some r6 else
        some false).bind fun c2 =>
        some (c2 && true)
      else
        if ((v1.Shape.length : Int) != 2) then
          (if (r3 == 24) then
          (M.anamnesisref02_Same r2 (Val.mk false ([]) ([]))).bind fun r7 =>
          some r7 else
          some false).bind fun c4 =>
          some (c4 && true)
        else
          (if (r3 == 0) then
          (M.anamnesisref04_Apply turn1 flip1 v1).bind fun r8 =>
          (M.anamnesisref02_Same r2 r8).bind fun r9 =>
          some r9 else
          some false).bind fun c6 =>
          some (c6 && true)
theorem w64_id {x : Int} (h1 : -9223372036854775808 ≤ x) (h2 : x ≤ 9223372036854775807) : IntKind.i64.wrap x = x := wrap_id h1 h2
theorem u8_mod (x : Int) : IntKind.u8.wrap x = x % 256 := by simp [IntKind.wrap, IntKind.bits, IntKind.signed]
theorem u8_id {x : Int} (h1 : 0 ≤ x) (h2 : x ≤ 255) : IntKind.u8.wrap x = x := by rw [u8_mod]; omega
theorem u32_id {x : Int} (h1 : 0 ≤ x) (h2 : x ≤ 1114111) : IntKind.u32.wrap x = x := by
  have : IntKind.u32.wrap x = x % 4294967296 := by simp [IntKind.wrap, IntKind.bits, IntKind.signed]
  rw [this]; omega
/-- A loop comes to an end in a state with Q: P holds ahead of each round, and its number falls. -/
theorem wloop_ind {σ β : Type} {f : σ → Option (Ctl σ β)} (P : Nat → σ → Prop) (Q : β → Prop)
    (h : ∀ n s, P n s → (∃ s' n', f s = some (.next s') ∧ n' < n ∧ P n' s') ∨ (∃ b, f s = some (.done b) ∧ Q b)) : ∀ n s, P n s → ∃ b, wloop f s = some b ∧ Q b := by
  intro n
  induction n using Nat.strongRecOn with
  | _ n ih =>
    intro s hp
    rcases h n s hp with ⟨s', n', hf, hn, hp'⟩ | ⟨b, hf, hq⟩
    · obtain ⟨b, hb, hq⟩ := ih n' hn s' hp'
      exact ⟨b, by rw [wloop_next hf]; exact hb, hq⟩
    · exact ⟨b, wloop_done hf, hq⟩
theorem idx_nat {α : Type} (l : List α) (k : Nat) : idx l (k : Int) = l[k]? := by
  unfold idx; rw [if_pos (by omega)]; rfl
theorem idx_get {α : Type} {l : List α} {k : Nat} (h : k < l.length) : idx l (k : Int) = some l[k] := by rw [idx_nat, List.getElem?_eq_getElem h]
theorem upd_nat {α : Type} {l : List α} {k : Nat} {x : α} (h : k < l.length) : upd l (k : Int) x = some (l.set k x) := by
  unfold upd; rw [if_pos ⟨by omega, by omega⟩]; rfl
theorem app_ok {α : Type} {b : Nat} {l m : List α} (h : (l.length + m.length) * b ≤ 140737488355328) : app b l m = some (l ++ m) := by
  unfold app; rw [if_pos (.inr h)]
theorem mk_ok {α : Type} {b : Nat} {z : α} {n : Nat} (h : b * n ≤ 140737488355328) (h' : n ≤ 140737488355328) : mk b z (n : Int) (n : Int) = some (List.replicate n z) := by
  unfold mk
  have : ((b : Int) * (n : Int)) ≤ 140737488355328 := by
    have h2 : ((b * n : Nat) : Int) ≤ 140737488355328 := by omega
    rwa [Int.natCast_mul] at h2
  rw [if_pos ⟨by omega, by omega, this, by omega⟩]; rfl
/-- the numbers that a kind has. -/
theorem wf64 {n : Int} (h : (Lit.int .i64 n).wf = true) : -9223372036854775808 ≤ n ∧ n ≤ 9223372036854775807 := by
  have h2 : (decide (IntKind.i64.min ≤ n) && decide (n ≤ IntKind.i64.max)) = true := h
  have e1 : IntKind.i64.min = -9223372036854775808 := by decide
  have e2 : IntKind.i64.max = 9223372036854775807 := by decide
  rw [e1, e2] at h2
  simpa using h2
theorem sub_drop {α : Type} {l : List α} {k : Nat} (h : k ≤ l.length) : sub l (k : Int) (l.length : Int) = some (l.drop k) := by
  unfold sub
  rw [if_pos ⟨by omega, by omega, by omega⟩]
  simp
theorem drop_cons {α : Type} {l : List α} {k : Nat} (h : k < l.length) : l.drop k = l[k] :: l.drop (k + 1) := List.drop_eq_getElem_cons h
theorem same_loop {f : Int → Option (Ctl Int (Ctl Unit Bool))} {a b : List Int} (hl : a.length = b.length) (hm : a.length ≤ maxLen)
    (hf : ∀ k : Nat, ∀ h : k < a.length, f k = if a[k] = b[k]'(hl ▸ h) then some (.next ((k : Int) + 1)) else some (.done (.done false))) (he : f a.length = some (.done (.next ()))) :
    wloop f 0 = some (if a = b then .next () else .done false) := by
  have key := wloop_ind (f := f) (fun n i => ∃ k : Nat, i = k ∧ k ≤ a.length ∧ n = a.length - k ∧ a.take k = b.take k)
    (fun c => (c = .done false ∧ a ≠ b) ∨ (c = .next () ∧ a = b)) (fun n i h => by
      obtain ⟨k, rfl, hk, rfl, hn⟩ := h
      by_cases hlt : k < a.length
      · rw [hf k hlt]
        by_cases he : a[k] = b[k]
        · rw [if_pos he]
          left
          refine ⟨_, a.length - (k + 1), rfl, by omega, k + 1, by omega, by omega, rfl, ?_⟩
          rw [List.take_succ_eq_append_getElem hlt, List.take_succ_eq_append_getElem (by omega), hn, he]
        · rw [if_neg he]
          right
          refine ⟨_, rfl, .inl ⟨rfl, fun h => he ?_⟩⟩
          subst h; rfl
      · have : k = a.length := by omega
        subst this
        right
        refine ⟨_, he, .inr ⟨rfl, ?_⟩⟩
        rw [List.take_length, hl, List.take_length] at hn
        exact hn) a.length 0 ⟨0, rfl, by omega, by omega, by simp⟩
  obtain ⟨c, hc, ⟨rfl, h⟩ | ⟨rfl, h⟩⟩ := key
  · rw [hc]; simp [h]
  · rw [hc]; simp [h]

theorem same_step {f : Int → Option (Ctl Int (Ctl Unit Bool))} {a b : List Int} (hl : a.length = b.length) (hm : a.length ≤ maxLen)
    (hf : ∀ k : Nat, ∀ h : k < a.length, f k = if a[k] = b[k]'(hl ▸ h) then some (.next ((k : Int) + 1)) else some (.done (.done false))) (he : f a.length = some (.done (.next ()))) :
    (wloop f 0).bind (fun k => joinK k fun _ => some true) = some (decide (a = b)) := by
  rw [same_loop hl hm hf he]
  by_cases h : a = b
  · rw [if_pos h, decide_eq_true h]; rfl
  · rw [if_neg h, decide_eq_false h]; rfl
/-- a loop that counts up. -/
theorem loop_up {S τ β : Type} {f : S → Option (Ctl S β)} (st : Nat → τ → S) (n : Nat) (I : Nat → τ → Prop) (out : τ → β) (a : τ) (h0 : I 0 a)
    (hf : ∀ k m, k < n → I k m → ∃ m', f (st k m) = some (.next (st (k + 1) m')) ∧ I (k + 1) m') (he : ∀ m, I n m → f (st n m) = some (.done (out m))) :
    ∃ m, I n m ∧ wloop f (st 0 a) = some (out m) := by
  have key := wloop_ind (f := f) (fun j s => ∃ k m, s = st k m ∧ j = n - k ∧ k ≤ n ∧ I k m) (fun b => ∃ m, b = out m ∧ I n m) (fun j s h => by
    obtain ⟨k, m, rfl, rfl, hk, hi⟩ := h
    by_cases hlt : k < n
    · left
      obtain ⟨m', h1, h2⟩ := hf k m hlt hi
      exact ⟨_, n - (k + 1), h1, by omega, k + 1, m', rfl, rfl, by omega, h2⟩
    · have : k = n := by omega
      subst this
      exact .inr ⟨_, he m hi, m, rfl, hi⟩) n (st 0 a) ⟨0, a, rfl, by omega, by omega, h0⟩
  obtain ⟨b, hb, m, rfl, hi⟩ := key
  exact ⟨m, hi, hb⟩
/-- a loop that counts up, each of whose states is told. -/
theorem loop_fun {S β : Type} {f : S → Option (Ctl S β)} (st : Nat → S) (n : Nat) {b : β} (hf : ∀ k, k < n → f (st k) = some (.next (st (k + 1)))) (he : f (st n) = some (.done b)) : wloop f (st 0) = some b := by
  obtain ⟨_, _, h⟩ := loop_up (f := f) (fun k (_ : Unit) => st k) n (fun _ _ => True) (fun _ => b) () trivial (fun k m hk _ => ⟨(), hf k hk, trivial⟩) (fun m _ => he)
  exact h
theorem lin_lt {i k R C : Nat} (h : i < R) (hk : k < C) : i * C + k < R * C := by
  have := Nat.mul_le_mul_right C (show i + 1 ≤ R from h)
  rw [Nat.succ_mul] at this; omega
theorem lin_inj {i k i' k' C : Nat} (hk : k < C) (hk' : k' < C) (h : i * C + k = i' * C + k') : i = i' ∧ k = k' := by
  have hc : 0 < C := by omega
  have e : ∀ (a b : Nat), b < C → (a * C + b) / C = a := fun a b hb => by
    rw [Nat.mul_comm, Nat.mul_add_div hc, Nat.div_eq_of_lt hb, Nat.add_zero]
  have h1 := e i k hk
  rw [h, e i' k' hk'] at h1
  subst h1; omega
/-- a matrix, row by row. -/
def tab (R C : Nat) (f : Nat → Nat → Int) : List Int := (List.range (R * C)).map fun p => f (p / C) (p % C)
theorem tab_len (R C : Nat) (f : Nat → Nat → Int) : (tab R C f).length = R * C := by simp [tab]
theorem tab_get {R C i k : Nat} (f : Nat → Nat → Int) (hi : i < R) (hk : k < C) : (tab R C f)[i * C + k]? = some (f i k) := by
  have hc : 0 < C := by omega
  unfold tab
  rw [List.getElem?_map, List.getElem?_range (lin_lt hi hk)]
  show some (f ((i * C + k) / C) ((i * C + k) % C)) = _
  rw [Nat.mul_comm, Nat.mul_add_div hc, Nat.div_eq_of_lt hk, Nat.mul_add_mod, Nat.mod_eq_of_lt hk, Nat.add_zero]
theorem tab_ext {R C : Nat} {f : Nat → Nat → Int} {l : List Int} (hl : l.length = R * C) (h : ∀ i k, i < R → k < C → l[i * C + k]? = some (f i k)) : l = tab R C f := by
  apply List.ext_getElem?
  intro p
  by_cases hp : p < R * C
  · have hc : 0 < C := by
      rcases Nat.eq_zero_or_pos C with h | h
      · subst h; simp at hp
      · exact h
    have h1 : p / C < R := by rw [Nat.div_lt_iff_lt_mul hc]; exact hp
    have h2 : p % C < C := Nat.mod_lt _ hc
    have e : p / C * C + p % C = p := by rw [Nat.mul_comm]; exact Nat.div_add_mod p C
    have a := h _ _ h1 h2
    have b := tab_get f h1 h2
    rw [e] at a b
    rw [a, b]
  · rw [List.getElem?_eq_none (by omega), List.getElem?_eq_none (by rw [tab_len]; omega)]
theorem contains_int64 {s : List Int} {f : Int → Option Bool} {g : Int → Bool} (hf : ∀ x ∈ s, f x = some (g x)) (hl : s.length ≤ 9223372036854775807) : M.slices_ContainsFunc__int64 s f = some (s.any g) := by
  have key := wloop_ind (f := M.slices_IndexFunc__int64_L1 s f) (fun n i => ∃ k : Nat, i = k ∧ k ≤ s.length ∧ n = s.length - k ∧ (s.take k).any g = false)
    (fun b => (∃ i : Int, b = .done i ∧ 0 ≤ i ∧ s.any g = true) ∨ (b = .next () ∧ s.any g = false)) (fun n i h => by
      obtain ⟨k, rfl, hk, rfl, hn⟩ := h
      unfold M.slices_IndexFunc__int64_L1
      by_cases hlt : k < s.length
      · simp only [show decide ((k : Int) < (s.length : Int)) = true from by simp; exact hlt, if_true, idx_get hlt, Option.bind_some, hf _ (List.getElem_mem hlt)]
        cases hg : g s[k] with
        | true =>
          right
          refine ⟨_, rfl, .inl ⟨_, rfl, by omega, ?_⟩⟩
          rw [List.any_eq_true]
          exact ⟨_, List.getElem_mem hlt, hg⟩
        | false =>
          left
          refine ⟨_, s.length - (k + 1), rfl, by omega, k + 1, ?_, by omega, rfl, ?_⟩
          · rw [w64_id (by omega) (by omega)]; omega
          · rw [List.take_succ_eq_append_getElem hlt, List.any_append, hn]; simp [hg]
      · have : k = s.length := by omega
        subst this
        right
        simp only [show decide ((s.length : Int) < (s.length : Int)) = false from by simp, Bool.false_eq_true, if_false]
        exact ⟨_, rfl, .inr ⟨rfl, by simpa using hn⟩⟩) s.length 0 ⟨0, rfl, by omega, by omega, by simp⟩
  unfold M.slices_ContainsFunc__int64 M.slices_IndexFunc__int64
  obtain ⟨b, hb, ⟨i, rfl, h0, ha⟩ | ⟨rfl, ha⟩⟩ := key
  · rw [hb, ha]; simp [h0]
  · rw [hb, ha]; simp
def prod : List Int → Int
  | [] => 1
  | x :: s => x * prod s
def off : List Int → List Int → Int
  | x :: s, a :: at_ => a * prod s + off s at_
  | _, _ => 0
def dig : List Int → Int → List Int
  | [], _ => []
  | _ :: s, k => k / prod s :: dig s (k % prod s)
/-- is a place in a shape? -/
def inShape : List Int → List Int → Prop
  | [], [] => True
  | x :: s, a :: at_ => 0 ≤ a ∧ a < x ∧ inShape s at_
  | _, _ => False
instance : (s at_ : List Int) → Decidable (inShape s at_)
  | [], [] => isTrue trivial
  | x :: s, a :: at_ =>
    have := instDecidableInShape s at_
    by unfold inShape; exact inferInstance
  | [], _ :: _ => isFalse (fun h => h)
  | _ :: _, [] => isFalse (fun h => h)
theorem inShape.len : ∀ {s at_ : List Int}, inShape s at_ → at_.length = s.length
  | [], [], _ => rfl
  | x :: s, a :: at_, ⟨_, _, h⟩ => by simp [h.len]
  | [], _ :: _, h => h.elim
  | _ :: _, [], h => h.elim
theorem inShape.pos : ∀ {s at_ : List Int}, inShape s at_ → 0 < prod s
  | [], [], _ => by simp [prod]
  | x :: s, a :: at_, ⟨h0, h1, h⟩ => by
    have := h.pos
    exact Int.mul_pos (by omega) this
  | [], _ :: _, h => h.elim
  | _ :: _, [], h => h.elim
theorem off_range : ∀ {s at_ : List Int}, inShape s at_ → 0 ≤ off s at_ ∧ off s at_ < prod s
  | [], [], _ => by simp [prod, off]
  | x :: s, a :: at_, ⟨h0, h1, h⟩ => by
    have h2 := off_range h
    have h3 := h.pos
    have h4 : (a + 1) * prod s ≤ x * prod s := Int.mul_le_mul_of_nonneg_right (by omega) (by omega)
    have h5 : 0 ≤ a * prod s := Int.mul_nonneg h0 (by omega)
    rw [Int.add_mul] at h4
    simp only [prod, off]
    omega
  | [], _ :: _, h => h.elim
  | _ :: _, [], h => h.elim
theorem dig_off : ∀ {s at_ : List Int}, inShape s at_ → dig s (off s at_) = at_
  | [], [], _ => rfl
  | x :: s, a :: at_, ⟨h0, h1, h⟩ => by
    have h2 := off_range h
    have h3 := h.pos
    simp only [dig, off]
    rw [Int.add_comm, Int.mul_comm, Int.add_mul_ediv_left _ _ (by omega), Int.add_mul_emod_self_left, Int.emod_eq_of_lt h2.1 h2.2, dig_off h, Int.ediv_eq_zero_of_lt h2.1 h2.2]
    simp
  | [], _ :: _, h => h.elim
  | _ :: _, [], h => h.elim
def allPos (s : List Int) : Prop := ∀ x ∈ s, 0 < x
theorem allPos.pprod : ∀ {s : List Int}, allPos s → 0 < prod s
  | [], _ => by simp [prod]
  | x :: s, h => Int.mul_pos (h x List.mem_cons_self) (allPos.pprod fun y hy => h y (List.mem_cons_of_mem _ hy))
theorem allPos_of {s : List Int} (h : ∀ x ∈ s, 0 ≤ x) (hp : 0 < prod s) : allPos s := by
  intro x hx
  have h0 := h x hx
  rcases Int.lt_or_eq_of_le h0 with h1 | h1
  · exact h1
  · exfalso
    have : ∀ s : List Int, (0 : Int) ∈ s → prod s = 0 := by
      intro s
      induction s with
      | nil => intro h; simp at h
      | cons y s ih =>
        intro h
        rcases List.mem_cons.mp h with h | h
        · simp [prod, ← h]
        · simp [prod, ih h]
    rw [this s (h1 ▸ hx)] at hp
    omega
theorem dig_in : ∀ {s : List Int} {k : Int}, allPos s → 0 ≤ k → k < prod s → inShape s (dig s k)
  | [], k, _, h0, h1 => trivial
  | x :: s, k, h, h0, h1 => by
    have hs : allPos s := fun y hy => h y (List.mem_cons_of_mem _ hy)
    have hp := hs.pprod
    refine ⟨Int.ediv_nonneg h0 (by omega), ?_, dig_in hs (Int.emod_nonneg _ (by omega)) (Int.emod_lt_of_pos _ hp)⟩
    exact Int.ediv_lt_of_lt_mul hp h1
theorem off_dig : ∀ {s : List Int} {k : Int}, allPos s → 0 ≤ k → k < prod s → off s (dig s k) = k
  | [], k, _, h0, h1 => by simp [prod] at h1; simp [dig, off]; omega
  | x :: s, k, h, h0, h1 => by
    have hs : allPos s := fun y hy => h y (List.mem_cons_of_mem _ hy)
    have hp := hs.pprod
    simp only [dig, off]
    rw [off_dig hs (Int.emod_nonneg _ (by omega)) (Int.emod_lt_of_pos _ hp)]
    rw [Int.mul_comm]; exact Int.mul_ediv_add_emod k (prod s)
theorem dig_len : ∀ (s : List Int) (k : Int), (dig s k).length = s.length
  | [], _ => rfl
  | x :: s, k => by simp [dig, dig_len s]
theorem prod_nonneg : ∀ {s : List Int}, (∀ x ∈ s, 0 ≤ x) → 0 ≤ prod s
  | [], _ => by simp [prod]
  | x :: s, h => Int.mul_nonneg (h x List.mem_cons_self) (prod_nonneg fun y hy => h y (List.mem_cons_of_mem _ hy))
theorem prod_append : ∀ (s t : List Int), prod (s ++ t) = prod s * prod t
  | [], t => by simp [prod]
  | x :: s, t => by simp [prod, prod_append s t, Int.mul_assoc]

/-- the size of a shape, or the error. -/
def shSize (s : List Int) : Int × Int :=
  if 4 < s.length then (0, 24) else if s.any (fun x => decide (x < 0)) then (0, 1) else if s.any (fun x => decide (x > 10000)) || decide (prod s > 10000) then (0, 27) else (prod s, 0)
def shOk (s : List Int) : Prop := s.length ≤ 4 ∧ (∀ x ∈ s, 0 ≤ x ∧ x ≤ 10000) ∧ prod s ≤ 10000
instance (s : List Int) : Decidable (shOk s) := by unfold shOk; exact inferInstance
theorem shSize_ok {s : List Int} (h : shOk s) : shSize s = (prod s, 0) := by
  obtain ⟨h1, h2, h3⟩ := h
  unfold shSize
  rw [if_neg (by omega), if_neg, if_neg]
  · simp only [Bool.or_eq_true, List.any_eq_true, decide_eq_true_eq]
    rintro (⟨x, hx, h⟩ | h)
    · have := h2 x hx; omega
    · omega
  · simp only [List.any_eq_true, decide_eq_true_eq]
    rintro ⟨x, hx, h⟩
    have := h2 x hx; omega
theorem shSize_zero {s : List Int} : (shSize s).2 = 0 ↔ shOk s := by
  constructor
  · intro h
    unfold shSize at h
    split at h
    · cases h
    · rename_i h1
      split at h
      · cases h
      · rename_i h2
        split at h
        · cases h
        · rename_i h3
          simp only [List.any_eq_true, decide_eq_true_eq, not_exists, not_and] at h2
          simp only [Bool.or_eq_true, List.any_eq_true, decide_eq_true_eq, not_or, not_exists, not_and] at h3
          exact ⟨by omega, fun x hx => ⟨by have := h2 x hx; omega, by have := h3.1 x hx; omega⟩, by omega⟩
  · intro h; rw [shSize_ok h]
theorem shSize_cases (s : List Int) : (shOk s ∧ shSize s = (prod s, 0)) ∨ (¬ shOk s ∧ (shSize s).2 ≠ 0 ∧ (shSize s).1 = 0) := by
  by_cases h : shOk s
  · exact .inl ⟨h, shSize_ok h⟩
  · refine .inr ⟨h, fun hh => h (shSize_zero.mp hh), ?_⟩
    unfold shSize
    split
    · rfl
    · rename_i h1
      split
      · rfl
      · rename_i h2
        split
        · rfl
        · rename_i h3
          exfalso; apply h
          simp only [List.any_eq_true, decide_eq_true_eq, not_exists, not_and] at h2
          simp only [Bool.or_eq_true, List.any_eq_true, decide_eq_true_eq, not_or, not_exists, not_and] at h3
          exact ⟨by omega, fun x hx => ⟨by have := h2 x hx; omega, by have := h3.1 x hx; omega⟩, by omega⟩
theorem dig_bound {s : List Int} {k : Int} (hok : shOk s) (h0 : 0 ≤ k) (h1 : k < prod s) : ∀ x ∈ dig s k, 0 ≤ x ∧ x ≤ 10000 := by
  have hpos : allPos s := allPos_of (fun x hx => (hok.2.1 x hx).1) (by omega)
  have key : ∀ (s at_ : List Int), inShape s at_ → (∀ x ∈ s, 0 ≤ x ∧ x ≤ 10000) → ∀ x ∈ at_, 0 ≤ x ∧ x ≤ 10000 := by
    intro s
    induction s with
    | nil => intro at_ h _ x hx; cases at_ with | nil => simp at hx | cons _ _ => exact h.elim
    | cons y s ih =>
      intro at_ h hb x hx
      cases at_ with
      | nil => exact h.elim
      | cons a at_ =>
        obtain ⟨h1, h2, h3⟩ := h
        rcases List.mem_cons.mp hx with rfl | hx
        · have := hb y List.mem_cons_self; omega
        · exact ih at_ h3 (fun z hz => hb z (List.mem_cons_of_mem _ hz)) x hx
  exact key s _ (dig_in hpos h0 h1) hok.2.1
theorem dig_zero : ∀ {s : List Int}, allPos s → dig s 0 = List.replicate s.length 0
  | [], _ => rfl
  | x :: s, h => by
    have hs : allPos s := fun y hy => h y (List.mem_cons_of_mem _ hy)
    simp only [dig, Int.zero_ediv, Int.zero_emod, dig_zero hs]; rfl

theorem one_le_pow : ∀ k : Nat, (1 : Int) ≤ 10000 ^ k
  | 0 => by simp
  | k + 1 => by rw [Int.pow_succ]; have := one_le_pow k; omega
theorem prod_bound : ∀ (s : List Int) (k : Nat), s.length ≤ k → (∀ x ∈ s, 0 ≤ x ∧ x ≤ 10000) → 0 ≤ prod s ∧ prod s ≤ 10000 ^ k
  | [], k, _, _ => ⟨by simp [prod], one_le_pow k⟩
  | x :: s, k + 1, hl, h => by
    have h1 := h x List.mem_cons_self
    have h2 := prod_bound s k (by simpa using hl) (fun y hy => h y (List.mem_cons_of_mem _ hy))
    refine ⟨Int.mul_nonneg h1.1 h2.1, ?_⟩
    simp only [prod]
    have h3 : x * prod s ≤ 10000 * prod s := Int.mul_le_mul_of_nonneg_right h1.2 h2.1
    have h4 : (10000 : Int) ^ (k + 1) = 10000 ^ k * 10000 := Int.pow_succ _ _
    omega
  | x :: s, 0, hl, h => by simp at hl

/-- is a number a character? -/
def chOk (c : Int) : Bool := decide (0 ≤ c ∧ c ≤ 1114111) && !decide (55296 ≤ c ∧ c ≤ 57343)
/-- may an array be? -/
def vRight (v : Val) : Bool := decide (shOk v.Shape) && decide (prod v.Shape = v.Data.length) && (!v.Char || v.Data.all chOk)
def vSame (a b : Val) : Bool := (a.Char == b.Char) && decide (a.Shape = b.Shape) && decide (a.Data = b.Data)
theorem vSame_iff {a b : Val} : vSame a b = true ↔ a = b := by
  obtain ⟨c, s, d⟩ := a
  obtain ⟨c', s', d'⟩ := b
  simp only [vSame, Bool.and_eq_true, beq_iff_eq, decide_eq_true_eq, Val.mk.injEq]
  constructor
  · rintro ⟨⟨h1, h2⟩, h3⟩; exact ⟨h1, h2, h3⟩
  · rintro ⟨h1, h2, h3⟩; exact ⟨⟨h1, h2⟩, h3⟩
theorem vSame_refl (a : Val) : vSame a a = true := vSame_iff.mpr rfl
theorem vSame_eq (a b : Val) : vSame a b = true ∧ a = b ∨ vSame a b = false ∧ a ≠ b := by
  cases h : vSame a b with
  | true => exact .inl ⟨rfl, vSame_iff.mp h⟩
  | false => exact .inr ⟨rfl, fun hh => by rw [vSame_iff.mpr hh] at h; cases h⟩
theorem vRight_iff {v : Val} : vRight v = true ↔ shOk v.Shape ∧ prod v.Shape = v.Data.length ∧ (v.Char = true → ∀ c ∈ v.Data, chOk c = true) := by
  simp only [vRight, Bool.and_eq_true, decide_eq_true_eq, Bool.or_eq_true, Bool.not_eq_true', List.all_eq_true]
  constructor
  · rintro ⟨⟨h1, h2⟩, h3⟩
    refine ⟨h1, h2, fun h => ?_⟩
    rcases h3 with h3 | h3
    · rw [h3] at h; cases h
    · exact h3
  · rintro ⟨h1, h2, h3⟩
    refine ⟨⟨h1, h2⟩, ?_⟩
    cases h : v.Char with
    | true => exact .inr (h3 h)
    | false => exact .inl rfl

theorem right_loop {f : Int × Int → Option (Ctl (Int × Int) (Ctl Int Bool))} {s : List Int} (h4 : s.length ≤ 4)
    (hf : ∀ k : Nat, ∀ h : k < s.length, ∀ z, f (z, (k : Int)) = if s[k] < 0 ∨ s[k] > 10000 then some (.done (.done false)) else some (.next (IntKind.i64.wrap (z * s[k]), (k : Int) + 1)))
    (he : ∀ z, f (z, (s.length : Int)) = some (.done (.next z))) :
    ((∀ x ∈ s, 0 ≤ x ∧ x ≤ 10000) ∧ wloop f (1, 0) = some (.next (prod s))) ∨ (¬ (∀ x ∈ s, 0 ≤ x ∧ x ≤ 10000) ∧ wloop f (1, 0) = some (.done false)) := by
  have key := wloop_ind (f := f) (fun n st => ∃ k : Nat, n = s.length - k ∧ k ≤ s.length ∧ st = (prod (s.take k), (k : Int)) ∧ ∀ x ∈ s.take k, 0 ≤ x ∧ x ≤ 10000)
    (fun b => (b = .next (prod s) ∧ ∀ x ∈ s, 0 ≤ x ∧ x ≤ 10000) ∨ (b = .done false ∧ ¬ ∀ x ∈ s, 0 ≤ x ∧ x ≤ 10000)) (fun n st h => by
      obtain ⟨k, rfl, hk, rfl, hall⟩ := h
      by_cases hlt : k < s.length
      · rw [hf k hlt]
        by_cases hb : s[k] < 0 ∨ s[k] > 10000
        · rw [if_pos hb]
          right
          refine ⟨_, rfl, .inr ⟨rfl, fun hh => ?_⟩⟩
          have := hh _ (List.getElem_mem hlt); omega
        · rw [if_neg hb]
          left
          have e := List.take_succ_eq_append_getElem hlt
          have hall2 : ∀ x ∈ s.take (k + 1), 0 ≤ x ∧ x ≤ 10000 := by
            intro x hx
            rw [e] at hx
            rcases List.mem_append.mp hx with hx | hx
            · exact hall x hx
            · rw [List.mem_singleton.mp hx]; omega
          have hp := prod_bound (s.take (k + 1)) 4 (by rw [List.length_take]; omega) hall2
          have e2 : prod (s.take (k + 1)) = prod (s.take k) * s[k] := by rw [e, prod_append]; simp [prod]
          refine ⟨_, s.length - (k + 1), rfl, by omega, k + 1, rfl, by omega, ?_, hall2⟩
          rw [← e2, w64_id (by omega) (by omega)]; simp
      · have : k = s.length := by omega
        subst this
        rw [he]
        rw [List.take_length] at hall ⊢
        exact .inr ⟨_, rfl, .inl ⟨rfl, hall⟩⟩)
    s.length (1, 0) ⟨0, by omega, by omega, by simp [prod], by simp⟩
  obtain ⟨b, hb, ⟨rfl, h⟩ | ⟨rfl, h⟩⟩ := key
  · exact .inl ⟨h, hb⟩
  · exact .inr ⟨h, hb⟩
theorem all_loop {f : Int → Option (Ctl Int (Ctl Unit Bool))} {l : List Int} {p : Int → Bool}
    (hf : ∀ k : Nat, ∀ h : k < l.length, f k = if p l[k] = true then some (.next ((k : Int) + 1)) else some (.done (.done false))) (he : f l.length = some (.done (.next ()))) :
    wloop f 0 = some (if l.all p = true then .next () else .done false) := by
  have key := wloop_ind (f := f) (fun n i => ∃ k : Nat, i = k ∧ k ≤ l.length ∧ n = l.length - k ∧ (l.take k).all p = true)
    (fun c => (c = .done false ∧ l.all p = false) ∨ (c = .next () ∧ l.all p = true)) (fun n i h => by
      obtain ⟨k, rfl, hk, rfl, hn⟩ := h
      by_cases hlt : k < l.length
      · rw [hf k hlt]
        by_cases hp : p l[k] = true
        · rw [if_pos hp]
          left
          refine ⟨_, l.length - (k + 1), rfl, by omega, k + 1, by omega, by omega, rfl, ?_⟩
          rw [List.take_succ_eq_append_getElem hlt, List.all_append, hn]; simp [hp]
        · rw [if_neg hp]
          right
          refine ⟨_, rfl, .inl ⟨rfl, ?_⟩⟩
          rw [List.all_eq_false]
          exact ⟨_, List.getElem_mem hlt, hp⟩
      · have : k = l.length := by omega
        subst this
        right
        rw [List.take_length] at hn
        exact ⟨_, he, .inr ⟨rfl, hn⟩⟩) l.length 0 ⟨0, rfl, by omega, by omega, by simp⟩
  obtain ⟨c, hc, ⟨rfl, h⟩ | ⟨rfl, h⟩⟩ := key
  · rw [hc, h]; simp
  · rw [hc, h]; simp
theorem w32_id {x : Int} (h1 : 0 ≤ x) (h2 : x ≤ 1114111) : IntKind.i32.wrap x = x := by
  have e : IntKind.i32.wrap x = if x % 4294967296 ≥ 2147483648 then x % 4294967296 - 4294967296 else x % 4294967296 := by
    simp [IntKind.wrap, IntKind.bits, IntKind.signed]
  rw [e]
  split <;> omega
theorem character_eq (c : Int) : M.value_character c = some (chOk c) := by
  unfold M.value_character chOk
  by_cases h : 0 ≤ c ∧ c ≤ 1114111
  · have e : (decide (c ≥ 0) && decide (c ≤ 1114111)) = true := by simp; omega
    simp only [e, if_true, h, and_self, decide_true, Bool.true_and]
    rw [w32_id h.1 h.2]
    unfold M.unicode_utf8_ValidRune
    by_cases h1 : c < 55296
    · have e1 : (decide (0 ≤ c) && decide (c < 55296)) = true := by simp; omega
      have e2 : decide (55296 ≤ c ∧ c ≤ 57343) = false := decide_eq_false (by omega)
      simp only [e1, e2, if_true, Option.bind_some, Bool.not_false]
    · have e1 : (decide (0 ≤ c) && decide (c < 55296)) = false := by simp; omega
      simp only [e1, Bool.false_eq_true, if_false]
      by_cases h2 : 57343 < c
      · have e3 : (decide (57343 < c) && decide (c ≤ 1114111)) = true := by simp; omega
        have e2 : decide (55296 ≤ c ∧ c ≤ 57343) = false := decide_eq_false (by omega)
        simp only [e3, e2, if_true, Option.bind_some, Bool.not_false]
      · have e3 : (decide (57343 < c) && decide (c ≤ 1114111)) = false := by simp; omega
        have e2 : decide (55296 ≤ c ∧ c ≤ 57343) = true := decide_eq_true (by omega)
        simp only [e3, e2, Bool.false_eq_true, if_false, Option.bind_some, Bool.not_true]
  · have e : (decide (c ≥ 0) && decide (c ≤ 1114111)) = false := by simp; omega
    simp only [e, Bool.false_eq_true, if_false, h, decide_false, Bool.false_and, Option.bind_some]
theorem value_Right_eq {v : Val} (hd : v.Data.length ≤ 9223372036854775807) : M.value_Right v = some (vRight v) := by
  unfold M.value_Right
  by_cases h4 : 4 < v.Shape.length
  · rw [if_pos (by simp; omega)]
    have : vRight v = false := by
      cases h : vRight v with
      | false => rfl
      | true => have := (vRight_iff.mp h).1.1; omega
    rw [this]
  · rw [if_neg (by simp; omega)]
    have hloop := right_loop (f := M.value_Right_L1 v) (s := v.Shape) (by omega) (fun k h z => by
      unfold M.value_Right_L1
      simp only [show decide ((k : Int) < (v.Shape.length : Int)) = true from decide_eq_true (by omega), if_true, idx_get h, Option.bind_some]
      by_cases hb : v.Shape[k] < 0 ∨ v.Shape[k] > 10000
      · rw [if_pos hb, if_pos (by simpa using hb)]
      · rw [if_neg hb, if_neg (by simpa using hb), w64_id (x := (k : Int) + 1) (by omega) (by omega)]) (fun z => by unfold M.value_Right_L1; simp)
    rcases hloop with ⟨hall, hw⟩ | ⟨hall, hw⟩
    · rw [hw]
      simp only [Option.bind_some, joinK_next]
      have hp0 : 0 ≤ prod v.Shape := prod_nonneg fun x hx => (hall x hx).1
      by_cases hsz : prod v.Shape ≤ 10000 ∧ prod v.Shape = v.Data.length
      · have e : (decide (prod v.Shape > 10000) || (prod v.Shape != (v.Data.length : Int))) = false := by simp; omega
        simp only [e, Bool.false_eq_true, if_false]
        have hok : shOk v.Shape := ⟨by omega, hall, hsz.1⟩
        have hv : vRight v = (!v.Char || v.Data.all chOk) := by unfold vRight; simp [hok, hsz.2]
        rw [hv]
        cases hc : v.Char with
        | false => simp
        | true =>
          simp only [Bool.not_true, Bool.false_eq_true, if_false, Bool.false_or]
          rw [contains_int64 (s := v.Data) (f := fun x0 => M.value_Right_1 x0) (g := fun x => !chOk x) (fun x _ => by unfold M.value_Right_1; rw [character_eq]; rfl) hd]
          simp only [Option.bind_some]
          congr 1
          rw [List.not_any_eq_all_not]; simp
      · have e : (decide (prod v.Shape > 10000) || (prod v.Shape != (v.Data.length : Int))) = true := by
          simp; omega
        simp only [e, if_true]
        have : vRight v = false := by
          cases h : vRight v with
          | false => rfl
          | true => have := vRight_iff.mp h; exact absurd ⟨this.1.2.2, this.2.1⟩ hsz
        rw [this]
    · rw [hw]
      have : vRight v = false := by
        cases h : vRight v with
        | false => rfl
        | true => exact absurd (vRight_iff.mp h).1.2.1 hall
      rw [this]; rfl
theorem ref02_Right_eq {v : Val} (hd : v.Data.length ≤ 9223372036854775807) : M.anamnesisref02_Right v = some (vRight v) := by
  unfold M.anamnesisref02_Right
  by_cases h4 : 4 < v.Shape.length
  · rw [if_pos (by simp; omega)]
    have : vRight v = false := by
      cases h : vRight v with
      | false => rfl
      | true => have := (vRight_iff.mp h).1.1; omega
    rw [this]
  · rw [if_neg (by simp; omega)]
    have hloop := right_loop (f := M.anamnesisref02_Right_L1 v) (s := v.Shape) (by omega) (fun k h z => by
      unfold M.anamnesisref02_Right_L1
      simp only [show decide ((k : Int) < (v.Shape.length : Int)) = true from decide_eq_true (by omega), if_true, idx_get h, Option.bind_some]
      by_cases h0 : v.Shape[k] < 0
      · simp only [show decide (v.Shape[k] < 0) = true from decide_eq_true h0, if_true, Option.bind_some]
        rw [if_pos (.inl h0)]
      · simp only [show decide (v.Shape[k] < 0) = false from decide_eq_false h0, Bool.false_eq_true, if_false, Option.bind_some]
        by_cases h1 : v.Shape[k] > 10000
        · rw [if_pos (by simpa using h1), if_pos (.inr h1)]
        · rw [if_neg (by simpa using h1), if_neg (by omega), w64_id (x := (k : Int) + 1) (by omega) (by omega)]) (fun z => by unfold M.anamnesisref02_Right_L1; simp)
    have hchars : wloop (M.anamnesisref02_Right_L2 v) 0 = some (if (!v.Char || v.Data.all chOk) = true then .next () else .done false) := by
      cases hc : v.Char with
      | false =>
        simp only [Bool.not_false, Bool.true_or, if_true]
        exact wloop_done (by unfold M.anamnesisref02_Right_L2; simp [hc])
      | true =>
        simp only [Bool.not_true, Bool.false_or]
        refine all_loop (fun k h => ?_) ?_
        · unfold M.anamnesisref02_Right_L2
          simp only [hc, Bool.and_true, show decide ((k : Int) < (v.Data.length : Int)) = true from decide_eq_true (by omega), if_true, idx_get h, Option.bind_some]
          by_cases hok : chOk v.Data[k] = true
          · have e : ((decide (v.Data[k] < 0) || decide (v.Data[k] > 1114111)) || (decide (v.Data[k] ≥ 55296) && decide (v.Data[k] ≤ 57343))) = false := by
              unfold chOk at hok
              simp at hok ⊢; omega
            rw [e, if_neg (by simp), if_pos hok, w64_id (by omega) (by omega)]
          · have e : ((decide (v.Data[k] < 0) || decide (v.Data[k] > 1114111)) || (decide (v.Data[k] ≥ 55296) && decide (v.Data[k] ≤ 57343))) = true := by
              unfold chOk at hok
              simp at hok ⊢; omega
            rw [e, if_pos rfl, if_neg hok]
        · unfold M.anamnesisref02_Right_L2; simp
    rcases hloop with ⟨hall, hw⟩ | ⟨hall, hw⟩
    · rw [hw, hchars]
      simp only [Option.bind_some, joinK_next]
      have hok : ∀ b : Bool, (decide (shOk v.Shape) && decide (prod v.Shape = v.Data.length) && b) = ((prod v.Shape == (v.Data.length : Int)) && decide (prod v.Shape ≤ 10000) && b) := by
        intro b
        have : decide (shOk v.Shape) = decide (prod v.Shape ≤ 10000) := by
          by_cases h : prod v.Shape ≤ 10000
          · rw [decide_eq_true h, decide_eq_true (show shOk v.Shape from ⟨by omega, hall, h⟩)]
          · rw [decide_eq_false h, decide_eq_false (fun hh : shOk v.Shape => h hh.2.2)]
        rw [this]
        have e2 : (prod v.Shape == (v.Data.length : Int)) = decide (prod v.Shape = v.Data.length) := rfl
        rw [e2]
        cases decide (prod v.Shape ≤ 10000) <;> cases decide (prod v.Shape = (v.Data.length : Int)) <;> rfl
      unfold vRight
      rw [hok]
      cases hcb : (!v.Char || v.Data.all chOk) with
      | true => simp
      | false => simp
    · rw [hw]
      have : vRight v = false := by
        cases h : vRight v with
        | false => rfl
        | true => exact absurd (vRight_iff.mp h).1.2.1 hall
      rw [this]; rfl
theorem ref02_Same_eq {a b : Val} (hs : a.Shape.length ≤ maxLen) (hd : a.Data.length ≤ maxLen) : M.anamnesisref02_Same a b = some (vSame a b) := by
  have hm : maxLen = 9223372036854775807 := rfl
  unfold M.anamnesisref02_Same
  by_cases hl : (a.Char = b.Char ∧ a.Shape.length = b.Shape.length) ∧ a.Data.length = b.Data.length
  · obtain ⟨⟨h1, h2⟩, h3⟩ := hl
    rw [if_neg (by simp [h1, h2, h3])]
    have l1 := same_loop (f := M.anamnesisref02_Same_L1 a b) h2 hs (fun k h => by
      unfold M.anamnesisref02_Same_L1
      simp only [show decide ((k : Int) < (a.Shape.length : Int)) = true from decide_eq_true (by omega), if_true, idx_get h, idx_get (show k < b.Shape.length by omega), Option.bind_some]
      by_cases he : a.Shape[k] = b.Shape[k]
      · rw [if_pos he, if_neg (by simp [he]), w64_id (by omega) (by omega)]
      · rw [if_neg he, if_pos (by simp [he])]) (by unfold M.anamnesisref02_Same_L1; simp)
    have l2 := same_loop (f := M.anamnesisref02_Same_L2 a b) h3 hd (fun k h => by
      unfold M.anamnesisref02_Same_L2
      simp only [show decide ((k : Int) < (a.Data.length : Int)) = true from decide_eq_true (by omega), if_true, idx_get h, idx_get (show k < b.Data.length by omega), Option.bind_some]
      by_cases he : a.Data[k] = b.Data[k]
      · rw [if_pos he, if_neg (by simp [he]), w64_id (by omega) (by omega)]
      · rw [if_neg he, if_pos (by simp [he])]) (by unfold M.anamnesisref02_Same_L2; simp)
    rw [l1, l2]
    unfold vSame
    simp only [h1, BEq.rfl, Bool.true_and]
    by_cases he : a.Shape = b.Shape
    · rw [if_pos he, decide_eq_true he]
      by_cases hd : a.Data = b.Data
      · rw [if_pos hd, decide_eq_true hd]; rfl
      · rw [if_neg hd, decide_eq_false hd]; rfl
    · rw [if_neg he, decide_eq_false he]; rfl
  · have e : ((!(a.Char == b.Char) || ((a.Shape.length : Int) != (b.Shape.length : Int))) || ((a.Data.length : Int) != (b.Data.length : Int))) = true := by
      cases hq : ((!(a.Char == b.Char) || ((a.Shape.length : Int) != (b.Shape.length : Int))) || ((a.Data.length : Int) != (b.Data.length : Int))) with
      | true => rfl
      | false =>
        exfalso; apply hl
        simp only [Bool.or_eq_false_iff, Bool.not_eq_false', beq_iff_eq, bne_eq_false_iff_eq] at hq
        obtain ⟨⟨q1, q2⟩, q3⟩ := hq
        exact ⟨⟨q1, by omega⟩, by omega⟩
    rw [if_pos e]
    have : vSame a b = false := by
      cases hq : vSame a b with
      | false => rfl
      | true => have := vSame_iff.mp hq; subst this; simp at hl
    rw [this]
/-- the word of a sign and a whole number. -/
def W64 (s : Bool) (m : Nat) : Nat := Ieee.double.nearest s m 0
theorem double_least : Ieee.double.leastPlace = -1074 := by decide
theorem double_binade : Ieee.double.binade = 4503599627370496 := by decide
theorem double_inf : Ieee.double.infRung = 9218868437227405312 := by decide
theorem double_sign : Ieee.double.signWeight = 9223372036854775808 := by decide
theorem log2_shift {n : Nat} (hn : n ≠ 0) (k : Nat) : (n * 2 ^ k).log2 = n.log2 + k := by
  have hp : 0 < 2 ^ k := Nat.two_pow_pos k
  have h0 : n * 2 ^ k ≠ 0 := by
    intro h; rcases Nat.mul_eq_zero.mp h with h | h <;> omega
  rw [Nat.log2_eq_iff h0]
  have h1 := Nat.log2_self_le hn
  have h2 := @Nat.lt_log2_self n
  refine ⟨by rw [Nat.pow_add]; exact Nat.mul_le_mul_right _ h1, ?_⟩
  rw [show n.log2 + k + 1 = (n.log2 + 1) + k by omega, Nat.pow_add]
  exact Nat.mul_lt_mul_of_pos_right h2 hp
theorem cut_zero (s : Bool) (n : Nat) : Ieee.Toward.even.cut s n 0 = n := by
  unfold Ieee.Toward.cut
  simp [Nat.mod_one]
theorem cut_even (s : Bool) (n k : Nat) : Ieee.Toward.even.cut s (n * 2 ^ k) k = n := by
  by_cases hn : n = 0
  · subst hn; unfold Ieee.Toward.cut; simp
  unfold Ieee.Toward.cut
  have hl : (n * 2 ^ k).log2 = n.log2 + k := log2_shift hn k
  have : 0 < 2 ^ k := Nat.two_pow_pos k
  rw [hl, Nat.min_eq_left (by omega), Nat.one_shiftLeft]
  simp only [Nat.mul_mod_left, Nat.mul_div_cancel _ this]
  simp
theorem cut_tz (s : Bool) (n k : Nat) : Ieee.Toward.zero.cut s (n * 2 ^ k) k = n := by
  by_cases hn : n = 0
  · subst hn; unfold Ieee.Toward.cut; simp
  unfold Ieee.Toward.cut
  have hl : (n * 2 ^ k).log2 = n.log2 + k := log2_shift hn k
  have : 0 < 2 ^ k := Nat.two_pow_pos k
  rw [hl, Nat.min_eq_left (by omega), Nat.one_shiftLeft]
  simp only [Nat.mul_div_cancel _ this]
  simp
theorem log_lt {m : Nat} (hm : m ≠ 0) (h : m < 9007199254740992) : m.log2 ≤ 52 := by
  have := (Nat.log2_lt hm (k := 53)).mpr h
  omega
theorem near_rung (s : Bool) {m : Nat} (hm : m ≠ 0) (h : m < 9007199254740992) (k : Nat) :
    Ieee.double.nearest s (m * 2 ^ k) (-(k : Int)) = Ieee.double.word s ((m.log2 + 1022) * 4503599627370496 + m * 2 ^ (52 - m.log2)) := by
  have hl := log_lt hm h
  have h0 : m * 2 ^ k ≠ 0 := by
    have hp : 0 < 2 ^ k := Nat.two_pow_pos k
    intro h; rcases Nat.mul_eq_zero.mp h with h | h <;> omega
  unfold Ieee.Format.nearest
  rw [if_neg h0, log2_shift hm k, double_least, double_binade, double_inf]
  have hf : Ieee.double.fractionBits = 52 := rfl
  rw [hf]
  have hlast : max (-(k : Int) + ((m.log2 + k : Nat) : Int) - ((52 : Nat) : Int)) (-1074) = -((52 - m.log2 : Nat) : Int) := by omega
  simp only [hlast]
  generalize hc : 52 - m.log2 = c
  have hk : Ieee.Toward.even.cut s ((m * 2 ^ k) <<< (-(k : Int) - -(c : Int)).toNat) (-(c : Int) - -(k : Int)).toNat = m * 2 ^ c := by
    by_cases hck : k ≤ c
    · rw [show (-(c : Int) - -(k : Int)).toNat = 0 by omega, show (-(k : Int) - -(c : Int)).toNat = c - k by omega, cut_zero, Nat.shiftLeft_eq, Nat.mul_assoc, ← Nat.pow_add, show k + (c - k) = c by omega]
    · rw [show (-(c : Int) - -(k : Int)).toNat = k - c by omega, show (-(k : Int) - -(c : Int)).toNat = 0 by omega, Nat.shiftLeft_zero, show m * 2 ^ k = m * 2 ^ c * 2 ^ (k - c) by rw [Nat.mul_assoc, ← Nat.pow_add, show c + (k - c) = k by omega], cut_even]
  rw [hk]
  have hb : m * 2 ^ c < 9007199254740992 := by
    have h2 := @Nat.lt_log2_self m
    have : m * 2 ^ c < 2 ^ (m.log2 + 1) * 2 ^ c := Nat.mul_lt_mul_of_pos_right h2 (Nat.two_pow_pos c)
    rw [← Nat.pow_add, show m.log2 + 1 + c = 53 by omega] at this
    exact this
  congr 1
  rw [show (-(c : Int) - -1074).toNat = m.log2 + 1022 by omega]
  omega
theorem near_same (s : Bool) {m : Nat} (h : m < 9007199254740992) (k : Nat) : Ieee.double.nearest s (m * 2 ^ k) (-(k : Int)) = W64 s m := by
  by_cases hm : m = 0
  · subst hm; simp [W64, Ieee.Format.nearest]
  · rw [near_rung s hm h k]
    have := near_rung s hm h 0
    simp only [Nat.pow_zero, Nat.mul_one, Int.natCast_zero, Int.neg_zero] at this
    exact this.symm
/-- a datum that is a whole number. -/
def isD (d : Ieee.Datum) (s : Bool) (m : Nat) : Prop := ∃ k : Nat, d = .number s (m * 2 ^ k) (-(k : Int))
theorem W64_word (s : Bool) {m : Nat} (hm : m ≠ 0) (h : m < 9007199254740992) : W64 s m = Ieee.double.word s ((m.log2 + 1022) * 4503599627370496 + m * 2 ^ (52 - m.log2)) := by
  rw [← near_same s h 0]; exact near_rung s hm h 0
theorem kept_bounds {m : Nat} (hm : m ≠ 0) (h : m < 9007199254740992) : 4503599627370496 ≤ m * 2 ^ (52 - m.log2) ∧ m * 2 ^ (52 - m.log2) < 9007199254740992 := by
  have hl := log_lt hm h
  generalize hc : 52 - m.log2 = c
  have h1 := Nat.log2_self_le hm
  have h2 := @Nat.lt_log2_self m
  constructor
  · have : 2 ^ m.log2 * 2 ^ c ≤ m * 2 ^ c := Nat.mul_le_mul_right _ h1
    rw [← Nat.pow_add, show m.log2 + c = 52 by omega] at this
    exact this
  · have : m * 2 ^ c < 2 ^ (m.log2 + 1) * 2 ^ c := Nat.mul_lt_mul_of_pos_right h2 (Nat.two_pow_pos c)
    rw [← Nat.pow_add, show m.log2 + 1 + c = 53 by omega] at this
    exact this
theorem word_read (s : Bool) {r : Nat} (h : r < 9223372036854775808) : Ieee.double.word s r / 9223372036854775808 % 2 = s.toNat ∧ Ieee.double.word s r % 9223372036854775808 = r := by
  unfold Ieee.Format.word
  rw [double_sign]
  cases s
  · simp; omega
  · simp; omega
theorem read_W64 (s : Bool) {m : Nat} (h : m < 9007199254740992) : isD (Ieee.double.read (W64 s m)) s m := by
  by_cases hm : m = 0
  · subst hm
    obtain ⟨k, hk⟩ : ∃ k : Nat, k = 1074 := ⟨_, rfl⟩
    refine ⟨k, ?_⟩
    have : W64 s 0 = Ieee.double.word s 0 := by simp [W64, Ieee.Format.nearest]
    rw [this]
    rw [Nat.zero_mul, hk]; cases s <;> decide
  · have hl := log_lt hm h
    obtain ⟨b1, b2⟩ := kept_bounds hm h
    rw [W64_word s hm h]
    refine ⟨52 - m.log2, ?_⟩
    obtain ⟨r1, r2⟩ := word_read s (r := (m.log2 + 1022) * 4503599627370496 + m * 2 ^ (52 - m.log2)) (by omega)
    unfold Ieee.Format.read
    rw [double_sign, double_binade, double_inf, double_least, r1, r2]
    simp only []
    rw [if_neg (by omega), if_pos (by omega)]
    have e1 : ((m.log2 + 1022) * 4503599627370496 + m * 2 ^ (52 - m.log2)) % 4503599627370496 = m * 2 ^ (52 - m.log2) - 4503599627370496 := by omega
    have e2 : ((m.log2 + 1022) * 4503599627370496 + m * 2 ^ (52 - m.log2)) / 4503599627370496 = m.log2 + 1023 := by omega
    rw [e1, e2]
    have e3 : (s.toNat == 1) = s := by cases s <;> rfl
    rw [e3]
    rw [show 4503599627370496 + (m * 2 ^ (52 - m.log2) - 4503599627370496) = m * 2 ^ (52 - m.log2) by omega, show (-1074 + ((m.log2 + 1023 - 1 : Nat) : Int)) = -((52 - m.log2 : Nat) : Int) by omega]
/-- what a sign and a magnitude are. -/
def sv (s : Bool) (m : Nat) : Int := if s then -(m : Int) else m
/-- a word that is a whole number. -/
def isF (b : Nat) (n : Int) : Prop := ∃ s m, m < 9007199254740992 ∧ b = W64 s m ∧ n = sv s m
theorem isF_near {n : Int} (h : n.natAbs < 9007199254740992) : isF (FloatKind.f64.nearest n) n := by
  refine ⟨decide (n < 0), n.natAbs, h, rfl, ?_⟩
  unfold sv
  by_cases h : n < 0
  · rw [if_pos (by simpa using h)]; omega
  · rw [if_neg (by simpa using h)]; omega
theorem write_isD {d : Ieee.Datum} {s : Bool} {m : Nat} (h : isD d s m) (hm : m < 9007199254740992) : Ieee.double.write d = W64 s m := by
  obtain ⟨k, rfl⟩ := h
  exact near_same s hm k
theorem signed_sv (s : Bool) (m j : Nat) : Ieee.signed s m j = sv s m * 2 ^ j := by
  unfold Ieee.signed sv
  rw [Nat.shiftLeft_eq]
  cases s
  · simp
  · simp; rw [Int.neg_mul]
theorem sv_pow (s : Bool) (m j : Nat) : sv s (m * 2 ^ j) = sv s m * 2 ^ j := by
  unfold sv; cases s
  · simp
  · simp; rw [Int.neg_mul]
theorem sum_isD {d e : Ieee.Datum} {s t : Bool} {m n : Nat} (hd : isD d s m) (he : isD e t n) : ∃ f u, d.sum e = some f ∧ isD f u (sv s m + sv t n).natAbs ∧ sv u (sv s m + sv t n).natAbs = sv s m + sv t n := by
  obtain ⟨k, rfl⟩ := hd
  obtain ⟨j, rfl⟩ := he
  unfold Ieee.Datum.sum
  simp only []
  have hb : min (-(k : Int)) (-(j : Int)) = -((max k j : Nat) : Int) := by omega
  rw [hb, signed_sv, signed_sv, sv_pow, sv_pow, Int.mul_assoc, Int.mul_assoc, ← Int.pow_add, ← Int.pow_add,
    show k + (-(k : Int) - -((max k j : Nat) : Int)).toNat = max k j by omega, show j + (-(j : Int) - -((max k j : Nat) : Int)).toNat = max k j by omega, ← Int.add_mul]
  generalize sv s m + sv t n = x
  generalize max k j = M
  have hp : (0 : Int) < 2 ^ M := Int.pow_pos (by omega)
  refine ⟨_, (if x * 2 ^ M = 0 then s && t else decide (x * 2 ^ M < 0)), rfl, ⟨M, ?_⟩, ?_⟩
  · rw [Int.natAbs_mul, Int.natAbs_pow]; rfl
  · by_cases h0 : x = 0
    · subst h0; simp [sv]
    · have h1 : x * 2 ^ M ≠ 0 := by
        intro h; rcases Int.mul_eq_zero.mp h with h | h <;> omega
      rw [if_neg h1]
      unfold sv
      by_cases hx : x < 0
      · have : x * 2 ^ M < 0 := Int.mul_neg_of_neg_of_pos hx hp
        rw [if_pos (by simpa using this)]; omega
      · have : ¬ x * 2 ^ M < 0 := by
          have := Int.mul_nonneg (show 0 ≤ x by omega) (Int.le_of_lt hp)
          omega
        rw [if_neg (by simpa using this)]; omega
theorem fadd_ok {a b : Nat} {x y : Int} (ha : isF a x) (hb : isF b y) (h : (x + y).natAbs < 9007199254740992) : ∃ c, fArith .add .f64 a b = some c ∧ isF c (x + y) := by
  obtain ⟨s, m, hm, rfl, rfl⟩ := ha
  obtain ⟨t, n, hn, rfl, rfl⟩ := hb
  obtain ⟨f, u, h1, h2, h3⟩ := sum_isD (read_W64 s hm) (read_W64 t hn)
  refine ⟨W64 u (sv s m + sv t n).natAbs, ?_, u, _, h, rfl, h3.symm⟩
  show (((Ieee.double.read (W64 s m)).sum (Ieee.double.read (W64 t n))).map Ieee.double.write) = _
  rw [h1, Option.map_some, write_isD h2 h]
theorem isD_opp {d : Ieee.Datum} {s : Bool} {m : Nat} (h : isD d s m) : isD d.opposite (!s) m := by
  obtain ⟨k, rfl⟩ := h; exact ⟨k, rfl⟩
theorem sv_not (s : Bool) (m : Nat) : sv (!s) m = - sv s m := by cases s <;> simp [sv]
theorem fsub_ok {a b : Nat} {x y : Int} (ha : isF a x) (hb : isF b y) (h : (x - y).natAbs < 9007199254740992) : ∃ c, fArith .sub .f64 a b = some c ∧ isF c (x - y) := by
  obtain ⟨s, m, hm, rfl, rfl⟩ := ha
  obtain ⟨t, n, hn, rfl, rfl⟩ := hb
  obtain ⟨f, u, h1, h2, h3⟩ := sum_isD (read_W64 s hm) (isD_opp (read_W64 t hn))
  rw [sv_not, ← Int.sub_eq_add_neg] at h2 h3
  refine ⟨W64 u (sv s m - sv t n).natAbs, ?_, u, _, h, rfl, h3.symm⟩
  show (((Ieee.double.read (W64 s m)).sum (Ieee.double.read (W64 t n)).opposite).map Ieee.double.write) = _
  rw [h1, Option.map_some, write_isD h2 h]
theorem sv_mul (s t : Bool) (m n : Nat) : sv s m * sv t n = sv (s ^^ t) (m * n) := by cases s <;> cases t <;> simp [sv, Int.neg_mul, Int.mul_neg]
theorem fmul_ok {a b : Nat} {x y : Int} (ha : isF a x) (hb : isF b y) (h : (x * y).natAbs < 9007199254740992) : ∃ c, fArith .mul .f64 a b = some c ∧ isF c (x * y) := by
  obtain ⟨s, m, hm, rfl, rfl⟩ := ha
  obtain ⟨t, n, hn, rfl, rfl⟩ := hb
  obtain ⟨k, hk⟩ := read_W64 s hm
  obtain ⟨j, hj⟩ := read_W64 t hn
  have hmn : m * n < 9007199254740992 := by
    rw [sv_mul] at h
    unfold sv at h
    split at h <;> omega
  refine ⟨W64 (s ^^ t) (m * n), ?_, s ^^ t, m * n, hmn, rfl, sv_mul s t m n⟩
  show (((Ieee.double.read (W64 s m)).product (Ieee.double.read (W64 t n))).map Ieee.double.write) = _
  rw [hk, hj]
  unfold Ieee.Datum.product
  simp only [Option.map_some]
  refine congrArg some (write_isD ⟨k + j, ?_⟩ hmn)
  congr 1
  · rw [Nat.pow_add]; ac_rfl
  · omega
theorem word_neg (s : Bool) {r : Nat} (h : r < 9223372036854775808) : Ieee.double.word s r ^^^ 9223372036854775808 = Ieee.double.word (!s) r := by
  have e : (9223372036854775808 : Nat) = 2 ^ 63 := by decide
  have key : r ^^^ 2 ^ 63 = 2 ^ 63 + r := by
    rw [show 2 ^ 63 + r = 2 ^ 63 * 1 + r by omega, Nat.two_pow_add_eq_or_of_lt (by rw [← e]; exact h), Nat.mul_one]
    apply Nat.eq_of_testBit_eq
    intro i
    rw [Nat.testBit_xor, Nat.testBit_or, Nat.testBit_two_pow]
    by_cases hi : 63 = i
    · subst hi
      have : r.testBit 63 = false := Nat.testBit_lt_two_pow (by rw [← e]; exact h)
      simp [this]
    · simp [hi]
  unfold Ieee.Format.word
  rw [double_sign, e]
  cases s
  · simp [key]
  · simp only [Bool.not_true, if_true, Bool.false_eq_true, if_false]
    rw [← key, Nat.xor_assoc, Nat.xor_self, Nat.xor_zero]
theorem fneg_ok {a : Nat} {x : Int} (ha : isF a x) : isF (Op.negFloat .f64 a) (-x) := by
  obtain ⟨s, m, hm, rfl, rfl⟩ := ha
  refine ⟨!s, m, hm, ?_, (sv_not s m).symm⟩
  have e : Op.negFloat .f64 (W64 s m) = W64 s m ^^^ 9223372036854775808 := rfl
  rw [e]
  by_cases h0 : m = 0
  · subst h0
    have h : ∀ s, W64 s 0 = Ieee.double.word s 0 := fun s => by simp [W64, Ieee.Format.nearest]
    rw [h, h, word_neg s (by omega)]
  · have hl := log_lt h0 hm
    obtain ⟨b1, b2⟩ := kept_bounds h0 hm
    rw [W64_word s h0 hm, W64_word (!s) h0 hm, word_neg s (by omega)]
theorem f2i_ok {a : Nat} {x : Int} (ha : isF a x) : f2i .i64 a = some x := by
  obtain ⟨s, m, hm, rfl, rfl⟩ := ha
  obtain ⟨k, hk⟩ := read_W64 s hm
  unfold f2i
  have e : (FloatKind.f64.decode (W64 s m)).toInt .zero = some (sv s m) := by
    show (Ieee.double.read (W64 s m)).toInt .zero = _
    rw [hk]
    unfold Ieee.Datum.toInt Ieee.Datum.integral
    simp only []
    rw [show (-(k : Int)).toNat = 0 by omega, Nat.shiftLeft_zero, show (-(-(k : Int))).toNat = k by omega, cut_tz]
    unfold Ieee.signed sv; simp
  rw [e]
  have e1 : IntKind.i64.min = -9223372036854775808 := by decide
  have e2 : IntKind.i64.max = 9223372036854775807 := by decide
  simp only []
  rw [e1, e2, if_pos]
  unfold sv; split <;> omega
theorem cmul_ok {a b c d : Nat} {x y z w : Int} (ha : isF a x) (hb : isF b y) (hc : isF c z) (hd : isF d w) (h1 : (x * z).natAbs < 4503599627370496) (h2 : (y * w).natAbs < 4503599627370496) (h3 : (x * w).natAbs < 4503599627370496) (h4 : (y * z).natAbs < 4503599627370496) :
    ∃ r, cMul .f64 a b c d = some r ∧ isF r.1 (x * z - y * w) ∧ isF r.2 (x * w + y * z) := by
  obtain ⟨p, hp, ip⟩ := fmul_ok ha hc (by omega)
  obtain ⟨q, hq, iq⟩ := fmul_ok hb hd (by omega)
  obtain ⟨r, hr, ir⟩ := fmul_ok ha hd (by omega)
  obtain ⟨s, hs, is⟩ := fmul_ok hb hc (by omega)
  obtain ⟨u, hu, iu⟩ := fsub_ok ip iq (by omega)
  obtain ⟨v, hv, iv⟩ := fadd_ok ir is (by omega)
  exact ⟨(u, v), by unfold cMul; simp only [hp, hq, hr, hs, hu, hv], iu, iv⟩
theorem rt_eq (t : Int) : M.plane_right t = some (t % 4) := by
  have h1 := Int.tmod_lt_of_pos t (show (0 : Int) < 4 by omega)
  have h3 := Int.tmod_lt_of_pos (-t) (show (0 : Int) < 4 by omega)
  have h4 := Int.neg_tmod t 4
  unfold M.plane_right
  rw [w64_id (by omega) (by omega), Int.tmod_eq_emod_of_nonneg (by omega)]
  have h5 : Int.tmod t 4 = t % 4 ∨ Int.tmod t 4 = t % 4 - 4 := by
    rw [Int.tmod_eq_emod]
    split
    · left; omega
    · right; simp
  rcases h5 with h | h <;> rw [h] <;> congr 1 <;> omega

theorem isF_zero : isF 0 0 := ⟨false, 0, by omega, by decide, by decide⟩
theorem isF_one : isF 4607182418800017408 1 := ⟨false, 1, by omega, by decide, by decide⟩
theorem isF_mone : isF 13830554455654793216 (-1) := ⟨true, 1, by omega, by decide, by decide⟩
def fl (f : Bool) (R i : Nat) : Nat := if f then R - 1 - i else i
def tI (t R C i k : Nat) : Nat := if t = 0 then i else if t = 1 then C - 1 - k else if t = 2 then R - 1 - i else k
def tK (t R C i k : Nat) : Nat := if t = 0 then k else if t = 1 then i else if t = 2 then C - 1 - k else R - 1 - i
def sI (t R C i k : Nat) : Nat := if t = 0 then i else if t = 1 then k else if t = 2 then R - 1 - i else R - 1 - k
def sK (t R C i k : Nat) : Nat := if t = 0 then k else if t = 1 then C - 1 - i else if t = 2 then C - 1 - k else i
def tR (t R C : Nat) : Nat := if t % 2 = 1 then C else R
def tC (t R C : Nat) : Nat := if t % 2 = 1 then R else C
def cell (l : List Int) (C i k : Nat) : Int := (l[i * C + k]?).getD 0
/-- a matrix, turned. -/
def pA (f : Bool) (t R C : Nat) (l : List Int) : List Int := tab (tR t R C) (tC t R C) fun i k => cell l C (fl f R (sI t R C i k)) (sK t R C i k)
theorem tRC (t R C : Nat) : tR t R C * tC t R C = R * C := by unfold tR tC; split <;> simp [Nat.mul_comm]
theorem pA_len (f : Bool) (t R C : Nat) (l : List Int) : (pA f t R C l).length = R * C := by unfold pA; rw [tab_len, tRC]
theorem t_cases {t : Nat} (h : t < 4) : t = 0 ∨ t = 1 ∨ t = 2 ∨ t = 3 := by omega
theorem to_in {t R C i k : Nat} (f : Bool) (ht : t < 4) (hi : i < R) (hk : k < C) : tI t R C (fl f R i) k < tR t R C ∧ tK t R C (fl f R i) k < tC t R C := by
  rcases t_cases ht with rfl | rfl | rfl | rfl <;> cases f <;> simp [tI, tK, tR, tC, fl] <;> omega
theorem of_in {t R C i k : Nat} (f : Bool) (ht : t < 4) (hi : i < tR t R C) (hk : k < tC t R C) : fl f R (sI t R C i k) < R ∧ sK t R C i k < C ∧ tI t R C (fl f R (fl f R (sI t R C i k))) (sK t R C i k) = i ∧ tK t R C (fl f R (fl f R (sI t R C i k))) (sK t R C i k) = k := by
  rcases t_cases ht with rfl | rfl | rfl | rfl <;> cases f <;> simp [tI, tK, tR, tC, fl, sI, sK] at * <;> omega
theorem to_inj {t R C i k i' k' : Nat} (f : Bool) (ht : t < 4) (hi : i < R) (hk : k < C) (hi' : i' < R) (hk' : k' < C) (h1 : tI t R C (fl f R i) k = tI t R C (fl f R i') k') (h2 : tK t R C (fl f R i) k = tK t R C (fl f R i') k') : i = i' ∧ k = k' := by
  rcases t_cases ht with rfl | rfl | rfl | rfl <;> cases f <;> simp [tI, tK, fl] at h1 h2 <;> omega
theorem unit_ok (turn : Int) : ∃ u : Nat × Nat, M.plane_unit turn = some u ∧ ∃ t : Nat, t < 4 ∧ turn % 4 = t ∧ isF u.1 (if t = 0 then 1 else if t = 2 then -1 else 0) ∧ isF u.2 (if t = 1 then 1 else if t = 3 then -1 else 0) := by
  unfold M.plane_unit
  rw [rt_eq]
  have h0 := Int.emod_nonneg turn (show (4 : Int) ≠ 0 by omega)
  have h1 := Int.emod_lt_of_pos turn (show (0 : Int) < 4 by omega)
  have : turn % 4 = 0 ∨ turn % 4 = 1 ∨ turn % 4 = 2 ∨ turn % 4 = 3 := by omega
  rcases this with h | h | h | h <;> rw [h]
  · exact ⟨_, rfl, 0, by omega, rfl, isF_one, isF_zero⟩
  · exact ⟨_, rfl, 1, by omega, rfl, isF_zero, isF_one⟩
  · exact ⟨_, rfl, 2, by omega, rfl, isF_mone, isF_zero⟩
  · exact ⟨_, rfl, 3, by omega, rfl, isF_zero, isF_mone⟩
/-- where a place goes. -/
theorem to_ok {turn : Int} {f : Bool} {R C i k : Nat} (hR : R ≤ 10000) (hC : C ≤ 10000) (hi : i < R) (hk : k < C) : ∃ t : Nat, t < 4 ∧ turn % 4 = t ∧
    ((M.plane_place (R : Int) (C : Int) (i : Int) (k : Int)).bind fun r3 => (M.plane_Sym_takes ⟨turn, f⟩ (r3.1, r3.2)).bind fun r4 => M.plane_offset (tR t R C : Int) (tC t R C : Int) (r4.1, r4.2)) =
      some ((tI t R C (fl f R i) k * tC t R C + tK t R C (fl f R i) k : Nat) : Int) := by
  obtain ⟨u, hu, t, ht, htt, u1, u2⟩ := unit_ok turn
  refine ⟨t, ht, htt, ?_⟩
  unfold M.plane_place
  rw [w64_id (x := 2 * (k : Int)) (by omega) (by omega), w64_id (x := (C : Int) - 1) (by omega) (by omega), w64_id (x := (R : Int) - 1) (by omega) (by omega), w64_id (x := 2 * (i : Int)) (by omega) (by omega), w64_id (by omega) (by omega), w64_id (by omega) (by omega)]
  simp only [Option.bind_some]
  have z1 : isF (FloatKind.f64.nearest (2 * (k : Int) - ((C : Int) - 1))) (2 * (k : Int) - ((C : Int) - 1)) := isF_near (by omega)
  have z2 : isF (FloatKind.f64.nearest ((R : Int) - 1 - 2 * (i : Int))) ((R : Int) - 1 - 2 * (i : Int)) := isF_near (by omega)
  generalize FloatKind.f64.nearest (2 * (k : Int) - ((C : Int) - 1)) = a at z1
  generalize FloatKind.f64.nearest ((R : Int) - 1 - 2 * (i : Int)) = b at z2
  unfold M.plane_Sym_takes
  have hc : ∃ z : Nat × Nat, (if f = true then (M.plane_conjugate (a, b)).bind fun r1 => some r1 else some (a, b)) = some z ∧ isF z.1 (2 * (k : Int) - ((C : Int) - 1)) ∧ isF z.2 ((R : Int) - 1 - 2 * (fl f R i : Nat)) := by
    cases f with
    | false => exact ⟨_, rfl, z1, z2⟩
    | true =>
      refine ⟨_, rfl, z1, ?_⟩
      have := fneg_ok z2
      have e : (R : Int) - 1 - 2 * ((fl true R i : Nat) : Int) = -((R : Int) - 1 - 2 * (i : Int)) := by unfold fl; simp only [if_true]; omega
      rw [e]; exact this
  obtain ⟨z, hz, y1, y2⟩ := hc
  simp only [hz, hu, Option.bind_some]
  have hfl : fl f R i < R := by unfold fl; split <;> omega
  generalize fl f R i = j at y2 hfl ⊢
  obtain ⟨r, hr, r1, r2⟩ := cmul_ok u1 u2 y1 y2 (by split <;> (try split) <;> omega) (by split <;> (try split) <;> omega) (by split <;> (try split) <;> omega) (by split <;> (try split) <;> omega)
  rw [hr]
  unfold M.plane_offset
  simp only [Option.bind_some, f2i_ok r1, f2i_ok r2]
  have fin : ∀ (R' C' : Nat) (x y : Int) (i' k' : Nat), i' < R' → k' < C' → R' ≤ 10000 → C' ≤ 10000 → (R' : Int) - 1 - y = 2 * i' → x + C' - 1 = 2 * k' →
      some (IntKind.i64.wrap ((IntKind.i64.wrap ((IntKind.i64.wrap (Int.tdiv (IntKind.i64.wrap ((IntKind.i64.wrap ((R' : Int) - 1)) - y)) 2)) * (C' : Int))) + (IntKind.i64.wrap (Int.tdiv (IntKind.i64.wrap ((IntKind.i64.wrap (x + (C' : Int))) - 1)) 2)))) = some ((i' * C' + k' : Nat) : Int) := by
    intro R' C' x y i' k' hi' hk' hR' hC' e1 e2
    have hp : i' * C' ≤ 10000 * 10000 := Nat.mul_le_mul (by omega) hC'
    rw [w64_id (x := (R' : Int) - 1) (by omega) (by omega), w64_id (x := x + C') (by omega) (by omega), e1, e2, w64_id (x := 2 * (i' : Int)) (by omega) (by omega), w64_id (x := 2 * (k' : Int)) (by omega) (by omega),
      Int.mul_tdiv_cancel_left _ (by omega), Int.mul_tdiv_cancel_left _ (by omega), w64_id (x := (i' : Int)) (by omega) (by omega), w64_id (x := (k' : Int)) (by omega) (by omega),
      show (i' : Int) * (C' : Int) = ((i' * C' : Nat) : Int) by simp, w64_id (x := ((i' * C' : Nat) : Int)) (by omega) (by omega), w64_id (by omega) (by omega)]
    congr 1
  refine fin _ _ _ _ _ _ ?_ ?_ ?_ ?_ ?_ ?_
  all_goals (rcases t_cases ht with rfl | rfl | rfl | rfl <;> simp [tI, tK, tR, tC] <;> omega)
theorem plane_Apply_eq {v : Val} {turn : Int} {f : Bool} {R C : Nat} (hs : v.Shape = [(R : Int), (C : Int)]) (hr : vRight v = true) :
    ∃ t : Nat, t < 4 ∧ turn % 4 = t ∧ M.plane_Apply ⟨turn, f⟩ v = some (⟨v.Char, [(tR t R C : Int), (tC t R C : Int)], pA f t R C v.Data⟩, 0) := by
  obtain ⟨t, ht, htt⟩ : ∃ t : Nat, t < 4 ∧ turn % 4 = t := ⟨(turn % 4).toNat, by omega, by omega⟩
  refine ⟨t, ht, htt, ?_⟩
  obtain ⟨⟨_, hsb, hpb⟩, hp, _⟩ := vRight_iff.mp hr
  rw [hs] at hsb hpb hp
  have bR := hsb R (by simp)
  have bC := hsb C (by simp)
  have ep : prod [(R : Int), (C : Int)] = ((R * C : Nat) : Int) := by simp [prod]
  rw [ep] at hp hpb
  have hl : v.Data.length = R * C := by omega
  unfold M.plane_Apply
  rw [value_Right_eq (by omega), hr, rt_eq]
  simp only [Option.bind_some, Bool.not_true, Bool.false_eq_true, if_false, hs]
  rw [if_neg (by simp)]
  rw [show idx [(R : Int), (C : Int)] 0 = some (R : Int) from rfl, show idx [(R : Int), (C : Int)] 1 = some (C : Int) from rfl]
  simp only [Option.bind_some]
  rw [mk_ok (by omega) (by omega)]
  simp only [Option.bind_some, htt]
  have esh : (if (Int.tmod (t : Int) 2 == 1) = true then some [(C : Int), (R : Int)] else some [(R : Int), (C : Int)]) = some [(tR t R C : Int), (tC t R C : Int)] := by
    rcases t_cases ht with rfl | rfl | rfl | rfl <;> rfl
  rw [esh]
  simp only [Option.bind_some]
  have key := loop_up (f := M.plane_Apply_L1 ⟨turn, f⟩ v (R : Int) (C : Int) [(tR t R C : Int), (tC t R C : Int)]) (fun k (m : List Int) => ((k : Int), m)) R
    (fun k m => m.length = R * C ∧ ∀ a b, a < k → a < R → b < C → m[tI t R C (fl f R a) b * tC t R C + tK t R C (fl f R a) b]? = some (cell v.Data C a b)) (fun m => .next m) (List.replicate v.Data.length 0) ⟨by simp [hl], fun a b h => by omega⟩ (fun i m hi ⟨hm, hI⟩ => by
      have key2 := loop_up (f := M.plane_Apply_L2 ⟨turn, f⟩ v (R : Int) (C : Int) [(tR t R C : Int), (tC t R C : Int)] (i : Int)) (fun k (m : List Int) => ((k : Int), m)) C
        (fun k m => m.length = R * C ∧ ∀ a b, (a < i ∨ a = i ∧ b < k) → a < R → b < C → m[tI t R C (fl f R a) b * tC t R C + tK t R C (fl f R a) b]? = some (cell v.Data C a b)) (fun m => .next m) m ⟨hm, fun a b h => hI a b (by omega)⟩ (fun k m hk ⟨hm, hI⟩ => by
          obtain ⟨t', _, htt', e⟩ := to_ok (turn := turn) (f := f) (show R ≤ 10000 by omega) (show C ≤ 10000 by omega) hi hk
          obtain rfl : t' = t := by omega
          have hd1 := to_in f ht hi hk
          have hdl := lin_lt hd1.1 hd1.2
          rw [tRC] at hdl
          generalize hd : tI t' R C (fl f R i) k * tC t' R C + tK t' R C (fl f R i) k = d at e hdl
          have hsrc := lin_lt hi hk
          have hp2 : i * C ≤ 10000 * 10000 := Nat.mul_le_mul (by omega) (by omega)
          refine ⟨m.set d (cell v.Data C i k), ?_, by simp [hm], fun a b hab ha hb => ?_⟩
          · unfold M.plane_Apply_L2
            simp only [show decide ((k : Int) < (C : Int)) = true from decide_eq_true (by omega), if_true]
            rw [show idx [(tR t' R C : Int), (tC t' R C : Int)] 0 = some (tR t' R C : Int) from rfl, show idx [(tR t' R C : Int), (tC t' R C : Int)] 1 = some (tC t' R C : Int) from rfl]
            simp only [Option.bind_some]
            cases h3 : M.plane_place (R : Int) (C : Int) (i : Int) (k : Int) with
            | none => rw [h3] at e; cases e
            | some r3 =>
              rw [h3] at e
              simp only [Option.bind_some] at e ⊢
              cases h4 : M.plane_Sym_takes ⟨turn, f⟩ (r3.1, r3.2) with
              | none => rw [h4] at e; cases e
              | some r4 =>
                rw [h4] at e
                simp only [Option.bind_some] at e ⊢
                rw [e]
                simp only [Option.bind_some]
                rw [show (i : Int) * (C : Int) = ((i * C : Nat) : Int) by simp, w64_id (x := ((i * C : Nat) : Int)) (by omega) (by omega), w64_id (by omega) (by omega), show ((i * C : Nat) : Int) + (k : Int) = ((i * C + k : Nat) : Int) by omega, idx_get (show i * C + k < v.Data.length by omega), idx_get (show d < m.length by omega)]
                simp only [Option.bind_some]
                rw [upd_nat (by omega), w64_id (by omega) (by omega)]
                have : cell v.Data C i k = v.Data[i * C + k] := by unfold cell; rw [List.getElem?_eq_getElem (by omega)]; rfl
                rw [this]; rfl
          · by_cases hsame : a = i ∧ b = k
            · obtain ⟨rfl, rfl⟩ := hsame
              rw [hd, List.getElem?_set_self (by omega)]
            · rw [List.getElem?_set_ne (fun h => hsame ?_)]
              · exact hI a b (by omega) ha hb
              · have hab := to_in f ht ha hb
                rw [← hd] at h
                obtain ⟨q1, q2⟩ := lin_inj hd1.2 hab.2 h
                have := to_inj f ht hi hk ha hb q1 q2
                omega) (fun m _ => by unfold M.plane_Apply_L2; simp)
      obtain ⟨m', ⟨h1, h2⟩, h3⟩ := key2
      refine ⟨m', ?_, h1, fun a b h ha hb => h2 a b (by omega) ha hb⟩
      unfold M.plane_Apply_L1
      simp only [show decide ((i : Int) < (R : Int)) = true from decide_eq_true (by omega), if_true]
      rw [show ((0 : Int), m) = (((0 : Nat) : Int), m) from rfl, h3]
      simp only [Option.bind_some, joinK_next]
      rw [w64_id (by omega) (by omega)]; rfl) (fun m _ => by unfold M.plane_Apply_L1; simp)
  obtain ⟨m, ⟨h1, h2⟩, h3⟩ := key
  rw [show ((0 : Int), List.replicate v.Data.length (0 : Int)) = (((0 : Nat) : Int), List.replicate v.Data.length 0) from rfl, h3]
  simp only [Option.bind_some, joinK_next]
  have : m = pA f t R C v.Data := by
    refine tab_ext (by rw [h1, tRC]) (fun i k hi hk => ?_)
    obtain ⟨q1, q2, q3, q4⟩ := of_in f ht hi hk
    have := h2 _ _ q1 q1 q2
    rw [q3, q4] at this
    exact this
  rw [this]

theorem cell_tab {R C i k : Nat} (f : Nat → Nat → Int) (hi : i < R) (hk : k < C) : cell (tab R C f) C i k = f i k := by
  unfold cell; rw [tab_get f hi hk]; rfl
theorem tab_congr {R C : Nat} {f g : Nat → Nat → Int} (h : ∀ i k, i < R → k < C → f i k = g i k) : tab R C f = tab R C g :=
  tab_ext (tab_len R C f) fun i k hi hk => by rw [tab_get f hi hk, h i k hi hk]
/-- one behind the other. -/
theorem pA_comp {f g : Bool} {t u R C : Nat} (l : List Int) (ht : t < 4) (hu : u < 4) (w : Nat) (hw : w = (if g then 4 - t + u else t + u) % 4) :
    pA g u (tR t R C) (tC t R C) (pA f t R C l) = pA (!(f == g)) w R C l ∧ tR u (tR t R C) (tC t R C) = tR w R C ∧ tC u (tR t R C) (tC t R C) = tC w R C := by
  have h1 : tR u (tR t R C) (tC t R C) = tR w R C ∧ tC u (tR t R C) (tC t R C) = tC w R C := by
    subst hw
    rcases t_cases ht with rfl | rfl | rfl | rfl <;> rcases t_cases hu with rfl | rfl | rfl | rfl <;> cases g <;> exact ⟨rfl, rfl⟩
  refine ⟨?_, h1⟩
  unfold pA
  rw [h1.1, h1.2]
  refine tab_congr fun i k hi hk => ?_
  have hin := of_in g hu (R := tR t R C) (C := tC t R C) (i := i) (k := k) (by rw [h1.1]; exact hi) (by rw [h1.2]; exact hk)
  rw [cell_tab _ hin.1 hin.2.1]
  clear h1 hin
  have hw4 : w < 4 := by omega
  subst hw
  rcases t_cases ht with rfl | rfl | rfl | rfl <;> rcases t_cases hu with rfl | rfl | rfl | rfl <;> cases f <;> cases g <;> simp [sI, sK, tR, tC, fl] at * <;> (try (congr 1 <;> omega))
theorem cell_at {R C : Nat} {l : List Int} (hl : l.length = R * C) {i k : Nat} (hi : i < R) (hk : k < C) : l[i * C + k]? = some (cell l C i k) := by
  have := lin_lt hi hk
  unfold cell; rw [List.getElem?_eq_getElem (by omega)]; rfl
theorem pA_id {R C : Nat} {l : List Int} (hl : l.length = R * C) : pA false 0 R C l = l := by
  refine (tab_ext (by rw [tRC]; exact hl) fun i k hi hk => ?_).symm
  have hi' : i < R := hi
  have hk' : k < C := hk
  rw [show tC 0 R C = C from rfl, cell_at hl hi' hk']
  rfl
theorem pA_mem {f : Bool} {t R C : Nat} {l : List Int} (ht : t < 4) (hl : l.length = R * C) : ∀ x ∈ pA f t R C l, x ∈ l := by
  intro x hx
  unfold pA tab at hx
  rw [List.mem_map] at hx
  obtain ⟨p, hp, rfl⟩ := hx
  rw [List.mem_range] at hp
  have hc : 0 < tC t R C := by
    rcases Nat.eq_zero_or_pos (tC t R C) with h | h
    · rw [h] at hp; simp at hp
    · exact h
  have h1 : p / tC t R C < tR t R C := by rw [Nat.div_lt_iff_lt_mul hc]; exact hp
  obtain ⟨q1, q2, _, _⟩ := of_in f ht h1 (Nat.mod_lt p hc)
  exact List.mem_of_getElem? (cell_at hl q1 q2)
/-- a matrix that is right. -/
theorem mat_right {v : Val} {R C : Nat} (hs : v.Shape = [(R : Int), (C : Int)]) (hr : vRight v = true) : v.Data.length = R * C ∧ R ≤ 10000 ∧ C ≤ 10000 ∧ R * C ≤ 10000 := by
  obtain ⟨⟨_, hsb, hpb⟩, hp, _⟩ := vRight_iff.mp hr
  rw [hs] at hsb hpb hp
  have bR := hsb R (by simp)
  have bC := hsb C (by simp)
  have ep : prod [(R : Int), (C : Int)] = ((R * C : Nat) : Int) := by simp [prod]
  rw [ep] at hp hpb
  omega
theorem right_mat {v : Val} (hr : vRight v = true) (h2 : v.Shape.length = 2) : ∃ R C : Nat, v.Shape = [(R : Int), (C : Int)] := by
  obtain ⟨⟨_, hsb, hpb⟩, hp, _⟩ := vRight_iff.mp hr
  match h : v.Shape, h2 with
  | [a, b], _ =>
    rw [h] at hsb
    have b1 := hsb a (by simp)
    have b2 := hsb b (by simp)
    exact ⟨a.toNat, b.toNat, by rw [Int.toNat_of_nonneg b1.1, Int.toNat_of_nonneg b2.1]⟩
theorem pA_right {v : Val} {f : Bool} {t R C : Nat} (ht : t < 4) (hs : v.Shape = [(R : Int), (C : Int)]) (hr : vRight v = true) : vRight ⟨v.Char, [(tR t R C : Int), (tC t R C : Int)], pA f t R C v.Data⟩ = true := by
  obtain ⟨hl, bR, bC, bp⟩ := mat_right hs hr
  obtain ⟨_, _, hc⟩ := vRight_iff.mp hr
  have e1 : prod [(tR t R C : Int), (tC t R C : Int)] = ((R * C : Nat) : Int) := by rw [← tRC t R C]; simp [prod]
  refine vRight_iff.mpr ⟨⟨by simp, ?_, by rw [e1]; omega⟩, by rw [e1, pA_len], fun h c hcm => hc h c (pA_mem ht hl c hcm)⟩
  intro x hx
  have : x = (R : Int) ∨ x = (C : Int) := by
    rcases t_cases ht with rfl | rfl | rfl | rfl <;> simp [tR, tC] at hx <;> omega
  omega
theorem plane_Apply_bad {v : Val} {a : Sym} (hl : v.Data.length ≤ 1000000000) (hr : vRight v = false) : M.plane_Apply a v = some (⟨false, [], []⟩, 1) := by
  unfold M.plane_Apply
  rw [value_Right_eq (by omega), hr]; rfl
theorem plane_Apply_rank {v : Val} {a : Sym} (hr : vRight v = true) (h2 : v.Shape.length ≠ 2) : M.plane_Apply a v = some (⟨false, [], []⟩, 24) := by
  obtain ⟨⟨_, _, hpb⟩, hp, _⟩ := vRight_iff.mp hr
  unfold M.plane_Apply
  rw [value_Right_eq (by omega), hr]
  simp only [Option.bind_some, Bool.not_true, Bool.false_eq_true, if_false]
  rw [if_pos (by simp; omega)]
/-- a matrix written down row by row. -/
theorem rows_loop {β : Type} {f1 : Int → Int × List Int → Option (Ctl (Int × List Int) (Ctl (List Int) (Ctl (Int × List Int) (Ctl (List Int) β))))} {R C : Nat} {g : Nat → Nat → Int} (hb : R * C ≤ 10000)
    {f : Int × List Int → Option (Ctl (Int × List Int) (Ctl (List Int) β))} {row : Nat → Int} {last : Int}
    (h1 : ∀ i k, i < R → k < C → ∀ m : List Int, m.length ≤ 10000 → f1 (row i) ((k : Int), m) = some (.next ((k : Int) + 1, m ++ [g i k])))
    (h2 : ∀ i m, f1 (row i) ((C : Int), m) = some (.done (.next m)))
    (h3 : ∀ i, i < R → ∀ m, f (row i, m) = (wloop (f1 (row i)) (0, m)).bind fun k => joinK k fun m' => some (.next (row (i + 1), m')))
    (h4 : ∀ m, f (row R, m) = some (.done (.next m))) : wloop f (row 0, []) = some (.next (tab R C g)) := by
  have hl := tab_len R C g
  have tk : ∀ i k, i < R → k < C → (tab R C g).take (i * C + k) ++ [g i k] = (tab R C g).take (i * C + (k + 1)) := by
    intro i k hi hk
    have h := lin_lt hi hk
    have e := tab_get g hi hk
    rw [List.getElem?_eq_getElem (by omega)] at e
    rw [show i * C + (k + 1) = i * C + k + 1 by omega, List.take_succ_eq_append_getElem (by omega), Option.some.inj e]
  refine (loop_fun (f := f) (fun i => (row i, (tab R C g).take (i * C))) R (b := .next (tab R C g)) (fun i hi => ?_) ?_ : wloop f ((fun i => (row i, (tab R C g).take (i * C))) 0) = _) |> fun h => by simpa using h
  · rw [h3 i hi]
    have := loop_fun (f := f1 (row i)) (fun k => ((k : Int), (tab R C g).take (i * C + k))) C (b := .next ((tab R C g).take ((i + 1) * C))) (fun k hk => by
      rw [h1 i k hi hk _ (by rw [List.length_take]; omega), tk i k hi hk]; rfl) (by rw [h2, Nat.succ_mul])
    simp only [Nat.add_zero, Int.natCast_zero] at this
    rw [this]; rfl
  · rw [h4, List.take_of_length_le (by omega)]
theorem ref04_Mirror_eq {v : Val} {R C : Nat} (hs : v.Shape = [(R : Int), (C : Int)]) (hr : vRight v = true) : M.anamnesisref04_Mirror v = some ⟨v.Char, [(R : Int), (C : Int)], pA true 0 R C v.Data⟩ := by
  obtain ⟨hl, bR, bC, bp⟩ := mat_right hs hr
  unfold M.anamnesisref04_Mirror
  rw [hs, show idx [(R : Int), (C : Int)] 0 = some (R : Int) from rfl, show idx [(R : Int), (C : Int)] 1 = some (C : Int) from rfl]
  simp only [Option.bind_some]
  have key := rows_loop (f := M.anamnesisref04_Mirror_L1 v (C : Int)) (f1 := fun i => M.anamnesisref04_Mirror_L2 v (C : Int) i) (R := R) (C := C) (g := fun i k => cell v.Data C (R - 1 - i) k) (row := fun i => (R : Int) - 1 - i) (last := 0) bp (fun i k hi hk m hm => by
    have hsrc := lin_lt (show R - 1 - i < R by omega) hk
    have e := cell_at hl (show R - 1 - i < R by omega) hk
    unfold M.anamnesisref04_Mirror_L2
    simp only [show decide ((k : Int) < (C : Int)) = true from decide_eq_true (by omega), if_true]
    rw [show ((R : Int) - 1 - (i : Int)) = ((R - 1 - i : Nat) : Int) by omega, show ((R - 1 - i : Nat) : Int) * (C : Int) = (((R - 1 - i) * C : Nat) : Int) by simp, w64_id (x := (((R - 1 - i) * C : Nat) : Int)) (by omega) (by omega), w64_id (by omega) (by omega),
      show (((R - 1 - i) * C : Nat) : Int) + (k : Int) = (((R - 1 - i) * C + k : Nat) : Int) by omega, idx_nat, e]
    simp only [Option.bind_some]
    rw [app_ok (by simp; omega), w64_id (by omega) (by omega)]; rfl) (fun i m => by unfold M.anamnesisref04_Mirror_L2; simp) (fun i hi m => by
    unfold M.anamnesisref04_Mirror_L1
    simp only [show decide ((R : Int) - 1 - (i : Int) ≥ 0) = true from decide_eq_true (by omega), if_true]
    rw [w64_id (by omega) (by omega), show (R : Int) - 1 - (i : Int) - 1 = (R : Int) - 1 - ((i + 1 : Nat) : Int) by omega]) (fun m => by
    unfold M.anamnesisref04_Mirror_L1
    simp only [show decide ((R : Int) - 1 - (R : Int) ≥ 0) = false from decide_eq_false (by omega), Bool.false_eq_true, if_false])
  rw [w64_id (by omega) (by omega)]
  simp only [Int.natCast_zero, Int.sub_zero] at key
  rw [key]
  simp only [Option.bind_some, joinK_next]
  rfl
theorem ref04_Quarter_eq {v : Val} {R C : Nat} (hs : v.Shape = [(R : Int), (C : Int)]) (hr : vRight v = true) : M.anamnesisref04_Quarter v = some ⟨v.Char, [(C : Int), (R : Int)], pA false 1 R C v.Data⟩ := by
  obtain ⟨hl, bR, bC, bp⟩ := mat_right hs hr
  unfold M.anamnesisref04_Quarter
  rw [hs, show idx [(R : Int), (C : Int)] 0 = some (R : Int) from rfl, show idx [(R : Int), (C : Int)] 1 = some (C : Int) from rfl]
  simp only [Option.bind_some]
  have key := rows_loop (f := M.anamnesisref04_Quarter_L1 v (R : Int) (C : Int)) (f1 := fun i => M.anamnesisref04_Quarter_L2 v (R : Int) (C : Int) i) (R := C) (C := R) (g := fun i k => cell v.Data C k (C - 1 - i)) (row := fun i => (C : Int) - 1 - i) (last := 0) (by rw [Nat.mul_comm]; exact bp) (fun i k hi hk m hm => by
    have hsrc := lin_lt hk (show C - 1 - i < C by omega)
    have e := cell_at hl hk (show C - 1 - i < C by omega)
    unfold M.anamnesisref04_Quarter_L2
    simp only [show decide ((k : Int) < (R : Int)) = true from decide_eq_true (by omega), if_true]
    rw [show ((C : Int) - 1 - (i : Int)) = ((C - 1 - i : Nat) : Int) by omega, show (k : Int) * (C : Int) = ((k * C : Nat) : Int) by simp, w64_id (x := ((k * C : Nat) : Int)) (by omega) (by omega), w64_id (by omega) (by omega),
      show ((k * C : Nat) : Int) + ((C - 1 - i : Nat) : Int) = ((k * C + (C - 1 - i) : Nat) : Int) by omega, idx_nat, e]
    simp only [Option.bind_some]
    rw [app_ok (by simp; omega), w64_id (by omega) (by omega)]; rfl) (fun i m => by unfold M.anamnesisref04_Quarter_L2; simp) (fun i hi m => by
    unfold M.anamnesisref04_Quarter_L1
    simp only [show decide ((C : Int) - 1 - (i : Int) ≥ 0) = true from decide_eq_true (by omega), if_true]
    rw [w64_id (by omega) (by omega), show (C : Int) - 1 - (i : Int) - 1 = (C : Int) - 1 - ((i + 1 : Nat) : Int) by omega]) (fun m => by
    unfold M.anamnesisref04_Quarter_L1
    simp only [show decide ((C : Int) - 1 - (C : Int) ≥ 0) = false from decide_eq_false (by omega), Bool.false_eq_true, if_false])
  rw [w64_id (by omega) (by omega)]
  simp only [Int.natCast_zero, Int.sub_zero] at key
  rw [key]
  simp only [Option.bind_some, joinK_next]
  rfl
theorem ref04_Turn_eq (t : Int) : M.anamnesisref04_Turn t = some (t % 4) := by
  unfold M.anamnesisref04_Turn
  have h1 := Int.tmod_lt_of_pos t (show (0 : Int) < 4 by omega)
  have h3 := Int.tmod_lt_of_pos (-t) (show (0 : Int) < 4 by omega)
  have h4 := Int.neg_tmod t 4
  have h5 : Int.tmod t 4 = t % 4 ∨ Int.tmod t 4 = t % 4 - 4 := by
    rw [Int.tmod_eq_emod]
    split
    · left; omega
    · right; simp
  by_cases h : Int.tmod t 4 < 0
  · rw [if_pos (by simpa using h), w64_id (by omega) (by omega)]
    simp only [Option.bind_some]
    congr 1; omega
  · rw [if_neg (by simpa using h)]
    simp only [Option.bind_some]
    congr 1; omega
theorem ref04_Apply_eq {v : Val} {turn : Int} {f : Bool} {R C t : Nat} (hs : v.Shape = [(R : Int), (C : Int)]) (hr : vRight v = true) (ht : t < 4) (htt : turn % 4 = t) :
    M.anamnesisref04_Apply turn f v = some ⟨v.Char, [(tR t R C : Int), (tC t R C : Int)], pA f t R C v.Data⟩ := by
  obtain ⟨hl, bR, bC, bp⟩ := mat_right hs hr
  unfold M.anamnesisref04_Apply
  have h0 : (if f = true then (M.anamnesisref04_Mirror v).bind fun r1 => some (r1.Char, r1.Shape, r1.Data) else some (v.Char, v.Shape, v.Data)) = some (v.Char, [(R : Int), (C : Int)], pA f 0 R C v.Data) := by
    cases f with
    | true => rw [if_pos rfl, ref04_Mirror_eq hs hr]; rfl
    | false => rw [pA_id hl, hs]; rfl
  rw [h0]
  simp only [Option.bind_some]
  have key := loop_fun (f := M.anamnesisref04_Apply_L1 turn) (fun n => ((n : Int), v.Char, [(tR n R C : Int), (tC n R C : Int)], pA f n R C v.Data)) t (b := .next (v.Char, [(tR t R C : Int), (tC t R C : Int)], pA f t R C v.Data)) (fun n hn => by
    have hr2 := pA_right (f := f) (t := n) (by omega) hs hr
    have hc := pA_comp (f := f) (g := false) (t := n) (u := 1) (R := R) (C := C) v.Data (by omega) (by omega) (n + 1) (by simp; omega)
    unfold M.anamnesisref04_Apply_L1
    simp only [ref04_Turn_eq, htt, Option.bind_some, show decide ((n : Int) < (t : Int)) = true from decide_eq_true (by omega), if_true]
    rw [ref04_Quarter_eq (R := tR n R C) (C := tC n R C) rfl hr2]
    simp only [Option.bind_some]
    rw [hc.1, w64_id (by omega) (by omega)]
    have e1 : tR 1 (tR n R C) (tC n R C) = tC n R C := rfl
    have e2 : tC 1 (tR n R C) (tC n R C) = tR n R C := rfl
    rw [← hc.2.1, ← hc.2.2, e1, e2]
    cases f <;> rfl) (by
    unfold M.anamnesisref04_Apply_L1
    simp only [ref04_Turn_eq, htt, Option.bind_some]
    simp)
  simp only [Int.natCast_zero] at key
  rw [show ((0 : Int), v.Char, [(R : Int), (C : Int)], pA f 0 R C v.Data) = ((0 : Int), v.Char, [(tR 0 R C : Int), (tC 0 R C : Int)], pA f 0 R C v.Data) from rfl, key]
  simp only [Option.bind_some, joinK_next]
  rw [app_ok (by simp), app_ok (by simp only [pA_len]; simp; omega)]; rfl
theorem planeApplies_true (turn : Int) (flip : Bool) (v : Val) {p : Prop} (_ : p) (gv : (∀ x ∈ v.Shape, (Lit.int .i64 x).wf = true) ∧ (∀ x ∈ v.Data, (Lit.int .i64 x).wf = true) ∧ v.Shape.length ≤ maxLen ∧ v.Data.length ≤ maxLen) :
    M.anamnesislaw04_PlaneApplies turn flip v = some true := by
  have hm : maxLen = 9223372036854775807 := rfl
  unfold M.anamnesislaw04_PlaneApplies
  by_cases hbig : v.Data.length > 3000 ∨ v.Shape.length > 10
  · rw [if_pos (by simp; omega)]
  rw [if_neg (by simp; omega)]
  have hcopy : M.anamnesisref02_Copy v = some v := by
    unfold M.anamnesisref02_Copy
    rw [app_ok (by simp; omega), app_ok (by simp; omega)]; rfl
  have hsame : M.anamnesisref02_Same v v = some true := by rw [ref02_Same_eq (by omega) (by omega), vSame_refl]
  rw [hcopy]
  simp only [Option.bind_some]
  cases hr : vRight v with
  | false =>
    rw [plane_Apply_bad (by omega) hr]
    simp only [Option.bind_some, hsame, Bool.not_true, Bool.false_eq_true, if_false]
    rw [ref02_Right_eq (by omega), hr]
    simp only [Option.bind_some, Bool.not_false, if_true]
    rw [ref02_Same_eq (by simp [maxLen]) (by simp [maxLen]), vSame_refl]; rfl
  | true =>
    by_cases h2 : v.Shape.length = 2
    · obtain ⟨R, C, hs⟩ := right_mat hr h2
      obtain ⟨t, ht, htt, e⟩ := plane_Apply_eq (turn := turn) (f := flip) hs hr
      rw [e]
      simp only [Option.bind_some, hsame, Bool.not_true, Bool.false_eq_true, if_false]
      rw [ref02_Right_eq (by omega), hr]
      simp only [Option.bind_some, Bool.not_true, Bool.false_eq_true, if_false]
      rw [if_neg (by simp [h2]), ref04_Apply_eq hs hr ht htt]
      simp only [Option.bind_some]
      obtain ⟨hl, bR, bC, bp⟩ := mat_right hs hr
      rw [ref02_Same_eq (by simp [maxLen]) (by simp only [pA_len]; omega), vSame_refl]; rfl
    · rw [plane_Apply_rank hr h2]
      simp only [Option.bind_some, hsame, Bool.not_true, Bool.false_eq_true, if_false]
      rw [ref02_Right_eq (by omega), hr]
      simp only [Option.bind_some, Bool.not_true, Bool.false_eq_true, if_false]
      rw [if_pos (by simp; omega), ref02_Same_eq (by simp [maxLen]) (by simp [maxLen]), vSame_refl]; rfl

end Go.Proofs.Ytlcpnakgolfofaa.planeApplies
