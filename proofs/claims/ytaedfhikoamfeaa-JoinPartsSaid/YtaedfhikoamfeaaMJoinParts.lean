/- JoinParts: what the code that the law reaches computes, as plain functions; and that the law comes to true. -/
import Derived.Test.YtaedfhikoamfeaaAmU
set_option maxHeartbeats 4000000
set_option linter.unusedVariables false
set_option linter.unusedSimpArgs false
set_option maxRecDepth 100000
open Go Go.Am
namespace Go.Proofs.Ytaedfhikoamfeaa.joinParts
noncomputable def M.anamnesislaw07_Great (v1 : Val) : Option (Bool) :=
  some ((decide ((v1.Data.length : Int) > 2000)) || (decide ((v1.Shape.length : Int) > 10)))
noncomputable def M.slices_IndexFunc__Value_L1 (s1 : (List Val)) (f1 : (Val → Option (Bool))) (s : Int) : Option (Ctl (Int) (Ctl (Unit) (Int))) :=
  match s with
  | t1 =>
    if (decide (t1 < (s1.length : Int))) then
      (idx s1 t1).bind fun y1 =>
      (f1 y1).bind fun r1 =>
      if r1 then
        some (.done (.done t1))
      else
        some (.next (IntKind.i64.wrap (t1 + 1)))
    else
      some (.done (.next ()))
noncomputable def M.slices_IndexFunc__Value (s1 : (List Val)) (f1 : (Val → Option (Bool))) : Option (Int) :=
  (wloop (M.slices_IndexFunc__Value_L1 s1 f1) 0).bind fun k => joinK k fun _ =>
  some (-1)
noncomputable def M.slices_ContainsFunc__Value (s1 : (List Val)) (f1 : (Val → Option (Bool))) : Option (Bool) :=
  (M.slices_IndexFunc__Value s1 f1).bind fun r1 =>
  some (decide (r1 ≥ 0))
noncomputable def M.slices_IndexFunc__int64_L1 (s1 : (List Int)) (f1 : (Int → Option (Bool))) (s : Int) : Option (Ctl (Int) (Ctl (Unit) (Int))) :=
  match s with
  | t1 =>
    if (decide (t1 < (s1.length : Int))) then
      (idx s1 t1).bind fun y1 =>
      (f1 y1).bind fun r1 =>
      if r1 then
        some (.done (.done t1))
      else
        some (.next (IntKind.i64.wrap (t1 + 1)))
    else
      some (.done (.next ()))
noncomputable def M.slices_IndexFunc__int64 (s1 : (List Int)) (f1 : (Int → Option (Bool))) : Option (Int) :=
  (wloop (M.slices_IndexFunc__int64_L1 s1 f1) 0).bind fun k => joinK k fun _ =>
  some (-1)
noncomputable def M.slices_ContainsFunc__int64 (s1 : (List Int)) (f1 : (Int → Option (Bool))) : Option (Bool) :=
  (M.slices_IndexFunc__int64 s1 f1).bind fun r1 =>
  some (decide (r1 ≥ 0))
noncomputable def M.unicode_utf8_ValidRune (r1 : Int) : Option (Bool) :=
  if ((decide (0 ≤ r1)) && (decide (r1 < 55296))) then
    some true
  else
    if ((decide (57343 < r1)) && (decide (r1 ≤ 1114111))) then
      some true
    else
      some false
noncomputable def M.value_character (n1 : Int) : Option (Bool) :=
  (if ((decide (n1 ≥ 0)) && (decide (n1 ≤ 1114111))) then
  (M.unicode_utf8_ValidRune (IntKind.i32.wrap n1)).bind fun r1 =>
  some r1 else
  some false).bind fun c2 =>
  some c2
noncomputable def M.value_Right_1 (n1 : Int) : Option (Bool) :=
  (M.value_character n1).bind fun r1 =>
  some (!r1)
noncomputable def M.value_Right_L1 (v1 : Val) (s : Int × Int) : Option (Ctl (Int × Int) (Ctl (Int) (Bool))) :=
  match s with
  | (size1, t1) =>
    if (decide (t1 < (v1.Shape.length : Int))) then
      (idx v1.Shape t1).bind fun y1 =>
      if ((decide (y1 < 0)) || (decide (y1 > 10000))) then
        some (.done (.done false))
      else
        some (.next ((IntKind.i64.wrap (size1 * y1)), (IntKind.i64.wrap (t1 + 1))))
    else
      some (.done (.next size1))
noncomputable def M.value_Right (v1 : Val) : Option (Bool) :=
  if (decide ((v1.Shape.length : Int) > 4)) then
    some false
  else
    (wloop (M.value_Right_L1 v1) (1, 0)).bind fun k => joinK k fun size1 =>
    if ((decide (size1 > 10000)) || (size1 != (v1.Data.length : Int))) then
      some false
    else
      (if (!v1.Char) then
      some true else
      (M.slices_ContainsFunc__int64 v1.Data (fun x0 => M.value_Right_1 x0)).bind fun r1 =>
      some (!r1)).bind fun c4 =>
      some c4
noncomputable def M.join_whole_1 (v1 : Val) : Option (Bool) :=
  (M.value_Right v1).bind fun r1 =>
  some (!r1)
noncomputable def M.join_whole (l1 : (List Val)) : Option (Bool) :=
  (M.slices_ContainsFunc__Value l1 (fun x0 => M.join_whole_1 x0)).bind fun r1 =>
  some (!r1)
noncomputable def M.slices_Clone__int (s1 : (List Int)) : Option ((List Int)) :=
  app 8 [] s1
noncomputable def M.slices_IndexFunc__int_L1 (s1 : (List Int)) (f1 : (Int → Option (Bool))) (s : Int) : Option (Ctl (Int) (Ctl (Unit) (Int))) :=
  match s with
  | t1 =>
    if (decide (t1 < (s1.length : Int))) then
      (idx s1 t1).bind fun y1 =>
      (f1 y1).bind fun r1 =>
      if r1 then
        some (.done (.done t1))
      else
        some (.next (IntKind.i64.wrap (t1 + 1)))
    else
      some (.done (.next ()))
noncomputable def M.slices_IndexFunc__int (s1 : (List Int)) (f1 : (Int → Option (Bool))) : Option (Int) :=
  (wloop (M.slices_IndexFunc__int_L1 s1 f1) 0).bind fun k => joinK k fun _ =>
  some (-1)
noncomputable def M.slices_ContainsFunc__int (s1 : (List Int)) (f1 : (Int → Option (Bool))) : Option (Bool) :=
  (M.slices_IndexFunc__int s1 f1).bind fun r1 =>
  some (decide (r1 ≥ 0))
noncomputable def M.shape_Size_1 (n1 : Int) : Option (Bool) :=
  some (decide (n1 < 0))
noncomputable def M.shape_Size_2 (n1 : Int) : Option (Bool) :=
  some (decide (n1 > 10000))
noncomputable def M.shape_product_L1 (s1 : (List Int)) (s : Int × Int) : Option (Ctl (Int × Int) (Ctl (Int) (Int))) :=
  match s with
  | (p1, t1) =>
    if (decide (t1 < (s1.length : Int))) then
      (idx s1 t1).bind fun y1 =>
      some (.next ((IntKind.i64.wrap (p1 * y1)), (IntKind.i64.wrap (t1 + 1))))
    else
      some (.done (.next p1))
noncomputable def M.shape_product (s1 : (List Int)) : Option (Int) :=
  (wloop (M.shape_product_L1 s1) (1, 0)).bind fun k => joinK k fun p1 =>
  some p1
noncomputable def M.shape_Size (s1 : (List Int)) : Option (Int × Int) :=
  if (decide ((s1.length : Int) > 4)) then
    some (0, 24)
  else
    (M.slices_ContainsFunc__int s1 (fun x0 => M.shape_Size_1 x0)).bind fun r1 =>
    if r1 then
      some (0, 1)
    else
      ((M.slices_ContainsFunc__int s1 (fun x0 => M.shape_Size_2 x0)).bind fun r2 =>
      if r2 then
        some r2
      else
        (M.shape_product s1).bind fun r3 =>
        some (decide (r3 > 10000))).bind fun t1 =>
      if t1 then
        some (0, 27)
      else
        (M.shape_product s1).bind fun r4 =>
        some (r4, 0)
noncomputable def M.value_Fill (v1 : Val) : Option (Int) :=
  if v1.Char then
    some 32
  else
    some 0
noncomputable def M.join_filled_L1 (v2 : Val) (l1 : List Int) (s : Int × (List Int)) : Option (Ctl (Int × (List Int)) (Ctl ((List Int)) ((List Int)))) :=
  match s with
  | (t1, l3) =>
    if (decide (t1 < (l1.length : Int))) then
      (M.value_Fill v2).bind fun r1 =>
      (idx l3 t1).bind fun y1 =>
      (upd l3 t1 r1).bind fun l4 =>
      some (.next ((IntKind.i64.wrap (t1 + 1)), l4))
    else
      some (.done (.next l3))
noncomputable def M.join_filled_L2 (size1 : Int) (v2 : Val) (s : Int × (List Int)) : Option (Ctl (Int × (List Int)) (Ctl ((List Int)) (Val))) :=
  match s with
  | (at1, l5) =>
    if ((decide (at1 < size1)) && (decide ((v2.Data.length : Int) > 0))) then
      (sub l5 at1 l5.length).bind fun l6 =>
      some (.next ((IntKind.i64.wrap (at1 + ((min v2.Data.length l6.length : Nat) : Int))), (cpy l5 (Int.toNat at1) l6.length v2.Data)))
    else
      some (.done (.next l5))
noncomputable def M.join_filled (s1 : (List Int)) (size1 : Int) (v2 : Val) : Option (Val) :=
  (mk 8 (0 : Int) size1 size1).bind fun l1 =>
  (if ((v2.Data.length : Int) == 0) then
    (wloop (M.join_filled_L1 v2 l1) (0, l1)).bind fun k => joinK k fun l3 =>
    some l3
  else
    some l1).bind fun l2 =>
  (wloop (M.join_filled_L2 size1 v2) (0, l2)).bind fun k => joinK k fun l5 =>
  some (Val.mk v2.Char s1 l5)
noncomputable def M.slices_Insert__int (s1 : (List Int)) (i1 : Int) (v1 : (List Int)) : Option ((List Int)) :=
  none
noncomputable def M.join_fits (v1 : Val) (other1 : (List Int)) (axis1 : Int) : Option (Val × Int) :=
  if ((v1.Shape.length : Int) == (other1.length : Int)) then
    some (v1, 0)
  else
    if ((v1.Shape.length : Int) == 0) then
      (M.slices_Clone__int other1).bind fun r1 =>
      (idx r1 axis1).bind fun y1 =>
      (upd r1 axis1 1).bind fun l1 =>
      (M.shape_Size l1).bind fun (r2, r3) =>
      (M.join_filled l1 r2 v1).bind fun r4 =>
      some (r4, 0)
    else
      if ((IntKind.i64.wrap ((v1.Shape.length : Int) + 1)) == (other1.length : Int)) then
        (M.slices_Clone__int v1.Shape).bind fun r5 =>
        (M.slices_Insert__int r5 axis1 ([1])).bind fun r6 =>
        some ((Val.mk v1.Char r6 v1.Data), 0)
      else
        some (v1, 24)
noncomputable def M.slices_Delete__int (s1 : (List Int)) (i1 : Int) (j1 : Int) : Option ((List Int)) :=
  del s1 i1 j1
noncomputable def M.shape_Without (s1 : (List Int)) (axis1 : Int) : Option ((List Int)) :=
  (M.slices_Clone__int s1).bind fun r1 =>
  if ((decide (axis1 < 0)) || (decide (axis1 ≥ (s1.length : Int)))) then
    some r1
  else
    (M.slices_Delete__int r1 axis1 (IntKind.i64.wrap (axis1 + 1))).bind fun r2 =>
    some r2
noncomputable def M.slices_Equal__int_L1 (s1 : (List Int)) (s2 : (List Int)) (s : Int) : Option (Ctl (Int) (Ctl (Unit) (Bool))) :=
  match s with
  | t1 =>
    if (decide (t1 < (s1.length : Int))) then
      (idx s1 t1).bind fun y1 =>
      (idx s2 t1).bind fun y2 =>
      if (y1 != y2) then
        some (.done (.done false))
      else
        some (.next (IntKind.i64.wrap (t1 + 1)))
    else
      some (.done (.next ()))
noncomputable def M.slices_Equal__int (s1 : (List Int)) (s2 : (List Int)) : Option (Bool) :=
  if ((s1.length : Int) != (s2.length : Int)) then
    some false
  else
    (wloop (M.slices_Equal__int_L1 s1 s2) 0).bind fun k => joinK k fun _ =>
    some true
noncomputable def M.shape_sized (s1 : (List Int)) : Option (Bool) :=
  (M.shape_Size s1).bind fun (r1, r2) =>
  some (r2 == 0)
noncomputable def M.shape_Split (s1 : (List Int)) (axis1 : Int) : Option (Int × Int × Int × Bool) :=
  (if ((decide (axis1 < 0)) || (decide (axis1 ≥ (s1.length : Int)))) then
  some true else
  (M.shape_sized s1).bind fun r1 =>
  some (!r1)).bind fun c2 =>
  if c2 then
    some (0, 0, 0, false)
  else
    (sub s1 0 axis1).bind fun l1 =>
    (M.shape_product l1).bind fun r2 =>
    (idx s1 axis1).bind fun y1 =>
    (sub s1 (IntKind.i64.wrap (axis1 + 1)) s1.length).bind fun l2 =>
    (M.shape_product l2).bind fun r3 =>
    some (r2, y1, r3, true)
noncomputable def M.join_beside_L1 (a1 : Val) (b1 : Val) (r5 : Int) (r7 : Int) (r8 : Int) (r9 : Int) (r12 : Int) (s : Int × (List Int)) : Option (Ctl (Int × (List Int)) (Ctl ((List Int)) ((List Int)))) :=
  match s with
  | (t1, Data2) =>
    if (decide (t1 < r7)) then
      if (r5 == 0) then
        some (.done (.next Data2))
      else
        (sub a1.Data (IntKind.i64.wrap ((IntKind.i64.wrap (t1 * r8)) * r9)) (IntKind.i64.wrap ((IntKind.i64.wrap ((IntKind.i64.wrap (t1 + 1)) * r8)) * r9))).bind fun l3 =>
        (app 8 Data2 l3).bind fun l4 =>
        (sub b1.Data (IntKind.i64.wrap ((IntKind.i64.wrap (t1 * r12)) * r9)) (IntKind.i64.wrap ((IntKind.i64.wrap ((IntKind.i64.wrap (t1 + 1)) * r12)) * r9))).bind fun l5 =>
        (app 8 l4 l5).bind fun l6 =>
        some (.next ((IntKind.i64.wrap (t1 + 1)), l6))
    else
      some (.done (.next Data2))
noncomputable def M.join_beside (a1 : Val) (b1 : Val) (axis1 : Int) : Option (Val × Int) :=
  (M.shape_Without a1.Shape axis1).bind fun r1 =>
  (M.shape_Without b1.Shape axis1).bind fun r2 =>
  (M.slices_Equal__int r1 r2).bind fun r3 =>
  if (!r3) then
    some ((Val.mk false ([]) ([])), 25)
  else
    (M.slices_Clone__int a1.Shape).bind fun r4 =>
    (idx r4 axis1).bind fun y1 =>
    (idx b1.Shape axis1).bind fun y2 =>
    (idx r4 axis1).bind fun y3 =>
    (upd r4 axis1 (IntKind.i64.wrap (y1 + y2))).bind fun l1 =>
    (M.shape_Size l1).bind fun (r5, r6) =>
    (if (r6 != 0) then
    some true else
    (idx l1 axis1).bind fun y4 =>
    some (decide (y4 > 10000))).bind fun c1 =>
    if c1 then
      some ((Val.mk false ([]) ([])), 27)
    else
      (mk 8 (0 : Int) 0 r5).bind fun l2 =>
      (M.shape_Split a1.Shape axis1).bind fun (r7, r8, r9, r10) =>
      (M.shape_Split b1.Shape axis1).bind fun (r11, r12, r13, r14) =>
      ((wloop (M.join_beside_L1 a1 b1 r5 r7 r8 r9 r12) (0, l2)).bind fun k => joinK k fun jx =>
      some jx).bind fun Data1 =>
      some ((Val.mk false l1 Data1), 0)
noncomputable def M.join_kind (a1 : Val) (b1 : Val) : Option (Bool × Bool) :=
  (if (a1.Char == b1.Char) then
    some (a1.Char == b1.Char)
  else
    some ((a1.Data.length : Int) == 0)).bind fun t1 =>
  if t1 then
    some (b1.Char, true)
  else
    if ((b1.Data.length : Int) == 0) then
      some (a1.Char, true)
    else
      some (false, false)
noncomputable def M.join_Catenate (a1 : Val) (b1 : Val) (axis1 : Int) : Option (Val × Int) :=
  (M.join_whole ([a1, b1])).bind fun r1 =>
  if (!r1) then
    some ((Val.mk false ([]) ([])), 1)
  else
    (if ((decide (axis1 < (-1))) || (decide (axis1 ≥ (if (a1.Shape.length : Int) < (b1.Shape.length : Int) then (b1.Shape.length : Int) else (a1.Shape.length : Int))))) then
      some (.done ((Val.mk false ([]) ([])), 26))
    else
      if ((if (a1.Shape.length : Int) < (b1.Shape.length : Int) then (b1.Shape.length : Int) else (a1.Shape.length : Int)) == 0) then
        some (.next (1, [1], [1]))
      else
        some (.next ((if (a1.Shape.length : Int) < (b1.Shape.length : Int) then (b1.Shape.length : Int) else (a1.Shape.length : Int)), a1.Shape, b1.Shape))).bind fun k => joinK k fun (rank1, Shape1, Shape2) =>
    (if (axis1 == (-1)) then
      some (IntKind.i64.wrap (rank1 - 1))
    else
      some axis1).bind fun axis2 =>
    (M.join_fits (Val.mk a1.Char Shape1 a1.Data) Shape2 axis2).bind fun (r2, r3) =>
    (M.join_fits (Val.mk b1.Char Shape2 b1.Data) Shape1 axis2).bind fun (r4, r5) =>
    (if (decide ((Shape1.length : Int) > (Shape2.length : Int))) then
      some (0, a1.Char, Shape1, a1.Data)
    else
      some (r3, r2.Char, r2.Shape, r2.Data)).bind fun (e1, Char1, Shape3, Data1) =>
    (if (decide ((Shape2.length : Int) > (Shape1.length : Int))) then
      some (0, b1.Char, Shape2, b1.Data)
    else
      some (r5, r4.Char, r4.Shape, r4.Data)).bind fun (f1, Char2, Shape4, Data2) =>
    if ((e1 != 0) || (f1 != 0)) then
      some ((Val.mk false ([]) ([])), 24)
    else
      (M.join_beside (Val.mk Char1 Shape3 Data1) (Val.mk Char2 Shape4 Data2) axis2).bind fun (r6, r7) =>
      if (r7 != 0) then
        some ((Val.mk false ([]) ([])), r7)
      else
        (M.join_kind (Val.mk a1.Char Shape1 a1.Data) (Val.mk b1.Char Shape2 b1.Data)).bind fun (r8, r9) =>
        if (!r9) then
          some ((Val.mk false ([]) ([])), 23)
        else
          some ((Val.mk r8 r6.Shape r6.Data), 0)
noncomputable def M.slices_Clone__int64 (s1 : (List Int)) : Option ((List Int)) :=
  app 8 [] s1
noncomputable def M.join_Ravel (v1 : Val) : Option (Val × Int) :=
  (M.join_whole ([v1])).bind fun r1 =>
  if (!r1) then
    some ((Val.mk false ([]) ([])), 1)
  else
    (M.slices_Clone__int64 v1.Data).bind fun r2 =>
    some ((Val.mk v1.Char ([(v1.Data.length : Int)]) r2), 0)
noncomputable def M.anamnesisref02_Same_L2 (a1 : Val) (b1 : Val) (s : Int) : Option (Ctl (Int) (Ctl (Unit) (Bool))) :=
  match s with
  | i2 =>
    if (decide (i2 < (a1.Data.length : Int))) then
      (idx a1.Data i2).bind fun y3 =>
      (idx b1.Data i2).bind fun y4 =>
      if (y3 != y4) then
        some (.done (.done false))
      else
        some (.next (IntKind.i64.wrap (i2 + 1)))
    else
      some (.done (.next ()))
noncomputable def M.anamnesisref02_Same_L1 (a1 : Val) (b1 : Val) (s : Int) : Option (Ctl (Int) (Ctl (Unit) (Bool))) :=
  match s with
  | i1 =>
    if (decide (i1 < (a1.Shape.length : Int))) then
      (idx a1.Shape i1).bind fun y1 =>
      (idx b1.Shape i1).bind fun y2 =>
      if (y1 != y2) then
        some (.done (.done false))
      else
        some (.next (IntKind.i64.wrap (i1 + 1)))
    else
      some (.done (.next ()))
noncomputable def M.anamnesisref02_Same (a1 : Val) (b1 : Val) : Option (Bool) :=
  if (((!(a1.Char == b1.Char)) || ((a1.Shape.length : Int) != (b1.Shape.length : Int))) || ((a1.Data.length : Int) != (b1.Data.length : Int))) then
    some false
  else
    (wloop (M.anamnesisref02_Same_L1 a1 b1) 0).bind fun k => joinK k fun _ =>
    (wloop (M.anamnesisref02_Same_L2 a1 b1) 0).bind fun k => joinK k fun _ =>
    some true
noncomputable def M.anamnesislaw07_Is (v1 : Val) (e1 : Int) (want1 : Val) : Option (Bool) :=
  (if (e1 == 0) then
  (M.anamnesisref02_Same v1 want1).bind fun r1 =>
  some r1 else
  some false).bind fun c1 =>
  some c1
noncomputable def M.anamnesislaw07_JoinParts (a1 : Val) (b1 : Val) : Option (Bool) :=
  (M.anamnesislaw07_Great a1).bind fun r1 =>
  (if r1 then
  some true else
  (M.anamnesislaw07_Great b1).bind fun r2 =>
  some r2).bind fun c1 =>
  if ((c1 || ((a1.Shape.length : Int) != (b1.Shape.length : Int))) || ((a1.Shape.length : Int) == 0)) then
    some true
  else
    (M.join_Catenate a1 b1 0).bind fun (r3, r4) =>
    if (r4 != 0) then
      some (((r3.Data.length : Int) == 0) && true)
    else
      (if ((r3.Shape.length : Int) != (a1.Shape.length : Int)) then
      some true else
      (idx r3.Shape 0).bind fun y1 =>
      (idx a1.Shape 0).bind fun y2 =>
      (idx b1.Shape 0).bind fun y3 =>
      some (y1 != (IntKind.i64.wrap (y2 + y3)))).bind fun c5 =>
      if (c5 || ((r3.Data.length : Int) != (IntKind.i64.wrap ((a1.Data.length : Int) + (b1.Data.length : Int))))) then
        some false
      else
        (M.join_Ravel a1).bind fun (r5, r6) =>
        (M.join_Ravel b1).bind fun (r7, r8) =>
        (M.join_Ravel r3).bind fun (r9, r10) =>
        (M.join_Catenate r5 r7 (-1)).bind fun (r11, r12) =>
        (if ((r6 == 0) && (r8 == 0)) then
        (M.anamnesislaw07_Is r11 r12 r9).bind fun r13 =>
        some r13 else
        some false).bind fun c8 =>
        some ((c8 && (r10 == 0)) && true)
theorem w64_id {x : Int} (h1 : -9223372036854775808 ≤ x) (h2 : x ≤ 9223372036854775807) : IntKind.i64.wrap x = x := wrap_id h1 h2
theorem u8_mod (x : Int) : IntKind.u8.wrap x = x % 256 := by simp [IntKind.wrap, IntKind.bits, IntKind.signed]
theorem u8_id {x : Int} (h1 : 0 ≤ x) (h2 : x ≤ 255) : IntKind.u8.wrap x = x := by rw [u8_mod]; omega
theorem u32_id {x : Int} (h1 : 0 ≤ x) (h2 : x ≤ 1114111) : IntKind.u32.wrap x = x := by
  have : IntKind.u32.wrap x = x % 4294967296 := by simp [IntKind.wrap, IntKind.bits, IntKind.signed]
  rw [this]; omega
/-- A loop comes to an end in a state with Q: P holds ahead of each round, and its number falls. -/
theorem wloop_ind {σ β : Type} {f : σ → Option (Ctl σ β)} (P : Nat → σ → Prop) (Q : β → Prop)
    (h : ∀ n s, P n s → (∃ s' n', f s = some (.next s') ∧ n' < n ∧ P n' s') ∨ (∃ b, f s = some (.done b) ∧ Q b)) : ∀ n s, P n s → ∃ b, wloop f s = some b ∧ Q b := by
  intro n
  induction n using Nat.strongRecOn with
  | _ n ih =>
    intro s hp
    rcases h n s hp with ⟨s', n', hf, hn, hp'⟩ | ⟨b, hf, hq⟩
    · obtain ⟨b, hb, hq⟩ := ih n' hn s' hp'
      exact ⟨b, by rw [wloop_next hf]; exact hb, hq⟩
    · exact ⟨b, wloop_done hf, hq⟩
theorem idx_nat {α : Type} (l : List α) (k : Nat) : idx l (k : Int) = l[k]? := by
  unfold idx; rw [if_pos (by omega)]; rfl
theorem idx_get {α : Type} {l : List α} {k : Nat} (h : k < l.length) : idx l (k : Int) = some l[k] := by rw [idx_nat, List.getElem?_eq_getElem h]
theorem upd_nat {α : Type} {l : List α} {k : Nat} {x : α} (h : k < l.length) : upd l (k : Int) x = some (l.set k x) := by
  unfold upd; rw [if_pos ⟨by omega, by omega⟩]; rfl
theorem app_ok {α : Type} {b : Nat} {l m : List α} (h : (l.length + m.length) * b ≤ 140737488355328) : app b l m = some (l ++ m) := by
  unfold app; rw [if_pos (.inr h)]
theorem mk_ok {α : Type} {b : Nat} {z : α} {n : Nat} (h : b * n ≤ 140737488355328) (h' : n ≤ 140737488355328) : mk b z (n : Int) (n : Int) = some (List.replicate n z) := by
  unfold mk
  have : ((b : Int) * (n : Int)) ≤ 140737488355328 := by
    have h2 : ((b * n : Nat) : Int) ≤ 140737488355328 := by omega
    rwa [Int.natCast_mul] at h2
  rw [if_pos ⟨by omega, by omega, this, by omega⟩]; rfl
/-- the numbers that a kind has. -/
theorem wf64 {n : Int} (h : (Lit.int .i64 n).wf = true) : -9223372036854775808 ≤ n ∧ n ≤ 9223372036854775807 := by
  have h2 : (decide (IntKind.i64.min ≤ n) && decide (n ≤ IntKind.i64.max)) = true := h
  have e1 : IntKind.i64.min = -9223372036854775808 := by decide
  have e2 : IntKind.i64.max = 9223372036854775807 := by decide
  rw [e1, e2] at h2
  simpa using h2
theorem sub_drop {α : Type} {l : List α} {k : Nat} (h : k ≤ l.length) : sub l (k : Int) (l.length : Int) = some (l.drop k) := by
  unfold sub
  rw [if_pos ⟨by omega, by omega, by omega⟩]
  simp
theorem drop_cons {α : Type} {l : List α} {k : Nat} (h : k < l.length) : l.drop k = l[k] :: l.drop (k + 1) := List.drop_eq_getElem_cons h
theorem same_loop {f : Int → Option (Ctl Int (Ctl Unit Bool))} {a b : List Int} (hl : a.length = b.length) (hm : a.length ≤ maxLen)
    (hf : ∀ k : Nat, ∀ h : k < a.length, f k = if a[k] = b[k]'(hl ▸ h) then some (.next ((k : Int) + 1)) else some (.done (.done false))) (he : f a.length = some (.done (.next ()))) :
    wloop f 0 = some (if a = b then .next () else .done false) := by
  have key := wloop_ind (f := f) (fun n i => ∃ k : Nat, i = k ∧ k ≤ a.length ∧ n = a.length - k ∧ a.take k = b.take k)
    (fun c => (c = .done false ∧ a ≠ b) ∨ (c = .next () ∧ a = b)) (fun n i h => by
      obtain ⟨k, rfl, hk, rfl, hn⟩ := h
      by_cases hlt : k < a.length
      · rw [hf k hlt]
        by_cases he : a[k] = b[k]
        · rw [if_pos he]
          left
          refine ⟨_, a.length - (k + 1), rfl, by omega, k + 1, by omega, by omega, rfl, ?_⟩
          rw [List.take_succ_eq_append_getElem hlt, List.take_succ_eq_append_getElem (by omega), hn, he]
        · rw [if_neg he]
          right
          refine ⟨_, rfl, .inl ⟨rfl, fun h => he ?_⟩⟩
          subst h; rfl
      · have : k = a.length := by omega
        subst this
        right
        refine ⟨_, he, .inr ⟨rfl, ?_⟩⟩
        rw [List.take_length, hl, List.take_length] at hn
        exact hn) a.length 0 ⟨0, rfl, by omega, by omega, by simp⟩
  obtain ⟨c, hc, ⟨rfl, h⟩ | ⟨rfl, h⟩⟩ := key
  · rw [hc]; simp [h]
  · rw [hc]; simp [h]

theorem same_step {f : Int → Option (Ctl Int (Ctl Unit Bool))} {a b : List Int} (hl : a.length = b.length) (hm : a.length ≤ maxLen)
    (hf : ∀ k : Nat, ∀ h : k < a.length, f k = if a[k] = b[k]'(hl ▸ h) then some (.next ((k : Int) + 1)) else some (.done (.done false))) (he : f a.length = some (.done (.next ()))) :
    (wloop f 0).bind (fun k => joinK k fun _ => some true) = some (decide (a = b)) := by
  rw [same_loop hl hm hf he]
  by_cases h : a = b
  · rw [if_pos h, decide_eq_true h]; rfl
  · rw [if_neg h, decide_eq_false h]; rfl
/-- a loop that counts up. -/
theorem loop_up {S τ β : Type} {f : S → Option (Ctl S β)} (st : Nat → τ → S) (n : Nat) (I : Nat → τ → Prop) (out : τ → β) (a : τ) (h0 : I 0 a)
    (hf : ∀ k m, k < n → I k m → ∃ m', f (st k m) = some (.next (st (k + 1) m')) ∧ I (k + 1) m') (he : ∀ m, I n m → f (st n m) = some (.done (out m))) :
    ∃ m, I n m ∧ wloop f (st 0 a) = some (out m) := by
  have key := wloop_ind (f := f) (fun j s => ∃ k m, s = st k m ∧ j = n - k ∧ k ≤ n ∧ I k m) (fun b => ∃ m, b = out m ∧ I n m) (fun j s h => by
    obtain ⟨k, m, rfl, rfl, hk, hi⟩ := h
    by_cases hlt : k < n
    · left
      obtain ⟨m', h1, h2⟩ := hf k m hlt hi
      exact ⟨_, n - (k + 1), h1, by omega, k + 1, m', rfl, rfl, by omega, h2⟩
    · have : k = n := by omega
      subst this
      exact .inr ⟨_, he m hi, m, rfl, hi⟩) n (st 0 a) ⟨0, a, rfl, by omega, by omega, h0⟩
  obtain ⟨b, hb, m, rfl, hi⟩ := key
  exact ⟨m, hi, hb⟩
/-- a loop that counts up, each of whose states is told. -/
theorem loop_fun {S β : Type} {f : S → Option (Ctl S β)} (st : Nat → S) (n : Nat) {b : β} (hf : ∀ k, k < n → f (st k) = some (.next (st (k + 1)))) (he : f (st n) = some (.done b)) : wloop f (st 0) = some b := by
  obtain ⟨_, _, h⟩ := loop_up (f := f) (fun k (_ : Unit) => st k) n (fun _ _ => True) (fun _ => b) () trivial (fun k m hk _ => ⟨(), hf k hk, trivial⟩) (fun m _ => he)
  exact h
theorem lin_lt {i k R C : Nat} (h : i < R) (hk : k < C) : i * C + k < R * C := by
  have := Nat.mul_le_mul_right C (show i + 1 ≤ R from h)
  rw [Nat.succ_mul] at this; omega
theorem lin_inj {i k i' k' C : Nat} (hk : k < C) (hk' : k' < C) (h : i * C + k = i' * C + k') : i = i' ∧ k = k' := by
  have hc : 0 < C := by omega
  have e : ∀ (a b : Nat), b < C → (a * C + b) / C = a := fun a b hb => by
    rw [Nat.mul_comm, Nat.mul_add_div hc, Nat.div_eq_of_lt hb, Nat.add_zero]
  have h1 := e i k hk
  rw [h, e i' k' hk'] at h1
  subst h1; omega
/-- a matrix, row by row. -/
def tab (R C : Nat) (f : Nat → Nat → Int) : List Int := (List.range (R * C)).map fun p => f (p / C) (p % C)
theorem tab_len (R C : Nat) (f : Nat → Nat → Int) : (tab R C f).length = R * C := by simp [tab]
theorem tab_get {R C i k : Nat} (f : Nat → Nat → Int) (hi : i < R) (hk : k < C) : (tab R C f)[i * C + k]? = some (f i k) := by
  have hc : 0 < C := by omega
  unfold tab
  rw [List.getElem?_map, List.getElem?_range (lin_lt hi hk)]
  show some (f ((i * C + k) / C) ((i * C + k) % C)) = _
  rw [Nat.mul_comm, Nat.mul_add_div hc, Nat.div_eq_of_lt hk, Nat.mul_add_mod, Nat.mod_eq_of_lt hk, Nat.add_zero]
theorem tab_ext {R C : Nat} {f : Nat → Nat → Int} {l : List Int} (hl : l.length = R * C) (h : ∀ i k, i < R → k < C → l[i * C + k]? = some (f i k)) : l = tab R C f := by
  apply List.ext_getElem?
  intro p
  by_cases hp : p < R * C
  · have hc : 0 < C := by
      rcases Nat.eq_zero_or_pos C with h | h
      · subst h; simp at hp
      · exact h
    have h1 : p / C < R := by rw [Nat.div_lt_iff_lt_mul hc]; exact hp
    have h2 : p % C < C := Nat.mod_lt _ hc
    have e : p / C * C + p % C = p := by rw [Nat.mul_comm]; exact Nat.div_add_mod p C
    have a := h _ _ h1 h2
    have b := tab_get f h1 h2
    rw [e] at a b
    rw [a, b]
  · rw [List.getElem?_eq_none (by omega), List.getElem?_eq_none (by rw [tab_len]; omega)]
theorem contains_int {s : List Int} {f : Int → Option Bool} {g : Int → Bool} (hf : ∀ x ∈ s, f x = some (g x)) (hl : s.length ≤ 4611686018427387904) : M.slices_ContainsFunc__int s f = some (s.any g) := by
  have key := wloop_ind (f := M.slices_IndexFunc__int_L1 s f) (fun n i => ∃ k : Nat, i = k ∧ k ≤ s.length ∧ n = s.length - k ∧ (s.take k).any g = false)
    (fun b => (∃ i : Int, b = .done i ∧ 0 ≤ i ∧ s.any g = true) ∨ (b = .next () ∧ s.any g = false)) (fun n i h => by
      obtain ⟨k, rfl, hk, rfl, hn⟩ := h
      unfold M.slices_IndexFunc__int_L1
      by_cases hlt : k < s.length
      · simp only [show decide ((k : Int) < (s.length : Int)) = true from by simp; exact hlt, if_true, idx_get hlt, Option.bind_some, hf _ (List.getElem_mem hlt)]
        cases hg : g s[k] with
        | true =>
          right
          refine ⟨_, rfl, .inl ⟨_, rfl, by omega, ?_⟩⟩
          rw [List.any_eq_true]
          exact ⟨_, List.getElem_mem hlt, hg⟩
        | false =>
          left
          refine ⟨_, s.length - (k + 1), rfl, by omega, k + 1, ?_, by omega, rfl, ?_⟩
          · rw [w64_id (by omega) (by omega)]; omega
          · rw [List.take_succ_eq_append_getElem hlt, List.any_append, hn]; simp [hg]
      · have : k = s.length := by omega
        subst this
        right
        simp only [show decide ((s.length : Int) < (s.length : Int)) = false from by simp, Bool.false_eq_true, if_false]
        exact ⟨_, rfl, .inr ⟨rfl, by simpa using hn⟩⟩) s.length 0 ⟨0, rfl, by omega, by omega, by simp⟩
  unfold M.slices_ContainsFunc__int M.slices_IndexFunc__int
  obtain ⟨b, hb, ⟨i, rfl, h0, ha⟩ | ⟨rfl, ha⟩⟩ := key
  · rw [hb, ha]; simp [h0]
  · rw [hb, ha]; simp
theorem contains_int64 {s : List Int} {f : Int → Option Bool} {g : Int → Bool} (hf : ∀ x ∈ s, f x = some (g x)) (hl : s.length ≤ 9223372036854775807) : M.slices_ContainsFunc__int64 s f = some (s.any g) := by
  have key := wloop_ind (f := M.slices_IndexFunc__int64_L1 s f) (fun n i => ∃ k : Nat, i = k ∧ k ≤ s.length ∧ n = s.length - k ∧ (s.take k).any g = false)
    (fun b => (∃ i : Int, b = .done i ∧ 0 ≤ i ∧ s.any g = true) ∨ (b = .next () ∧ s.any g = false)) (fun n i h => by
      obtain ⟨k, rfl, hk, rfl, hn⟩ := h
      unfold M.slices_IndexFunc__int64_L1
      by_cases hlt : k < s.length
      · simp only [show decide ((k : Int) < (s.length : Int)) = true from by simp; exact hlt, if_true, idx_get hlt, Option.bind_some, hf _ (List.getElem_mem hlt)]
        cases hg : g s[k] with
        | true =>
          right
          refine ⟨_, rfl, .inl ⟨_, rfl, by omega, ?_⟩⟩
          rw [List.any_eq_true]
          exact ⟨_, List.getElem_mem hlt, hg⟩
        | false =>
          left
          refine ⟨_, s.length - (k + 1), rfl, by omega, k + 1, ?_, by omega, rfl, ?_⟩
          · rw [w64_id (by omega) (by omega)]; omega
          · rw [List.take_succ_eq_append_getElem hlt, List.any_append, hn]; simp [hg]
      · have : k = s.length := by omega
        subst this
        right
        simp only [show decide ((s.length : Int) < (s.length : Int)) = false from by simp, Bool.false_eq_true, if_false]
        exact ⟨_, rfl, .inr ⟨rfl, by simpa using hn⟩⟩) s.length 0 ⟨0, rfl, by omega, by omega, by simp⟩
  unfold M.slices_ContainsFunc__int64 M.slices_IndexFunc__int64
  obtain ⟨b, hb, ⟨i, rfl, h0, ha⟩ | ⟨rfl, ha⟩⟩ := key
  · rw [hb, ha]; simp [h0]
  · rw [hb, ha]; simp
theorem contains_Val {s : List Val} {f : Val → Option Bool} {g : Val → Bool} (hf : ∀ x ∈ s, f x = some (g x)) (hl : s.length ≤ 4611686018427387904) : M.slices_ContainsFunc__Value s f = some (s.any g) := by
  have key := wloop_ind (f := M.slices_IndexFunc__Value_L1 s f) (fun n i => ∃ k : Nat, i = k ∧ k ≤ s.length ∧ n = s.length - k ∧ (s.take k).any g = false)
    (fun b => (∃ i : Int, b = .done i ∧ 0 ≤ i ∧ s.any g = true) ∨ (b = .next () ∧ s.any g = false)) (fun n i h => by
      obtain ⟨k, rfl, hk, rfl, hn⟩ := h
      unfold M.slices_IndexFunc__Value_L1
      by_cases hlt : k < s.length
      · simp only [show decide ((k : Int) < (s.length : Int)) = true from by simp; exact hlt, if_true, idx_get hlt, Option.bind_some, hf _ (List.getElem_mem hlt)]
        cases hg : g s[k] with
        | true =>
          right
          refine ⟨_, rfl, .inl ⟨_, rfl, by omega, ?_⟩⟩
          rw [List.any_eq_true]
          exact ⟨_, List.getElem_mem hlt, hg⟩
        | false =>
          left
          refine ⟨_, s.length - (k + 1), rfl, by omega, k + 1, ?_, by omega, rfl, ?_⟩
          · rw [w64_id (by omega) (by omega)]; omega
          · rw [List.take_succ_eq_append_getElem hlt, List.any_append, hn]; simp [hg]
      · have : k = s.length := by omega
        subst this
        right
        simp only [show decide ((s.length : Int) < (s.length : Int)) = false from by simp, Bool.false_eq_true, if_false]
        exact ⟨_, rfl, .inr ⟨rfl, by simpa using hn⟩⟩) s.length 0 ⟨0, rfl, by omega, by omega, by simp⟩
  unfold M.slices_ContainsFunc__Value M.slices_IndexFunc__Value
  obtain ⟨b, hb, ⟨i, rfl, h0, ha⟩ | ⟨rfl, ha⟩⟩ := key
  · rw [hb, ha]; simp [h0]
  · rw [hb, ha]; simp
def prod : List Int → Int
  | [] => 1
  | x :: s => x * prod s
def off : List Int → List Int → Int
  | x :: s, a :: at_ => a * prod s + off s at_
  | _, _ => 0
def dig : List Int → Int → List Int
  | [], _ => []
  | _ :: s, k => k / prod s :: dig s (k % prod s)
/-- is a place in a shape? -/
def inShape : List Int → List Int → Prop
  | [], [] => True
  | x :: s, a :: at_ => 0 ≤ a ∧ a < x ∧ inShape s at_
  | _, _ => False
instance : (s at_ : List Int) → Decidable (inShape s at_)
  | [], [] => isTrue trivial
  | x :: s, a :: at_ =>
    have := instDecidableInShape s at_
    by unfold inShape; exact inferInstance
  | [], _ :: _ => isFalse (fun h => h)
  | _ :: _, [] => isFalse (fun h => h)
theorem inShape.len : ∀ {s at_ : List Int}, inShape s at_ → at_.length = s.length
  | [], [], _ => rfl
  | x :: s, a :: at_, ⟨_, _, h⟩ => by simp [h.len]
  | [], _ :: _, h => h.elim
  | _ :: _, [], h => h.elim
theorem inShape.pos : ∀ {s at_ : List Int}, inShape s at_ → 0 < prod s
  | [], [], _ => by simp [prod]
  | x :: s, a :: at_, ⟨h0, h1, h⟩ => by
    have := h.pos
    exact Int.mul_pos (by omega) this
  | [], _ :: _, h => h.elim
  | _ :: _, [], h => h.elim
theorem off_range : ∀ {s at_ : List Int}, inShape s at_ → 0 ≤ off s at_ ∧ off s at_ < prod s
  | [], [], _ => by simp [prod, off]
  | x :: s, a :: at_, ⟨h0, h1, h⟩ => by
    have h2 := off_range h
    have h3 := h.pos
    have h4 : (a + 1) * prod s ≤ x * prod s := Int.mul_le_mul_of_nonneg_right (by omega) (by omega)
    have h5 : 0 ≤ a * prod s := Int.mul_nonneg h0 (by omega)
    rw [Int.add_mul] at h4
    simp only [prod, off]
    omega
  | [], _ :: _, h => h.elim
  | _ :: _, [], h => h.elim
theorem dig_off : ∀ {s at_ : List Int}, inShape s at_ → dig s (off s at_) = at_
  | [], [], _ => rfl
  | x :: s, a :: at_, ⟨h0, h1, h⟩ => by
    have h2 := off_range h
    have h3 := h.pos
    simp only [dig, off]
    rw [Int.add_comm, Int.mul_comm, Int.add_mul_ediv_left _ _ (by omega), Int.add_mul_emod_self_left, Int.emod_eq_of_lt h2.1 h2.2, dig_off h, Int.ediv_eq_zero_of_lt h2.1 h2.2]
    simp
  | [], _ :: _, h => h.elim
  | _ :: _, [], h => h.elim
def allPos (s : List Int) : Prop := ∀ x ∈ s, 0 < x
theorem allPos.pprod : ∀ {s : List Int}, allPos s → 0 < prod s
  | [], _ => by simp [prod]
  | x :: s, h => Int.mul_pos (h x List.mem_cons_self) (allPos.pprod fun y hy => h y (List.mem_cons_of_mem _ hy))
theorem allPos_of {s : List Int} (h : ∀ x ∈ s, 0 ≤ x) (hp : 0 < prod s) : allPos s := by
  intro x hx
  have h0 := h x hx
  rcases Int.lt_or_eq_of_le h0 with h1 | h1
  · exact h1
  · exfalso
    have : ∀ s : List Int, (0 : Int) ∈ s → prod s = 0 := by
      intro s
      induction s with
      | nil => intro h; simp at h
      | cons y s ih =>
        intro h
        rcases List.mem_cons.mp h with h | h
        · simp [prod, ← h]
        · simp [prod, ih h]
    rw [this s (h1 ▸ hx)] at hp
    omega
theorem dig_in : ∀ {s : List Int} {k : Int}, allPos s → 0 ≤ k → k < prod s → inShape s (dig s k)
  | [], k, _, h0, h1 => trivial
  | x :: s, k, h, h0, h1 => by
    have hs : allPos s := fun y hy => h y (List.mem_cons_of_mem _ hy)
    have hp := hs.pprod
    refine ⟨Int.ediv_nonneg h0 (by omega), ?_, dig_in hs (Int.emod_nonneg _ (by omega)) (Int.emod_lt_of_pos _ hp)⟩
    exact Int.ediv_lt_of_lt_mul hp h1
theorem off_dig : ∀ {s : List Int} {k : Int}, allPos s → 0 ≤ k → k < prod s → off s (dig s k) = k
  | [], k, _, h0, h1 => by simp [prod] at h1; simp [dig, off]; omega
  | x :: s, k, h, h0, h1 => by
    have hs : allPos s := fun y hy => h y (List.mem_cons_of_mem _ hy)
    have hp := hs.pprod
    simp only [dig, off]
    rw [off_dig hs (Int.emod_nonneg _ (by omega)) (Int.emod_lt_of_pos _ hp)]
    rw [Int.mul_comm]; exact Int.mul_ediv_add_emod k (prod s)
theorem dig_len : ∀ (s : List Int) (k : Int), (dig s k).length = s.length
  | [], _ => rfl
  | x :: s, k => by simp [dig, dig_len s]
theorem prod_nonneg : ∀ {s : List Int}, (∀ x ∈ s, 0 ≤ x) → 0 ≤ prod s
  | [], _ => by simp [prod]
  | x :: s, h => Int.mul_nonneg (h x List.mem_cons_self) (prod_nonneg fun y hy => h y (List.mem_cons_of_mem _ hy))
theorem prod_append : ∀ (s t : List Int), prod (s ++ t) = prod s * prod t
  | [], t => by simp [prod]
  | x :: s, t => by simp [prod, prod_append s t, Int.mul_assoc]

/-- the size of a shape, or the error. -/
def shSize (s : List Int) : Int × Int :=
  if 4 < s.length then (0, 24) else if s.any (fun x => decide (x < 0)) then (0, 1) else if s.any (fun x => decide (x > 10000)) || decide (prod s > 10000) then (0, 27) else (prod s, 0)
def shOk (s : List Int) : Prop := s.length ≤ 4 ∧ (∀ x ∈ s, 0 ≤ x ∧ x ≤ 10000) ∧ prod s ≤ 10000
instance (s : List Int) : Decidable (shOk s) := by unfold shOk; exact inferInstance
theorem shSize_ok {s : List Int} (h : shOk s) : shSize s = (prod s, 0) := by
  obtain ⟨h1, h2, h3⟩ := h
  unfold shSize
  rw [if_neg (by omega), if_neg, if_neg]
  · simp only [Bool.or_eq_true, List.any_eq_true, decide_eq_true_eq]
    rintro (⟨x, hx, h⟩ | h)
    · have := h2 x hx; omega
    · omega
  · simp only [List.any_eq_true, decide_eq_true_eq]
    rintro ⟨x, hx, h⟩
    have := h2 x hx; omega
theorem shSize_zero {s : List Int} : (shSize s).2 = 0 ↔ shOk s := by
  constructor
  · intro h
    unfold shSize at h
    split at h
    · cases h
    · rename_i h1
      split at h
      · cases h
      · rename_i h2
        split at h
        · cases h
        · rename_i h3
          simp only [List.any_eq_true, decide_eq_true_eq, not_exists, not_and] at h2
          simp only [Bool.or_eq_true, List.any_eq_true, decide_eq_true_eq, not_or, not_exists, not_and] at h3
          exact ⟨by omega, fun x hx => ⟨by have := h2 x hx; omega, by have := h3.1 x hx; omega⟩, by omega⟩
  · intro h; rw [shSize_ok h]
theorem shSize_cases (s : List Int) : (shOk s ∧ shSize s = (prod s, 0)) ∨ (¬ shOk s ∧ (shSize s).2 ≠ 0 ∧ (shSize s).1 = 0) := by
  by_cases h : shOk s
  · exact .inl ⟨h, shSize_ok h⟩
  · refine .inr ⟨h, fun hh => h (shSize_zero.mp hh), ?_⟩
    unfold shSize
    split
    · rfl
    · rename_i h1
      split
      · rfl
      · rename_i h2
        split
        · rfl
        · rename_i h3
          exfalso; apply h
          simp only [List.any_eq_true, decide_eq_true_eq, not_exists, not_and] at h2
          simp only [Bool.or_eq_true, List.any_eq_true, decide_eq_true_eq, not_or, not_exists, not_and] at h3
          exact ⟨by omega, fun x hx => ⟨by have := h2 x hx; omega, by have := h3.1 x hx; omega⟩, by omega⟩
theorem dig_bound {s : List Int} {k : Int} (hok : shOk s) (h0 : 0 ≤ k) (h1 : k < prod s) : ∀ x ∈ dig s k, 0 ≤ x ∧ x ≤ 10000 := by
  have hpos : allPos s := allPos_of (fun x hx => (hok.2.1 x hx).1) (by omega)
  have key : ∀ (s at_ : List Int), inShape s at_ → (∀ x ∈ s, 0 ≤ x ∧ x ≤ 10000) → ∀ x ∈ at_, 0 ≤ x ∧ x ≤ 10000 := by
    intro s
    induction s with
    | nil => intro at_ h _ x hx; cases at_ with | nil => simp at hx | cons _ _ => exact h.elim
    | cons y s ih =>
      intro at_ h hb x hx
      cases at_ with
      | nil => exact h.elim
      | cons a at_ =>
        obtain ⟨h1, h2, h3⟩ := h
        rcases List.mem_cons.mp hx with rfl | hx
        · have := hb y List.mem_cons_self; omega
        · exact ih at_ h3 (fun z hz => hb z (List.mem_cons_of_mem _ hz)) x hx
  exact key s _ (dig_in hpos h0 h1) hok.2.1
theorem dig_zero : ∀ {s : List Int}, allPos s → dig s 0 = List.replicate s.length 0
  | [], _ => rfl
  | x :: s, h => by
    have hs : allPos s := fun y hy => h y (List.mem_cons_of_mem _ hy)
    simp only [dig, Int.zero_ediv, Int.zero_emod, dig_zero hs]; rfl

theorem one_le_pow : ∀ k : Nat, (1 : Int) ≤ 10000 ^ k
  | 0 => by simp
  | k + 1 => by rw [Int.pow_succ]; have := one_le_pow k; omega
theorem prod_bound : ∀ (s : List Int) (k : Nat), s.length ≤ k → (∀ x ∈ s, 0 ≤ x ∧ x ≤ 10000) → 0 ≤ prod s ∧ prod s ≤ 10000 ^ k
  | [], k, _, _ => ⟨by simp [prod], one_le_pow k⟩
  | x :: s, k + 1, hl, h => by
    have h1 := h x List.mem_cons_self
    have h2 := prod_bound s k (by simpa using hl) (fun y hy => h y (List.mem_cons_of_mem _ hy))
    refine ⟨Int.mul_nonneg h1.1 h2.1, ?_⟩
    simp only [prod]
    have h3 : x * prod s ≤ 10000 * prod s := Int.mul_le_mul_of_nonneg_right h1.2 h2.1
    have h4 : (10000 : Int) ^ (k + 1) = 10000 ^ k * 10000 := Int.pow_succ _ _
    omega
  | x :: s, 0, hl, h => by simp at hl

theorem product_eq {s : List Int} (hl : s.length ≤ 4) (hb : ∀ x ∈ s, 0 ≤ x ∧ x ≤ 10000) : M.shape_product s = some (prod s) := by
  have key := wloop_ind (f := M.shape_product_L1 s) (fun n st => ∃ k : Nat, st = (prod (s.take k), (k : Int)) ∧ k ≤ s.length ∧ n = s.length - k)
    (fun b => b = .next (prod s)) (fun n st h => by
      obtain ⟨k, rfl, hk, rfl⟩ := h
      unfold M.shape_product_L1
      by_cases hlt : k < s.length
      · left
        simp only [show decide ((k : Int) < (s.length : Int)) = true from by simp; exact hlt, if_true, idx_get hlt, Option.bind_some]
        have e : prod (s.take k) * s[k] = prod (s.take (k + 1)) := by
          rw [List.take_succ_eq_append_getElem hlt, prod_append]; simp [prod]
        have hp := prod_bound (s.take (k + 1)) 4 (by rw [List.length_take]; omega) (fun x hx => hb x (List.mem_of_mem_take hx))
        refine ⟨_, s.length - (k + 1), rfl, by omega, k + 1, ?_, by omega, rfl⟩
        rw [e, w64_id (by omega) (by omega), w64_id (by omega) (by omega)]
        simp
      · have : k = s.length := by omega
        subst this
        right
        simp)
    s.length (1, 0) ⟨0, by simp [prod], by omega, by omega⟩
  obtain ⟨b, hb, rfl⟩ := key
  unfold M.shape_product
  rw [hb]; rfl

theorem shape_Size_eq {s : List Int} (hl : s.length ≤ maxLen) : M.shape_Size s = some (shSize s) := by
  have hm : maxLen = 9223372036854775807 := rfl
  unfold M.shape_Size shSize
  by_cases h4 : 4 < s.length
  · rw [if_pos h4, if_pos (by simp; omega)]
  · rw [if_neg h4, if_neg (by simp; omega)]
    rw [contains_int (s := s) (f := fun x0 => M.shape_Size_1 x0) (g := fun x => decide (x < 0)) (fun x _ => rfl) (by omega), Option.bind_some]
    cases hneg : s.any (fun x => decide (x < 0)) with
    | true => simp
    | false =>
      simp only [Bool.false_eq_true, if_false]
      rw [contains_int (s := s) (f := fun x0 => M.shape_Size_2 x0) (g := fun x => decide (x > 10000)) (fun x _ => rfl) (by omega), Option.bind_some]
      cases hbig : s.any (fun x => decide (x > 10000)) with
      | true => simp
      | false =>
        have hb : ∀ x ∈ s, 0 ≤ x ∧ x ≤ 10000 := by
          intro x hx
          simp only [List.any_eq_false, decide_eq_true_eq] at hneg hbig
          have := hneg x hx; have := hbig x hx; omega
        simp only [Bool.false_eq_true, if_false, product_eq (by omega) hb, Option.bind_some, Bool.false_or]
        split <;> simp_all
theorem sized_eq {s : List Int} (hl : s.length ≤ maxLen) : M.shape_sized s = some ((shSize s).2 == 0) := by
  unfold M.shape_sized; rw [shape_Size_eq hl]; rfl
/-- is a number a character? -/
def chOk (c : Int) : Bool := decide (0 ≤ c ∧ c ≤ 1114111) && !decide (55296 ≤ c ∧ c ≤ 57343)
/-- may an array be? -/
def vRight (v : Val) : Bool := decide (shOk v.Shape) && decide (prod v.Shape = v.Data.length) && (!v.Char || v.Data.all chOk)
def vSame (a b : Val) : Bool := (a.Char == b.Char) && decide (a.Shape = b.Shape) && decide (a.Data = b.Data)
theorem vSame_iff {a b : Val} : vSame a b = true ↔ a = b := by
  obtain ⟨c, s, d⟩ := a
  obtain ⟨c', s', d'⟩ := b
  simp only [vSame, Bool.and_eq_true, beq_iff_eq, decide_eq_true_eq, Val.mk.injEq]
  constructor
  · rintro ⟨⟨h1, h2⟩, h3⟩; exact ⟨h1, h2, h3⟩
  · rintro ⟨h1, h2, h3⟩; exact ⟨⟨h1, h2⟩, h3⟩
theorem vSame_refl (a : Val) : vSame a a = true := vSame_iff.mpr rfl
theorem vSame_eq (a b : Val) : vSame a b = true ∧ a = b ∨ vSame a b = false ∧ a ≠ b := by
  cases h : vSame a b with
  | true => exact .inl ⟨rfl, vSame_iff.mp h⟩
  | false => exact .inr ⟨rfl, fun hh => by rw [vSame_iff.mpr hh] at h; cases h⟩
theorem vRight_iff {v : Val} : vRight v = true ↔ shOk v.Shape ∧ prod v.Shape = v.Data.length ∧ (v.Char = true → ∀ c ∈ v.Data, chOk c = true) := by
  simp only [vRight, Bool.and_eq_true, decide_eq_true_eq, Bool.or_eq_true, Bool.not_eq_true', List.all_eq_true]
  constructor
  · rintro ⟨⟨h1, h2⟩, h3⟩
    refine ⟨h1, h2, fun h => ?_⟩
    rcases h3 with h3 | h3
    · rw [h3] at h; cases h
    · exact h3
  · rintro ⟨h1, h2, h3⟩
    refine ⟨⟨h1, h2⟩, ?_⟩
    cases h : v.Char with
    | true => exact .inr (h3 h)
    | false => exact .inl rfl

theorem right_loop {f : Int × Int → Option (Ctl (Int × Int) (Ctl Int Bool))} {s : List Int} (h4 : s.length ≤ 4)
    (hf : ∀ k : Nat, ∀ h : k < s.length, ∀ z, f (z, (k : Int)) = if s[k] < 0 ∨ s[k] > 10000 then some (.done (.done false)) else some (.next (IntKind.i64.wrap (z * s[k]), (k : Int) + 1)))
    (he : ∀ z, f (z, (s.length : Int)) = some (.done (.next z))) :
    ((∀ x ∈ s, 0 ≤ x ∧ x ≤ 10000) ∧ wloop f (1, 0) = some (.next (prod s))) ∨ (¬ (∀ x ∈ s, 0 ≤ x ∧ x ≤ 10000) ∧ wloop f (1, 0) = some (.done false)) := by
  have key := wloop_ind (f := f) (fun n st => ∃ k : Nat, n = s.length - k ∧ k ≤ s.length ∧ st = (prod (s.take k), (k : Int)) ∧ ∀ x ∈ s.take k, 0 ≤ x ∧ x ≤ 10000)
    (fun b => (b = .next (prod s) ∧ ∀ x ∈ s, 0 ≤ x ∧ x ≤ 10000) ∨ (b = .done false ∧ ¬ ∀ x ∈ s, 0 ≤ x ∧ x ≤ 10000)) (fun n st h => by
      obtain ⟨k, rfl, hk, rfl, hall⟩ := h
      by_cases hlt : k < s.length
      · rw [hf k hlt]
        by_cases hb : s[k] < 0 ∨ s[k] > 10000
        · rw [if_pos hb]
          right
          refine ⟨_, rfl, .inr ⟨rfl, fun hh => ?_⟩⟩
          have := hh _ (List.getElem_mem hlt); omega
        · rw [if_neg hb]
          left
          have e := List.take_succ_eq_append_getElem hlt
          have hall2 : ∀ x ∈ s.take (k + 1), 0 ≤ x ∧ x ≤ 10000 := by
            intro x hx
            rw [e] at hx
            rcases List.mem_append.mp hx with hx | hx
            · exact hall x hx
            · rw [List.mem_singleton.mp hx]; omega
          have hp := prod_bound (s.take (k + 1)) 4 (by rw [List.length_take]; omega) hall2
          have e2 : prod (s.take (k + 1)) = prod (s.take k) * s[k] := by rw [e, prod_append]; simp [prod]
          refine ⟨_, s.length - (k + 1), rfl, by omega, k + 1, rfl, by omega, ?_, hall2⟩
          rw [← e2, w64_id (by omega) (by omega)]; simp
      · have : k = s.length := by omega
        subst this
        rw [he]
        rw [List.take_length] at hall ⊢
        exact .inr ⟨_, rfl, .inl ⟨rfl, hall⟩⟩)
    s.length (1, 0) ⟨0, by omega, by omega, by simp [prod], by simp⟩
  obtain ⟨b, hb, ⟨rfl, h⟩ | ⟨rfl, h⟩⟩ := key
  · exact .inl ⟨h, hb⟩
  · exact .inr ⟨h, hb⟩
theorem all_loop {f : Int → Option (Ctl Int (Ctl Unit Bool))} {l : List Int} {p : Int → Bool}
    (hf : ∀ k : Nat, ∀ h : k < l.length, f k = if p l[k] = true then some (.next ((k : Int) + 1)) else some (.done (.done false))) (he : f l.length = some (.done (.next ()))) :
    wloop f 0 = some (if l.all p = true then .next () else .done false) := by
  have key := wloop_ind (f := f) (fun n i => ∃ k : Nat, i = k ∧ k ≤ l.length ∧ n = l.length - k ∧ (l.take k).all p = true)
    (fun c => (c = .done false ∧ l.all p = false) ∨ (c = .next () ∧ l.all p = true)) (fun n i h => by
      obtain ⟨k, rfl, hk, rfl, hn⟩ := h
      by_cases hlt : k < l.length
      · rw [hf k hlt]
        by_cases hp : p l[k] = true
        · rw [if_pos hp]
          left
          refine ⟨_, l.length - (k + 1), rfl, by omega, k + 1, by omega, by omega, rfl, ?_⟩
          rw [List.take_succ_eq_append_getElem hlt, List.all_append, hn]; simp [hp]
        · rw [if_neg hp]
          right
          refine ⟨_, rfl, .inl ⟨rfl, ?_⟩⟩
          rw [List.all_eq_false]
          exact ⟨_, List.getElem_mem hlt, hp⟩
      · have : k = l.length := by omega
        subst this
        right
        rw [List.take_length] at hn
        exact ⟨_, he, .inr ⟨rfl, hn⟩⟩) l.length 0 ⟨0, rfl, by omega, by omega, by simp⟩
  obtain ⟨c, hc, ⟨rfl, h⟩ | ⟨rfl, h⟩⟩ := key
  · rw [hc, h]; simp
  · rw [hc, h]; simp
theorem w32_id {x : Int} (h1 : 0 ≤ x) (h2 : x ≤ 1114111) : IntKind.i32.wrap x = x := by
  have e : IntKind.i32.wrap x = if x % 4294967296 ≥ 2147483648 then x % 4294967296 - 4294967296 else x % 4294967296 := by
    simp [IntKind.wrap, IntKind.bits, IntKind.signed]
  rw [e]
  split <;> omega
theorem character_eq (c : Int) : M.value_character c = some (chOk c) := by
  unfold M.value_character chOk
  by_cases h : 0 ≤ c ∧ c ≤ 1114111
  · have e : (decide (c ≥ 0) && decide (c ≤ 1114111)) = true := by simp; omega
    simp only [e, if_true, h, and_self, decide_true, Bool.true_and]
    rw [w32_id h.1 h.2]
    unfold M.unicode_utf8_ValidRune
    by_cases h1 : c < 55296
    · have e1 : (decide (0 ≤ c) && decide (c < 55296)) = true := by simp; omega
      have e2 : decide (55296 ≤ c ∧ c ≤ 57343) = false := decide_eq_false (by omega)
      simp only [e1, e2, if_true, Option.bind_some, Bool.not_false]
    · have e1 : (decide (0 ≤ c) && decide (c < 55296)) = false := by simp; omega
      simp only [e1, Bool.false_eq_true, if_false]
      by_cases h2 : 57343 < c
      · have e3 : (decide (57343 < c) && decide (c ≤ 1114111)) = true := by simp; omega
        have e2 : decide (55296 ≤ c ∧ c ≤ 57343) = false := decide_eq_false (by omega)
        simp only [e3, e2, if_true, Option.bind_some, Bool.not_false]
      · have e3 : (decide (57343 < c) && decide (c ≤ 1114111)) = false := by simp; omega
        have e2 : decide (55296 ≤ c ∧ c ≤ 57343) = true := decide_eq_true (by omega)
        simp only [e3, e2, Bool.false_eq_true, if_false, Option.bind_some, Bool.not_true]
  · have e : (decide (c ≥ 0) && decide (c ≤ 1114111)) = false := by simp; omega
    simp only [e, Bool.false_eq_true, if_false, h, decide_false, Bool.false_and, Option.bind_some]
theorem value_Right_eq {v : Val} (hd : v.Data.length ≤ 9223372036854775807) : M.value_Right v = some (vRight v) := by
  unfold M.value_Right
  by_cases h4 : 4 < v.Shape.length
  · rw [if_pos (by simp; omega)]
    have : vRight v = false := by
      cases h : vRight v with
      | false => rfl
      | true => have := (vRight_iff.mp h).1.1; omega
    rw [this]
  · rw [if_neg (by simp; omega)]
    have hloop := right_loop (f := M.value_Right_L1 v) (s := v.Shape) (by omega) (fun k h z => by
      unfold M.value_Right_L1
      simp only [show decide ((k : Int) < (v.Shape.length : Int)) = true from decide_eq_true (by omega), if_true, idx_get h, Option.bind_some]
      by_cases hb : v.Shape[k] < 0 ∨ v.Shape[k] > 10000
      · rw [if_pos hb, if_pos (by simpa using hb)]
      · rw [if_neg hb, if_neg (by simpa using hb), w64_id (x := (k : Int) + 1) (by omega) (by omega)]) (fun z => by unfold M.value_Right_L1; simp)
    rcases hloop with ⟨hall, hw⟩ | ⟨hall, hw⟩
    · rw [hw]
      simp only [Option.bind_some, joinK_next]
      have hp0 : 0 ≤ prod v.Shape := prod_nonneg fun x hx => (hall x hx).1
      by_cases hsz : prod v.Shape ≤ 10000 ∧ prod v.Shape = v.Data.length
      · have e : (decide (prod v.Shape > 10000) || (prod v.Shape != (v.Data.length : Int))) = false := by simp; omega
        simp only [e, Bool.false_eq_true, if_false]
        have hok : shOk v.Shape := ⟨by omega, hall, hsz.1⟩
        have hv : vRight v = (!v.Char || v.Data.all chOk) := by unfold vRight; simp [hok, hsz.2]
        rw [hv]
        cases hc : v.Char with
        | false => simp
        | true =>
          simp only [Bool.not_true, Bool.false_eq_true, if_false, Bool.false_or]
          rw [contains_int64 (s := v.Data) (f := fun x0 => M.value_Right_1 x0) (g := fun x => !chOk x) (fun x _ => by unfold M.value_Right_1; rw [character_eq]; rfl) hd]
          simp only [Option.bind_some]
          congr 1
          rw [List.not_any_eq_all_not]; simp
      · have e : (decide (prod v.Shape > 10000) || (prod v.Shape != (v.Data.length : Int))) = true := by
          simp; omega
        simp only [e, if_true]
        have : vRight v = false := by
          cases h : vRight v with
          | false => rfl
          | true => have := vRight_iff.mp h; exact absurd ⟨this.1.2.2, this.2.1⟩ hsz
        rw [this]
    · rw [hw]
      have : vRight v = false := by
        cases h : vRight v with
        | false => rfl
        | true => exact absurd (vRight_iff.mp h).1.2.1 hall
      rw [this]; rfl
theorem ref02_Same_eq {a b : Val} (hs : a.Shape.length ≤ maxLen) (hd : a.Data.length ≤ maxLen) : M.anamnesisref02_Same a b = some (vSame a b) := by
  have hm : maxLen = 9223372036854775807 := rfl
  unfold M.anamnesisref02_Same
  by_cases hl : (a.Char = b.Char ∧ a.Shape.length = b.Shape.length) ∧ a.Data.length = b.Data.length
  · obtain ⟨⟨h1, h2⟩, h3⟩ := hl
    rw [if_neg (by simp [h1, h2, h3])]
    have l1 := same_loop (f := M.anamnesisref02_Same_L1 a b) h2 hs (fun k h => by
      unfold M.anamnesisref02_Same_L1
      simp only [show decide ((k : Int) < (a.Shape.length : Int)) = true from decide_eq_true (by omega), if_true, idx_get h, idx_get (show k < b.Shape.length by omega), Option.bind_some]
      by_cases he : a.Shape[k] = b.Shape[k]
      · rw [if_pos he, if_neg (by simp [he]), w64_id (by omega) (by omega)]
      · rw [if_neg he, if_pos (by simp [he])]) (by unfold M.anamnesisref02_Same_L1; simp)
    have l2 := same_loop (f := M.anamnesisref02_Same_L2 a b) h3 hd (fun k h => by
      unfold M.anamnesisref02_Same_L2
      simp only [show decide ((k : Int) < (a.Data.length : Int)) = true from decide_eq_true (by omega), if_true, idx_get h, idx_get (show k < b.Data.length by omega), Option.bind_some]
      by_cases he : a.Data[k] = b.Data[k]
      · rw [if_pos he, if_neg (by simp [he]), w64_id (by omega) (by omega)]
      · rw [if_neg he, if_pos (by simp [he])]) (by unfold M.anamnesisref02_Same_L2; simp)
    rw [l1, l2]
    unfold vSame
    simp only [h1, BEq.rfl, Bool.true_and]
    by_cases he : a.Shape = b.Shape
    · rw [if_pos he, decide_eq_true he]
      by_cases hd : a.Data = b.Data
      · rw [if_pos hd, decide_eq_true hd]; rfl
      · rw [if_neg hd, decide_eq_false hd]; rfl
    · rw [if_neg he, decide_eq_false he]; rfl
  · have e : ((!(a.Char == b.Char) || ((a.Shape.length : Int) != (b.Shape.length : Int))) || ((a.Data.length : Int) != (b.Data.length : Int))) = true := by
      cases hq : ((!(a.Char == b.Char) || ((a.Shape.length : Int) != (b.Shape.length : Int))) || ((a.Data.length : Int) != (b.Data.length : Int))) with
      | true => rfl
      | false =>
        exfalso; apply hl
        simp only [Bool.or_eq_false_iff, Bool.not_eq_false', beq_iff_eq, bne_eq_false_iff_eq] at hq
        obtain ⟨⟨q1, q2⟩, q3⟩ := hq
        exact ⟨⟨q1, by omega⟩, by omega⟩
    rw [if_pos e]
    have : vSame a b = false := by
      cases hq : vSame a b with
      | false => rfl
      | true => have := vSame_iff.mp hq; subst this; simp at hl
    rw [this]
theorem sub_take {α : Type} {l : List α} {k : Nat} (h : k ≤ l.length) : sub l 0 (k : Int) = some (l.take k) := by
  unfold sub
  rw [if_pos ⟨by omega, by omega, by omega⟩]
  simp
/-- what is ahead of an axis, it, what is behind. -/
def splitOf (s : List Int) (axis : Int) : Int × Int × Int × Bool :=
  if h : shOk s ∧ 0 ≤ axis ∧ axis < s.length then (prod (s.take axis.toNat), s[axis.toNat]'(by omega), prod (s.drop (axis.toNat + 1)), true) else (0, 0, 0, false)
theorem shape_Split_eq {s : List Int} {axis : Int} (hl : s.length ≤ maxLen) (ha : -9223372036854775808 ≤ axis ∧ axis ≤ 9223372036854775807) : M.shape_Split s axis = some (splitOf s axis) := by
  have hm : maxLen = 9223372036854775807 := rfl
  unfold M.shape_Split splitOf
  by_cases hr : 0 ≤ axis ∧ axis < s.length
  · have e : (decide (axis < 0) || decide (axis ≥ (s.length : Int))) = false := by
      rw [decide_eq_false (by omega), decide_eq_false (by omega)]; rfl
    rw [e, sized_eq hl]
    simp only [Bool.false_eq_true, if_false, Option.bind_some]
    rcases shSize_cases s with ⟨hok, he⟩ | ⟨hok, he, _⟩
    · obtain ⟨k, rfl⟩ : ∃ k : Nat, axis = k := ⟨axis.toNat, by omega⟩
      have hk : k < s.length := by omega
      have h4 := hok.1
      rw [he, dif_pos ⟨hok, hr⟩]
      simp only [beq_self_eq_true, Bool.not_true, Bool.false_eq_true, if_false]
      rw [sub_take (by omega), Option.bind_some, product_eq (by rw [List.length_take]; omega) (fun x hx => hok.2.1 x (List.mem_of_mem_take hx)), Option.bind_some, idx_get hk, Option.bind_some, w64_id (by omega) (by omega),
        show (k : Int) + 1 = ((k + 1 : Nat) : Int) by omega, sub_drop (by omega), Option.bind_some, product_eq (by rw [List.length_drop]; omega) (fun x hx => hok.2.1 x (List.mem_of_mem_drop hx))]
      rfl
    · have : ((shSize s).2 == 0) = false := by simpa using he
      rw [this, dif_neg (fun h => hok h.1)]
      rfl
  · have e : (decide (axis < 0) || decide (axis ≥ (s.length : Int))) = true := by
      simp; omega
    rw [e, dif_neg (fun h => hr h.2)]
    rfl
/-- a shape without an axis. -/
def wo (s : List Int) (axis : Int) : List Int := if 0 ≤ axis ∧ axis < s.length then s.take axis.toNat ++ s.drop (axis.toNat + 1) else s
theorem shape_Without_eq {s : List Int} {axis : Int} (hl : s.length ≤ 1000000) (ha : -9223372036854775808 ≤ axis ∧ axis ≤ 9223372036854775807) : M.shape_Without s axis = some (wo s axis) := by
  unfold M.shape_Without M.slices_Clone__int wo
  rw [app_ok (by simp; omega), List.nil_append, Option.bind_some]
  by_cases hr : 0 ≤ axis ∧ axis < s.length
  · obtain ⟨k, rfl⟩ : ∃ k : Nat, axis = k := ⟨axis.toNat, by omega⟩
    rw [if_neg (by simp; omega), if_pos hr, w64_id (by omega) (by omega)]
    unfold M.slices_Delete__int del
    rw [if_pos ⟨by omega, by omega, by omega⟩]
    have : ((k : Int) + 1).toNat = k + 1 := by omega
    simp [this]
  · rw [if_pos (by simp; omega), if_neg hr]
theorem wo_prod {s : List Int} {k : Nat} (h : k < s.length) : prod (wo s k) = prod (s.take k) * prod (s.drop (k + 1)) := by
  unfold wo
  rw [if_pos ⟨by omega, by omega⟩, prod_append]; simp
theorem prod_split {s : List Int} {k : Nat} (h : k < s.length) : prod s = prod (s.take k) * s[k] * prod (s.drop (k + 1)) := by
  conv => lhs; rw [← List.take_append_drop k s, drop_cons h, prod_append]
  simp only [prod]
  rw [Int.mul_assoc]
theorem Equal_int_eq {a b : List Int} (ha : a.length ≤ maxLen) : M.slices_Equal__int a b = some (decide (a = b)) := by
  have hm : maxLen = 9223372036854775807 := rfl
  unfold M.slices_Equal__int
  by_cases hl : a.length = b.length
  · rw [if_neg (by simp [hl])]
    refine same_step hl ha (fun k h => ?_) ?_
    · unfold M.slices_Equal__int_L1
      simp only [show decide ((k : Int) < (a.length : Int)) = true from by simp; exact h, if_true, idx_get h, idx_get (hl ▸ h : k < b.length), Option.bind_some]
      by_cases he : a[k] = b[k]'(hl ▸ h)
      · rw [if_pos he, if_neg (by simp [he]), w64_id (by omega) (by omega)]
      · rw [if_neg he, if_pos (by simp [he])]
    · unfold M.slices_Equal__int_L1; simp
  · rw [if_pos (by simp; omega)]
    have : a ≠ b := fun h => hl (by rw [h])
    simp [this]
theorem whole_one {v : Val} (h : v.Data.length ≤ 9223372036854775807) : M.join_whole [v] = some (vRight v) := by
  unfold M.join_whole
  rw [contains_Val (g := fun v => !vRight v) (fun x hx => by
    obtain rfl := List.mem_singleton.mp hx
    unfold M.join_whole_1; rw [value_Right_eq h]; rfl) (by simp)]
  simp
theorem whole_two {v w : Val} (h : v.Data.length ≤ 9223372036854775807) (h' : w.Data.length ≤ 9223372036854775807) : M.join_whole [v, w] = some (vRight v && vRight w) := by
  unfold M.join_whole
  rw [contains_Val (g := fun v => !vRight v) (fun x hx => by
    have : x = v ∨ x = w := by simpa using hx
    rcases this with rfl | rfl
    · unfold M.join_whole_1; rw [value_Right_eq h]; rfl
    · unfold M.join_whole_1; rw [value_Right_eq h']; rfl) (by simp)]
  simp
def zV : Val := ⟨false, [], []⟩
theorem join_Ravel_eq {v : Val} (h : v.Data.length ≤ 1000000000) : M.join_Ravel v = some (if vRight v then (⟨v.Char, [(v.Data.length : Int)], v.Data⟩, 0) else (zV, 1)) := by
  unfold M.join_Ravel M.slices_Clone__int64
  rw [whole_one (by omega)]
  cases hr : vRight v with
  | false => rfl
  | true =>
    simp only [Option.bind_some, Bool.not_true, Bool.false_eq_true, if_false, if_true]
    rw [app_ok (by simp; omega)]; rfl
def kindOf (a b : Val) : Bool × Bool := if a.Char = b.Char ∨ a.Data.length = 0 then (b.Char, true) else if b.Data.length = 0 then (a.Char, true) else (false, false)
theorem join_kind_eq (a b : Val) : M.join_kind a b = some (kindOf a b) := by
  unfold M.join_kind kindOf
  have e : (if (a.Char == b.Char) = true then some (a.Char == b.Char) else some ((a.Data.length : Int) == 0)) = some (decide (a.Char = b.Char ∨ a.Data.length = 0)) := by
    by_cases h : a.Char = b.Char
    · rw [if_pos (by simpa using h), decide_eq_true (.inl h)]; simp [h]
    · rw [if_neg (by simpa using h)]
      congr 1
      rw [Bool.eq_iff_iff]; simp [h]
  rw [e]
  simp only [Option.bind_some]
  by_cases h : a.Char = b.Char ∨ a.Data.length = 0
  · rw [if_pos (by simpa using h), if_pos h]
  · rw [if_neg (by simpa using h), if_neg h]
    by_cases h2 : b.Data.length = 0
    · rw [if_pos (by simp [h2]), if_pos h2]
    · rw [if_neg (by rw [beq_iff_eq]; omega), if_neg h2]
/-- two of one rank, along the first axis. -/
def catV (a b : Val) (m n : Int) (t u : List Int) : Val × Int :=
  if t ≠ u then (zV, 25) else if ¬ shOk ((m + n) :: t) then (zV, 27) else if (kindOf a b).2 = false then (zV, 23) else (⟨(kindOf a b).1, (m + n) :: t, a.Data ++ b.Data⟩, 0)
theorem cat_eq {a b : Val} {m n : Int} {t u : List Int} {axis : Int} (hsa : a.Shape = m :: t) (hsb : b.Shape = n :: u) (hl : t.length = u.length) (hra : vRight a = true) (hrb : vRight b = true) (hax : axis = 0 ∨ axis = -1 ∧ t = []) :
    M.join_Catenate a b axis = some (catV a b m n t u) := by
  have hm : maxLen = 9223372036854775807 := rfl
  obtain ⟨⟨a4, ab, ap⟩, hap, _⟩ := vRight_iff.mp hra
  obtain ⟨⟨b4, bb, bp⟩, hbp, _⟩ := vRight_iff.mp hrb
  have hla : a.Data.length ≤ 10000 := by omega
  have hlb : b.Data.length ≤ 10000 := by omega
  have hr1 : a.Shape.length = t.length + 1 := by rw [hsa]; rfl
  have hr2 : b.Shape.length = t.length + 1 := by rw [hsb, hl]; rfl
  have bm := ab m (by rw [hsa]; simp)
  have bn := bb n (by rw [hsb]; simp)
  unfold M.join_Catenate
  rw [whole_two (by omega) (by omega), hra, hrb]
  simp only [Option.bind_some, Bool.and_self, Bool.not_true, Bool.false_eq_true, if_false]
  have emax : (if (a.Shape.length : Int) < (b.Shape.length : Int) then (b.Shape.length : Int) else (a.Shape.length : Int)) = (t.length : Int) + 1 := by rw [hr1, hr2]; split <;> omega
  rw [emax, if_neg (by simp; rcases hax with rfl | ⟨rfl, _⟩ <;> omega), if_neg (by simp; omega)]
  simp only [Option.bind_some, joinK_next]
  have eax : (if (axis == -1) = true then some (IntKind.i64.wrap ((t.length : Int) + 1 - 1)) else some axis) = some 0 := by
    rcases hax with rfl | ⟨rfl, rfl⟩ <;> rfl
  rw [eax]
  simp only [Option.bind_some]
  have f1 : M.join_fits ⟨a.Char, a.Shape, a.Data⟩ b.Shape 0 = some (a, 0) := by
    unfold M.join_fits
    rw [if_pos (by simp [hr1, hr2])]
  have f2 : M.join_fits ⟨b.Char, b.Shape, b.Data⟩ a.Shape 0 = some (b, 0) := by
    unfold M.join_fits
    rw [if_pos (by simp [hr1, hr2])]
  rw [f1, f2]
  simp only [Option.bind_some]
  rw [if_neg (by simp [hr1, hr2]), if_neg (by simp [hr1, hr2])]
  simp only [Option.bind_some, bne_self_eq_false, Bool.or_self, Bool.false_eq_true, if_false]
  have hbes : M.join_beside ⟨a.Char, a.Shape, a.Data⟩ ⟨b.Char, b.Shape, b.Data⟩ 0 = some (if t ≠ u then (zV, 25) else if ¬ shOk ((m + n) :: t) then (zV, 27) else (⟨false, (m + n) :: t, a.Data ++ b.Data⟩, 0)) := by
    unfold M.join_beside
    have w1 : wo a.Shape 0 = t := by rw [hsa]; unfold wo; rw [if_pos (by simp <;> omega)]; rfl
    have w2 : wo b.Shape 0 = u := by rw [hsb]; unfold wo; rw [if_pos (by simp <;> omega)]; rfl
    simp only []
    rw [shape_Without_eq (by omega) (by omega), shape_Without_eq (by omega) (by omega), w1, w2]
    simp only [Option.bind_some]
    rw [Equal_int_eq (by omega)]
    simp only [Option.bind_some]
    by_cases htu : t = u
    · subst htu
      simp only [ne_eq, not_true_eq_false, if_false, decide_true, Bool.not_true, Bool.false_eq_true]
      unfold M.slices_Clone__int
      rw [app_ok (by simp; omega), List.nil_append, hsa, hsb]
      simp only [Option.bind_some]
      have i0 : ∀ (x : Int) (l : List Int), idx (x :: l) 0 = some x := fun _ _ => rfl
      have u0 : ∀ (x y : Int) (l : List Int), upd (x :: l) 0 y = some (y :: l) := fun x y l => by
        unfold upd; rw [if_pos ⟨by omega, by simp <;> omega⟩]; rfl
      rw [i0, i0]
      simp only [Option.bind_some]
      rw [u0, w64_id (by omega) (by omega)]
      simp only [Option.bind_some]
      rw [shape_Size_eq (by simp; omega)]
      simp only [Option.bind_some]
      rcases shSize_cases ((m + n) :: t) with ⟨hok, hs⟩ | ⟨hok, hs, _⟩
      · rw [hs, if_neg (by simp)]
        simp only [bne_self_eq_false, Bool.false_eq_true, if_false]
        rw [i0]
        have hb0 := hok.2.1 (m + n) (by simp)
        simp only [Option.bind_some]
        rw [if_neg (by simp; omega)]
        have hp := prod_nonneg (fun x hx => (hok.2.1 x hx).1)
        have hp2 := hok.2.2
        have ht := prod_nonneg (s := t) (fun x hx => (hok.2.1 x (by simp [hx])).1)
        have epr : prod ((m + n) :: t) = m * prod t + n * prod t := by rw [prod, Int.add_mul]
        have ea : m * prod t = (a.Data.length : Int) := by rw [← hap, hsa]; rfl
        have eb : n * prod t = (b.Data.length : Int) := by rw [← hbp, hsb]; rfl
        rw [ea, eb] at epr
        have hmk : mk 8 (0 : Int) 0 (prod ((m + n) :: t)) = some [] := by
          unfold mk
          rw [if_pos ⟨by omega, by omega, by omega, by omega⟩]; rfl
        rw [hmk]
        simp only [Option.bind_some]
        have sp1 : splitOf (m :: t) 0 = (1, m, prod t, true) := by
          unfold splitOf
          rw [dif_pos ⟨by rw [← hsa]; exact ⟨a4, ab, ap⟩, by omega, by simp <;> omega⟩]; rfl
        have sp2 : splitOf (n :: t) 0 = (1, n, prod t, true) := by
          unfold splitOf
          rw [dif_pos ⟨by rw [← hsb]; exact ⟨b4, bb, bp⟩, by omega, by simp <;> omega⟩]; rfl
        rw [shape_Split_eq (by simp; omega) (by omega), shape_Split_eq (by simp; omega) (by omega), sp1, sp2]
        simp only [Option.bind_some]
        have hloop : wloop (M.join_beside_L1 ⟨a.Char, m :: t, a.Data⟩ ⟨b.Char, n :: t, b.Data⟩ (prod ((m + n) :: t)) 1 m (prod t) n) (0, []) = some (.next (a.Data ++ b.Data)) := by
          by_cases hz : prod ((m + n) :: t) = 0
          · refine wloop_done ?_
            have h1 : a.Data = [] := List.eq_nil_of_length_eq_zero (by omega)
            have h2 : b.Data = [] := List.eq_nil_of_length_eq_zero (by omega)
            unfold M.join_beside_L1
            simp only []
            rw [if_pos (by simp), if_pos (by simpa using hz), h1, h2]; rfl
          · have s1 : M.join_beside_L1 ⟨a.Char, m :: t, a.Data⟩ ⟨b.Char, n :: t, b.Data⟩ (prod ((m + n) :: t)) 1 m (prod t) n (0, []) = some (.next (1, a.Data ++ b.Data)) := by
              unfold M.join_beside_L1
              simp only []
              rw [if_pos (by simp), if_neg (by simpa using hz)]
              have e1 : IntKind.i64.wrap (IntKind.i64.wrap ((0 : Int) * m) * prod t) = 0 := by rw [Int.zero_mul, show IntKind.i64.wrap 0 = 0 from rfl, Int.zero_mul]; rfl
              have e2 : IntKind.i64.wrap (IntKind.i64.wrap ((0 : Int) * n) * prod t) = 0 := by rw [Int.zero_mul, show IntKind.i64.wrap 0 = 0 from rfl, Int.zero_mul]; rfl
              have e3 : IntKind.i64.wrap ((0 : Int) + 1) = 1 := rfl
              rw [e1, e2, e3, Int.one_mul, Int.one_mul, w64_id (x := m) (by omega) (by omega), w64_id (x := n) (by omega) (by omega), ea, eb, w64_id (x := (a.Data.length : Int)) (by omega) (by omega), w64_id (x := (b.Data.length : Int)) (by omega) (by omega)]
              rw [show (0 : Int) = ((0 : Nat) : Int) from rfl, sub_drop (by omega), sub_drop (by omega)]
              simp only [Option.bind_some, List.drop_zero]
              rw [app_ok (by simp; omega)]
              simp only [Option.bind_some, List.nil_append]
              rw [app_ok (by omega)]; rfl
            rw [wloop_next s1]
            refine wloop_done ?_
            unfold M.join_beside_L1
            rfl
        rw [hloop]
        simp only [Option.bind_some, joinK_next, hok, not_true_eq_false, if_false]
      · simp only [hok, not_false_eq_true, if_true]
        rw [if_pos (by simpa using hs)]; rfl
    · simp only [ne_eq, htu, not_false_eq_true, if_true, decide_false, Bool.not_false]; rfl
  rw [hbes]
  unfold catV
  by_cases htu : t = u
  · simp only [ne_eq, htu, not_true_eq_false, if_false]
    by_cases hok : shOk ((m + n) :: u)
    · simp only [hok, not_true_eq_false, if_false]
      simp only [Option.bind_some, bne_self_eq_false, Bool.false_eq_true, if_false]
      rw [join_kind_eq]
      simp only [Option.bind_some]
      have ek : kindOf ⟨a.Char, a.Shape, a.Data⟩ ⟨b.Char, b.Shape, b.Data⟩ = kindOf a b := rfl
      rw [ek]
      cases hk : (kindOf a b).2 <;> rfl
    · simp only [hok, not_false_eq_true, if_true]; rfl
  · simp only [ne_eq, htu, not_false_eq_true, if_true]; rfl
theorem cat_bad {a b : Val} {axis : Int} (ha : a.Data.length ≤ 1000000) (hb : b.Data.length ≤ 1000000) (h : (vRight a && vRight b) = false) : M.join_Catenate a b axis = some (zV, 1) := by
  unfold M.join_Catenate
  rw [whole_two (by omega) (by omega), h]; rfl
theorem is_ok {v w : Val} {e : Int} (hs : v.Shape.length ≤ 1000000000) (hd : v.Data.length ≤ 1000000000) : M.anamnesislaw07_Is v e w = some ((e == 0) && vSame v w) := by
  unfold M.anamnesislaw07_Is
  rw [ref02_Same_eq (by have : maxLen = 9223372036854775807 := rfl; omega) (by have : maxLen = 9223372036854775807 := rfl; omega)]
  cases (e == 0) <;> rfl
theorem ravel_right {v : Val} (h : vRight v = true) : vRight ⟨v.Char, [(v.Data.length : Int)], v.Data⟩ = true := by
  obtain ⟨⟨_, _, hp2⟩, hp, hc⟩ := vRight_iff.mp h
  exact vRight_iff.mpr ⟨⟨by simp, by simp; omega, by simp [prod]; omega⟩, by simp [prod], hc⟩
theorem joinParts_true (a b : Val) (ga : (∀ x ∈ a.Shape, (Lit.int .i64 x).wf = true) ∧ (∀ x ∈ a.Data, (Lit.int .i64 x).wf = true) ∧ a.Shape.length ≤ maxLen ∧ a.Data.length ≤ maxLen)
    (gb : (∀ x ∈ b.Shape, (Lit.int .i64 x).wf = true) ∧ (∀ x ∈ b.Data, (Lit.int .i64 x).wf = true) ∧ b.Shape.length ≤ maxLen ∧ b.Data.length ≤ maxLen) : M.anamnesislaw07_JoinParts a b = some true := by
  have hm : maxLen = 9223372036854775807 := rfl
  unfold M.anamnesislaw07_JoinParts M.anamnesislaw07_Great
  simp only [Option.bind_some]
  have e0 : (if (decide ((a.Data.length : Int) > 2000) || decide ((a.Shape.length : Int) > 10)) = true then some true else some (decide ((b.Data.length : Int) > 2000) || decide ((b.Shape.length : Int) > 10))) = some (decide ((a.Data.length > 2000 ∨ a.Shape.length > 10) ∨ b.Data.length > 2000 ∨ b.Shape.length > 10)) := by
    by_cases h : a.Data.length > 2000 ∨ a.Shape.length > 10
    · rw [if_pos (by simp; omega), decide_eq_true (.inl h)]
    · rw [if_neg (by simp; omega)]
      congr 1
      rw [Bool.eq_iff_iff]; simp; omega
  rw [e0]
  simp only [Option.bind_some]
  by_cases hbig : (((a.Data.length > 2000 ∨ a.Shape.length > 10) ∨ b.Data.length > 2000 ∨ b.Shape.length > 10) ∨ a.Shape.length ≠ b.Shape.length) ∨ a.Shape.length = 0
  · rw [if_pos (by simp only [Bool.or_eq_true, decide_eq_true_eq, bne_iff_ne, beq_iff_eq]; omega)]
  rw [if_neg (by simp only [Bool.or_eq_true, decide_eq_true_eq, bne_iff_ne, beq_iff_eq]; omega)]
  cases hr : vRight a && vRight b with
  | false => rw [cat_bad (by omega) (by omega) hr]; rfl
  | true =>
    rw [Bool.and_eq_true] at hr
    obtain ⟨hra, hrb⟩ := hr
    obtain ⟨⟨a4, ab, ap⟩, hap, hac⟩ := vRight_iff.mp hra
    obtain ⟨⟨b4, bb, bp⟩, hbp, hbc⟩ := vRight_iff.mp hrb
    match hsa : a.Shape, hsb : b.Shape with
    | [], _ => rw [hsa] at hbig; simp at hbig
    | _ :: _, [] => rw [hsa, hsb] at hbig; simp at hbig
    | m :: t, n :: u =>
      have hl : t.length = u.length := by rw [hsa, hsb] at hbig; simp at hbig; omega
      have bm := ab m (by rw [hsa]; simp)
      have bn := bb n (by rw [hsb]; simp)
      rw [cat_eq hsa hsb hl hra hrb (.inl rfl)]
      have hok2 : shOk (((a.Data.length : Int) + (b.Data.length : Int)) :: []) → catV ⟨a.Char, [(a.Data.length : Int)], a.Data⟩ ⟨b.Char, [(b.Data.length : Int)], b.Data⟩ a.Data.length b.Data.length [] [] = if (kindOf a b).2 = false then (zV, 23) else (⟨(kindOf a b).1, [((a.Data.length : Int) + (b.Data.length : Int))], a.Data ++ b.Data⟩, 0) := by
        intro h
        unfold catV
        simp only [ne_eq, not_true_eq_false, if_false, h]
        rfl
      unfold catV
      by_cases htu : t = u
      · subst htu
        simp only [ne_eq, not_true_eq_false, if_false]
        by_cases hok : shOk ((m + n) :: t)
        · simp only [hok, not_true_eq_false, if_false]
          cases hk : (kindOf a b).2 with
          | false => rfl
          | true =>
            simp only [Bool.true_eq_false, if_false, Option.bind_some, bne_self_eq_false, Bool.false_eq_true]
            have hlen : prod ((m + n) :: t) = (a.Data.length : Int) + (b.Data.length : Int) := by
              rw [prod, Int.add_mul, ← hap, ← hbp, hsa, hsb]; rfl
            have hok1 : shOk (((a.Data.length : Int) + (b.Data.length : Int)) :: []) := by
              have := hok.2.2
              exact ⟨by simp, by simp; omega, by simp [prod]; omega⟩
            have hchar : (kindOf a b).1 = true → ∀ c ∈ a.Data ++ b.Data, chOk c = true := by
              intro hc c hcm
              unfold kindOf at hc
              by_cases h1 : a.Char = b.Char ∨ a.Data.length = 0
              · rw [if_pos h1] at hc
                rcases List.mem_append.mp hcm with h | h
                · rcases h1 with h1 | h1
                  · exact hac (h1.trans hc) c h
                  · rw [List.eq_nil_of_length_eq_zero h1] at h; cases h
                · exact hbc hc c h
              · rw [if_neg h1] at hc
                by_cases h2 : b.Data.length = 0
                · rw [if_pos h2] at hc
                  rcases List.mem_append.mp hcm with h | h
                  · exact hac hc c h
                  · rw [List.eq_nil_of_length_eq_zero h2] at h; cases h
                · rw [if_neg h2] at hc; cases hc
            have hrv : vRight ⟨(kindOf a b).1, (m + n) :: t, a.Data ++ b.Data⟩ = true := vRight_iff.mpr ⟨hok, by rw [hlen]; simp, hchar⟩
            have e1 : (if ((((m + n) :: t).length : Int) != ((m :: t).length : Int)) = true then some true else (idx ((m + n) :: t) 0).bind fun y1 => (idx (m :: t) 0).bind fun y2 => (idx (n :: t) 0).bind fun y3 => some (y1 != (IntKind.i64.wrap (y2 + y3)))) = some false := by
              have i0 : ∀ (x : Int) (l : List Int), idx (x :: l) 0 = some x := fun _ _ => rfl
              rw [if_neg (by simp), i0, i0, i0]
              simp only [Option.bind_some]
              rw [w64_id (by omega) (by omega)]; simp
            rw [e1]
            simp only [Option.bind_some, Bool.false_or]
            rw [w64_id (by omega) (by omega), if_neg (by simp), join_Ravel_eq (by omega), join_Ravel_eq (by omega), join_Ravel_eq (by simp; omega), hra, hrb, hrv]
            simp only [if_true, Option.bind_some]
            rw [cat_eq (m := (a.Data.length : Int)) (n := (b.Data.length : Int)) (t := []) (u := []) rfl rfl rfl (ravel_right hra) (ravel_right hrb) (.inr ⟨rfl, rfl⟩), hok2 hok1, hk]
            simp only [Bool.true_eq_false, if_false, Option.bind_some, BEq.rfl, Bool.and_self, if_true]
            rw [is_ok (by simp) (by simp; omega)]
            have : vSame ⟨(kindOf a b).1, [(a.Data.length : Int) + (b.Data.length : Int)], a.Data ++ b.Data⟩ ⟨(kindOf a b).1, [((a.Data ++ b.Data).length : Int)], a.Data ++ b.Data⟩ = true := by rw [vSame_iff]; simp
            rw [this]; rfl
        · simp only [hok, not_false_eq_true, if_true]; rfl
      · simp only [ne_eq, htu, not_false_eq_true, if_true]; rfl

end Go.Proofs.Ytaedfhikoamfeaa.joinParts
