/- JoinBeside: what the code that the law reaches computes, as plain functions; and that the law comes to true. -/
import Derived.Test.YtaedfhikoamfeaaAmU
set_option maxHeartbeats 4000000
set_option linter.unusedVariables false
set_option linter.unusedSimpArgs false
set_option maxRecDepth 100000
open Go Go.Am
namespace Go.Proofs.Ytaedfhikoamfeaa.joinBeside
noncomputable def M.anamnesislaw07_Great (v1 : Val) : Option (Bool) :=
 some ((decide ((v1.Data.length : Int) > 2000)) || (decide ((v1.Shape.length : Int) > 10)))
noncomputable def M.anamnesisref02_Copy (v1 : Val) : Option (Val) :=
 (app 8 ([] : List Int) v1.Shape).bind fun l1 =>
 (app 8 ([] : List Int) v1.Data).bind fun l2 =>
 some (Val.mk v1.Char l1 l2)
noncomputable def M.slices_IndexFunc__Value_L1 (s1 : (List Val)) (f1 : (Val → Option (Bool))) (s : Int) : Option (Ctl (Int) (Ctl (Unit) (Int))) :=
 match s with
 | t1 =>
  if (decide (t1 < (s1.length : Int))) then
   (idx s1 t1).bind fun y1 =>
   (f1 y1).bind fun r1 =>
   if r1 then
    some (.done (.done t1))
   else
    some (.next (IntKind.i64.wrap (t1 + 1)))
  else
   some (.done (.next ()))
noncomputable def M.slices_IndexFunc__Value (s1 : (List Val)) (f1 : (Val → Option (Bool))) : Option (Int) :=
 (wloop (M.slices_IndexFunc__Value_L1 s1 f1) 0).bind fun k => joinK k fun _ =>
 some (-1)
noncomputable def M.slices_ContainsFunc__Value (s1 : (List Val)) (f1 : (Val → Option (Bool))) : Option (Bool) :=
 (M.slices_IndexFunc__Value s1 f1).bind fun r1 =>
 some (decide (r1 ≥ 0))
noncomputable def M.slices_IndexFunc__int64_L1 (s1 : (List Int)) (f1 : (Int → Option (Bool))) (s : Int) : Option (Ctl (Int) (Ctl (Unit) (Int))) :=
 match s with
 | t1 =>
  if (decide (t1 < (s1.length : Int))) then
   (idx s1 t1).bind fun y1 =>
   (f1 y1).bind fun r1 =>
   if r1 then
    some (.done (.done t1))
   else
    some (.next (IntKind.i64.wrap (t1 + 1)))
  else
   some (.done (.next ()))
noncomputable def M.slices_IndexFunc__int64 (s1 : (List Int)) (f1 : (Int → Option (Bool))) : Option (Int) :=
 (wloop (M.slices_IndexFunc__int64_L1 s1 f1) 0).bind fun k => joinK k fun _ =>
 some (-1)
noncomputable def M.slices_ContainsFunc__int64 (s1 : (List Int)) (f1 : (Int → Option (Bool))) : Option (Bool) :=
 (M.slices_IndexFunc__int64 s1 f1).bind fun r1 =>
 some (decide (r1 ≥ 0))
noncomputable def M.unicode_utf8_ValidRune (r1 : Int) : Option (Bool) :=
 if ((decide (0 ≤ r1)) && (decide (r1 < 55296))) then
  some true
 else
  if ((decide (57343 < r1)) && (decide (r1 ≤ 1114111))) then
   some true
  else
   some false
noncomputable def M.value_character (n1 : Int) : Option (Bool) :=
 (if ((decide (n1 ≥ 0)) && (decide (n1 ≤ 1114111))) then
 (M.unicode_utf8_ValidRune (IntKind.i32.wrap n1)).bind fun r1 =>
 some r1 else
 some false).bind fun c2 =>
 some c2
noncomputable def M.value_Right_1 (n1 : Int) : Option (Bool) :=
 (M.value_character n1).bind fun r1 =>
 some (!r1)
noncomputable def M.value_Right_L1 (v1 : Val) (s : Int × Int) : Option (Ctl (Int × Int) (Ctl (Int) (Bool))) :=
 match s with
 | (size1, t1) =>
  if (decide (t1 < (v1.Shape.length : Int))) then
   (idx v1.Shape t1).bind fun y1 =>
   if ((decide (y1 < 0)) || (decide (y1 > 10000))) then
    some (.done (.done false))
   else
    some (.next ((IntKind.i64.wrap (size1 * y1)), (IntKind.i64.wrap (t1 + 1))))
  else
   some (.done (.next size1))
noncomputable def M.value_Right (v1 : Val) : Option (Bool) :=
 if (decide ((v1.Shape.length : Int) > 4)) then
  some false
 else
  (wloop (M.value_Right_L1 v1) (1, 0)).bind fun k => joinK k fun size1 =>
  if ((decide (size1 > 10000)) || (size1 != (v1.Data.length : Int))) then
   some false
  else
   (if (!v1.Char) then
   some true else
   (M.slices_ContainsFunc__int64 v1.Data (fun x0 => M.value_Right_1 x0)).bind fun r1 =>
   some (!r1)).bind fun c4 =>
   some c4
noncomputable def M.join_whole_1 (v1 : Val) : Option (Bool) :=
 (M.value_Right v1).bind fun r1 =>
 some (!r1)
noncomputable def M.join_whole (l1 : (List Val)) : Option (Bool) :=
 (M.slices_ContainsFunc__Value l1 (fun x0 => M.join_whole_1 x0)).bind fun r1 =>
 some (!r1)
noncomputable def M.slices_Clone__int (s1 : (List Int)) : Option ((List Int)) :=
 app 8 [] s1
noncomputable def M.slices_IndexFunc__int_L1 (s1 : (List Int)) (f1 : (Int → Option (Bool))) (s : Int) : Option (Ctl (Int) (Ctl (Unit) (Int))) :=
 match s with
 | t1 =>
  if (decide (t1 < (s1.length : Int))) then
   (idx s1 t1).bind fun y1 =>
   (f1 y1).bind fun r1 =>
   if r1 then
    some (.done (.done t1))
   else
    some (.next (IntKind.i64.wrap (t1 + 1)))
  else
   some (.done (.next ()))
noncomputable def M.slices_IndexFunc__int (s1 : (List Int)) (f1 : (Int → Option (Bool))) : Option (Int) :=
 (wloop (M.slices_IndexFunc__int_L1 s1 f1) 0).bind fun k => joinK k fun _ =>
 some (-1)
noncomputable def M.slices_ContainsFunc__int (s1 : (List Int)) (f1 : (Int → Option (Bool))) : Option (Bool) :=
 (M.slices_IndexFunc__int s1 f1).bind fun r1 =>
 some (decide (r1 ≥ 0))
noncomputable def M.shape_Size_1 (n1 : Int) : Option (Bool) :=
 some (decide (n1 < 0))
noncomputable def M.shape_Size_2 (n1 : Int) : Option (Bool) :=
 some (decide (n1 > 10000))
noncomputable def M.shape_product_L1 (s1 : (List Int)) (s : Int × Int) : Option (Ctl (Int × Int) (Ctl (Int) (Int))) :=
 match s with
 | (p1, t1) =>
  if (decide (t1 < (s1.length : Int))) then
   (idx s1 t1).bind fun y1 =>
   some (.next ((IntKind.i64.wrap (p1 * y1)), (IntKind.i64.wrap (t1 + 1))))
  else
   some (.done (.next p1))
noncomputable def M.shape_product (s1 : (List Int)) : Option (Int) :=
 (wloop (M.shape_product_L1 s1) (1, 0)).bind fun k => joinK k fun p1 =>
 some p1
noncomputable def M.shape_Size (s1 : (List Int)) : Option (Int × Int) :=
 if (decide ((s1.length : Int) > 4)) then
  some (0, 24)
 else
  (M.slices_ContainsFunc__int s1 (fun x0 => M.shape_Size_1 x0)).bind fun r1 =>
  if r1 then
   some (0, 1)
  else
   ((M.slices_ContainsFunc__int s1 (fun x0 => M.shape_Size_2 x0)).bind fun r2 =>
   if r2 then
    some r2
   else
    (M.shape_product s1).bind fun r3 =>
    some (decide (r3 > 10000))).bind fun t1 =>
   if t1 then
    some (0, 27)
   else
    (M.shape_product s1).bind fun r4 =>
    some (r4, 0)
noncomputable def M.value_Fill (v1 : Val) : Option (Int) :=
 if v1.Char then
  some 32
 else
  some 0
noncomputable def M.join_filled_L1 (v2 : Val) (l1 : List Int) (s : Int × (List Int)) : Option (Ctl (Int × (List Int)) (Ctl ((List Int)) ((List Int)))) :=
 match s with
 | (t1, l3) =>
  if (decide (t1 < (l1.length : Int))) then
   (M.value_Fill v2).bind fun r1 =>
   (idx l3 t1).bind fun y1 =>
   (upd l3 t1 r1).bind fun l4 =>
   some (.next ((IntKind.i64.wrap (t1 + 1)), l4))
  else
   some (.done (.next l3))
noncomputable def M.join_filled_L2 (size1 : Int) (v2 : Val) (s : Int × (List Int)) : Option (Ctl (Int × (List Int)) (Ctl ((List Int)) (Val))) :=
 match s with
 | (at1, l5) =>
  if ((decide (at1 < size1)) && (decide ((v2.Data.length : Int) > 0))) then
   (sub l5 at1 l5.length).bind fun l6 =>
   some (.next ((IntKind.i64.wrap (at1 + ((min v2.Data.length l6.length : Nat) : Int))), (cpy l5 (Int.toNat at1) l6.length v2.Data)))
  else
   some (.done (.next l5))
noncomputable def M.join_filled (s1 : (List Int)) (size1 : Int) (v2 : Val) : Option (Val) :=
 (mk 8 (0 : Int) size1 size1).bind fun l1 =>
 (if ((v2.Data.length : Int) == 0) then
  (wloop (M.join_filled_L1 v2 l1) (0, l1)).bind fun k => joinK k fun l3 =>
  some l3
 else
  some l1).bind fun l2 =>
 (wloop (M.join_filled_L2 size1 v2) (0, l2)).bind fun k => joinK k fun l5 =>
 some (Val.mk v2.Char s1 l5)
noncomputable def M.slices_Insert__int (s1 : (List Int)) (i1 : Int) (v1 : (List Int)) : Option ((List Int)) :=
 insL 8 s1 i1 v1
noncomputable def M.join_fits (v1 : Val) (other1 : (List Int)) (axis1 : Int) : Option (Val × Int) :=
 if ((v1.Shape.length : Int) == (other1.length : Int)) then
  some (v1, 0)
 else
  if ((v1.Shape.length : Int) == 0) then
   (M.slices_Clone__int other1).bind fun r1 =>
   (idx r1 axis1).bind fun y1 =>
   (upd r1 axis1 1).bind fun l1 =>
   (M.shape_Size l1).bind fun (r2, r3) =>
   (M.join_filled l1 r2 v1).bind fun r4 =>
   some (r4, 0)
  else
   if ((IntKind.i64.wrap ((v1.Shape.length : Int) + 1)) == (other1.length : Int)) then
    (M.slices_Clone__int v1.Shape).bind fun r5 =>
    (M.slices_Insert__int r5 axis1 ([1])).bind fun r6 =>
    some ((Val.mk v1.Char r6 v1.Data), 0)
   else
    some (v1, 24)
noncomputable def M.slices_Delete__int (s1 : (List Int)) (i1 : Int) (j1 : Int) : Option ((List Int)) :=
 del s1 i1 j1
noncomputable def M.shape_Without (s1 : (List Int)) (axis1 : Int) : Option ((List Int)) :=
 (M.slices_Clone__int s1).bind fun r1 =>
 if ((decide (axis1 < 0)) || (decide (axis1 ≥ (s1.length : Int)))) then
  some r1
 else
  (M.slices_Delete__int r1 axis1 (IntKind.i64.wrap (axis1 + 1))).bind fun r2 =>
  some r2
noncomputable def M.slices_Equal__int_L1 (s1 : (List Int)) (s2 : (List Int)) (s : Int) : Option (Ctl (Int) (Ctl (Unit) (Bool))) :=
 match s with
 | t1 =>
  if (decide (t1 < (s1.length : Int))) then
   (idx s1 t1).bind fun y1 =>
   (idx s2 t1).bind fun y2 =>
   if (y1 != y2) then
    some (.done (.done false))
   else
    some (.next (IntKind.i64.wrap (t1 + 1)))
  else
   some (.done (.next ()))
noncomputable def M.slices_Equal__int (s1 : (List Int)) (s2 : (List Int)) : Option (Bool) :=
 if ((s1.length : Int) != (s2.length : Int)) then
  some false
 else
  (wloop (M.slices_Equal__int_L1 s1 s2) 0).bind fun k => joinK k fun _ =>
  some true
noncomputable def M.shape_sized (s1 : (List Int)) : Option (Bool) :=
 (M.shape_Size s1).bind fun (r1, r2) =>
 some (r2 == 0)
noncomputable def M.shape_Split (s1 : (List Int)) (axis1 : Int) : Option (Int × Int × Int × Bool) :=
 (if ((decide (axis1 < 0)) || (decide (axis1 ≥ (s1.length : Int)))) then
 some true else
 (M.shape_sized s1).bind fun r1 =>
 some (!r1)).bind fun c2 =>
 if c2 then
  some (0, 0, 0, false)
 else
  (sub s1 0 axis1).bind fun l1 =>
  (M.shape_product l1).bind fun r2 =>
  (idx s1 axis1).bind fun y1 =>
  (sub s1 (IntKind.i64.wrap (axis1 + 1)) s1.length).bind fun l2 =>
  (M.shape_product l2).bind fun r3 =>
  some (r2, y1, r3, true)
noncomputable def M.join_beside_L1 (a1 : Val) (b1 : Val) (r5 : Int) (r7 : Int) (r8 : Int) (r9 : Int) (r12 : Int) (s : Int × (List Int)) : Option (Ctl (Int × (List Int)) (Ctl ((List Int)) ((List Int)))) :=
 match s with
 | (t1, Data2) =>
  if (decide (t1 < r7)) then
   if (r5 == 0) then
    some (.done (.next Data2))
   else
    (sub a1.Data (IntKind.i64.wrap ((IntKind.i64.wrap (t1 * r8)) * r9)) (IntKind.i64.wrap ((IntKind.i64.wrap ((IntKind.i64.wrap (t1 + 1)) * r8)) * r9))).bind fun l3 =>
    (app 8 Data2 l3).bind fun l4 =>
    (sub b1.Data (IntKind.i64.wrap ((IntKind.i64.wrap (t1 * r12)) * r9)) (IntKind.i64.wrap ((IntKind.i64.wrap ((IntKind.i64.wrap (t1 + 1)) * r12)) * r9))).bind fun l5 =>
    (app 8 l4 l5).bind fun l6 =>
    some (.next ((IntKind.i64.wrap (t1 + 1)), l6))
  else
   some (.done (.next Data2))
noncomputable def M.join_beside (a1 : Val) (b1 : Val) (axis1 : Int) : Option (Val × Int) :=
 (M.shape_Without a1.Shape axis1).bind fun r1 =>
 (M.shape_Without b1.Shape axis1).bind fun r2 =>
 (M.slices_Equal__int r1 r2).bind fun r3 =>
 if (!r3) then
  some ((Val.mk false ([]) ([])), 25)
 else
  (M.slices_Clone__int a1.Shape).bind fun r4 =>
  (idx r4 axis1).bind fun y1 =>
  (idx b1.Shape axis1).bind fun y2 =>
  (idx r4 axis1).bind fun y3 =>
  (upd r4 axis1 (IntKind.i64.wrap (y1 + y2))).bind fun l1 =>
  (M.shape_Size l1).bind fun (r5, r6) =>
  (if (r6 != 0) then
  some true else
  (idx l1 axis1).bind fun y4 =>
  some (decide (y4 > 10000))).bind fun c1 =>
  if c1 then
   some ((Val.mk false ([]) ([])), 27)
  else
   (mk 8 (0 : Int) 0 r5).bind fun l2 =>
   (M.shape_Split a1.Shape axis1).bind fun (r7, r8, r9, r10) =>
   (M.shape_Split b1.Shape axis1).bind fun (r11, r12, r13, r14) =>
   ((wloop (M.join_beside_L1 a1 b1 r5 r7 r8 r9 r12) (0, l2)).bind fun k => joinK k fun jx =>
   some jx).bind fun Data1 =>
   some ((Val.mk false l1 Data1), 0)
noncomputable def M.join_kind (a1 : Val) (b1 : Val) : Option (Bool × Bool) :=
 (if (a1.Char == b1.Char) then
  some (a1.Char == b1.Char)
 else
  some ((a1.Data.length : Int) == 0)).bind fun t1 =>
 if t1 then
  some (b1.Char, true)
 else
  if ((b1.Data.length : Int) == 0) then
   some (a1.Char, true)
  else
   some (false, false)
noncomputable def M.join_Catenate (a1 : Val) (b1 : Val) (axis1 : Int) : Option (Val × Int) :=
 (M.join_whole ([a1, b1])).bind fun r1 =>
 if (!r1) then
  some ((Val.mk false ([]) ([])), 1)
 else
  (if ((decide (axis1 < (-1))) || (decide (axis1 ≥ (if (a1.Shape.length : Int) < (b1.Shape.length : Int) then (b1.Shape.length : Int) else (a1.Shape.length : Int))))) then
   some (.done ((Val.mk false ([]) ([])), 26))
  else
   if ((if (a1.Shape.length : Int) < (b1.Shape.length : Int) then (b1.Shape.length : Int) else (a1.Shape.length : Int)) == 0) then
    some (.next (1, [1], [1]))
   else
    some (.next ((if (a1.Shape.length : Int) < (b1.Shape.length : Int) then (b1.Shape.length : Int) else (a1.Shape.length : Int)), a1.Shape, b1.Shape))).bind fun k => joinK k fun (rank1, Shape1, Shape2) =>
  (if (axis1 == (-1)) then
   some (IntKind.i64.wrap (rank1 - 1))
  else
   some axis1).bind fun axis2 =>
  (M.join_fits (Val.mk a1.Char Shape1 a1.Data) Shape2 axis2).bind fun (r2, r3) =>
  (M.join_fits (Val.mk b1.Char Shape2 b1.Data) Shape1 axis2).bind fun (r4, r5) =>
  (if (decide ((Shape1.length : Int) > (Shape2.length : Int))) then
   some (0, a1.Char, Shape1, a1.Data)
  else
   some (r3, r2.Char, r2.Shape, r2.Data)).bind fun (e1, Char1, Shape3, Data1) =>
  (if (decide ((Shape2.length : Int) > (Shape1.length : Int))) then
   some (0, b1.Char, Shape2, b1.Data)
  else
   some (r5, r4.Char, r4.Shape, r4.Data)).bind fun (f1, Char2, Shape4, Data2) =>
  if ((e1 != 0) || (f1 != 0)) then
   some ((Val.mk false ([]) ([])), 24)
  else
   (M.join_beside (Val.mk Char1 Shape3 Data1) (Val.mk Char2 Shape4 Data2) axis2).bind fun (r6, r7) =>
   if (r7 != 0) then
    some ((Val.mk false ([]) ([])), r7)
   else
    (M.join_kind (Val.mk a1.Char Shape1 a1.Data) (Val.mk b1.Char Shape2 b1.Data)).bind fun (r8, r9) =>
    if (!r9) then
     some ((Val.mk false ([]) ([])), 23)
    else
     some ((Val.mk r8 r6.Shape r6.Data), 0)
noncomputable def M.anamnesisref02_Right_L2 (v1 : Val) (s : Int) : Option (Ctl (Int) (Ctl (Unit) (Bool))) :=
 match s with
 | i2 =>
  if ((decide (i2 < (v1.Data.length : Int))) && v1.Char) then
   (idx v1.Data i2).bind fun y4 =>
   if (((decide (y4 < 0)) || (decide (y4 > 1114111))) || ((decide (y4 ≥ 55296)) && (decide (y4 ≤ 57343)))) then
    some (.done (.done false))
   else
    some (.next (IntKind.i64.wrap (i2 + 1)))
  else
   some (.done (.next ()))
noncomputable def M.anamnesisref02_Right_L1 (v1 : Val) (s : Int × Int) : Option (Ctl (Int × Int) (Ctl (Int) (Bool))) :=
 match s with
 | (size1, i1) =>
  if (decide (i1 < (v1.Shape.length : Int))) then
   (idx v1.Shape i1).bind fun y1 =>
   (if (decide (y1 < 0)) then
   some true else
   (idx v1.Shape i1).bind fun y2 =>
   some (decide (y2 > 10000))).bind fun c2 =>
   if c2 then
    some (.done (.done false))
   else
    (idx v1.Shape i1).bind fun y3 =>
    some (.next ((IntKind.i64.wrap (size1 * y3)), (IntKind.i64.wrap (i1 + 1))))
  else
   some (.done (.next size1))
noncomputable def M.anamnesisref02_Right (v1 : Val) : Option (Bool) :=
 if (decide ((v1.Shape.length : Int) > 4)) then
  some false
 else
  (wloop (M.anamnesisref02_Right_L1 v1) (1, 0)).bind fun k => joinK k fun size1 =>
  (wloop (M.anamnesisref02_Right_L2 v1) 0).bind fun k => joinK k fun _ =>
  some ((size1 == (v1.Data.length : Int)) && (decide (size1 ≤ 10000)))
noncomputable def M.anamnesisref07_without_L1 (s1 : (List Int)) (axis1 : Int) (s : (List Int) × Int) : Option (Ctl ((List Int) × Int) (Ctl ((List Int)) ((List Int)))) :=
 match s with
 | (out1, i1) =>
  if (decide (i1 < (s1.length : Int))) then
   if (i1 != axis1) then
    (idx s1 i1).bind fun y1 =>
    (app 8 out1 ([y1])).bind fun l1 =>
    some (.next (l1, (IntKind.i64.wrap (i1 + 1))))
   else
    some (.next (out1, (IntKind.i64.wrap (i1 + 1))))
  else
   some (.done (.next out1))
noncomputable def M.anamnesisref07_without (s1 : (List Int)) (axis1 : Int) : Option ((List Int)) :=
 (wloop (M.anamnesisref07_without_L1 s1 axis1) ([], 0)).bind fun k => joinK k fun out1 =>
 some out1
noncomputable def M.anamnesisref07_across (v1 : Val) (rank1 : Int) (axis1 : Int) : Option ((List Int) × Bool) :=
 if ((v1.Shape.length : Int) == rank1) then
  (M.anamnesisref07_without v1.Shape axis1).bind fun r1 =>
  some (r1, true)
 else
  some (v1.Shape, (decide ((v1.Shape.length : Int) > 0)))
noncomputable def M.anamnesisref07_same_L1 (a1 : (List Int)) (b1 : (List Int)) (s : Int) : Option (Ctl (Int) (Ctl (Unit) (Bool))) :=
 match s with
 | i1 =>
  if (decide (i1 < (a1.length : Int))) then
   (idx a1 i1).bind fun y1 =>
   (idx b1 i1).bind fun y2 =>
   if (y1 != y2) then
    some (.done (.done false))
   else
    some (.next (IntKind.i64.wrap (i1 + 1)))
  else
   some (.done (.next ()))
noncomputable def M.anamnesisref07_same (a1 : (List Int)) (b1 : (List Int)) : Option (Bool) :=
 if ((a1.length : Int) != (b1.length : Int)) then
  some false
 else
  (wloop (M.anamnesisref07_same_L1 a1 b1) 0).bind fun k => joinK k fun _ =>
  some true
noncomputable def M.anamnesisref07_length (v1 : Val) (rank1 : Int) (axis1 : Int) : Option (Int) :=
 if (((v1.Shape.length : Int) == rank1) && (decide (rank1 > 0))) then
  (idx v1.Shape axis1).bind fun y1 =>
  some y1
 else
  some 1
noncomputable def M.anamnesisref07_Size_L1 (s1 : (List Int)) (s : Int × Int) : Option (Ctl (Int × Int) (Ctl (Int) (Int))) :=
 match s with
 | (size1, i1) =>
  if (decide (i1 < (s1.length : Int))) then
   (idx s1 i1).bind fun y1 =>
   (if (decide (y1 < 0)) then
   some true else
   (idx s1 i1).bind fun y2 =>
   some (decide (y2 > 10000))).bind fun c2 =>
   if c2 then
    some (.done (.done (-1)))
   else
    (idx s1 i1).bind fun y3 =>
    some (.next ((IntKind.i64.wrap (size1 * y3)), (IntKind.i64.wrap (i1 + 1))))
  else
   some (.done (.next size1))
noncomputable def M.anamnesisref07_Size (s1 : (List Int)) : Option (Int) :=
 if (decide ((s1.length : Int) > 4)) then
  some (-1)
 else
  (wloop (M.anamnesisref07_Size_L1 s1) (1, 0)).bind fun k => joinK k fun size1 =>
  if (decide (size1 > 10000)) then
   some (-1)
  else
   some size1
noncomputable def M.anamnesisref07_At_L1 (s1 : (List Int)) (s : Int × Int × (List Int)) : Option (Ctl (Int × Int × (List Int)) (Ctl ((List Int)) ((List Int)))) :=
 match s with
 | (k2, i1, l2) =>
  if (decide (i1 ≥ 0)) then
   (idx s1 i1).bind fun y1 =>
   (remI k2 y1).bind fun q1 =>
   (idx l2 i1).bind fun y2 =>
   (upd l2 i1 q1).bind fun l3 =>
   (idx s1 i1).bind fun y3 =>
   (quoI .i64 k2 y3).bind fun q2 =>
   some (.next (q2, (IntKind.i64.wrap (i1 - 1)), l3))
  else
   some (.done (.next l2))
noncomputable def M.anamnesisref07_At (s1 : (List Int)) (k1 : Int) : Option ((List Int)) :=
 (mk 8 (0 : Int) (s1.length : Int) (s1.length : Int)).bind fun l1 =>
 (wloop (M.anamnesisref07_At_L1 s1) (k1, (IntKind.i64.wrap ((s1.length : Int) - 1)), l1)).bind fun k => joinK k fun l2 =>
 some l2
noncomputable def M.anamnesisref07_Offset_L1 (s1 : (List Int)) (at1 : (List Int)) (s : Int × Int) : Option (Ctl (Int × Int) (Ctl (Int) (Int))) :=
 match s with
 | (k1, i1) =>
  if (decide (i1 < (s1.length : Int))) then
   (idx s1 i1).bind fun y1 =>
   (idx at1 i1).bind fun y2 =>
   some (.next ((IntKind.i64.wrap ((IntKind.i64.wrap (k1 * y1)) + y2)), (IntKind.i64.wrap (i1 + 1))))
  else
   some (.done (.next k1))
noncomputable def M.anamnesisref07_Offset (s1 : (List Int)) (at1 : (List Int)) : Option (Int) :=
 (wloop (M.anamnesisref07_Offset_L1 s1 at1) (0, 0)).bind fun k => joinK k fun k1 =>
 some k1
noncomputable def M.anamnesisref07_element (v1 : Val) (rank1 : Int) (axis1 : Int) (at1 : (List Int)) : Option (Int) :=
 if ((v1.Shape.length : Int) == 0) then
  (idx v1.Data 0).bind fun y1 =>
  some y1
 else
  if (decide ((v1.Shape.length : Int) < rank1)) then
   (M.anamnesisref07_without at1 axis1).bind fun r1 =>
   (M.anamnesisref07_Offset v1.Shape r1).bind fun r2 =>
   (idx v1.Data r2).bind fun y2 =>
   some y2
  else
   (M.anamnesisref07_Offset v1.Shape at1).bind fun r3 =>
   (idx v1.Data r3).bind fun y3 =>
   some y3
noncomputable def M.anamnesisref07_Catenate_L1 (a1 : Val) (b1 : Val) (rank2 : Int) (axis2 : Int) (r8 : Int) (l5 : List Int) (r10 : Int) (s : Int × (List Int)) : Option (Ctl (Int × (List Int)) (Ctl ((List Int)) (Val × Int))) :=
 match s with
 | (k1, Data1) =>
  if (decide (k1 < r10)) then
   (M.anamnesisref07_At l5 k1).bind fun r11 =>
   (idx r11 axis2).bind fun y1 =>
   if (decide (y1 < r8)) then
    (M.anamnesisref07_element a1 rank2 axis2 r11).bind fun r12 =>
    (app 8 Data1 ([r12])).bind fun l6 =>
    some (.next ((IntKind.i64.wrap (k1 + 1)), l6))
   else
    (idx r11 axis2).bind fun y2 =>
    (idx r11 axis2).bind fun y3 =>
    (upd r11 axis2 (IntKind.i64.wrap (y2 - r8))).bind fun l7 =>
    (M.anamnesisref07_element b1 rank2 axis2 l7).bind fun r13 =>
    (app 8 Data1 ([r13])).bind fun l8 =>
    some (.next ((IntKind.i64.wrap (k1 + 1)), l8))
  else
   some (.done (.next Data1))
noncomputable def M.anamnesisref07_Catenate (a1 : Val) (b1 : Val) (axis1 : Int) : Option (Val × Int) :=
 (M.anamnesisref02_Right a1).bind fun r1 =>
 (if (!r1) then
 some true else
 (M.anamnesisref02_Right b1).bind fun r2 =>
 some (!r2)).bind fun c1 =>
 if c1 then
  some ((Val.mk false ([]) ([])), 1)
 else
  (if (decide ((b1.Shape.length : Int) > (a1.Shape.length : Int))) then
   some (b1.Shape.length : Int)
  else
   some (a1.Shape.length : Int)).bind fun rank1 =>
  if ((decide (axis1 < (-1))) || (decide (axis1 ≥ rank1))) then
   some ((Val.mk false ([]) ([])), 26)
  else
   (if (rank1 == 0) then
    some 1
   else
    some rank1).bind fun rank2 =>
   (if (decide (axis1 < 0)) then
    some (IntKind.i64.wrap (rank2 - 1))
   else
    some axis1).bind fun axis2 =>
   if (((decide ((a1.Shape.length : Int) > 0)) && (decide ((b1.Shape.length : Int) > 0))) && ((decide ((IntKind.i64.wrap ((a1.Shape.length : Int) - (b1.Shape.length : Int))) > 1)) || (decide ((IntKind.i64.wrap ((b1.Shape.length : Int) - (a1.Shape.length : Int))) > 1)))) then
    some ((Val.mk false ([]) ([])), 24)
   else
    (M.anamnesisref07_across a1 rank2 axis2).bind fun (r3, r4) =>
    (M.anamnesisref07_across b1 rank2 axis2).bind fun (r5, r6) =>
    (if (r4 && r6) then
    (M.anamnesisref07_same r3 r5).bind fun r7 =>
    some (!r7) else
    some false).bind fun c7 =>
    if c7 then
     some ((Val.mk false ([]) ([])), 25)
    else
     (if (!r4) then
      some r5
     else
      some r3).bind fun x1 =>
     (if ((!r4) && (!r6)) then
      some []
     else
      some x1).bind fun x2 =>
     (M.anamnesisref07_length a1 rank2 axis2).bind fun r8 =>
     (M.anamnesisref07_length b1 rank2 axis2).bind fun r9 =>
     (sub x2 0 axis2).bind fun l1 =>
     (app 8 ([]) l1).bind fun l2 =>
     (app 8 l2 ([(IntKind.i64.wrap (r8 + r9))])).bind fun l3 =>
     (sub x2 axis2 x2.length).bind fun l4 =>
     (app 8 l3 l4).bind fun l5 =>
     (M.anamnesisref07_Size l5).bind fun r10 =>
     if (decide (r10 < 0)) then
      some ((Val.mk false ([]) ([])), 27)
     else
      if (((!(a1.Char == b1.Char)) && (decide ((a1.Data.length : Int) > 0))) && (decide ((b1.Data.length : Int) > 0))) then
       some ((Val.mk false ([]) ([])), 23)
      else
       (if (((b1.Data.length : Int) == 0) && (decide ((a1.Data.length : Int) > 0))) then
        some a1.Char
       else
        some b1.Char).bind fun Char1 =>
       (wloop (M.anamnesisref07_Catenate_L1 a1 b1 rank2 axis2 r8 l5 r10) (0, [])).bind fun k => joinK k fun Data1 =>
       some ((Val.mk Char1 l5 Data1), 0)
noncomputable def M.anamnesisref02_Same_L2 (a1 : Val) (b1 : Val) (s : Int) : Option (Ctl (Int) (Ctl (Unit) (Bool))) :=
 match s with
 | i2 =>
  if (decide (i2 < (a1.Data.length : Int))) then
   (idx a1.Data i2).bind fun y3 =>
   (idx b1.Data i2).bind fun y4 =>
   if (y3 != y4) then
    some (.done (.done false))
   else
    some (.next (IntKind.i64.wrap (i2 + 1)))
  else
   some (.done (.next ()))
noncomputable def M.anamnesisref02_Same_L1 (a1 : Val) (b1 : Val) (s : Int) : Option (Ctl (Int) (Ctl (Unit) (Bool))) :=
 match s with
 | i1 =>
  if (decide (i1 < (a1.Shape.length : Int))) then
   (idx a1.Shape i1).bind fun y1 =>
   (idx b1.Shape i1).bind fun y2 =>
   if (y1 != y2) then
    some (.done (.done false))
   else
    some (.next (IntKind.i64.wrap (i1 + 1)))
  else
   some (.done (.next ()))
noncomputable def M.anamnesisref02_Same (a1 : Val) (b1 : Val) : Option (Bool) :=
 if (((!(a1.Char == b1.Char)) || ((a1.Shape.length : Int) != (b1.Shape.length : Int))) || ((a1.Data.length : Int) != (b1.Data.length : Int))) then
  some false
 else
  (wloop (M.anamnesisref02_Same_L1 a1 b1) 0).bind fun k => joinK k fun _ =>
  (wloop (M.anamnesisref02_Same_L2 a1 b1) 0).bind fun k => joinK k fun _ =>
  some true
noncomputable def M.anamnesislaw07_told (v1 : Val) (e1 : Int) (w1 : Val) (f1 : Int) : Option (Bool) :=
 (if (e1 == f1) then
 (M.anamnesisref02_Same v1 w1).bind fun r1 =>
 some r1 else
 some false).bind fun c1 =>
 some c1
noncomputable def M.anamnesislaw07_JoinBeside (a1 : Val) (b1 : Val) (axis1 : Int) : Option (Bool) :=
 (M.anamnesislaw07_Great a1).bind fun r1 =>
 (if r1 then
 some true else
 (M.anamnesislaw07_Great b1).bind fun r2 =>
 some r2).bind fun c1 =>
 if c1 then
  some true
 else
  (M.anamnesisref02_Copy a1).bind fun r3 =>
  (M.anamnesisref02_Copy b1).bind fun r4 =>
  (M.join_Catenate a1 b1 axis1).bind fun (r5, r6) =>
  (M.anamnesisref07_Catenate a1 b1 axis1).bind fun (r7, r8) =>
  (M.anamnesislaw07_told r5 r6 r7 r8).bind fun r9 =>
  (if r9 then
  (M.anamnesisref02_Same a1 r3).bind fun r10 =>
  some r10 else
  some false).bind fun c2 =>
  (if c2 then
  (M.anamnesisref02_Same b1 r4).bind fun r11 =>
  some r11 else
  some false).bind fun c3 =>
  some (c3 && true)

theorem w64_id {x : Int} (h1 : -9223372036854775808 ≤ x) (h2 : x ≤ 9223372036854775807) : IntKind.i64.wrap x = x := wrap_id h1 h2
theorem u8_mod (x : Int) : IntKind.u8.wrap x = x % 256 := by simp [IntKind.wrap, IntKind.bits, IntKind.signed]
theorem u8_id {x : Int} (h1 : 0 ≤ x) (h2 : x ≤ 255) : IntKind.u8.wrap x = x := by rw [u8_mod]; omega
theorem u32_id {x : Int} (h1 : 0 ≤ x) (h2 : x ≤ 1114111) : IntKind.u32.wrap x = x := by
 have : IntKind.u32.wrap x = x % 4294967296 := by simp [IntKind.wrap, IntKind.bits, IntKind.signed]
 rw [this]; omega
theorem wloop_ind {σ β : Type} {f : σ → Option (Ctl σ β)} (P : Nat → σ → Prop) (Q : β → Prop)
  (h : ∀ n s, P n s → (∃ s' n', f s = some (.next s') ∧ n' < n ∧ P n' s') ∨ (∃ b, f s = some (.done b) ∧ Q b)) : ∀ n s, P n s → ∃ b, wloop f s = some b ∧ Q b := by
 intro n
 induction n using Nat.strongRecOn with
 | _ n ih =>
  intro s hp
  rcases h n s hp with ⟨s', n', hf, hn, hp'⟩ | ⟨b, hf, hq⟩
  ·obtain ⟨b, hb, hq⟩ := ih n' hn s' hp'
   exact ⟨b, by rw [wloop_next hf]; exact hb, hq⟩
  ·exact ⟨b, wloop_done hf, hq⟩
theorem idx_nat {α : Type} (l : List α) (k : Nat) : idx l (k : Int) = l[k]? := by
 unfold idx; rw [if_pos (by omega)]; rfl
theorem idx_get {α : Type} {l : List α} {k : Nat} (h : k < l.length) : idx l (k : Int) = some l[k] := by rw [idx_nat, List.getElem?_eq_getElem h]
theorem upd_nat {α : Type} {l : List α} {k : Nat} {x : α} (h : k < l.length) : upd l (k : Int) x = some (l.set k x) := by
 unfold upd; rw [if_pos ⟨by omega, by omega⟩]; rfl
theorem app_ok {α : Type} {b : Nat} {l m : List α} (h : (l.length + m.length) * b ≤ 140737488355328) : app b l m = some (l ++ m) := by
 unfold app; rw [if_pos (.inr h)]
theorem mk_ok {α : Type} {b : Nat} {z : α} {n : Nat} (h : b * n ≤ 140737488355328) (h' : n ≤ 140737488355328) : mk b z (n : Int) (n : Int) = some (List.replicate n z) := by
 unfold mk
 have : ((b : Int) * (n : Int)) ≤ 140737488355328 := by
  have h2 : ((b * n : Nat) : Int) ≤ 140737488355328 := by omega
  rwa [Int.natCast_mul] at h2
 rw [if_pos ⟨by omega, by omega, this, by omega⟩]; rfl
theorem wf64 {n : Int} (h : (Lit.int .i64 n).wf = true) : -9223372036854775808 ≤ n ∧ n ≤ 9223372036854775807 := by
 have h2 : (decide (IntKind.i64.min ≤ n) && decide (n ≤ IntKind.i64.max)) = true := h
 have e1 : IntKind.i64.min = -9223372036854775808 := by decide
 have e2 : IntKind.i64.max = 9223372036854775807 := by decide
 rw [e1, e2] at h2
 simpa using h2
theorem sub_drop {α : Type} {l : List α} {k : Nat} (h : k ≤ l.length) : sub l (k : Int) (l.length : Int) = some (l.drop k) := by
 unfold sub
 rw [if_pos ⟨by omega, by omega, by omega⟩]
 simp
theorem drop_cons {α : Type} {l : List α} {k : Nat} (h : k < l.length) : l.drop k = l[k] :: l.drop (k + 1) := List.drop_eq_getElem_cons h
theorem same_loop {f : Int → Option (Ctl Int (Ctl Unit Bool))} {a b : List Int} (hl : a.length = b.length) (hm : a.length ≤ maxLen)
  (hf : ∀ k : Nat, ∀ h : k < a.length, f k = if a[k] = b[k]'(hl ▸ h) then some (.next ((k : Int) + 1)) else some (.done (.done false))) (he : f a.length = some (.done (.next ()))) :
  wloop f 0 = some (if a = b then .next () else .done false) := by
 have key := wloop_ind (f := f) (fun n i => ∃ k : Nat, i = k ∧ k ≤ a.length ∧ n = a.length - k ∧ a.take k = b.take k)
  (fun c => (c = .done false ∧ a ≠ b) ∨ (c = .next () ∧ a = b)) (fun n i h => by
   obtain ⟨k, rfl, hk, rfl, hn⟩ := h
   by_cases hlt : k < a.length
   ·rw [hf k hlt]
    by_cases he : a[k] = b[k]
    ·rw [if_pos he]
     left
     refine ⟨_, a.length - (k + 1), rfl, by omega, k + 1, by omega, by omega, rfl, ?_⟩
     rw [List.take_succ_eq_append_getElem hlt, List.take_succ_eq_append_getElem (by omega), hn, he]
    ·rw [if_neg he]
     right
     refine ⟨_, rfl, .inl ⟨rfl, fun h => he ?_⟩⟩
     subst h; rfl
   ·have : k = a.length := by omega
    subst this
    right
    refine ⟨_, he, .inr ⟨rfl, ?_⟩⟩
    rw [List.take_length, hl, List.take_length] at hn
    exact hn) a.length 0 ⟨0, rfl, by omega, by omega, by simp⟩
 obtain ⟨c, hc, ⟨rfl, h⟩ | ⟨rfl, h⟩⟩ := key
 ·rw [hc]; simp [h]
 ·rw [hc]; simp [h]

theorem same_step {f : Int → Option (Ctl Int (Ctl Unit Bool))} {a b : List Int} (hl : a.length = b.length) (hm : a.length ≤ maxLen)
  (hf : ∀ k : Nat, ∀ h : k < a.length, f k = if a[k] = b[k]'(hl ▸ h) then some (.next ((k : Int) + 1)) else some (.done (.done false))) (he : f a.length = some (.done (.next ()))) :
  (wloop f 0).bind (fun k => joinK k fun _ => some true) = some (decide (a = b)) := by
 rw [same_loop hl hm hf he]
 by_cases h : a = b
 ·rw [if_pos h, decide_eq_true h]; rfl
 ·rw [if_neg h, decide_eq_false h]; rfl
theorem loop_up {S τ β : Type} {f : S → Option (Ctl S β)} (st : Nat → τ → S) (n : Nat) (I : Nat → τ → Prop) (out : τ → β) (a : τ) (h0 : I 0 a)
  (hf : ∀ k m, k < n → I k m → ∃ m', f (st k m) = some (.next (st (k + 1) m')) ∧ I (k + 1) m') (he : ∀ m, I n m → f (st n m) = some (.done (out m))) :
  ∃ m, I n m ∧ wloop f (st 0 a) = some (out m) := by
 have key := wloop_ind (f := f) (fun j s => ∃ k m, s = st k m ∧ j = n - k ∧ k ≤ n ∧ I k m) (fun b => ∃ m, b = out m ∧ I n m) (fun j s h => by
  obtain ⟨k, m, rfl, rfl, hk, hi⟩ := h
  by_cases hlt : k < n
  ·left
   obtain ⟨m', h1, h2⟩ := hf k m hlt hi
   exact ⟨_, n - (k + 1), h1, by omega, k + 1, m', rfl, rfl, by omega, h2⟩
  ·have : k = n := by omega
   subst this
   exact .inr ⟨_, he m hi, m, rfl, hi⟩) n (st 0 a) ⟨0, a, rfl, by omega, by omega, h0⟩
 obtain ⟨b, hb, m, rfl, hi⟩ := key
 exact ⟨m, hi, hb⟩
theorem loop_fun {S β : Type} {f : S → Option (Ctl S β)} (st : Nat → S) (n : Nat) {b : β} (hf : ∀ k, k < n → f (st k) = some (.next (st (k + 1)))) (he : f (st n) = some (.done b)) : wloop f (st 0) = some b := by
 obtain ⟨_, _, h⟩ := loop_up (f := f) (fun k (_ : Unit) => st k) n (fun _ _ => True) (fun _ => b) () trivial (fun k m hk _ => ⟨(), hf k hk, trivial⟩) (fun m _ => he)
 exact h
theorem lin_lt {i k R C : Nat} (h : i < R) (hk : k < C) : i * C + k < R * C := by
 have := Nat.mul_le_mul_right C (show i + 1 ≤ R from h)
 rw [Nat.succ_mul] at this; omega
theorem lin_inj {i k i' k' C : Nat} (hk : k < C) (hk' : k' < C) (h : i * C + k = i' * C + k') : i = i' ∧ k = k' := by
 have hc : 0 < C := by omega
 have e : ∀ (a b : Nat), b < C → (a * C + b) / C = a := fun a b hb => by
  rw [Nat.mul_comm, Nat.mul_add_div hc, Nat.div_eq_of_lt hb, Nat.add_zero]
 have h1 := e i k hk
 rw [h, e i' k' hk'] at h1
 subst h1; omega
def tab (R C : Nat) (f : Nat → Nat → Int) : List Int := (List.range (R * C)).map fun p => f (p / C) (p % C)
theorem tab_len (R C : Nat) (f : Nat → Nat → Int) : (tab R C f).length = R * C := by simp [tab]
theorem tab_get {R C i k : Nat} (f : Nat → Nat → Int) (hi : i < R) (hk : k < C) : (tab R C f)[i * C + k]? = some (f i k) := by
 have hc : 0 < C := by omega
 unfold tab
 rw [List.getElem?_map, List.getElem?_range (lin_lt hi hk)]
 show some (f ((i * C + k) / C) ((i * C + k) % C)) = _
 rw [Nat.mul_comm, Nat.mul_add_div hc, Nat.div_eq_of_lt hk, Nat.mul_add_mod, Nat.mod_eq_of_lt hk, Nat.add_zero]
theorem tab_ext {R C : Nat} {f : Nat → Nat → Int} {l : List Int} (hl : l.length = R * C) (h : ∀ i k, i < R → k < C → l[i * C + k]? = some (f i k)) : l = tab R C f := by
 apply List.ext_getElem?
 intro p
 by_cases hp : p < R * C
 ·have hc : 0 < C := by
   rcases Nat.eq_zero_or_pos C with h | h
   ·subst h; simp at hp
   ·exact h
  have h1 : p / C < R := by rw [Nat.div_lt_iff_lt_mul hc]; exact hp
  have h2 : p % C < C := Nat.mod_lt _ hc
  have e : p / C * C + p % C = p := by rw [Nat.mul_comm]; exact Nat.div_add_mod p C
  have a := h _ _ h1 h2
  have b := tab_get f h1 h2
  rw [e] at a b
  rw [a, b]
 ·rw [List.getElem?_eq_none (by omega), List.getElem?_eq_none (by rw [tab_len]; omega)]
theorem loop_find {S β : Type} {f : S → Option (Ctl S β)} (st : Nat → S) (n : Nat) (bad : Nat → Bool) (b : Nat → β) {c : β}
  (hf : ∀ k, k < n → f (st k) = if bad k then some (.done (b k)) else some (.next (st (k + 1)))) (he : f (st n) = some (.done c)) :
  (∃ k, k < n ∧ bad k = true ∧ (∀ j, j < k → bad j = false) ∧ wloop f (st 0) = some (b k)) ∨ ((∀ k, k < n → bad k = false) ∧ wloop f (st 0) = some c) := by
 obtain ⟨r, hr, hq⟩ := wloop_ind (f := f) (fun m s => ∃ k, s = st k ∧ m = n - k ∧ k ≤ n ∧ ∀ j, j < k → bad j = false)
  (fun r => (∃ k, k < n ∧ bad k = true ∧ (∀ j, j < k → bad j = false) ∧ r = b k) ∨ ((∀ k, k < n → bad k = false) ∧ r = c)) (fun m s h => by
   obtain ⟨k, rfl, rfl, hk, hj⟩ := h
   by_cases hlt : k < n
   ·have := hf k hlt
    cases hb : bad k
    ·rw [hb] at this
     refine .inl ⟨_, n - (k + 1), this, by omega, k + 1, rfl, rfl, by omega, fun j hj' => ?_⟩
     by_cases he : j = k
     ·subst he; exact hb
     ·exact hj j (by omega)
    ·rw [hb] at this
     exact .inr ⟨_, this, .inl ⟨k, hlt, hb, hj, rfl⟩⟩
   ·have : k = n := by omega
    subst this
    exact .inr ⟨_, he, .inr ⟨hj, rfl⟩⟩) n (st 0) ⟨0, rfl, by omega, by omega, fun j h => by omega⟩
 rcases hq with ⟨k, h1, h2, h3, rfl⟩ | ⟨h1, rfl⟩
 ·exact .inl ⟨k, h1, h2, h3, hr⟩
 ·exact .inr ⟨h1, hr⟩
theorem contains_int {s : List Int} {f : Int → Option Bool} {g : Int → Bool} (hf : ∀ x ∈ s, f x = some (g x)) (hl : s.length ≤ 4611686018427387904) : M.slices_ContainsFunc__int s f = some (s.any g) := by
 have key := wloop_ind (f := M.slices_IndexFunc__int_L1 s f) (fun n i => ∃ k : Nat, i = k ∧ k ≤ s.length ∧ n = s.length - k ∧ (s.take k).any g = false)
  (fun b => (∃ i : Int, b = .done i ∧ 0 ≤ i ∧ s.any g = true) ∨ (b = .next () ∧ s.any g = false)) (fun n i h => by
   obtain ⟨k, rfl, hk, rfl, hn⟩ := h
   unfold M.slices_IndexFunc__int_L1
   by_cases hlt : k < s.length
   ·simp only [show decide ((k : Int) < (s.length : Int)) = true from by simp; exact hlt, if_true, idx_get hlt, Option.bind_some, hf _ (List.getElem_mem hlt)]
    cases hg : g s[k] with
    | true =>
     right
     refine ⟨_, rfl, .inl ⟨_, rfl, by omega, ?_⟩⟩
     rw [List.any_eq_true]
     exact ⟨_, List.getElem_mem hlt, hg⟩
    | false =>
     left
     refine ⟨_, s.length - (k + 1), rfl, by omega, k + 1, ?_, by omega, rfl, ?_⟩
     ·rw [w64_id (by omega) (by omega)]; omega
     ·rw [List.take_succ_eq_append_getElem hlt, List.any_append, hn]; simp [hg]
   ·have : k = s.length := by omega
    subst this
    right
    simp only [show decide ((s.length : Int) < (s.length : Int)) = false from by simp, Bool.false_eq_true, if_false]
    exact ⟨_, rfl, .inr ⟨rfl, by simpa using hn⟩⟩) s.length 0 ⟨0, rfl, by omega, by omega, by simp⟩
 unfold M.slices_ContainsFunc__int M.slices_IndexFunc__int
 obtain ⟨b, hb, ⟨i, rfl, h0, ha⟩ | ⟨rfl, ha⟩⟩ := key
 ·rw [hb, ha]; simp [h0]
 ·rw [hb, ha]; simp
theorem contains_int64 {s : List Int} {f : Int → Option Bool} {g : Int → Bool} (hf : ∀ x ∈ s, f x = some (g x)) (hl : s.length ≤ 9223372036854775807) : M.slices_ContainsFunc__int64 s f = some (s.any g) := by
 have key := wloop_ind (f := M.slices_IndexFunc__int64_L1 s f) (fun n i => ∃ k : Nat, i = k ∧ k ≤ s.length ∧ n = s.length - k ∧ (s.take k).any g = false)
  (fun b => (∃ i : Int, b = .done i ∧ 0 ≤ i ∧ s.any g = true) ∨ (b = .next () ∧ s.any g = false)) (fun n i h => by
   obtain ⟨k, rfl, hk, rfl, hn⟩ := h
   unfold M.slices_IndexFunc__int64_L1
   by_cases hlt : k < s.length
   ·simp only [show decide ((k : Int) < (s.length : Int)) = true from by simp; exact hlt, if_true, idx_get hlt, Option.bind_some, hf _ (List.getElem_mem hlt)]
    cases hg : g s[k] with
    | true =>
     right
     refine ⟨_, rfl, .inl ⟨_, rfl, by omega, ?_⟩⟩
     rw [List.any_eq_true]
     exact ⟨_, List.getElem_mem hlt, hg⟩
    | false =>
     left
     refine ⟨_, s.length - (k + 1), rfl, by omega, k + 1, ?_, by omega, rfl, ?_⟩
     ·rw [w64_id (by omega) (by omega)]; omega
     ·rw [List.take_succ_eq_append_getElem hlt, List.any_append, hn]; simp [hg]
   ·have : k = s.length := by omega
    subst this
    right
    simp only [show decide ((s.length : Int) < (s.length : Int)) = false from by simp, Bool.false_eq_true, if_false]
    exact ⟨_, rfl, .inr ⟨rfl, by simpa using hn⟩⟩) s.length 0 ⟨0, rfl, by omega, by omega, by simp⟩
 unfold M.slices_ContainsFunc__int64 M.slices_IndexFunc__int64
 obtain ⟨b, hb, ⟨i, rfl, h0, ha⟩ | ⟨rfl, ha⟩⟩ := key
 ·rw [hb, ha]; simp [h0]
 ·rw [hb, ha]; simp
theorem contains_Val {s : List Val} {f : Val → Option Bool} {g : Val → Bool} (hf : ∀ x ∈ s, f x = some (g x)) (hl : s.length ≤ 4611686018427387904) : M.slices_ContainsFunc__Value s f = some (s.any g) := by
 have key := wloop_ind (f := M.slices_IndexFunc__Value_L1 s f) (fun n i => ∃ k : Nat, i = k ∧ k ≤ s.length ∧ n = s.length - k ∧ (s.take k).any g = false)
  (fun b => (∃ i : Int, b = .done i ∧ 0 ≤ i ∧ s.any g = true) ∨ (b = .next () ∧ s.any g = false)) (fun n i h => by
   obtain ⟨k, rfl, hk, rfl, hn⟩ := h
   unfold M.slices_IndexFunc__Value_L1
   by_cases hlt : k < s.length
   ·simp only [show decide ((k : Int) < (s.length : Int)) = true from by simp; exact hlt, if_true, idx_get hlt, Option.bind_some, hf _ (List.getElem_mem hlt)]
    cases hg : g s[k] with
    | true =>
     right
     refine ⟨_, rfl, .inl ⟨_, rfl, by omega, ?_⟩⟩
     rw [List.any_eq_true]
     exact ⟨_, List.getElem_mem hlt, hg⟩
    | false =>
     left
     refine ⟨_, s.length - (k + 1), rfl, by omega, k + 1, ?_, by omega, rfl, ?_⟩
     ·rw [w64_id (by omega) (by omega)]; omega
     ·rw [List.take_succ_eq_append_getElem hlt, List.any_append, hn]; simp [hg]
   ·have : k = s.length := by omega
    subst this
    right
    simp only [show decide ((s.length : Int) < (s.length : Int)) = false from by simp, Bool.false_eq_true, if_false]
    exact ⟨_, rfl, .inr ⟨rfl, by simpa using hn⟩⟩) s.length 0 ⟨0, rfl, by omega, by omega, by simp⟩
 unfold M.slices_ContainsFunc__Value M.slices_IndexFunc__Value
 obtain ⟨b, hb, ⟨i, rfl, h0, ha⟩ | ⟨rfl, ha⟩⟩ := key
 ·rw [hb, ha]; simp [h0]
 ·rw [hb, ha]; simp
def prod : List Int → Int
 | [] => 1
 | x :: s => x * prod s
def off : List Int → List Int → Int
 | x :: s, a :: at_ => a * prod s + off s at_
 | _, _ => 0
def dig : List Int → Int → List Int
 | [], _ => []
 | _ :: s, k => k / prod s :: dig s (k % prod s)
def inShape : List Int → List Int → Prop
 | [], [] => True
 | x :: s, a :: at_ => 0 ≤ a ∧ a < x ∧ inShape s at_
 | _, _ => False
instance : (s at_ : List Int) → Decidable (inShape s at_)
 | [], [] => isTrue trivial
 | x :: s, a :: at_ =>
  have := instDecidableInShape s at_
  by unfold inShape; exact inferInstance
 | [], _ :: _ => isFalse (fun h => h)
 | _ :: _, [] => isFalse (fun h => h)
theorem inShape.len : ∀ {s at_ : List Int}, inShape s at_ → at_.length = s.length
 | [], [], _ => rfl
 | x :: s, a :: at_, ⟨_, _, h⟩ => by simp [h.len]
 | [], _ :: _, h => h.elim
 | _ :: _, [], h => h.elim
theorem inShape.pos : ∀ {s at_ : List Int}, inShape s at_ → 0 < prod s
 | [], [], _ => by simp [prod]
 | x :: s, a :: at_, ⟨h0, h1, h⟩ => by
  have := h.pos
  exact Int.mul_pos (by omega) this
 | [], _ :: _, h => h.elim
 | _ :: _, [], h => h.elim
theorem off_range : ∀ {s at_ : List Int}, inShape s at_ → 0 ≤ off s at_ ∧ off s at_ < prod s
 | [], [], _ => by simp [prod, off]
 | x :: s, a :: at_, ⟨h0, h1, h⟩ => by
  have h2 := off_range h
  have h3 := h.pos
  have h4 : (a + 1) * prod s ≤ x * prod s := Int.mul_le_mul_of_nonneg_right (by omega) (by omega)
  have h5 : 0 ≤ a * prod s := Int.mul_nonneg h0 (by omega)
  rw [Int.add_mul] at h4
  simp only [prod, off]
  omega
 | [], _ :: _, h => h.elim
 | _ :: _, [], h => h.elim
theorem dig_off : ∀ {s at_ : List Int}, inShape s at_ → dig s (off s at_) = at_
 | [], [], _ => rfl
 | x :: s, a :: at_, ⟨h0, h1, h⟩ => by
  have h2 := off_range h
  have h3 := h.pos
  simp only [dig, off]
  rw [Int.add_comm, Int.mul_comm, Int.add_mul_ediv_left _ _ (by omega), Int.add_mul_emod_self_left, Int.emod_eq_of_lt h2.1 h2.2, dig_off h, Int.ediv_eq_zero_of_lt h2.1 h2.2]
  simp
 | [], _ :: _, h => h.elim
 | _ :: _, [], h => h.elim
def allPos (s : List Int) : Prop := ∀ x ∈ s, 0 < x
theorem allPos.pprod : ∀ {s : List Int}, allPos s → 0 < prod s
 | [], _ => by simp [prod]
 | x :: s, h => Int.mul_pos (h x List.mem_cons_self) (allPos.pprod fun y hy => h y (List.mem_cons_of_mem _ hy))
theorem allPos_of {s : List Int} (h : ∀ x ∈ s, 0 ≤ x) (hp : 0 < prod s) : allPos s := by
 intro x hx
 have h0 := h x hx
 rcases Int.lt_or_eq_of_le h0 with h1 | h1
 ·exact h1
 ·exfalso
  have : ∀ s : List Int, (0 : Int) ∈ s → prod s = 0 := by
   intro s
   induction s with
   | nil => intro h; simp at h
   | cons y s ih =>
    intro h
    rcases List.mem_cons.mp h with h | h
    ·simp [prod, ← h]
    ·simp [prod, ih h]
  rw [this s (h1 ▸ hx)] at hp
  omega
theorem dig_in : ∀ {s : List Int} {k : Int}, allPos s → 0 ≤ k → k < prod s → inShape s (dig s k)
 | [], k, _, h0, h1 => trivial
 | x :: s, k, h, h0, h1 => by
  have hs : allPos s := fun y hy => h y (List.mem_cons_of_mem _ hy)
  have hp := hs.pprod
  refine ⟨Int.ediv_nonneg h0 (by omega), ?_, dig_in hs (Int.emod_nonneg _ (by omega)) (Int.emod_lt_of_pos _ hp)⟩
  exact Int.ediv_lt_of_lt_mul hp h1
theorem off_dig : ∀ {s : List Int} {k : Int}, allPos s → 0 ≤ k → k < prod s → off s (dig s k) = k
 | [], k, _, h0, h1 => by simp [prod] at h1; simp [dig, off]; omega
 | x :: s, k, h, h0, h1 => by
  have hs : allPos s := fun y hy => h y (List.mem_cons_of_mem _ hy)
  have hp := hs.pprod
  simp only [dig, off]
  rw [off_dig hs (Int.emod_nonneg _ (by omega)) (Int.emod_lt_of_pos _ hp)]
  rw [Int.mul_comm]; exact Int.mul_ediv_add_emod k (prod s)
theorem dig_len : ∀ (s : List Int) (k : Int), (dig s k).length = s.length
 | [], _ => rfl
 | x :: s, k => by simp [dig, dig_len s]
theorem prod_nonneg : ∀ {s : List Int}, (∀ x ∈ s, 0 ≤ x) → 0 ≤ prod s
 | [], _ => by simp [prod]
 | x :: s, h => Int.mul_nonneg (h x List.mem_cons_self) (prod_nonneg fun y hy => h y (List.mem_cons_of_mem _ hy))
theorem prod_append : ∀ (s t : List Int), prod (s ++ t) = prod s * prod t
 | [], t => by simp [prod]
 | x :: s, t => by simp [prod, prod_append s t, Int.mul_assoc]

def shSize (s : List Int) : Int × Int :=
 if 4 < s.length then (0, 24) else if s.any (fun x => decide (x < 0)) then (0, 1) else if s.any (fun x => decide (x > 10000)) || decide (prod s > 10000) then (0, 27) else (prod s, 0)
def shOk (s : List Int) : Prop := s.length ≤ 4 ∧ (∀ x ∈ s, 0 ≤ x ∧ x ≤ 10000) ∧ prod s ≤ 10000
instance (s : List Int) : Decidable (shOk s) := by unfold shOk; exact inferInstance
theorem shSize_ok {s : List Int} (h : shOk s) : shSize s = (prod s, 0) := by
 obtain ⟨h1, h2, h3⟩ := h
 unfold shSize
 rw [if_neg (by omega), if_neg, if_neg]
 ·simp only [Bool.or_eq_true, List.any_eq_true, decide_eq_true_eq]
  rintro (⟨x, hx, h⟩ | h)
  ·have := h2 x hx; omega
  ·omega
 ·simp only [List.any_eq_true, decide_eq_true_eq]
  rintro ⟨x, hx, h⟩
  have := h2 x hx; omega
theorem shSize_zero {s : List Int} : (shSize s).2 = 0 ↔ shOk s := by
 constructor
 ·intro h
  unfold shSize at h
  split at h
  ·cases h
  ·rename_i h1
   split at h
   ·cases h
   ·rename_i h2
    split at h
    ·cases h
    ·rename_i h3
     simp only [List.any_eq_true, decide_eq_true_eq, not_exists, not_and] at h2
     simp only [Bool.or_eq_true, List.any_eq_true, decide_eq_true_eq, not_or, not_exists, not_and] at h3
     exact ⟨by omega, fun x hx => ⟨by have := h2 x hx; omega, by have := h3.1 x hx; omega⟩, by omega⟩
 ·intro h; rw [shSize_ok h]
theorem shSize_cases (s : List Int) : (shOk s ∧ shSize s = (prod s, 0)) ∨ (¬ shOk s ∧ (shSize s).2 ≠ 0 ∧ (shSize s).1 = 0) := by
 by_cases h : shOk s
 ·exact .inl ⟨h, shSize_ok h⟩
 ·refine .inr ⟨h, fun hh => h (shSize_zero.mp hh), ?_⟩
  unfold shSize
  split
  ·rfl
  ·rename_i h1
   split
   ·rfl
   ·rename_i h2
    split
    ·rfl
    ·rename_i h3
     exfalso; apply h
     simp only [List.any_eq_true, decide_eq_true_eq, not_exists, not_and] at h2
     simp only [Bool.or_eq_true, List.any_eq_true, decide_eq_true_eq, not_or, not_exists, not_and] at h3
     exact ⟨by omega, fun x hx => ⟨by have := h2 x hx; omega, by have := h3.1 x hx; omega⟩, by omega⟩
theorem dig_bound {s : List Int} {k : Int} (hok : shOk s) (h0 : 0 ≤ k) (h1 : k < prod s) : ∀ x ∈ dig s k, 0 ≤ x ∧ x ≤ 10000 := by
 have hpos : allPos s := allPos_of (fun x hx => (hok.2.1 x hx).1) (by omega)
 have key : ∀ (s at_ : List Int), inShape s at_ → (∀ x ∈ s, 0 ≤ x ∧ x ≤ 10000) → ∀ x ∈ at_, 0 ≤ x ∧ x ≤ 10000 := by
  intro s
  induction s with
  | nil => intro at_ h _ x hx; cases at_ with | nil => simp at hx | cons _ _ => exact h.elim
  | cons y s ih =>
   intro at_ h hb x hx
   cases at_ with
   | nil => exact h.elim
   | cons a at_ =>
    obtain ⟨h1, h2, h3⟩ := h
    rcases List.mem_cons.mp hx with rfl | hx
    ·have := hb y List.mem_cons_self; omega
    ·exact ih at_ h3 (fun z hz => hb z (List.mem_cons_of_mem _ hz)) x hx
 exact key s _ (dig_in hpos h0 h1) hok.2.1
theorem dig_zero : ∀ {s : List Int}, allPos s → dig s 0 = List.replicate s.length 0
 | [], _ => rfl
 | x :: s, h => by
  have hs : allPos s := fun y hy => h y (List.mem_cons_of_mem _ hy)
  simp only [dig, Int.zero_ediv, Int.zero_emod, dig_zero hs]; rfl

theorem one_le_pow : ∀ k : Nat, (1 : Int) ≤ 10000 ^ k
 | 0 => by simp
 | k + 1 => by rw [Int.pow_succ]; have := one_le_pow k; omega
theorem prod_bound : ∀ (s : List Int) (k : Nat), s.length ≤ k → (∀ x ∈ s, 0 ≤ x ∧ x ≤ 10000) → 0 ≤ prod s ∧ prod s ≤ 10000 ^ k
 | [], k, _, _ => ⟨by simp [prod], one_le_pow k⟩
 | x :: s, k + 1, hl, h => by
  have h1 := h x List.mem_cons_self
  have h2 := prod_bound s k (by simpa using hl) (fun y hy => h y (List.mem_cons_of_mem _ hy))
  refine ⟨Int.mul_nonneg h1.1 h2.1, ?_⟩
  simp only [prod]
  have h3 : x * prod s ≤ 10000 * prod s := Int.mul_le_mul_of_nonneg_right h1.2 h2.1
  have h4 : (10000 : Int) ^ (k + 1) = 10000 ^ k * 10000 := Int.pow_succ _ _
  omega
 | x :: s, 0, hl, h => by simp at hl

theorem product_eq {s : List Int} (hl : s.length ≤ 4) (hb : ∀ x ∈ s, 0 ≤ x ∧ x ≤ 10000) : M.shape_product s = some (prod s) := by
 have key := wloop_ind (f := M.shape_product_L1 s) (fun n st => ∃ k : Nat, st = (prod (s.take k), (k : Int)) ∧ k ≤ s.length ∧ n = s.length - k)
  (fun b => b = .next (prod s)) (fun n st h => by
   obtain ⟨k, rfl, hk, rfl⟩ := h
   unfold M.shape_product_L1
   by_cases hlt : k < s.length
   ·left
    simp only [show decide ((k : Int) < (s.length : Int)) = true from by simp; exact hlt, if_true, idx_get hlt, Option.bind_some]
    have e : prod (s.take k) * s[k] = prod (s.take (k + 1)) := by
     rw [List.take_succ_eq_append_getElem hlt, prod_append]; simp [prod]
    have hp := prod_bound (s.take (k + 1)) 4 (by rw [List.length_take]; omega) (fun x hx => hb x (List.mem_of_mem_take hx))
    refine ⟨_, s.length - (k + 1), rfl, by omega, k + 1, ?_, by omega, rfl⟩
    rw [e, w64_id (by omega) (by omega), w64_id (by omega) (by omega)]
    simp
   ·have : k = s.length := by omega
    subst this
    right
    simp)
  s.length (1, 0) ⟨0, by simp [prod], by omega, by omega⟩
 obtain ⟨b, hb, rfl⟩ := key
 unfold M.shape_product
 rw [hb]; rfl

theorem shape_Size_eq {s : List Int} (hl : s.length ≤ maxLen) : M.shape_Size s = some (shSize s) := by
 have hm : maxLen = 9223372036854775807 := rfl
 unfold M.shape_Size shSize
 by_cases h4 : 4 < s.length
 ·rw [if_pos h4, if_pos (by simp; omega)]
 ·rw [if_neg h4, if_neg (by simp; omega)]
  rw [contains_int (s := s) (f := fun x0 => M.shape_Size_1 x0) (g := fun x => decide (x < 0)) (fun x _ => rfl) (by omega), Option.bind_some]
  cases hneg : s.any (fun x => decide (x < 0)) with
  | true => simp
  | false =>
   simp only [Bool.false_eq_true, if_false]
   rw [contains_int (s := s) (f := fun x0 => M.shape_Size_2 x0) (g := fun x => decide (x > 10000)) (fun x _ => rfl) (by omega), Option.bind_some]
   cases hbig : s.any (fun x => decide (x > 10000)) with
   | true => simp
   | false =>
    have hb : ∀ x ∈ s, 0 ≤ x ∧ x ≤ 10000 := by
     intro x hx
     simp only [List.any_eq_false, decide_eq_true_eq] at hneg hbig
     have := hneg x hx; have := hbig x hx; omega
    simp only [Bool.false_eq_true, if_false, product_eq (by omega) hb, Option.bind_some, Bool.false_or]
    split <;> simp_all
theorem sized_eq {s : List Int} (hl : s.length ≤ maxLen) : M.shape_sized s = some ((shSize s).2 == 0) := by
 unfold M.shape_sized; rw [shape_Size_eq hl]; rfl
def chOk (c : Int) : Bool := decide (0 ≤ c ∧ c ≤ 1114111) && !decide (55296 ≤ c ∧ c ≤ 57343)
def vRight (v : Val) : Bool := decide (shOk v.Shape) && decide (prod v.Shape = v.Data.length) && (!v.Char || v.Data.all chOk)
def vSame (a b : Val) : Bool := (a.Char == b.Char) && decide (a.Shape = b.Shape) && decide (a.Data = b.Data)
theorem vSame_iff {a b : Val} : vSame a b = true ↔ a = b := by
 obtain ⟨c, s, d⟩ := a
 obtain ⟨c', s', d'⟩ := b
 simp only [vSame, Bool.and_eq_true, beq_iff_eq, decide_eq_true_eq, Val.mk.injEq]
 constructor
 ·rintro ⟨⟨h1, h2⟩, h3⟩; exact ⟨h1, h2, h3⟩
 ·rintro ⟨h1, h2, h3⟩; exact ⟨⟨h1, h2⟩, h3⟩
theorem vSame_refl (a : Val) : vSame a a = true := vSame_iff.mpr rfl
theorem vSame_eq (a b : Val) : vSame a b = true ∧ a = b ∨ vSame a b = false ∧ a ≠ b := by
 cases h : vSame a b with
 | true => exact .inl ⟨rfl, vSame_iff.mp h⟩
 | false => exact .inr ⟨rfl, fun hh => by rw [vSame_iff.mpr hh] at h; cases h⟩
theorem vRight_iff {v : Val} : vRight v = true ↔ shOk v.Shape ∧ prod v.Shape = v.Data.length ∧ (v.Char = true → ∀ c ∈ v.Data, chOk c = true) := by
 simp only [vRight, Bool.and_eq_true, decide_eq_true_eq, Bool.or_eq_true, Bool.not_eq_true', List.all_eq_true]
 constructor
 ·rintro ⟨⟨h1, h2⟩, h3⟩
  refine ⟨h1, h2, fun h => ?_⟩
  rcases h3 with h3 | h3
  ·rw [h3] at h; cases h
  ·exact h3
 ·rintro ⟨h1, h2, h3⟩
  refine ⟨⟨h1, h2⟩, ?_⟩
  cases h : v.Char with
  | true => exact .inr (h3 h)
  | false => exact .inl rfl

theorem right_loop {f : Int × Int → Option (Ctl (Int × Int) (Ctl Int Bool))} {s : List Int} (h4 : s.length ≤ 4)
  (hf : ∀ k : Nat, ∀ h : k < s.length, ∀ z, f (z, (k : Int)) = if s[k] < 0 ∨ s[k] > 10000 then some (.done (.done false)) else some (.next (IntKind.i64.wrap (z * s[k]), (k : Int) + 1)))
  (he : ∀ z, f (z, (s.length : Int)) = some (.done (.next z))) :
  ((∀ x ∈ s, 0 ≤ x ∧ x ≤ 10000) ∧ wloop f (1, 0) = some (.next (prod s))) ∨ (¬ (∀ x ∈ s, 0 ≤ x ∧ x ≤ 10000) ∧ wloop f (1, 0) = some (.done false)) := by
 have key := wloop_ind (f := f) (fun n st => ∃ k : Nat, n = s.length - k ∧ k ≤ s.length ∧ st = (prod (s.take k), (k : Int)) ∧ ∀ x ∈ s.take k, 0 ≤ x ∧ x ≤ 10000)
  (fun b => (b = .next (prod s) ∧ ∀ x ∈ s, 0 ≤ x ∧ x ≤ 10000) ∨ (b = .done false ∧ ¬ ∀ x ∈ s, 0 ≤ x ∧ x ≤ 10000)) (fun n st h => by
   obtain ⟨k, rfl, hk, rfl, hall⟩ := h
   by_cases hlt : k < s.length
   ·rw [hf k hlt]
    by_cases hb : s[k] < 0 ∨ s[k] > 10000
    ·rw [if_pos hb]
     right
     refine ⟨_, rfl, .inr ⟨rfl, fun hh => ?_⟩⟩
     have := hh _ (List.getElem_mem hlt); omega
    ·rw [if_neg hb]
     left
     have e := List.take_succ_eq_append_getElem hlt
     have hall2 : ∀ x ∈ s.take (k + 1), 0 ≤ x ∧ x ≤ 10000 := by
      intro x hx
      rw [e] at hx
      rcases List.mem_append.mp hx with hx | hx
      ·exact hall x hx
      ·rw [List.mem_singleton.mp hx]; omega
     have hp := prod_bound (s.take (k + 1)) 4 (by rw [List.length_take]; omega) hall2
     have e2 : prod (s.take (k + 1)) = prod (s.take k) * s[k] := by rw [e, prod_append]; simp [prod]
     refine ⟨_, s.length - (k + 1), rfl, by omega, k + 1, rfl, by omega, ?_, hall2⟩
     rw [← e2, w64_id (by omega) (by omega)]; simp
   ·have : k = s.length := by omega
    subst this
    rw [he]
    rw [List.take_length] at hall ⊢
    exact .inr ⟨_, rfl, .inl ⟨rfl, hall⟩⟩)
  s.length (1, 0) ⟨0, by omega, by omega, by simp [prod], by simp⟩
 obtain ⟨b, hb, ⟨rfl, h⟩ | ⟨rfl, h⟩⟩ := key
 ·exact .inl ⟨h, hb⟩
 ·exact .inr ⟨h, hb⟩
theorem all_loop {f : Int → Option (Ctl Int (Ctl Unit Bool))} {l : List Int} {p : Int → Bool}
  (hf : ∀ k : Nat, ∀ h : k < l.length, f k = if p l[k] = true then some (.next ((k : Int) + 1)) else some (.done (.done false))) (he : f l.length = some (.done (.next ()))) :
  wloop f 0 = some (if l.all p = true then .next () else .done false) := by
 have key := wloop_ind (f := f) (fun n i => ∃ k : Nat, i = k ∧ k ≤ l.length ∧ n = l.length - k ∧ (l.take k).all p = true)
  (fun c => (c = .done false ∧ l.all p = false) ∨ (c = .next () ∧ l.all p = true)) (fun n i h => by
   obtain ⟨k, rfl, hk, rfl, hn⟩ := h
   by_cases hlt : k < l.length
   ·rw [hf k hlt]
    by_cases hp : p l[k] = true
    ·rw [if_pos hp]
     left
     refine ⟨_, l.length - (k + 1), rfl, by omega, k + 1, by omega, by omega, rfl, ?_⟩
     rw [List.take_succ_eq_append_getElem hlt, List.all_append, hn]; simp [hp]
    ·rw [if_neg hp]
     right
     refine ⟨_, rfl, .inl ⟨rfl, ?_⟩⟩
     rw [List.all_eq_false]
     exact ⟨_, List.getElem_mem hlt, hp⟩
   ·have : k = l.length := by omega
    subst this
    right
    rw [List.take_length] at hn
    exact ⟨_, he, .inr ⟨rfl, hn⟩⟩) l.length 0 ⟨0, rfl, by omega, by omega, by simp⟩
 obtain ⟨c, hc, ⟨rfl, h⟩ | ⟨rfl, h⟩⟩ := key
 ·rw [hc, h]; simp
 ·rw [hc, h]; simp
theorem w32_id {x : Int} (h1 : 0 ≤ x) (h2 : x ≤ 1114111) : IntKind.i32.wrap x = x := by
 have e : IntKind.i32.wrap x = if x % 4294967296 ≥ 2147483648 then x % 4294967296 - 4294967296 else x % 4294967296 := by
  simp [IntKind.wrap, IntKind.bits, IntKind.signed]
 rw [e]
 split <;> omega
theorem character_eq (c : Int) : M.value_character c = some (chOk c) := by
 unfold M.value_character chOk
 by_cases h : 0 ≤ c ∧ c ≤ 1114111
 ·have e : (decide (c ≥ 0) && decide (c ≤ 1114111)) = true := by simp; omega
  simp only [e, if_true, h, and_self, decide_true, Bool.true_and]
  rw [w32_id h.1 h.2]
  unfold M.unicode_utf8_ValidRune
  by_cases h1 : c < 55296
  ·have e1 : (decide (0 ≤ c) && decide (c < 55296)) = true := by simp; omega
   have e2 : decide (55296 ≤ c ∧ c ≤ 57343) = false := decide_eq_false (by omega)
   simp only [e1, e2, if_true, Option.bind_some, Bool.not_false]
  ·have e1 : (decide (0 ≤ c) && decide (c < 55296)) = false := by simp; omega
   simp only [e1, Bool.false_eq_true, if_false]
   by_cases h2 : 57343 < c
   ·have e3 : (decide (57343 < c) && decide (c ≤ 1114111)) = true := by simp; omega
    have e2 : decide (55296 ≤ c ∧ c ≤ 57343) = false := decide_eq_false (by omega)
    simp only [e3, e2, if_true, Option.bind_some, Bool.not_false]
   ·have e3 : (decide (57343 < c) && decide (c ≤ 1114111)) = false := by simp; omega
    have e2 : decide (55296 ≤ c ∧ c ≤ 57343) = true := decide_eq_true (by omega)
    simp only [e3, e2, Bool.false_eq_true, if_false, Option.bind_some, Bool.not_true]
 ·have e : (decide (c ≥ 0) && decide (c ≤ 1114111)) = false := by simp; omega
  simp only [e, Bool.false_eq_true, if_false, h, decide_false, Bool.false_and, Option.bind_some]
theorem value_Right_eq {v : Val} (hd : v.Data.length ≤ 9223372036854775807) : M.value_Right v = some (vRight v) := by
 unfold M.value_Right
 by_cases h4 : 4 < v.Shape.length
 ·rw [if_pos (by simp; omega)]
  have : vRight v = false := by
   cases h : vRight v with
   | false => rfl
   | true => have := (vRight_iff.mp h).1.1; omega
  rw [this]
 ·rw [if_neg (by simp; omega)]
  have hloop := right_loop (f := M.value_Right_L1 v) (s := v.Shape) (by omega) (fun k h z => by
   unfold M.value_Right_L1
   simp only [show decide ((k : Int) < (v.Shape.length : Int)) = true from decide_eq_true (by omega), if_true, idx_get h, Option.bind_some]
   by_cases hb : v.Shape[k] < 0 ∨ v.Shape[k] > 10000
   ·rw [if_pos hb, if_pos (by simpa using hb)]
   ·rw [if_neg hb, if_neg (by simpa using hb), w64_id (x := (k : Int) + 1) (by omega) (by omega)]) (fun z => by unfold M.value_Right_L1; simp)
  rcases hloop with ⟨hall, hw⟩ | ⟨hall, hw⟩
  ·rw [hw]
   simp only [Option.bind_some, joinK_next]
   have hp0 : 0 ≤ prod v.Shape := prod_nonneg fun x hx => (hall x hx).1
   by_cases hsz : prod v.Shape ≤ 10000 ∧ prod v.Shape = v.Data.length
   ·have e : (decide (prod v.Shape > 10000) || (prod v.Shape != (v.Data.length : Int))) = false := by simp; omega
    simp only [e, Bool.false_eq_true, if_false]
    have hok : shOk v.Shape := ⟨by omega, hall, hsz.1⟩
    have hv : vRight v = (!v.Char || v.Data.all chOk) := by unfold vRight; simp [hok, hsz.2]
    rw [hv]
    cases hc : v.Char with
    | false => simp
    | true =>
     simp only [Bool.not_true, Bool.false_eq_true, if_false, Bool.false_or]
     rw [contains_int64 (s := v.Data) (f := fun x0 => M.value_Right_1 x0) (g := fun x => !chOk x) (fun x _ => by unfold M.value_Right_1; rw [character_eq]; rfl) hd]
     simp only [Option.bind_some]
     congr 1
     rw [List.not_any_eq_all_not]; simp
   ·have e : (decide (prod v.Shape > 10000) || (prod v.Shape != (v.Data.length : Int))) = true := by
     simp; omega
    simp only [e, if_true]
    have : vRight v = false := by
     cases h : vRight v with
     | false => rfl
     | true => have := vRight_iff.mp h; exact absurd ⟨this.1.2.2, this.2.1⟩ hsz
    rw [this]
  ·rw [hw]
   have : vRight v = false := by
    cases h : vRight v with
    | false => rfl
    | true => exact absurd (vRight_iff.mp h).1.2.1 hall
   rw [this]; rfl
theorem ref02_Right_eq {v : Val} (hd : v.Data.length ≤ 9223372036854775807) : M.anamnesisref02_Right v = some (vRight v) := by
 unfold M.anamnesisref02_Right
 by_cases h4 : 4 < v.Shape.length
 ·rw [if_pos (by simp; omega)]
  have : vRight v = false := by
   cases h : vRight v with
   | false => rfl
   | true => have := (vRight_iff.mp h).1.1; omega
  rw [this]
 ·rw [if_neg (by simp; omega)]
  have hloop := right_loop (f := M.anamnesisref02_Right_L1 v) (s := v.Shape) (by omega) (fun k h z => by
   unfold M.anamnesisref02_Right_L1
   simp only [show decide ((k : Int) < (v.Shape.length : Int)) = true from decide_eq_true (by omega), if_true, idx_get h, Option.bind_some]
   by_cases h0 : v.Shape[k] < 0
   ·simp only [show decide (v.Shape[k] < 0) = true from decide_eq_true h0, if_true, Option.bind_some]
    rw [if_pos (.inl h0)]
   ·simp only [show decide (v.Shape[k] < 0) = false from decide_eq_false h0, Bool.false_eq_true, if_false, Option.bind_some]
    by_cases h1 : v.Shape[k] > 10000
    ·rw [if_pos (by simpa using h1), if_pos (.inr h1)]
    ·rw [if_neg (by simpa using h1), if_neg (by omega), w64_id (x := (k : Int) + 1) (by omega) (by omega)]) (fun z => by unfold M.anamnesisref02_Right_L1; simp)
  have hchars : wloop (M.anamnesisref02_Right_L2 v) 0 = some (if (!v.Char || v.Data.all chOk) = true then .next () else .done false) := by
   cases hc : v.Char with
   | false =>
    simp only [Bool.not_false, Bool.true_or, if_true]
    exact wloop_done (by unfold M.anamnesisref02_Right_L2; simp [hc])
   | true =>
    simp only [Bool.not_true, Bool.false_or]
    refine all_loop (fun k h => ?_) ?_
    ·unfold M.anamnesisref02_Right_L2
     simp only [hc, Bool.and_true, show decide ((k : Int) < (v.Data.length : Int)) = true from decide_eq_true (by omega), if_true, idx_get h, Option.bind_some]
     by_cases hok : chOk v.Data[k] = true
     ·have e : ((decide (v.Data[k] < 0) || decide (v.Data[k] > 1114111)) || (decide (v.Data[k] ≥ 55296) && decide (v.Data[k] ≤ 57343))) = false := by
       unfold chOk at hok
       simp at hok ⊢; omega
      rw [e, if_neg (by simp), if_pos hok, w64_id (by omega) (by omega)]
     ·have e : ((decide (v.Data[k] < 0) || decide (v.Data[k] > 1114111)) || (decide (v.Data[k] ≥ 55296) && decide (v.Data[k] ≤ 57343))) = true := by
       unfold chOk at hok
       simp at hok ⊢; omega
      rw [e, if_pos rfl, if_neg hok]
    ·unfold M.anamnesisref02_Right_L2; simp
  rcases hloop with ⟨hall, hw⟩ | ⟨hall, hw⟩
  ·rw [hw, hchars]
   simp only [Option.bind_some, joinK_next]
   have hok : ∀ b : Bool, (decide (shOk v.Shape) && decide (prod v.Shape = v.Data.length) && b) = ((prod v.Shape == (v.Data.length : Int)) && decide (prod v.Shape ≤ 10000) && b) := by
    intro b
    have : decide (shOk v.Shape) = decide (prod v.Shape ≤ 10000) := by
     by_cases h : prod v.Shape ≤ 10000
     ·rw [decide_eq_true h, decide_eq_true (show shOk v.Shape from ⟨by omega, hall, h⟩)]
     ·rw [decide_eq_false h, decide_eq_false (fun hh : shOk v.Shape => h hh.2.2)]
    rw [this]
    have e2 : (prod v.Shape == (v.Data.length : Int)) = decide (prod v.Shape = v.Data.length) := rfl
    rw [e2]
    cases decide (prod v.Shape ≤ 10000) <;> cases decide (prod v.Shape = (v.Data.length : Int)) <;> rfl
   unfold vRight
   rw [hok]
   cases hcb : (!v.Char || v.Data.all chOk) with
   | true => simp
   | false => simp
  ·rw [hw]
   have : vRight v = false := by
    cases h : vRight v with
    | false => rfl
    | true => exact absurd (vRight_iff.mp h).1.2.1 hall
   rw [this]; rfl
theorem ref02_Same_eq {a b : Val} (hs : a.Shape.length ≤ maxLen) (hd : a.Data.length ≤ maxLen) : M.anamnesisref02_Same a b = some (vSame a b) := by
 have hm : maxLen = 9223372036854775807 := rfl
 unfold M.anamnesisref02_Same
 by_cases hl : (a.Char = b.Char ∧ a.Shape.length = b.Shape.length) ∧ a.Data.length = b.Data.length
 ·obtain ⟨⟨h1, h2⟩, h3⟩ := hl
  rw [if_neg (by simp [h1, h2, h3])]
  have l1 := same_loop (f := M.anamnesisref02_Same_L1 a b) h2 hs (fun k h => by
   unfold M.anamnesisref02_Same_L1
   simp only [show decide ((k : Int) < (a.Shape.length : Int)) = true from decide_eq_true (by omega), if_true, idx_get h, idx_get (show k < b.Shape.length by omega), Option.bind_some]
   by_cases he : a.Shape[k] = b.Shape[k]
   ·rw [if_pos he, if_neg (by simp [he]), w64_id (by omega) (by omega)]
   ·rw [if_neg he, if_pos (by simp [he])]) (by unfold M.anamnesisref02_Same_L1; simp)
  have l2 := same_loop (f := M.anamnesisref02_Same_L2 a b) h3 hd (fun k h => by
   unfold M.anamnesisref02_Same_L2
   simp only [show decide ((k : Int) < (a.Data.length : Int)) = true from decide_eq_true (by omega), if_true, idx_get h, idx_get (show k < b.Data.length by omega), Option.bind_some]
   by_cases he : a.Data[k] = b.Data[k]
   ·rw [if_pos he, if_neg (by simp [he]), w64_id (by omega) (by omega)]
   ·rw [if_neg he, if_pos (by simp [he])]) (by unfold M.anamnesisref02_Same_L2; simp)
  rw [l1, l2]
  unfold vSame
  simp only [h1, BEq.rfl, Bool.true_and]
  by_cases he : a.Shape = b.Shape
  ·rw [if_pos he, decide_eq_true he]
   by_cases hd : a.Data = b.Data
   ·rw [if_pos hd, decide_eq_true hd]; rfl
   ·rw [if_neg hd, decide_eq_false hd]; rfl
  ·rw [if_neg he, decide_eq_false he]; rfl
 ·have e : ((!(a.Char == b.Char) || ((a.Shape.length : Int) != (b.Shape.length : Int))) || ((a.Data.length : Int) != (b.Data.length : Int))) = true := by
   cases hq : ((!(a.Char == b.Char) || ((a.Shape.length : Int) != (b.Shape.length : Int))) || ((a.Data.length : Int) != (b.Data.length : Int))) with
   | true => rfl
   | false =>
    exfalso; apply hl
    simp only [Bool.or_eq_false_iff, Bool.not_eq_false', beq_iff_eq, bne_eq_false_iff_eq] at hq
    obtain ⟨⟨q1, q2⟩, q3⟩ := hq
    exact ⟨⟨q1, by omega⟩, by omega⟩
  rw [if_pos e]
  have : vSame a b = false := by
   cases hq : vSame a b with
   | false => rfl
   | true => have := vSame_iff.mp hq; subst this; simp at hl
  rw [this]
theorem sub_take {α : Type} {l : List α} {k : Nat} (h : k ≤ l.length) : sub l 0 (k : Int) = some (l.take k) := by
 unfold sub
 rw [if_pos ⟨by omega, by omega, by omega⟩]
 simp
def splitOf (s : List Int) (axis : Int) : Int × Int × Int × Bool :=
 if h : shOk s ∧ 0 ≤ axis ∧ axis < s.length then (prod (s.take axis.toNat), s[axis.toNat]'(by omega), prod (s.drop (axis.toNat + 1)), true) else (0, 0, 0, false)
theorem shape_Split_eq {s : List Int} {axis : Int} (hl : s.length ≤ maxLen) (ha : -9223372036854775808 ≤ axis ∧ axis ≤ 9223372036854775807) : M.shape_Split s axis = some (splitOf s axis) := by
 have hm : maxLen = 9223372036854775807 := rfl
 unfold M.shape_Split splitOf
 by_cases hr : 0 ≤ axis ∧ axis < s.length
 ·have e : (decide (axis < 0) || decide (axis ≥ (s.length : Int))) = false := by
   rw [decide_eq_false (by omega), decide_eq_false (by omega)]; rfl
  rw [e, sized_eq hl]
  simp only [Bool.false_eq_true, if_false, Option.bind_some]
  rcases shSize_cases s with ⟨hok, he⟩ | ⟨hok, he, _⟩
  ·obtain ⟨k, rfl⟩ : ∃ k : Nat, axis = k := ⟨axis.toNat, by omega⟩
   have hk : k < s.length := by omega
   have h4 := hok.1
   rw [he, dif_pos ⟨hok, hr⟩]
   simp only [beq_self_eq_true, Bool.not_true, Bool.false_eq_true, if_false]
   rw [sub_take (by omega), Option.bind_some, product_eq (by rw [List.length_take]; omega) (fun x hx => hok.2.1 x (List.mem_of_mem_take hx)), Option.bind_some, idx_get hk, Option.bind_some, w64_id (by omega) (by omega),
    show (k : Int) + 1 = ((k + 1 : Nat) : Int) by omega, sub_drop (by omega), Option.bind_some, product_eq (by rw [List.length_drop]; omega) (fun x hx => hok.2.1 x (List.mem_of_mem_drop hx))]
   rfl
  ·have : ((shSize s).2 == 0) = false := by simpa using he
   rw [this, dif_neg (fun h => hok h.1)]
   rfl
 ·have e : (decide (axis < 0) || decide (axis ≥ (s.length : Int))) = true := by
   simp; omega
  rw [e, dif_neg (fun h => hr h.2)]
  rfl
def wo (s : List Int) (axis : Int) : List Int := if 0 ≤ axis ∧ axis < s.length then s.take axis.toNat ++ s.drop (axis.toNat + 1) else s
theorem shape_Without_eq {s : List Int} {axis : Int} (hl : s.length ≤ 1000000) (ha : -9223372036854775808 ≤ axis ∧ axis ≤ 9223372036854775807) : M.shape_Without s axis = some (wo s axis) := by
 unfold M.shape_Without M.slices_Clone__int wo
 rw [app_ok (by simp; omega), List.nil_append, Option.bind_some]
 by_cases hr : 0 ≤ axis ∧ axis < s.length
 ·obtain ⟨k, rfl⟩ : ∃ k : Nat, axis = k := ⟨axis.toNat, by omega⟩
  rw [if_neg (by simp; omega), if_pos hr, w64_id (by omega) (by omega)]
  unfold M.slices_Delete__int del
  rw [if_pos ⟨by omega, by omega, by omega⟩]
  have : ((k : Int) + 1).toNat = k + 1 := by omega
  simp [this]
 ·rw [if_pos (by simp; omega), if_neg hr]
theorem wo_prod {s : List Int} {k : Nat} (h : k < s.length) : prod (wo s k) = prod (s.take k) * prod (s.drop (k + 1)) := by
 unfold wo
 rw [if_pos ⟨by omega, by omega⟩, prod_append]; simp
theorem prod_split {s : List Int} {k : Nat} (h : k < s.length) : prod s = prod (s.take k) * s[k] * prod (s.drop (k + 1)) := by
 conv => lhs; rw [← List.take_append_drop k s, drop_cons h, prod_append]
 simp only [prod]
 rw [Int.mul_assoc]
theorem Equal_int_eq {a b : List Int} (ha : a.length ≤ maxLen) : M.slices_Equal__int a b = some (decide (a = b)) := by
 have hm : maxLen = 9223372036854775807 := rfl
 unfold M.slices_Equal__int
 by_cases hl : a.length = b.length
 ·rw [if_neg (by simp [hl])]
  refine same_step hl ha (fun k h => ?_) ?_
  ·unfold M.slices_Equal__int_L1
   simp only [show decide ((k : Int) < (a.length : Int)) = true from by simp; exact h, if_true, idx_get h, idx_get (hl ▸ h : k < b.length), Option.bind_some]
   by_cases he : a[k] = b[k]'(hl ▸ h)
   ·rw [if_pos he, if_neg (by simp [he]), w64_id (by omega) (by omega)]
   ·rw [if_neg he, if_pos (by simp [he])]
  ·unfold M.slices_Equal__int_L1; simp
 ·rw [if_pos (by simp; omega)]
  have : a ≠ b := fun h => hl (by rw [h])
  simp [this]
theorem whole_one {v : Val} (h : v.Data.length ≤ 9223372036854775807) : M.join_whole [v] = some (vRight v) := by
 unfold M.join_whole
 rw [contains_Val (g := fun v => !vRight v) (fun x hx => by
  obtain rfl := List.mem_singleton.mp hx
  unfold M.join_whole_1; rw [value_Right_eq h]; rfl) (by simp)]
 simp
theorem whole_two {v w : Val} (h : v.Data.length ≤ 9223372036854775807) (h' : w.Data.length ≤ 9223372036854775807) : M.join_whole [v, w] = some (vRight v && vRight w) := by
 unfold M.join_whole
 rw [contains_Val (g := fun v => !vRight v) (fun x hx => by
  have : x = v ∨ x = w := by simpa using hx
  rcases this with rfl | rfl
  ·unfold M.join_whole_1; rw [value_Right_eq h]; rfl
  ·unfold M.join_whole_1; rw [value_Right_eq h']; rfl) (by simp)]
 simp
def zV : Val := ⟨false, [], []⟩
theorem ref07_Size_eq {s : List Int} (hl : s.length ≤ 9223372036854775807) : M.anamnesisref07_Size s = some (if shOk s then prod s else -1) := by
 unfold M.anamnesisref07_Size
 by_cases h4 : s.length > 4
 ·rw [if_pos (by simp; omega), if_neg (fun h => by have := h.1; omega)]
 ·rw [if_neg (by simp; omega)]
  have key := wloop_ind (f := M.anamnesisref07_Size_L1 s) (fun n st => ∃ k : Nat, st = (prod (s.take k), (k : Int)) ∧ k ≤ s.length ∧ n = s.length - k ∧ ∀ x ∈ s.take k, 0 ≤ x ∧ x ≤ 10000)
   (fun b => (b = .next (prod s) ∧ ∀ x ∈ s, 0 ≤ x ∧ x ≤ 10000) ∨ (b = .done (-1) ∧ ¬ ∀ x ∈ s, 0 ≤ x ∧ x ≤ 10000)) (fun n st h => by
    obtain ⟨k, rfl, hk, rfl, hb⟩ := h
    unfold M.anamnesisref07_Size_L1
    by_cases hlt : k < s.length
    ·simp only [show decide ((k : Int) < (s.length : Int)) = true from by simp; exact hlt, if_true, idx_get hlt, Option.bind_some]
     have e : (if decide (s[k] < 0) = true then some true else some (decide (s[k] > 10000))) = some (decide (s[k] < 0 ∨ s[k] > 10000)) := by
      by_cases h : s[k] < 0
      ·rw [if_pos (by simpa using h), decide_eq_true (.inl h)]
      ·rw [if_neg (by simpa using h)]; simp [h]
     rw [e]
     simp only [Option.bind_some]
     by_cases hbad : s[k] < 0 ∨ s[k] > 10000
     ·right
      rw [if_pos (by simpa using hbad)]
      refine ⟨_, rfl, .inr ⟨rfl, fun h => ?_⟩⟩
      have := h _ (List.getElem_mem hlt)
      omega
     ·left
      rw [if_neg (by simpa using hbad)]
      have e : prod (s.take k) * s[k] = prod (s.take (k + 1)) := by
       rw [List.take_succ_eq_append_getElem hlt, prod_append]; simp [prod]
      have hb' : ∀ x ∈ s.take (k + 1), 0 ≤ x ∧ x ≤ 10000 := by
       intro x hx
       rw [List.take_succ_eq_append_getElem hlt] at hx
       rcases List.mem_append.mp hx with hx | hx
       ·exact hb x hx
       ·obtain rfl := List.mem_singleton.mp hx; omega
      have hp := prod_bound (s.take (k + 1)) 4 (by rw [List.length_take]; omega) hb'
      refine ⟨_, s.length - (k + 1), rfl, by omega, k + 1, ?_, by omega, rfl, hb'⟩
      rw [e, w64_id (by omega) (by omega), w64_id (by omega) (by omega)]
      simp
    ·have : k = s.length := by omega
     subst this
     right
     rw [List.take_length] at hb ⊢
     exact ⟨_, by simp, .inl ⟨rfl, hb⟩⟩)
   s.length (1, 0) ⟨0, by simp [prod], by omega, by omega, by simp⟩
  obtain ⟨b, hb, ⟨rfl, h⟩ | ⟨rfl, h⟩⟩ := key
  ·rw [hb]
   simp only [Option.bind_some, joinK_next]
   by_cases hp : prod s > 10000
   ·rw [if_pos (by simpa using hp), if_neg (fun h => by have := h.2.2; omega)]
   ·rw [if_neg (by simpa using hp), if_pos ⟨by omega, h, by omega⟩]
  ·rw [hb, if_neg (fun h' => h h'.2.1)]; rfl
theorem mod_split {k x P : Int} (hx : 0 < x) (hP : 0 < P) : k % (x * P) / P = k / P % x ∧ k % (x * P) % P = k % P := by
 have h1 : k % (x * P) % P = k % P := Int.emod_emod_of_dvd k ⟨x, Int.mul_comm x P⟩
 refine ⟨?_, h1⟩
 have e1 := Int.emod_add_mul_ediv k P
 have e2 := Int.emod_add_mul_ediv (k / P) x
 have r1 := Int.emod_nonneg k (show P ≠ 0 by omega)
 have r2 := Int.emod_lt_of_pos k hP
 have b1 := Int.emod_nonneg (k / P) (show x ≠ 0 by omega)
 have b2 := Int.emod_lt_of_pos (k / P) hx
 have e3 : k = k % P + P * (k / P % x) + x * P * (k / P / x) := by
  have : P * (k / P) = P * (k / P % x) + x * P * (k / P / x) := by
   rw [Int.mul_comm x P, Int.mul_assoc, ← Int.mul_add, e2]
  omega
 have lo : 0 ≤ P * (k / P % x) := Int.mul_nonneg (by omega) b1
 have hi : P * (k / P % x) + P ≤ x * P := by
  have := Int.mul_le_mul_of_nonneg_left (show k / P % x + 1 ≤ x by omega) (show 0 ≤ P by omega)
  rw [Int.mul_add, Int.mul_one, Int.mul_comm P x] at this
  exact this
 have e4 : k % (x * P) = k % P + P * (k / P % x) := by
  conv => lhs; rw [e3]
  rw [Int.add_mul_emod_self_left]
  exact Int.emod_eq_of_lt (by omega) (by omega)
 rw [e4, Int.add_mul_ediv_left _ _ (by omega), Int.ediv_eq_zero_of_lt r1 r2, Int.zero_add]
theorem ref07_At_eq {s : List Int} {k : Nat} (hs : shOk s) (hk : (k : Int) < prod s) : M.anamnesisref07_At s k = some (dig s k) := by
 have hpos : allPos s := allPos_of (fun x hx => (hs.2.1 x hx).1) (by omega)
 have h4 := hs.1
 have hp := hs.2.2
 unfold M.anamnesisref07_At
 rw [mk_ok (by omega) (by omega), w64_id (x := (s.length : Int) - 1) (by omega) (by omega)]
 simp only [Option.bind_some]
 obtain ⟨b, hb, rfl⟩ := wloop_ind (f := M.anamnesisref07_At_L1 s) (fun n st => ∃ j : Nat, j ≤ s.length ∧ n = j ∧ st = ((k : Int) / prod (s.drop j), (j : Int) - 1, List.replicate j 0 ++ dig (s.drop j) ((k : Int) % prod (s.drop j)))) (fun b => b = .next (dig s k)) (fun n st h => by
  obtain ⟨j, hj, rfl, rfl⟩ := h
  simp only [M.anamnesisref07_At_L1]
  cases n with
  | zero =>
   right
   rw [if_neg (by simp)]
   refine ⟨_, rfl, ?_⟩
   rw [List.drop_zero, Int.emod_eq_of_lt (by omega) hk]
   simp
  | succ i =>
   left
   have hi : i < s.length := by omega
   have hP : 0 < prod (s.drop (i + 1)) := allPos.pprod fun x hx => hpos x (List.mem_of_mem_drop hx)
   have hx := hpos _ (List.getElem_mem hi)
   have ed : s.drop i = s[i] :: s.drop (i + 1) := List.drop_eq_getElem_cons hi
   have ei : ((i + 1 : Nat) : Int) - 1 = (i : Int) := by omega
   generalize hPe : prod (s.drop (i + 1)) = P at *
   have q0 : 0 ≤ (k : Int) / P := Int.ediv_nonneg (by omega) (by omega)
   have q1 : (k : Int) / P ≤ k := Int.ediv_le_self _ (by omega)
   have q2 : 0 ≤ (k : Int) / P / s[i] := Int.ediv_nonneg q0 (by omega)
   have q3 : (k : Int) / P / s[i] ≤ (k : Int) / P := Int.ediv_le_self _ q0
   have hlen : (List.replicate (i + 1) (0 : Int) ++ dig (s.drop (i + 1)) ((k : Int) % P)).length = s.length := by
    rw [List.length_append, List.length_replicate, dig_len, List.length_drop]; omega
   rw [ei, if_pos (by simp), idx_get hi]
   simp only [Option.bind_some]
   have er : remI ((k : Int) / P) s[i] = some ((k : Int) / P % s[i]) := by
    unfold remI; rw [if_neg (by omega), Int.tmod_eq_emod_of_nonneg q0]
   have eq : quoI .i64 ((k : Int) / P) s[i] = some ((k : Int) / P / s[i]) := by
    unfold quoI; rw [if_neg (by omega), Int.tdiv_eq_ediv_of_nonneg q0, w64_id (by omega) (by omega)]
   rw [er, idx_get (by omega), eq]
   simp only [Option.bind_some]
   rw [upd_nat (by omega), w64_id (x := (i : Int) - 1) (by omega) (by omega)]
   simp only [Option.bind_some]
   refine ⟨_, i, rfl, by omega, i, by omega, rfl, ?_⟩
   have m := mod_split (k := (k : Int)) hx hP
   have eP : prod (s.drop i) = s[i] * P := by rw [ed]; simp [prod, hPe]
   have e1 : (k : Int) / prod (s.drop i) = (k : Int) / P / s[i] := by
    rw [eP, Int.mul_comm, Int.ediv_ediv_of_nonneg (by omega)]
   have e2 : dig (s.drop i) ((k : Int) % prod (s.drop i)) = ((k : Int) / P % s[i]) :: dig (s.drop (i + 1)) ((k : Int) % P) := by
    rw [eP, ed]
    show _ / prod (s.drop (i + 1)) :: dig _ (_ % prod (s.drop (i + 1))) = _
    rw [hPe, m.1, m.2]
   rw [e1, e2, List.set_append_left _ _ (by simp)]
   congr 2
   rw [List.replicate_succ', List.set_append_right _ _ (by simp)]
   simp) s.length ((k : Int), (s.length : Int) - 1, List.replicate s.length 0) ⟨s.length, by omega, rfl, by simp [prod, dig]⟩
 rw [hb]; rfl
theorem off_snoc : ∀ {a p : List Int} {x y : Int}, p.length = a.length → off (a ++ [x]) (p ++ [y]) = off a p * x + y
 | [], [], x, y, _ => by simp [off, prod]
 | a :: s, i :: p, x, y, h => by
  simp only [List.cons_append, off, prod_append]
  rw [off_snoc (by simpa using h)]
  simp [prod, Int.add_mul, Int.mul_assoc, Int.add_assoc]
theorem inShape_snoc2 : ∀ {a p : List Int} {x y : Int}, p.length = a.length → (inShape (a ++ [x]) (p ++ [y]) ↔ inShape a p ∧ 0 ≤ y ∧ y < x)
 | [], [], x, y, _ => by simp [inShape]
 | a :: s, i :: p, x, y, h => by
  simp only [List.cons_append, inShape]
  rw [inShape_snoc2 (by simpa using h)]
  constructor
  ·rintro ⟨h1, h2, h3, h4, h5⟩; exact ⟨⟨h1, h2, h3⟩, h4, h5⟩
  ·rintro ⟨⟨h1, h2, h3⟩, h4, h5⟩; exact ⟨h1, h2, h3, h4, h5⟩
theorem inShape_take2 : ∀ {a p : List Int} (n : Nat), inShape a p → inShape (a.take n) (p.take n)
 | [], [], n, _ => by simp [inShape]
 | a :: s, i :: p, 0, _ => by simp [inShape]
 | a :: s, i :: p, n + 1, ⟨h1, h2, h3⟩ => ⟨h1, h2, inShape_take2 n h3⟩
theorem prod_take_le2 {s : List Int} (hpos : allPos s) (n : Nat) : prod (s.take n) ≤ prod s := by
 have e : prod s = prod (s.take n) * prod (s.drop n) := by rw [← prod_append, List.take_append_drop]
 have h1 : 0 < prod (s.take n) := allPos.pprod fun x hx => hpos x (List.mem_of_mem_take hx)
 have h2 : 0 < prod (s.drop n) := allPos.pprod fun x hx => hpos x (List.mem_of_mem_drop hx)
 have := Int.mul_le_mul_of_nonneg_left (show 1 ≤ prod (s.drop n) by omega) (show 0 ≤ prod (s.take n) by omega)
 rw [Int.mul_one] at this
 omega
theorem ref07_Offset_eq {s p : List Int} (hs : shOk s) (hi : inShape s p) : M.anamnesisref07_Offset s p = some (off s p) := by
 have hpos : allPos s := allPos_of (fun x hx => (hs.2.1 x hx).1) (inShape.pos hi)
 have h4 := hs.1
 have hp := hs.2.2
 have hl := hi.len
 have bd : ∀ i, 0 ≤ off (s.take i) (p.take i) ∧ off (s.take i) (p.take i) < 10000 := fun i => by
  have := off_range (inShape_take2 i hi)
  have := prod_take_le2 hpos i
  omega
 unfold M.anamnesisref07_Offset
 rw [show wloop (M.anamnesisref07_Offset_L1 s p) (0, 0) = some (.next (off s p)) from by
  refine loop_fun (f := M.anamnesisref07_Offset_L1 s p) (fun k => (off (s.take k) (p.take k), (k : Int))) s.length (fun k hk => ?_) ?_
  ·have hk2 : k < p.length := by omega
   simp only [M.anamnesisref07_Offset_L1]
   rw [if_pos (by simp; omega), idx_get hk, idx_get hk2]
   simp only [Option.bind_some]
   have b0 := bd k
   have b1 := bd (k + 1)
   have b2 := hs.2.1 _ (List.getElem_mem hk)
   have b3 := Int.mul_le_mul (show off (s.take k) (p.take k) ≤ 10000 by omega) b2.2 b2.1 (by omega)
   have b4 := Int.mul_nonneg b0.1 b2.1
   have e : off (s.take (k + 1)) (p.take (k + 1)) = off (s.take k) (p.take k) * s[k] + p[k] := by
    rw [List.take_succ_eq_append_getElem hk, List.take_succ_eq_append_getElem hk2, off_snoc (by rw [List.length_take, List.length_take]; omega)]
   rw [w64_id (x := off (s.take k) (p.take k) * s[k]) (by omega) (by omega), ← e, w64_id (by omega) (by omega), w64_id (x := (k : Int) + 1) (by omega) (by omega)]
   rfl
  ·simp only [M.anamnesisref07_Offset_L1]
   rw [if_neg (by simp), List.take_of_length_le (by omega), List.take_of_length_le (by omega)]]
 rfl
theorem off_app : ∀ {a p : List Int} {b q : List Int}, p.length = a.length → off (a ++ b) (p ++ q) = off a p * prod b + off b q
 | [], [], b, q, _ => by simp [off]
 | x :: a, y :: p, b, q, h => by
  simp only [List.cons_append, off]
  rw [off_app (by simpa using h), prod_append, Int.add_mul, Int.mul_assoc, Int.add_assoc]
 | [], _ :: _, _, _, h => by simp at h
 | _ :: _, [], _, _, h => by simp at h
theorem inShape_app : ∀ {a p b q : List Int}, inShape a p → inShape b q → inShape (a ++ b) (p ++ q)
 | [], [], _, _, _, h => h
 | _ :: _, _ :: _, _, _, ⟨h1, h2, h3⟩, h => ⟨h1, h2, inShape_app h3 h⟩
 | [], _ :: _, _, _, h, _ => h.elim
 | _ :: _, [], _, _, h, _ => h.elim
theorem at_axis : ∀ {s p : List Int} {x : Nat}, inShape s p → (hx : x < s.length) → ∃ p1 i p2, p = p1 ++ i :: p2 ∧ p1.length = x ∧ inShape (s.take x) p1 ∧ 0 ≤ i ∧ i < s[x] ∧ inShape (s.drop (x + 1)) p2
 | y :: s, a :: p, 0, ⟨h1, h2, h3⟩, _ => ⟨[], a, p, rfl, rfl, trivial, h1, h2, h3⟩
 | y :: s, a :: p, x + 1, ⟨h1, h2, h3⟩, hx => by
  obtain ⟨p1, i, p2, rfl, e, k1, k2, k3, k4⟩ := at_axis h3 (by simpa using hx : x < s.length)
  exact ⟨a :: p1, i, p2, rfl, by simp [e], ⟨h1, h2, k1⟩, k2, by simpa using k3, by simpa using k4⟩
 | [], _, _, _, hx => by simp at hx
 | _ :: _, [], _, h, _ => h.elim
theorem take_mid (s : List Int) {x : Nat} (hx : x < s.length) : s = s.take x ++ s[x] :: s.drop (x + 1) := by
 rw [← List.drop_eq_getElem_cons hx, List.take_append_drop]
theorem allPos_in {s p : List Int} (h : inShape s p) : allPos s := by
 induction s generalizing p with
 | nil => intro x hx; simp at hx
 | cons y s ih => cases p with
  | nil => exact h.elim
  | cons a p =>
   obtain ⟨h1, h2, h3⟩ := h
   intro x hx
   rcases List.mem_cons.mp hx with rfl | hx
   ·omega
   ·exact ih h3 x hx
theorem off_axis {s p1 p2 : List Int} {x : Nat} {i : Int} (hx : x < s.length) (h1 : inShape (s.take x) p1) (hi : 0 ≤ i ∧ i < s[x]) (h2 : inShape (s.drop (x + 1)) p2) :
  off s (p1 ++ i :: p2) = (off (s.take x) p1 * s[x] + i) * prod (s.drop (x + 1)) + off (s.drop (x + 1)) p2 := by
 conv => lhs; rw [take_mid s hx]
 rw [off_app h1.len]
 simp only [off, prod]
 rw [Int.add_mul, Int.mul_assoc, Int.add_assoc]
theorem axis_facts {h n i B j k : Int} (hn : 0 ≤ i ∧ i < n) (hB : 0 ≤ j ∧ j < B) (hk : k = (h * n + i) * B + j) :
  k / B % n = i ∧ k / (n * B) = h ∧ k % B = j := by
 have e1 : k / B = h * n + i := by
  rw [hk, Int.add_comm, Int.add_mul_ediv_right _ _ (by omega), Int.ediv_eq_zero_of_lt hB.1 hB.2, Int.zero_add]
 refine ⟨?_, ?_, ?_⟩
 ·rw [e1, Int.add_comm, Int.add_mul_emod_self_right, Int.emod_eq_of_lt hn.1 hn.2]
 ·rw [Int.mul_comm, ← Int.ediv_ediv_of_nonneg (by omega : (0 : Int) ≤ B), e1, Int.add_comm, Int.add_mul_ediv_right _ _ (by omega), Int.ediv_eq_zero_of_lt hn.1 hn.2, Int.zero_add]
 ·rw [hk, Int.add_comm, Int.add_mul_emod_self_right, Int.emod_eq_of_lt hB.1 hB.2]
theorem nn {p : Prop} (h : p) : ¬ ¬ p := fun k => k h
def fe (E : Nat → Int) : Nat → Int
 | 0 => 0
 | m + 1 => if fe E m ≠ 0 then fe E m else E m
theorem fe_add (E : Nat → Int) (a b : Nat) : fe E (a + b) = if fe E a ≠ 0 then fe E a else fe (fun k => E (a + k)) b := by
 induction b with
 | zero => simp [fe]
 | succ b ih =>
  show (if fe E (a + b) ≠ 0 then fe E (a + b) else E (a + b)) = _
  rw [ih]
  by_cases h : fe E a = 0
  ·rw [if_neg (nn h), if_neg (nn h)]; rfl
  ·rw [if_pos h, if_pos h, if_pos h]
theorem fe_mul (E : Nat → Int) (B m : Nat) : fe E (B * m) = fe (fun i => fe (fun k => E (i * m + k)) m) B := by
 induction B with
 | zero => simp [fe]
 | succ B ih =>
  rw [Nat.succ_mul, fe_add, ih]; rfl
theorem fe_zero {E : Nat → Int} {m : Nat} : fe E m = 0 ↔ ∀ k, k < m → E k = 0 := by
 induction m with
 | zero => simp [fe]
 | succ m ih =>
  unfold fe
  by_cases h : fe E m = 0
  ·rw [if_neg (nn h)]
   rw [ih] at h
   constructor
   ·intro h1 k hk
    by_cases hkm : k = m
    ·subst hkm; exact h1
    ·exact h k (by omega)
   ·intro h1; exact h1 m (by omega)
  ·rw [if_pos h]
   constructor
   ·intro h1; exact absurd h1 h
   ·intro h1; exact absurd (ih.mpr fun k hk => h1 k (by omega)) h
theorem fe_at {E : Nat → Int} {m k : Nat} (hk : k < m) (h0 : ∀ j, j < k → E j = 0) (he : E k ≠ 0) : fe E m = E k := by
 obtain ⟨b, rfl⟩ : ∃ b, m = (k + 1) + b := ⟨m - (k + 1), by omega⟩
 have h1 : fe E (k + 1) = E k := by
  unfold fe
  rw [if_neg (nn (fe_zero.mpr h0))]
 rw [fe_add, h1, if_pos he]
theorem fe_first {E : Nat → Int} {m : Nat} (h : fe E m ≠ 0) : ∃ k, k < m ∧ (∀ j, j < k → E j = 0) ∧ E k ≠ 0 ∧ fe E m = E k := by
 induction m with
 | zero => exact absurd rfl h
 | succ m ih =>
  by_cases hm : fe E m = 0
  ·refine ⟨m, by omega, fe_zero.mp hm, ?_, ?_⟩
   ·unfold fe at h; rwa [if_neg (nn hm)] at h
   ·unfold fe; rw [if_neg (nn hm)]
  ·obtain ⟨k, hk, h1, h2, h3⟩ := ih hm
   exact ⟨k, by omega, h1, h2, by unfold fe; rw [if_pos hm, h3]⟩
theorem fe_congr {E F : Nat → Int} {m : Nat} (h : ∀ k, k < m → E k = F k) : fe E m = fe F m := by
 induction m with
 | zero => rfl
 | succ m ih =>
  unfold fe
  rw [ih (fun k hk => h k (by omega)), h m (by omega)]
theorem err_loop {σ β : Type} {F : σ → Option (Ctl σ β)} (st : Nat → σ) (E : Nat → Int) (ret : Int → β) (fin : β) (m : Nat)
  (hf : ∀ k, k < m → F (st k) = if E k ≠ 0 then some (.done (ret (E k))) else some (.next (st (k + 1))))
  (he : F (st m) = some (.done fin)) : wloop F (st 0) = some (if fe E m ≠ 0 then ret (fe E m) else fin) := by
 have key : ∀ j, j ≤ m → (∀ i, i < m - j → E i = 0) → wloop F (st (m - j)) = some (if fe E m ≠ 0 then ret (fe E m) else fin) := by
  intro j
  induction j with
  | zero =>
   intro _ h0
   rw [Nat.sub_zero] at h0 ⊢
   rw [fe_zero.mpr h0]
   exact wloop_done he
  | succ j ih =>
   intro hj h0
   have hk : m - (j + 1) < m := by omega
   by_cases hE : E (m - (j + 1)) = 0
   ·have h1 := hf _ hk
    rw [if_neg (nn hE)] at h1
    rw [wloop_next h1, show m - (j + 1) + 1 = m - j by omega]
    refine ih (by omega) fun i hi => ?_
    by_cases hi2 : i = m - (j + 1)
    ·subst hi2; exact hE
    ·exact h0 i (by omega)
   ·have h1 := hf _ hk
    rw [if_pos hE] at h1
    rw [wloop_done h1, fe_at hk h0 hE, if_pos hE]
 have := key m (Nat.le_refl m) (fun i hi => by omega)
 rwa [Nat.sub_self] at this
def vls (g : Nat → Int) (m : Nat) : List Int := (List.range m).map g
theorem vls_len (g : Nat → Int) (m : Nat) : (vls g m).length = m := by simp [vls]
theorem vls_succ (g : Nat → Int) (m : Nat) : vls g (m + 1) = vls g m ++ [g m] := by simp [vls, List.range_succ]
theorem vls_add (g : Nat → Int) (a b : Nat) : vls g (a + b) = vls g a ++ vls (fun k => g (a + k)) b := by
 unfold vls
 rw [List.range_add, List.map_append, List.map_map]; rfl
theorem vls_get (g : Nat → Int) {m k : Nat} (h : k < m) : (vls g m)[k]? = some (g k) := by
 simp [vls, h]
theorem vls_congr {g h : Nat → Int} {m : Nat} (e : ∀ k, k < m → g k = h k) : vls g m = vls h m := by
 unfold vls
 exact List.map_congr_left fun k hk => e k (List.mem_range.mp hk)
theorem vls_of {l : List Int} {g : Nat → Int} {m : Nat} (hl : l.length = m) (h : ∀ k, k < m → l[k]? = some (g k)) : l = vls g m := by
 apply List.ext_getElem?
 intro k
 by_cases hk : k < m
 ·rw [h k hk, vls_get g hk]
 ·rw [List.getElem?_eq_none (by omega), List.getElem?_eq_none (by rw [vls_len]; omega)]
theorem grid_div {i k m : Nat} (h : k < m) : (i * m + k) / m = i ∧ (i * m + k) % m = k := by
 have hm : 0 < m := by omega
 constructor
 ·rw [Nat.mul_comm, Nat.mul_add_div hm, Nat.div_eq_of_lt h, Nat.add_zero]
 ·rw [Nat.mul_comm, Nat.mul_add_mod, Nat.mod_eq_of_lt h]
theorem grid_lt {i k B m : Nat} (hi : i < B) (hk : k < m) : i * m + k < B * m := by
 have : (i + 1) * m ≤ B * m := Nat.mul_le_mul_right m hi
 rw [Nat.succ_mul] at this
 omega
theorem fe_none (m : Nat) : fe (fun _ => 0) m = 0 := fe_zero.mpr fun _ _ => rfl
theorem go_loop {σ β : Type} {F : σ → Option (Ctl σ β)} (st : Nat → σ) (fin : β) (m : Nat)
  (hf : ∀ k, k < m → F (st k) = some (.next (st (k + 1)))) (he : F (st m) = some (.done fin)) : wloop F (st 0) = some fin := by
 have := err_loop (F := F) st (fun _ => 0) (fun _ => fin) fin m (fun k hk => by rw [if_neg (nn rfl)]; exact hf k hk) he
 rw [fe_none, if_neg (nn rfl)] at this
 exact this
def kindOf (a b : Val) : Bool × Bool := if a.Char = b.Char ∨ a.Data.length = 0 then (b.Char, true) else if b.Data.length = 0 then (a.Char, true) else (false, false)
theorem join_kind_eq (a b : Val) : M.join_kind a b = some (kindOf a b) := by
 unfold M.join_kind kindOf
 have e : (if (a.Char == b.Char) = true then some (a.Char == b.Char) else some ((a.Data.length : Int) == 0)) = some (decide (a.Char = b.Char ∨ a.Data.length = 0)) := by
  by_cases h : a.Char = b.Char
  ·rw [if_pos (by simpa using h), decide_eq_true (.inl h)]; simp [h]
  ·rw [if_neg (by simpa using h)]
   congr 1
   rw [Bool.eq_iff_iff]; simp [h]
 rw [e]
 simp only [Option.bind_some]
 by_cases h : a.Char = b.Char ∨ a.Data.length = 0
 ·rw [if_pos (by simpa using h), if_pos h]
 ·rw [if_neg (by simpa using h), if_neg h]
  by_cases h2 : b.Data.length = 0
  ·rw [if_pos (by simp [h2]), if_pos h2]
  ·rw [if_neg (by rw [beq_iff_eq]; omega), if_neg h2]
def catV (a b : Val) (m n : Int) (t u : List Int) : Val × Int :=
 if t ≠ u then (zV, 25) else if ¬ shOk ((m + n) :: t) then (zV, 27) else if (kindOf a b).2 = false then (zV, 23) else (⟨(kindOf a b).1, (m + n) :: t, a.Data ++ b.Data⟩, 0)
theorem cat_eq {a b : Val} {m n : Int} {t u : List Int} {axis : Int} (hsa : a.Shape = m :: t) (hsb : b.Shape = n :: u) (hl : t.length = u.length) (hra : vRight a = true) (hrb : vRight b = true) (hax : axis = 0 ∨ axis = -1 ∧ t = []) :
  M.join_Catenate a b axis = some (catV a b m n t u) := by
 have hm : maxLen = 9223372036854775807 := rfl
 obtain ⟨⟨a4, ab, ap⟩, hap, _⟩ := vRight_iff.mp hra
 obtain ⟨⟨b4, bb, bp⟩, hbp, _⟩ := vRight_iff.mp hrb
 have hla : a.Data.length ≤ 10000 := by omega
 have hlb : b.Data.length ≤ 10000 := by omega
 have hr1 : a.Shape.length = t.length + 1 := by rw [hsa]; rfl
 have hr2 : b.Shape.length = t.length + 1 := by rw [hsb, hl]; rfl
 have bm := ab m (by rw [hsa]; simp)
 have bn := bb n (by rw [hsb]; simp)
 unfold M.join_Catenate
 rw [whole_two (by omega) (by omega), hra, hrb]
 simp only [Option.bind_some, Bool.and_self, Bool.not_true, Bool.false_eq_true, if_false]
 have emax : (if (a.Shape.length : Int) < (b.Shape.length : Int) then (b.Shape.length : Int) else (a.Shape.length : Int)) = (t.length : Int) + 1 := by rw [hr1, hr2]; split <;> omega
 rw [emax, if_neg (by simp; rcases hax with rfl | ⟨rfl, _⟩ <;> omega), if_neg (by simp; omega)]
 simp only [Option.bind_some, joinK_next]
 have eax : (if (axis == -1) = true then some (IntKind.i64.wrap ((t.length : Int) + 1 - 1)) else some axis) = some 0 := by
  rcases hax with rfl | ⟨rfl, rfl⟩ <;> rfl
 rw [eax]
 simp only [Option.bind_some]
 have f1 : M.join_fits ⟨a.Char, a.Shape, a.Data⟩ b.Shape 0 = some (a, 0) := by
  unfold M.join_fits
  rw [if_pos (by simp [hr1, hr2])]
 have f2 : M.join_fits ⟨b.Char, b.Shape, b.Data⟩ a.Shape 0 = some (b, 0) := by
  unfold M.join_fits
  rw [if_pos (by simp [hr1, hr2])]
 rw [f1, f2]
 simp only [Option.bind_some]
 rw [if_neg (by simp [hr1, hr2]), if_neg (by simp [hr1, hr2])]
 simp only [Option.bind_some, bne_self_eq_false, Bool.or_self, Bool.false_eq_true, if_false]
 have hbes : M.join_beside ⟨a.Char, a.Shape, a.Data⟩ ⟨b.Char, b.Shape, b.Data⟩ 0 = some (if t ≠ u then (zV, 25) else if ¬ shOk ((m + n) :: t) then (zV, 27) else (⟨false, (m + n) :: t, a.Data ++ b.Data⟩, 0)) := by
  unfold M.join_beside
  have w1 : wo a.Shape 0 = t := by rw [hsa]; unfold wo; rw [if_pos (by simp <;> omega)]; rfl
  have w2 : wo b.Shape 0 = u := by rw [hsb]; unfold wo; rw [if_pos (by simp <;> omega)]; rfl
  simp only []
  rw [shape_Without_eq (by omega) (by omega), shape_Without_eq (by omega) (by omega), w1, w2]
  simp only [Option.bind_some]
  rw [Equal_int_eq (by omega)]
  simp only [Option.bind_some]
  by_cases htu : t = u
  ·subst htu
   simp only [ne_eq, not_true_eq_false, if_false, decide_true, Bool.not_true, Bool.false_eq_true]
   unfold M.slices_Clone__int
   rw [app_ok (by simp; omega), List.nil_append, hsa, hsb]
   simp only [Option.bind_some]
   have i0 : ∀ (x : Int) (l : List Int), idx (x :: l) 0 = some x := fun _ _ => rfl
   have u0 : ∀ (x y : Int) (l : List Int), upd (x :: l) 0 y = some (y :: l) := fun x y l => by
    unfold upd; rw [if_pos ⟨by omega, by simp <;> omega⟩]; rfl
   rw [i0, i0]
   simp only [Option.bind_some]
   rw [u0, w64_id (by omega) (by omega)]
   simp only [Option.bind_some]
   rw [shape_Size_eq (by simp; omega)]
   simp only [Option.bind_some]
   rcases shSize_cases ((m + n) :: t) with ⟨hok, hs⟩ | ⟨hok, hs, _⟩
   ·rw [hs, if_neg (by simp)]
    simp only [bne_self_eq_false, Bool.false_eq_true, if_false]
    rw [i0]
    have hb0 := hok.2.1 (m + n) (by simp)
    simp only [Option.bind_some]
    rw [if_neg (by simp; omega)]
    have hp := prod_nonneg (fun x hx => (hok.2.1 x hx).1)
    have hp2 := hok.2.2
    have ht := prod_nonneg (s := t) (fun x hx => (hok.2.1 x (by simp [hx])).1)
    have epr : prod ((m + n) :: t) = m * prod t + n * prod t := by rw [prod, Int.add_mul]
    have ea : m * prod t = (a.Data.length : Int) := by rw [← hap, hsa]; rfl
    have eb : n * prod t = (b.Data.length : Int) := by rw [← hbp, hsb]; rfl
    rw [ea, eb] at epr
    have hmk : mk 8 (0 : Int) 0 (prod ((m + n) :: t)) = some [] := by
     unfold mk
     rw [if_pos ⟨by omega, by omega, by omega, by omega⟩]; rfl
    rw [hmk]
    simp only [Option.bind_some]
    have sp1 : splitOf (m :: t) 0 = (1, m, prod t, true) := by
     unfold splitOf
     rw [dif_pos ⟨by rw [← hsa]; exact ⟨a4, ab, ap⟩, by omega, by simp <;> omega⟩]; rfl
    have sp2 : splitOf (n :: t) 0 = (1, n, prod t, true) := by
     unfold splitOf
     rw [dif_pos ⟨by rw [← hsb]; exact ⟨b4, bb, bp⟩, by omega, by simp <;> omega⟩]; rfl
    rw [shape_Split_eq (by simp; omega) (by omega), shape_Split_eq (by simp; omega) (by omega), sp1, sp2]
    simp only [Option.bind_some]
    have hloop : wloop (M.join_beside_L1 ⟨a.Char, m :: t, a.Data⟩ ⟨b.Char, n :: t, b.Data⟩ (prod ((m + n) :: t)) 1 m (prod t) n) (0, []) = some (.next (a.Data ++ b.Data)) := by
     by_cases hz : prod ((m + n) :: t) = 0
     ·refine wloop_done ?_
      have h1 : a.Data = [] := List.eq_nil_of_length_eq_zero (by omega)
      have h2 : b.Data = [] := List.eq_nil_of_length_eq_zero (by omega)
      unfold M.join_beside_L1
      simp only []
      rw [if_pos (by simp), if_pos (by simpa using hz), h1, h2]; rfl
     ·have s1 : M.join_beside_L1 ⟨a.Char, m :: t, a.Data⟩ ⟨b.Char, n :: t, b.Data⟩ (prod ((m + n) :: t)) 1 m (prod t) n (0, []) = some (.next (1, a.Data ++ b.Data)) := by
       unfold M.join_beside_L1
       simp only []
       rw [if_pos (by simp), if_neg (by simpa using hz)]
       have e1 : IntKind.i64.wrap (IntKind.i64.wrap ((0 : Int) * m) * prod t) = 0 := by rw [Int.zero_mul, show IntKind.i64.wrap 0 = 0 from rfl, Int.zero_mul]; rfl
       have e2 : IntKind.i64.wrap (IntKind.i64.wrap ((0 : Int) * n) * prod t) = 0 := by rw [Int.zero_mul, show IntKind.i64.wrap 0 = 0 from rfl, Int.zero_mul]; rfl
       have e3 : IntKind.i64.wrap ((0 : Int) + 1) = 1 := rfl
       rw [e1, e2, e3, Int.one_mul, Int.one_mul, w64_id (x := m) (by omega) (by omega), w64_id (x := n) (by omega) (by omega), ea, eb, w64_id (x := (a.Data.length : Int)) (by omega) (by omega), w64_id (x := (b.Data.length : Int)) (by omega) (by omega)]
       rw [show (0 : Int) = ((0 : Nat) : Int) from rfl, sub_drop (by omega), sub_drop (by omega)]
       simp only [Option.bind_some, List.drop_zero]
       rw [app_ok (by simp; omega)]
       simp only [Option.bind_some, List.nil_append]
       rw [app_ok (by omega)]; rfl
      rw [wloop_next s1]
      refine wloop_done ?_
      unfold M.join_beside_L1
      rfl
    rw [hloop]
    simp only [Option.bind_some, joinK_next, hok, not_true_eq_false, if_false]
   ·simp only [hok, not_false_eq_true, if_true]
    rw [if_pos (by simpa using hs)]; rfl
  ·simp only [ne_eq, htu, not_false_eq_true, if_true, decide_false, Bool.not_false]; rfl
 rw [hbes]
 unfold catV
 by_cases htu : t = u
 ·simp only [ne_eq, htu, not_true_eq_false, if_false]
  by_cases hok : shOk ((m + n) :: u)
  ·simp only [hok, not_true_eq_false, if_false]
   simp only [Option.bind_some, bne_self_eq_false, Bool.false_eq_true, if_false]
   rw [join_kind_eq]
   simp only [Option.bind_some]
   have ek : kindOf ⟨a.Char, a.Shape, a.Data⟩ ⟨b.Char, b.Shape, b.Data⟩ = kindOf a b := rfl
   rw [ek]
   cases hk : (kindOf a b).2 <;> rfl
  ·simp only [hok, not_false_eq_true, if_true]; rfl
 ·simp only [ne_eq, htu, not_false_eq_true, if_true]; rfl
def fillOf (c : Bool) : Int := if c then 32 else 0
def cyc (b : Val) (n : Nat) : List Int := (List.range n).map fun k => if b.Data = [] then fillOf b.Char else (b.Data[k % b.Data.length]?).getD 0
theorem cyc_len (b : Val) (n : Nat) : (cyc b n).length = n := by simp [cyc]
theorem cyc_get {b : Val} {n k : Nat} (h : k < n) : (cyc b n)[k]? = some (if b.Data = [] then fillOf b.Char else (b.Data[k % b.Data.length]?).getD 0) := by
 unfold cyc; rw [List.getElem?_map, List.getElem?_range h]; rfl
theorem cyc_self {b : Val} : cyc b b.Data.length = b.Data := by
 apply List.ext_getElem?
 intro k
 by_cases h : k < b.Data.length
 ·rw [cyc_get h, if_neg (by intro h0; rw [h0] at h; simp at h), Nat.mod_eq_of_lt h, List.getElem?_eq_getElem h]; rfl
 ·rw [List.getElem?_eq_none (by rw [cyc_len]; omega), List.getElem?_eq_none (by omega)]
theorem join_filled_eq {s : List Int} {n : Nat} {b : Val} (hn : n ≤ 10000) (hb : b.Data.length ≤ 1000000000) : M.join_filled s (n : Int) b = some ⟨b.Char, s, cyc b n⟩ := by
 unfold M.join_filled
 rw [mk_ok (by omega) (by omega)]
 simp only [Option.bind_some]
 by_cases h0 : b.Data = []
 ·rw [if_pos (by simp [h0])]
  obtain ⟨m, ⟨h1, h2⟩, h3⟩ := loop_up (f := M.join_filled_L1 b (List.replicate n 0)) (fun k (m : List Int) => ((k : Int), m)) n (fun k m => m.length = n ∧ ∀ i, i < k → m[i]? = some (fillOf b.Char)) (fun m => .next m) (List.replicate n 0) ⟨by simp, fun i h => by omega⟩ (fun k m hk ⟨hm, hI⟩ => by
   refine ⟨m.set k (fillOf b.Char), ?_, by simp [hm], fun i hi => ?_⟩
   ·unfold M.join_filled_L1
    have hfill : M.value_Fill b = some (fillOf b.Char) := by unfold M.value_Fill fillOf; cases b.Char <;> rfl
    simp only [List.length_replicate, show decide ((k : Int) < (n : Int)) = true from decide_eq_true (by omega), if_true, hfill, Option.bind_some]
    rw [idx_get (show k < m.length by omega)]
    simp only [Option.bind_some]
    rw [upd_nat (by omega), w64_id (by omega) (by omega)]; rfl
   ·by_cases he : i = k
    ·subst he; rw [List.getElem?_set_self (by omega)]
    ·rw [List.getElem?_set_ne (by omega)]; exact hI i (by omega)) (fun m _ => by unfold M.join_filled_L1; simp)
  simp only [Int.natCast_zero] at h3
  rw [h3]
  simp only [Option.bind_some, joinK_next]
  have h4 : wloop (M.join_filled_L2 (n : Int) b) (0, m) = some (.next m) := wloop_done (by unfold M.join_filled_L2; simp [h0])
  rw [h4]
  simp only [Option.bind_some, joinK_next]
  have : m = cyc b n := by
   apply List.ext_getElem?
   intro k
   by_cases h : k < n
   ·rw [cyc_get h, if_pos h0, h2 k h]
   ·rw [List.getElem?_eq_none (by omega), List.getElem?_eq_none (by rw [cyc_len]; omega)]
  rw [this]
 ·have hpos : 0 < b.Data.length := List.length_pos_iff.mpr h0
  rw [if_neg (by simp [h0])]
  simp only [Option.bind_some]
  have key := wloop_ind (f := M.join_filled_L2 (n : Int) b) (fun j st => ∃ (k : Nat) (m : List Int), st = ((k : Int), m) ∧ j = n - k ∧ k ≤ n ∧ m.length = n ∧ (k = n ∨ k % b.Data.length = 0) ∧ ∀ i, i < k → m[i]? = some ((b.Data[i % b.Data.length]?).getD 0))
   (fun c => ∃ m, c = .next m ∧ m = cyc b n) (fun j st h => by
    obtain ⟨k, m, rfl, rfl, hk, hm, hmod, hI⟩ := h
    unfold M.join_filled_L2
    simp only []
    by_cases hlt : k < n
    ·left
     rw [if_pos (by simp; omega), sub_drop (by omega)]
     simp only [Option.bind_some]
     have hdl : (m.drop k).length = n - k := by simp [hm]
     rw [hdl, w64_id (by omega) (by omega), Int.toNat_natCast, show (k : Int) + ((min b.Data.length (n - k) : Nat) : Int) = ((k + min b.Data.length (n - k) : Nat) : Int) by omega]
     have hm0 : k % b.Data.length = 0 := by omega
     refine ⟨_, n - (k + min b.Data.length (n - k)), rfl, by omega, k + min b.Data.length (n - k), _, rfl, rfl, by omega, by rw [cpy_len (by omega)]; exact hm, ?_, fun i hi => ?_⟩
     ·by_cases hc : b.Data.length ≤ n - k
      ·right; rw [Nat.min_eq_left hc, Nat.add_mod_right]; exact hm0
      ·left; omega
     ·unfold cpy
      by_cases hik : i < k
      ·rw [List.getElem?_append_left (by simp; omega), List.getElem?_append_left (by simp; omega), List.getElem?_take_of_lt hik]
       exact hI i hik
      ·have hq : k = b.Data.length * (k / b.Data.length) := by
        have := Nat.div_add_mod k b.Data.length
        omega
       have him : i % b.Data.length = i - k := by
        rw [show i = (i - k) + b.Data.length * (k / b.Data.length) by rw [← hq]; omega, Nat.add_mul_mod_self_left, Nat.mod_eq_of_lt (by omega)]
        omega
       rw [List.getElem?_append_left (by simp; omega), List.getElem?_append_right (by simp; omega), List.getElem?_take_of_lt (by simp; omega), him]
       have e : i - (m.take k).length = i - k := by simp; omega
       rw [e, List.getElem?_eq_getElem (show i - k < b.Data.length by omega)]; rfl
    ·right
     rw [if_neg (by simp; omega)]
     refine ⟨_, rfl, m, rfl, ?_⟩
     apply List.ext_getElem?
     intro i
     by_cases h : i < n
     ·rw [cyc_get h, if_neg h0, hI i (by omega)]
     ·rw [List.getElem?_eq_none (by omega), List.getElem?_eq_none (by rw [cyc_len]; omega)]) n ((0 : Int), List.replicate n 0) ⟨0, _, rfl, by omega, by omega, by simp, .inr (by simp), fun i h => by omega⟩
  obtain ⟨c, hc, m, rfl, rfl⟩ := key
  rw [hc]; rfl
def inn (L : List Int) (k : Nat) (m : Int) : List Int := L.take k ++ m :: L.drop k
theorem inn_len (L : List Int) {k : Nat} (m : Int) (h : k ≤ L.length) : (inn L k m).length = L.length + 1 := by
 unfold inn; simp; omega
theorem inn_at (L : List Int) {k : Nat} (m : Int) (h : k ≤ L.length) : (inn L k m)[k]? = some m := by
 unfold inn
 rw [List.getElem?_append_right (by simp; omega), List.length_take, Nat.min_eq_left h, Nat.sub_self]; rfl
theorem inn_get (L : List Int) {k : Nat} (m : Int) (h : k ≤ L.length) (h2 : k < (inn L k m).length) : (inn L k m)[k] = m := by
 have := inn_at L m h
 rw [List.getElem?_eq_getElem h2] at this
 exact Option.some.inj this
theorem inn_take (L : List Int) {k : Nat} (m : Int) (h : k ≤ L.length) : (inn L k m).take k = L.take k := by
 unfold inn
 rw [List.take_append_of_le_length (by simp; omega), List.take_take, Nat.min_self]
theorem inn_drop (L : List Int) {k : Nat} (m : Int) (h : k ≤ L.length) : (inn L k m).drop (k + 1) = L.drop k := by
 unfold inn
 rw [List.drop_append, List.length_take, Nat.min_eq_left h, List.drop_of_length_le (by simp; omega), List.nil_append, show k + 1 - k = 1 by omega]
 rfl
theorem inn_set (L : List Int) {k : Nat} (m n : Int) (h : k ≤ L.length) : (inn L k m).set k n = inn L k n := by
 unfold inn
 rw [List.set_append_right _ _ (by simp; omega), List.length_take, Nat.min_eq_left h, Nat.sub_self]; rfl
theorem inn_wo (L : List Int) {k : Nat} (m : Int) (h : k ≤ L.length) : wo (inn L k m) k = L := by
 unfold wo
 rw [if_pos ⟨by omega, by rw [inn_len L m h]; omega⟩, Int.toNat_natCast, inn_take L m h, inn_drop L m h, List.take_append_drop]
theorem inn_of {s : List Int} {k : Nat} (h : k < s.length) : s = inn (wo s k) k s[k] := by
 have hw : wo s k = s.take k ++ s.drop (k + 1) := by
  unfold wo; rw [if_pos ⟨by omega, by omega⟩, Int.toNat_natCast]
 unfold inn
 rw [hw, List.take_append_of_le_length (by simp; omega), List.take_take, Nat.min_self]
 have : (s.take k ++ s.drop (k + 1)).drop k = s.drop (k + 1) := by
  rw [List.drop_append, List.length_take, Nat.min_eq_left (by omega), List.drop_of_length_le (by simp; omega), Nat.sub_self]; rfl
 rw [this, ← List.drop_eq_getElem_cons h, List.take_append_drop]
theorem wo_len' {s : List Int} {k : Nat} (h : k < s.length) : (wo s k).length = s.length - 1 := by
 unfold wo; rw [if_pos ⟨by omega, by omega⟩, Int.toNat_natCast]; simp; omega
theorem inn_prod (L : List Int) {k : Nat} (m : Int) : prod (inn L k m) = prod (L.take k) * (m * prod (L.drop k)) := by
 unfold inn; rw [prod_append]; rfl
theorem inn_mem {L : List Int} {k : Nat} {m x : Int} : x ∈ inn L k m ↔ x = m ∨ x ∈ L := by
 unfold inn
 rw [List.mem_append, List.mem_cons]
 constructor
 ·rintro (h | h | h)
  ·exact .inr (List.mem_of_mem_take h)
  ·exact .inl h
  ·exact .inr (List.mem_of_mem_drop h)
 ·rintro (h | h)
  ·exact .inr (.inl h)
  ·rw [← List.take_append_drop k L] at h
   rcases List.mem_append.mp h with h | h
   ·exact .inl h
   ·exact .inr (.inr h)
def pB (L : List Int) (k : Nat) : Nat := (prod (L.take k)).toNat
def qB (L : List Int) (k : Nat) : Nat := (prod (L.drop k)).toNat
theorem pq {L : List Int} (k : Nat) (h : ∀ x ∈ L, 0 ≤ x) : prod (L.take k) = (pB L k : Int) ∧ prod (L.drop k) = (qB L k : Int) := by
 have h1 := prod_nonneg (s := L.take k) fun x hx => h x (List.mem_of_mem_take hx)
 have h2 := prod_nonneg (s := L.drop k) fun x hx => h x (List.mem_of_mem_drop hx)
 unfold pB qB
 exact ⟨by omega, by omega⟩
theorem inn_cnt {L : List Int} {k : Nat} (m : Nat) (h : ∀ x ∈ L, 0 ≤ x) : prod (inn L k (m : Int)) = ((pB L k * (m * qB L k) : Nat) : Int) := by
 rw [inn_prod, (pq k h).1, (pq k h).2]; simp
theorem inn_ok {L : List Int} {k m M : Nat} (hk : k ≤ L.length) (hm : m ≤ M) (h : shOk (inn L k (M : Int))) : shOk (inn L k (m : Int)) ∧ pB L k * (m * qB L k) ≤ pB L k * (M * qB L k) := by
 have h0 : ∀ x ∈ L, 0 ≤ x := fun x hx => (h.2.1 x (inn_mem.mpr (.inr hx))).1
 have hle : pB L k * (m * qB L k) ≤ pB L k * (M * qB L k) := Nat.mul_le_mul_left _ (Nat.mul_le_mul_right _ hm)
 refine ⟨⟨by rw [inn_len L _ hk]; have := h.1; rw [inn_len L _ hk] at this; exact this, fun x hx => ?_, ?_⟩, hle⟩
 ·rcases inn_mem.mp hx with rfl | hx
  ·have := h.2.1 (M : Int) (inn_mem.mpr (.inl rfl)); omega
  ·exact h.2.1 x (inn_mem.mpr (.inr hx))
 ·have := h.2.2
  rw [inn_cnt _ h0] at this ⊢
  omega
def catG (xa xb : List Int) (m n B : Nat) (q : Nat) : Int :=
 if (q / B) % (m + n) < m then (xa[((q / B / (m + n)) * m + (q / B) % (m + n)) * B + q % B]?).getD 0 else (xb[((q / B / (m + n)) * n + ((q / B) % (m + n) - m)) * B + q % B]?).getD 0
theorem sub_mid {l : List Int} {x y : Nat} (h1 : x ≤ y) (h2 : y ≤ l.length) : sub l (x : Int) (y : Int) = some (vls (fun r => (l[x + r]?).getD 0) (y - x)) := by
 unfold sub
 rw [if_pos ⟨by omega, by omega, by omega⟩]
 congr 1
 refine vls_of (by simp; omega) fun k hk => ?_
 rw [List.getElem?_drop, Int.toNat_natCast, Int.toNat_natCast, List.getElem?_take, if_pos (by omega), List.getElem?_eq_getElem (by omega)]; rfl
theorem catG_a {xa xb : List Int} {m n B i r : Nat} (hB : 0 < B) (hr : r < m * B) : catG xa xb m n B (i * ((m + n) * B) + r) = (xa[i * (m * B) + r]?).getD 0 := by
 have hd : r / B < m := Nat.div_lt_of_lt_mul (by rw [Nat.mul_comm]; exact hr)
 have e1 : (i * ((m + n) * B) + r) / B = i * (m + n) + r / B := by
  rw [← Nat.mul_assoc, Nat.mul_comm (i * (m + n)) B, Nat.mul_add_div hB]
 have e2 : (i * ((m + n) * B) + r) % B = r % B := by
  rw [← Nat.mul_assoc, Nat.mul_comm (i * (m + n)) B, Nat.mul_add_mod]
 unfold catG
 rw [e1, e2, (grid_div (show r / B < m + n by omega)).1, (grid_div (show r / B < m + n by omega)).2, if_pos hd]
 congr 2
 have := Nat.div_add_mod r B
 rw [Nat.add_mul, Nat.mul_assoc, Nat.add_assoc, Nat.mul_comm (r / B) B, this]
theorem catG_b {xa xb : List Int} {m n B i r : Nat} (hB : 0 < B) (hr : r < n * B) : catG xa xb m n B (i * ((m + n) * B) + (m * B + r)) = (xb[i * (n * B) + r]?).getD 0 := by
 have hd : r / B < n := Nat.div_lt_of_lt_mul (by rw [Nat.mul_comm]; exact hr)
 have e0 : i * ((m + n) * B) + (m * B + r) = B * (i * (m + n) + m) + r := by
  rw [Nat.mul_add, Nat.mul_comm B (i * (m + n)), Nat.mul_assoc, Nat.mul_comm B m, Nat.add_assoc]
 have e1 : (i * ((m + n) * B) + (m * B + r)) / B = i * (m + n) + (m + r / B) := by
  rw [e0, Nat.mul_add_div hB, Nat.add_assoc]
 have hmn : m + r / B < m + n := by omega
 have e2 : (i * ((m + n) * B) + (m * B + r)) % B = r % B := by
  rw [e0, Nat.mul_add_mod]
 unfold catG
 rw [e1, e2, (grid_div hmn).1, (grid_div hmn).2, if_neg (Nat.not_lt.mpr (Nat.le_add_right _ _)), Nat.add_sub_cancel_left]
 congr 2
 have := Nat.div_add_mod r B
 rw [Nat.add_mul, Nat.mul_assoc, Nat.add_assoc, Nat.mul_comm (r / B) B, this]
def besV (L : List Int) (k : Nat) (xa xb : List Int) (m n : Nat) : Val × Int :=
 if ¬ shOk (inn L k ((m + n : Nat) : Int)) then (zV, 27) else (⟨false, inn L k ((m + n : Nat) : Int), vls (catG xa xb m n (qB L k)) (pB L k * ((m + n) * qB L k))⟩, 0)
theorem beside_bad {x y : Val} {k : Nat} (hx : x.Shape.length ≤ 10) (hy : y.Shape.length ≤ 10) (hk : k ≤ 100) (hne : wo x.Shape k ≠ wo y.Shape k) : M.join_beside x y (k : Int) = some (zV, 25) := by
 unfold M.join_beside
 rw [shape_Without_eq (by omega) (by omega), shape_Without_eq (by omega) (by omega)]
 simp only [Option.bind_some]
 have : (wo x.Shape k).length ≤ 10 := by
  unfold wo
  split
  ·simp only [List.length_append, List.length_take, List.length_drop]; omega
  ·exact hx
 rw [Equal_int_eq (by have : maxLen = 9223372036854775807 := rfl; omega)]
 simp only [Option.bind_some]
 rw [decide_eq_false hne]; rfl
theorem beside_eq {ca cb : Bool} {L xa xb : List Int} {k m n : Nat} (hk : k ≤ L.length) (hL : L.length ≤ 10) (hm : m ≤ 10000) (hn : n ≤ 10000)
  (ha : shOk (inn L k ((m + n : Nat) : Int)) → xa.length = pB L k * (m * qB L k)) (hb : shOk (inn L k ((m + n : Nat) : Int)) → xb.length = pB L k * (n * qB L k)) :
  M.join_beside ⟨ca, inn L k (m : Int), xa⟩ ⟨cb, inn L k (n : Int), xb⟩ (k : Int) = some (besV L k xa xb m n) := by
 have hmax : maxLen = 9223372036854775807 := rfl
 have l1 := inn_len L (m : Int) hk
 have l2 := inn_len L (n : Int) hk
 have l3 := inn_len L ((m + n : Nat) : Int) hk
 unfold M.join_beside besV
 simp only []
 rw [shape_Without_eq (by omega) (by omega), shape_Without_eq (by omega) (by omega), inn_wo L _ hk, inn_wo L _ hk]
 simp only [Option.bind_some]
 rw [Equal_int_eq (by omega)]
 simp only [Option.bind_some, decide_true, Bool.not_true, Bool.false_eq_true, if_false]
 unfold M.slices_Clone__int
 rw [app_ok (by simp; omega), List.nil_append, Option.bind_some, idx_get (show k < (inn L k (m : Int)).length by omega), Option.bind_some, idx_get (show k < (inn L k (n : Int)).length by omega), Option.bind_some, Option.bind_some, inn_get L _ hk, inn_get L _ hk, w64_id (by omega) (by omega), show (m : Int) + (n : Int) = ((m + n : Nat) : Int) by omega, upd_nat (by omega), Option.bind_some, inn_set L _ _ hk, shape_Size_eq (by omega)]
 simp only [Option.bind_some]
 rcases shSize_cases (inn L k ((m + n : Nat) : Int)) with ⟨hok, hs⟩ | ⟨hok, hs, _⟩
 case inr =>
  rw [if_pos hok, if_pos (by simpa using hs)]; rfl
 rw [hs, if_neg (nn hok), if_neg (by simp), idx_get (show k < (inn L k ((m + n : Nat) : Int)).length by omega), inn_get L _ hk]
 simp only [Option.bind_some]
 have hMx := (hok.2.1 ((m + n : Nat) : Int) (inn_mem.mpr (.inl rfl))).2
 rw [if_neg (by simp only [decide_eq_true_eq]; omega)]
 have h0 : ∀ x ∈ L, 0 ≤ x := fun x hx => (hok.2.1 x (inn_mem.mpr (.inr hx))).1
 obtain ⟨ok1, c1⟩ := inn_ok hk (show m ≤ m + n by omega) hok
 obtain ⟨ok2, c2⟩ := inn_ok hk (show n ≤ m + n by omega) hok
 have hsz := hok.2.2
 rw [inn_cnt _ h0] at hsz ⊢
 have hmk : mk 8 (0 : Int) 0 ((pB L k * ((m + n) * qB L k) : Nat) : Int) = some [] := by
  unfold mk
  rw [if_pos ⟨by omega, by omega, by omega, by omega⟩]; rfl
 rw [hmk, Option.bind_some]
 have sp : ∀ z : Nat, shOk (inn L k (z : Int)) → splitOf (inn L k (z : Int)) (k : Int) = ((pB L k : Int), (z : Int), (qB L k : Int), true) := fun z hz => by
  have lz := inn_len L (z : Int) hk
  unfold splitOf
  rw [dif_pos ⟨hz, by omega, by omega⟩]
  simp only [Int.toNat_natCast]
  rw [inn_take L _ hk, inn_drop L _ hk, inn_get L _ hk, (pq k h0).1, (pq k h0).2]
 rw [shape_Split_eq (by omega) (by omega), shape_Split_eq (by omega) (by omega), sp m ok1, sp n ok2]
 simp only [Option.bind_some]
 have hxa := ha hok
 have hxb := hb hok
 generalize pB L k = P at *
 generalize qB L k = B at *
 have loop : wloop (M.join_beside_L1 ⟨ca, inn L k (m : Int), xa⟩ ⟨cb, inn L k (n : Int), xb⟩ ((P * ((m + n) * B) : Nat) : Int) (P : Int) (m : Int) (B : Int) (n : Int)) (0, []) = some (.next (vls (catG xa xb m n B) (P * ((m + n) * B)))) := by
  by_cases hz : P * ((m + n) * B) = 0
  ·rw [hz]
   refine wloop_done ?_
   unfold M.join_beside_L1
   simp only []
   by_cases hP : 0 < P
   ·rw [if_pos (by simp only [decide_eq_true_eq]; omega), if_pos (by simp)]; rfl
   ·rw [if_neg (by simp only [decide_eq_true_eq]; omega)]; rfl
  ·have hMB : 0 < (m + n) * B := Nat.pos_of_mul_pos_left (Nat.pos_of_ne_zero hz)
   have hB : 0 < B := Nat.pos_of_mul_pos_left hMB
   have hPle : P ≤ 10000 := by
    have := Nat.le_mul_of_pos_right P hMB
    omega
   have hBle : B ≤ 10000 := by
    have hP : 0 < P := Nat.pos_of_mul_pos_right (Nat.pos_of_ne_zero hz)
    have h1 := Nat.le_mul_of_pos_left ((m + n) * B) hP
    have h2 : B ≤ (m + n) * B := Nat.le_mul_of_pos_left B (Nat.pos_of_mul_pos_right hMB)
    omega
   have key := go_loop (F := M.join_beside_L1 ⟨ca, inn L k (m : Int), xa⟩ ⟨cb, inn L k (n : Int), xb⟩ ((P * ((m + n) * B) : Nat) : Int) (P : Int) (m : Int) (B : Int) (n : Int)) (fun i => ((i : Int), vls (catG xa xb m n B) (i * ((m + n) * B)))) (.next (vls (catG xa xb m n B) (P * ((m + n) * B)))) P (fun i hi => by
    have a1 : (i + 1) * (m * B) ≤ P * (m * B) := Nat.mul_le_mul_right _ (by omega)
    have a2 : (i + 1) * (n * B) ≤ P * (n * B) := Nat.mul_le_mul_right _ (by omega)
    have a3 : (i + 1) * ((m + n) * B) ≤ P * ((m + n) * B) := Nat.mul_le_mul_right _ (by omega)
    have b1 : i * (m * B) ≤ (i + 1) * (m * B) := Nat.mul_le_mul_right _ (by omega)
    have b2 : i * (n * B) ≤ (i + 1) * (n * B) := Nat.mul_le_mul_right _ (by omega)
    have b3 : i * ((m + n) * B) ≤ (i + 1) * ((m + n) * B) := Nat.mul_le_mul_right _ (by omega)
    have mB : m * B ≤ 10000 := Nat.le_trans (Nat.le_mul_of_pos_left _ (show 0 < i + 1 by omega)) (by omega)
    have nB : n * B ≤ 10000 := Nat.le_trans (Nat.le_mul_of_pos_left _ (show 0 < i + 1 by omega)) (by omega)
    have wr : ∀ j z : Nat, j ≤ 10000 → z ≤ 10000 → z * B ≤ 10000 → IntKind.i64.wrap (IntKind.i64.wrap ((j : Int) * (z : Int)) * (B : Int)) = ((j * (z * B) : Nat) : Int) := fun j z hj hz hzB => by
     have d1 := Nat.mul_le_mul hj hz
     have d2 := Nat.mul_le_mul hj hzB
     have e1 : (j : Int) * (z : Int) = ((j * z : Nat) : Int) := by simp
     have e2 : ((j * z : Nat) : Int) * (B : Int) = ((j * (z * B) : Nat) : Int) := by simp [Int.mul_assoc]
     rw [e1]
     rw [w64_id (x := ((j * z : Nat) : Int)) (by generalize j * z = w at *; omega) (by generalize j * z = w at *; omega), e2]
     rw [w64_id (by generalize j * (z * B) = w at *; omega) (by generalize j * (z * B) = w at *; omega)]
    unfold M.join_beside_L1
    simp only []
    rw [if_pos (by simp only [decide_eq_true_eq]; omega), if_neg (by simp only [beq_iff_eq]; omega), w64_id (x := (i : Int) + 1) (by omega) (by omega), show (i : Int) + 1 = ((i + 1 : Nat) : Int) by omega, wr i m (by omega) hm mB, wr (i + 1) m (by omega) hm mB, wr i n (by omega) hn nB, wr (i + 1) n (by omega) hn nB,
     sub_mid b1 (by omega), Option.bind_some, app_ok (by rw [vls_len, vls_len]; omega), Option.bind_some, sub_mid b2 (by omega), Option.bind_some, app_ok (by rw [List.length_append, vls_len, vls_len, vls_len]; omega), Option.bind_some]
    have s1 : (i + 1) * (m * B) - i * (m * B) = m * B := by rw [Nat.add_mul, Nat.one_mul]; omega
    have s2 : (i + 1) * (n * B) - i * (n * B) = n * B := by rw [Nat.add_mul, Nat.one_mul]; omega
    have s3 : (i + 1) * ((m + n) * B) = i * ((m + n) * B) + (m * B + n * B) := by rw [Nat.add_mul, Nat.one_mul, Nat.add_mul m n B]
    rw [s1, s2, s3, vls_add, vls_add, List.append_assoc]
    congr 5
    ·exact vls_congr fun r hr => (catG_a hB hr).symm
    ·exact vls_congr fun r hr => (catG_b hB hr).symm) (by
    unfold M.join_beside_L1
    simp only []
    rw [if_neg (by simp)])
   simp only [Int.natCast_zero, Nat.zero_mul] at key
   exact key
 rw [loop]
 rfl
theorem fit_same {v : Val} {other : List Int} {k : Int} (h : v.Shape.length = other.length) : M.join_fits v other k = some (v, 0) := by
 unfold M.join_fits
 rw [if_pos (by simp [h])]
def fillN (L : List Int) (k : Nat) : Nat := (shSize (inn L k 1)).1.toNat
theorem fillN_le (L : List Int) (k : Nat) : fillN L k ≤ 10000 ∧ (shSize (inn L k 1)).1 = (fillN L k : Int) := by
 unfold fillN
 rcases shSize_cases (inn L k 1) with ⟨hok, hs⟩ | ⟨_, _, h0⟩
 ·have h1 := prod_nonneg (s := inn L k 1) fun x hx => (hok.2.1 x hx).1
  have h2 := hok.2.2
  rw [hs]
  exact ⟨by simp only []; omega, by simp only []; omega⟩
 ·rw [h0]; exact ⟨by simp, by simp⟩
theorem fillN_ok {L : List Int} {k : Nat} (h : shOk (inn L k ((1 : Nat) : Int))) : fillN L k = pB L k * (1 * qB L k) := by
 have h0 : ∀ x ∈ L, 0 ≤ x := fun x hx => (h.2.1 x (inn_mem.mpr (.inr hx))).1
 have e := inn_cnt (L := L) (k := k) 1 h0
 unfold fillN
 rcases shSize_cases (inn L k 1) with ⟨hok, hs⟩ | ⟨hok, _, _⟩
 ·rw [hs]
  have e' : prod (inn L k 1) = ((pB L k * (1 * qB L k) : Nat) : Int) := e
  simp only []
  rw [e', Int.toNat_natCast]
 ·exact absurd h hok
theorem fit_scalar {v : Val} {other : List Int} {k : Nat} (h0 : v.Shape.length = 0) (hk : k < other.length) (hl : other.length ≤ 10) (hd : v.Data.length ≤ 1000000) :
  M.join_fits v other (k : Int) = some (⟨v.Char, inn (wo other k) k 1, cyc v (fillN (wo other k) k)⟩, 0) := by
 unfold M.join_fits M.slices_Clone__int
 have hmax : maxLen = 9223372036854775807 := rfl
 have hset : other.set k 1 = inn (wo other k) k 1 := by
  conv => lhs; rw [inn_of hk]
  rw [inn_set _ _ _ (by rw [wo_len' hk]; omega)]
 rw [if_neg (by simp only [beq_iff_eq]; omega), if_pos (by simp [h0]), app_ok (by simp; omega), List.nil_append, Option.bind_some, idx_get hk, Option.bind_some, upd_nat hk, Option.bind_some, hset, shape_Size_eq (by rw [inn_len _ _ (by rw [wo_len' hk]; omega), wo_len' hk]; omega)]
 simp only [Option.bind_some]
 obtain ⟨f1, f2⟩ := fillN_le (wo other k) k
 rw [f2, join_filled_eq f1 (by omega)]
 rfl
theorem fit_ins {v : Val} {other : List Int} {k : Nat} (h0 : v.Shape.length ≠ 0) (h1 : v.Shape.length + 1 = other.length) (hk : k ≤ v.Shape.length) (hl : other.length ≤ 10) :
  M.join_fits v other (k : Int) = some (⟨v.Char, inn v.Shape k 1, v.Data⟩, 0) := by
 unfold M.join_fits M.slices_Clone__int M.slices_Insert__int insL
 rw [if_neg (by simp only [beq_iff_eq]; omega), if_neg (by simp only [beq_iff_eq]; omega), w64_id (by omega) (by omega), if_pos (by simp only [beq_iff_eq]; omega), app_ok (by simp; omega), List.nil_append, Option.bind_some, if_pos ⟨by omega, by omega, by omega, by simp, by simp; omega⟩, Option.bind_some, Int.toNat_natCast]
 unfold inn
 rw [List.append_assoc]; rfl
theorem fit_none {v : Val} {other : List Int} {k : Int} (h0 : v.Shape.length ≠ 0) (h1 : v.Shape.length ≠ other.length) (h2 : v.Shape.length + 1 ≠ other.length) (hl : v.Shape.length ≤ 10) : M.join_fits v other k = some (v, 24) := by
 unfold M.join_fits
 rw [if_neg (by simp only [beq_iff_eq]; omega), if_neg (by simp only [beq_iff_eq]; omega), w64_id (by omega) (by omega), if_neg (by simp only [beq_iff_eq]; omega)]
def catR (a b : Val) (r : Val × Int) : Val × Int := if r.2 ≠ 0 then (zV, r.2) else if (kindOf a b).2 = false then (zV, 23) else (⟨(kindOf a b).1, r.1.Shape, r.1.Data⟩, 0)
noncomputable def tailK (a b : Val) (S1 S2 : List Int) : Val × Int → Option (Val × Int) := fun (r6, r7) =>
 if (r7 != 0) then some ((Val.mk false ([]) ([])), r7) else
  (M.join_kind (Val.mk a.Char S1 a.Data) (Val.mk b.Char S2 b.Data)).bind fun (r8, r9) =>
  if (!r9) then some ((Val.mk false ([]) ([])), 23) else some ((Val.mk r8 r6.Shape r6.Data), 0)
theorem tailK_eq (a b : Val) (S1 S2 : List Int) (r : Val × Int) : tailK a b S1 S2 r = some (catR a b r) := by
 obtain ⟨r6, r7⟩ := r
 unfold tailK catR
 simp only []
 by_cases h : r7 = 0
 ·rw [if_neg (by simpa using h), if_neg (nn h), join_kind_eq]
  have ek : kindOf ⟨a.Char, S1, a.Data⟩ ⟨b.Char, S2, b.Data⟩ = kindOf a b := rfl
  rw [ek]
  simp only [Option.bind_some]
  cases hk : (kindOf a b).2 <;> rfl
 ·rw [if_pos (by simpa using h), if_pos h]; rfl
def axC (a b : Val) (axis : Int) : Nat := if axis = -1 then max a.Shape.length b.Shape.length - 1 else axis.toNat
def lenAt (s : List Int) (k : Nat) : Nat := ((s[k]?).getD 0).toNat
def catM (a b : Val) (k : Nat) : Val × Int :=
 if a.Shape.length = b.Shape.length then
  if a.Shape.length = 0 then catR a b (besV [] 0 a.Data b.Data 1 1)
  else if wo a.Shape k ≠ wo b.Shape k then (zV, 25) else catR a b (besV (wo a.Shape k) k a.Data b.Data (lenAt a.Shape k) (lenAt b.Shape k))
 else if a.Shape.length = 0 then catR a b (besV (wo b.Shape k) k (cyc a (fillN (wo b.Shape k) k)) b.Data 1 (lenAt b.Shape k))
 else if b.Shape.length = 0 then catR a b (besV (wo a.Shape k) k a.Data (cyc b (fillN (wo a.Shape k) k)) (lenAt a.Shape k) 1)
 else if a.Shape.length + 1 = b.Shape.length then if a.Shape ≠ wo b.Shape k then (zV, 25) else catR a b (besV a.Shape k a.Data b.Data 1 (lenAt b.Shape k))
 else if b.Shape.length + 1 = a.Shape.length then if wo a.Shape k ≠ b.Shape then (zV, 25) else catR a b (besV b.Shape k a.Data b.Data (lenAt a.Shape k) 1)
 else (zV, 24)
def catF (a b : Val) (axis : Int) : Val × Int :=
 if vRight a = false ∨ vRight b = false then (zV, 1)
 else if axis < -1 ∨ axis ≥ ((max a.Shape.length b.Shape.length : Nat) : Int) then (zV, 26)
 else catM a b (axC a b axis)
theorem lenAt_eq {s : List Int} {k : Nat} (h : shOk s) (hk : k < s.length) : s[k] = (lenAt s k : Int) ∧ lenAt s k ≤ 10000 := by
 have h1 := h.2.1 _ (List.getElem_mem hk)
 unfold lenAt
 rw [List.getElem?_eq_getElem hk]
 exact ⟨by simp; omega, by simp; omega⟩
theorem right_cnt {v : Val} (hv : vRight v = true) {k : Nat} (hk : k < v.Shape.length) : v.Data.length = pB (wo v.Shape k) k * (lenAt v.Shape k * qB (wo v.Shape k) k) := by
 obtain ⟨hok, hp, _⟩ := vRight_iff.mp hv
 have e := inn_of hk
 rw [(lenAt_eq hok hk).1] at e
 have h0 : ∀ x ∈ wo v.Shape k, 0 ≤ x := fun x hx => by
  have : x ∈ v.Shape := by rw [e]; exact inn_mem.mpr (.inr hx)
  exact (hok.2.1 x this).1
 rw [e, inn_cnt _ h0] at hp
 omega
theorem right_cnt1 {v : Val} (hv : vRight v = true) (k : Nat) : v.Data.length = pB v.Shape k * (1 * qB v.Shape k) := by
 obtain ⟨hok, hp, _⟩ := vRight_iff.mp hv
 obtain ⟨e1, e2⟩ := pq k (L := v.Shape) fun x hx => (hok.2.1 x hx).1
 have e3 : prod v.Shape = prod (v.Shape.take k) * prod (v.Shape.drop k) := by rw [← prod_append, List.take_append_drop]
 rw [e3, e1, e2, ← Int.natCast_mul] at hp
 rw [Nat.one_mul]
 omega
theorem join_Catenate_eq {a b : Val} {axis : Int} (da : a.Data.length ≤ 1000000) (db : b.Data.length ≤ 1000000) (hax : -9223372036854775808 ≤ axis ∧ axis ≤ 9223372036854775807) : M.join_Catenate a b axis = some (catF a b axis) := by
 have hmax : maxLen = 9223372036854775807 := rfl
 unfold M.join_Catenate catF
 rw [whole_two (by omega) (by omega)]
 simp only [Option.bind_some]
 by_cases hv : vRight a = false ∨ vRight b = false
 ·rw [if_pos hv, if_pos (by rcases hv with h | h <;> simp [h])]; rfl
 have hva : vRight a = true := by
  cases h : vRight a with
  | true => rfl
  | false => exact absurd (.inl h) hv
 have hvb : vRight b = true := by
  cases h : vRight b with
  | true => rfl
  | false => exact absurd (.inr h) hv
 rw [if_neg hv, if_neg (by simp [hva, hvb])]
 obtain ⟨oka, pa, _⟩ := vRight_iff.mp hva
 obtain ⟨okb, pb, _⟩ := vRight_iff.mp hvb
 have a4 := oka.1
 have b4 := okb.1
 have emax : (if (a.Shape.length : Int) < (b.Shape.length : Int) then (b.Shape.length : Int) else (a.Shape.length : Int)) = ((max a.Shape.length b.Shape.length : Nat) : Int) := by split <;> omega
 rw [emax]
 by_cases hbad : axis < -1 ∨ axis ≥ ((max a.Shape.length b.Shape.length : Nat) : Int)
 ·rw [if_pos (by simp only [Bool.or_eq_true, decide_eq_true_eq]; exact hbad), if_pos hbad]; rfl
 rw [if_neg (by simp only [Bool.or_eq_true, decide_eq_true_eq]; exact hbad), if_neg hbad]
 by_cases h0 : max a.Shape.length b.Shape.length = 0
 ·have ra : a.Shape.length = 0 := by omega
  have rb : b.Shape.length = 0 := by omega
  have hm1 : axis = -1 := by omega
  have sa : a.Shape = [] := List.length_eq_zero_iff.mp ra
  have sb : b.Shape = [] := List.length_eq_zero_iff.mp rb
  rw [h0, if_pos (by simp)]
  simp only [Option.bind_some, joinK]
  rw [hm1, if_pos (by rfl)]
  simp only [Option.bind_some]
  have e0 : IntKind.i64.wrap (1 - 1 : Int) = ((0 : Nat) : Int) := rfl
  rw [e0, fit_same rfl, fit_same rfl]
  simp only [Option.bind_some]
  rw [if_neg (by simp), if_neg (by simp)]
  simp only [Option.bind_some]
  rw [if_neg (by simp)]
  have da1 : a.Data.length = 1 := by rw [sa] at pa; simp [prod] at pa; omega
  have db1 : b.Data.length = 1 := by rw [sb] at pb; simp [prod] at pb; omega
  have hb := beside_eq (ca := a.Char) (cb := b.Char) (L := []) (xa := a.Data) (xb := b.Data) (k := 0) (m := 1) (n := 1) (by simp) (by simp) (by omega) (by omega) (fun _ => by rw [da1]; rfl) (fun _ => by rw [db1]; rfl)
  have e1 : inn [] 0 ((1 : Nat) : Int) = [1] := rfl
  rw [e1] at hb
  rw [hb]
  unfold catM
  rw [if_pos (by omega), if_pos ra]
  exact tailK_eq a b [1] [1] _
 rw [if_neg (by simp only [beq_iff_eq]; omega)]
 simp only [Option.bind_some, joinK]
 have ek : (if (axis == -1) = true then some (IntKind.i64.wrap (((max a.Shape.length b.Shape.length : Nat) : Int) - 1)) else some axis) = some ((axC a b axis : Nat) : Int) := by
  unfold axC
  by_cases h : axis = -1
  ·rw [if_pos (by simpa using h), if_pos h, w64_id (by omega) (by omega)]
   congr 1; omega
  ·rw [if_neg (by simpa using h), if_neg h]
   congr 1; omega
 have hkl : axC a b axis < max a.Shape.length b.Shape.length := by
  unfold axC; split <;> omega
 rw [ek]
 generalize axC a b axis = k at *
 simp only [Option.bind_some]
 have eta : ∀ v : Val, (⟨v.Char, v.Shape, v.Data⟩ : Val) = v := fun v => rfl
 rw [eta a, eta b]
 unfold catM
 by_cases hab : a.Shape.length = b.Shape.length
 ·-- one rank
  rw [if_pos hab, if_neg (by omega), fit_same hab, fit_same hab.symm]
  simp only [Option.bind_some]
  rw [if_neg (by simp only [decide_eq_true_eq]; omega), if_neg (by simp only [decide_eq_true_eq]; omega)]
  simp only [Option.bind_some]
  rw [if_neg (by simp)]
  have ka : k < a.Shape.length := by omega
  have kb : k < b.Shape.length := by omega
  by_cases hw : wo a.Shape k = wo b.Shape k
  ·rw [if_neg (nn hw)]
   obtain ⟨m1, m2⟩ := lenAt_eq oka ka
   obtain ⟨n1, n2⟩ := lenAt_eq okb kb
   have ea := inn_of ka
   have eb := inn_of kb
   rw [m1] at ea
   rw [n1, ← hw] at eb
   have hb := beside_eq (ca := a.Char) (cb := b.Char) (L := wo a.Shape k) (xa := a.Data) (xb := b.Data) (k := k) (m := lenAt a.Shape k) (n := lenAt b.Shape k) (by rw [wo_len' ka]; omega) (by rw [wo_len' ka]; omega) m2 n2 (fun _ => right_cnt hva ka) (fun _ => by rw [hw]; exact right_cnt hvb kb)
   rw [← ea, ← eb, eta a, eta b] at hb
   rw [eta a, eta b, hb]
   exact tailK_eq a b a.Shape b.Shape _
  ·rw [if_pos hw, eta a, eta b, beside_bad (by omega) (by omega) (by omega) hw]
   rfl
 rw [if_neg hab]
 by_cases ra : a.Shape.length = 0
 ·have kb : k < b.Shape.length := by omega
  rw [if_pos ra, fit_scalar ra kb (by omega) da, fit_none (v := b) (by omega) (by omega) (by omega) (by omega)]
  simp only [Option.bind_some]
  rw [if_neg (by simp only [decide_eq_true_eq]; omega), if_pos (by simp only [decide_eq_true_eq]; omega)]
  simp only [Option.bind_some]
  rw [if_neg (by simp)]
  obtain ⟨n1, n2⟩ := lenAt_eq okb kb
  have eb := inn_of kb
  rw [n1] at eb
  have hb := beside_eq (ca := a.Char) (cb := b.Char) (L := wo b.Shape k) (xa := cyc a (fillN (wo b.Shape k) k)) (xb := b.Data) (k := k) (m := 1) (n := lenAt b.Shape k) (by rw [wo_len' kb]; omega) (by rw [wo_len' kb]; omega) (by omega) n2 (fun h => by rw [cyc_len, fillN_ok (inn_ok (by rw [wo_len' kb]; omega) (by omega) h).1]) (fun _ => right_cnt hvb kb)
  rw [← eb, eta b] at hb
  rw [eta b]
  have hb' : M.join_beside ⟨a.Char, inn (wo b.Shape k) k 1, cyc a (fillN (wo b.Shape k) k)⟩ b k = _ := hb
  rw [hb']
  exact tailK_eq a b a.Shape b.Shape _
 rw [if_neg ra]
 by_cases rb : b.Shape.length = 0
 ·have ka : k < a.Shape.length := by omega
  rw [if_pos rb, fit_scalar rb ka (by omega) db, fit_none (v := a) (by omega) (by omega) (by omega) (by omega)]
  simp only [Option.bind_some]
  rw [if_pos (by simp only [decide_eq_true_eq]; omega), if_neg (by simp only [decide_eq_true_eq]; omega)]
  simp only [Option.bind_some]
  rw [if_neg (by simp)]
  obtain ⟨m1, m2⟩ := lenAt_eq oka ka
  have ea := inn_of ka
  rw [m1] at ea
  have hb := beside_eq (ca := a.Char) (cb := b.Char) (L := wo a.Shape k) (xa := a.Data) (xb := cyc b (fillN (wo a.Shape k) k)) (k := k) (m := lenAt a.Shape k) (n := 1) (by rw [wo_len' ka]; omega) (by rw [wo_len' ka]; omega) m2 (by omega) (fun _ => right_cnt hva ka) (fun h => by rw [cyc_len, fillN_ok (inn_ok (by rw [wo_len' ka]; omega) (by omega) h).1])
  rw [← ea, eta a] at hb
  rw [eta a]
  have hb' : M.join_beside a ⟨b.Char, inn (wo a.Shape k) k 1, cyc b (fillN (wo a.Shape k) k)⟩ k = _ := hb
  rw [hb']
  exact tailK_eq a b a.Shape b.Shape _
 rw [if_neg rb]
 by_cases r1 : a.Shape.length + 1 = b.Shape.length
 ·have kb : k < b.Shape.length := by omega
  rw [if_pos r1, fit_ins ra r1 (by omega) (by omega), fit_none (v := b) (by omega) (by omega) (by omega) (by omega)]
  simp only [Option.bind_some]
  rw [if_neg (by simp only [decide_eq_true_eq]; omega), if_pos (by simp only [decide_eq_true_eq]; omega)]
  simp only [Option.bind_some]
  rw [if_neg (by simp)]
  have hwa := inn_wo a.Shape (k := k) 1 (by omega)
  have hla := inn_len a.Shape (k := k) 1 (by omega)
  by_cases hw : a.Shape = wo b.Shape k
  ·rw [if_neg (nn hw)]
   obtain ⟨n1, n2⟩ := lenAt_eq okb kb
   have eb := inn_of kb
   rw [n1, ← hw] at eb
   have hb := beside_eq (ca := a.Char) (cb := b.Char) (L := a.Shape) (xa := a.Data) (xb := b.Data) (k := k) (m := 1) (n := lenAt b.Shape k) (by omega) (by omega) (by omega) n2 (fun _ => right_cnt1 hva k) (fun _ => by
    have := right_cnt hvb kb
    rw [← hw] at this; exact this)
   rw [← eb, eta b] at hb
   rw [eta b]
   have hb' : M.join_beside ⟨a.Char, inn a.Shape k 1, a.Data⟩ b k = _ := hb
   rw [hb']
   exact tailK_eq a b a.Shape b.Shape _
  ·rw [if_pos hw, eta b, beside_bad (x := ⟨a.Char, inn a.Shape k 1, a.Data⟩) (by simp only []; omega) (by omega) (by omega) (by simp only []; rw [hwa]; exact hw)]
   rfl
 rw [if_neg r1]
 by_cases r2 : b.Shape.length + 1 = a.Shape.length
 ·have ka : k < a.Shape.length := by omega
  rw [if_pos r2, fit_ins (v := b) rb r2 (by omega) (by omega), fit_none (v := a) (by omega) (by omega) (by omega) (by omega)]
  simp only [Option.bind_some]
  rw [if_pos (by simp only [decide_eq_true_eq]; omega), if_neg (by simp only [decide_eq_true_eq]; omega)]
  simp only [Option.bind_some]
  rw [if_neg (by simp)]
  have hwb := inn_wo b.Shape (k := k) 1 (by omega)
  have hlb := inn_len b.Shape (k := k) 1 (by omega)
  by_cases hw : wo a.Shape k = b.Shape
  ·rw [if_neg (nn hw)]
   obtain ⟨m1, m2⟩ := lenAt_eq oka ka
   have ea := inn_of ka
   rw [m1, hw] at ea
   have hb := beside_eq (ca := a.Char) (cb := b.Char) (L := b.Shape) (xa := a.Data) (xb := b.Data) (k := k) (m := lenAt a.Shape k) (n := 1) (by omega) (by omega) m2 (by omega) (fun _ => by
    have := right_cnt hva ka
    rw [hw] at this; exact this) (fun _ => right_cnt1 hvb k)
   rw [← ea, eta a] at hb
   rw [eta a]
   have hb' : M.join_beside a ⟨b.Char, inn b.Shape k 1, b.Data⟩ k = _ := hb
   rw [hb']
   exact tailK_eq a b a.Shape b.Shape _
  ·rw [if_pos hw, eta a, beside_bad (y := ⟨b.Char, inn b.Shape k 1, b.Data⟩) (by omega) (by simp only []; omega) (by omega) (by simp only []; rw [hwb]; exact hw)]
   rfl
 rw [if_neg r2]
 have hfa : M.join_fits a b.Shape k = some (a, 24) := fit_none (by omega) (by omega) (by omega) (by omega)
 have hfb : M.join_fits b a.Shape k = some (b, 24) := fit_none (by omega) (by omega) (by omega) (by omega)
 rw [hfa, hfb]
 simp only [Option.bind_some]
 by_cases hlt : a.Shape.length < b.Shape.length
 ·rw [if_neg (by simp only [decide_eq_true_eq]; omega), if_pos (by simp only [decide_eq_true_eq]; omega)]
  rfl
 ·rw [if_pos (by simp only [decide_eq_true_eq]; omega), if_neg (by simp only [decide_eq_true_eq]; omega)]
  rfl
theorem rwithout_eq {s : List Int} {k : Nat} (hl : s.length ≤ 100) (hk : k ≤ 100) : M.anamnesisref07_without s (k : Int) = some (wo s k) := by
 unfold M.anamnesisref07_without
 have key := go_loop (F := M.anamnesisref07_without_L1 s (k : Int)) (fun i => (if i ≤ k then s.take i else s.take k ++ (s.drop (k + 1)).take (i - (k + 1)), (i : Int))) (.next (wo s k)) s.length (fun i hi => by
  unfold M.anamnesisref07_without_L1
  simp only []
  rw [if_pos (by simp only [decide_eq_true_eq]; omega), w64_id (by omega) (by omega)]
  rcases Nat.lt_trichotomy i k with h | h | h
  ·rw [if_pos (by simp only [bne_iff_ne, ne_eq]; omega), idx_get hi, Option.bind_some, if_pos (show i ≤ k by omega), app_ok (by simp; omega), Option.bind_some, if_pos (show i + 1 ≤ k by omega), List.take_succ_eq_append_getElem hi]
   rfl
  ·subst h
   rw [if_neg (by simp), if_pos (Nat.le_refl i), if_neg (show ¬ i + 1 ≤ i by omega), Nat.sub_self, List.take_zero, List.append_nil]
   rfl
  ·rw [if_pos (by simp only [bne_iff_ne, ne_eq]; omega), idx_get hi, Option.bind_some, if_neg (show ¬ i ≤ k by omega), if_neg (show ¬ i + 1 ≤ k by omega), app_ok (by simp; omega), Option.bind_some, show i + 1 - (k + 1) = (i - (k + 1)) + 1 by omega, List.take_succ_eq_append_getElem (l := s.drop (k + 1)) (by simp; omega)]
   have e : (s.drop (k + 1))[i - (k + 1)]'(by simp; omega) = s[i] := by simp only [List.getElem_drop, show k + 1 + (i - (k + 1)) = i by omega]
   rw [e, List.append_assoc]
   rfl) (by
  unfold M.anamnesisref07_without_L1
  simp only []
  rw [if_neg (by simp)]
  congr 3
  by_cases h : s.length ≤ k
  ·rw [if_pos h, List.take_length]
   unfold wo; rw [if_neg (by omega)]
  ·rw [if_neg h, List.take_of_length_le (l := s.drop (k + 1)) (by simp)]
   unfold wo; rw [if_pos ⟨by omega, by omega⟩, Int.toNat_natCast])
 have e0 : (if 0 ≤ k then s.take 0 else s.take k ++ (s.drop (k + 1)).take (0 - (k + 1))) = [] := by rw [if_pos (Nat.zero_le k)]; rfl
 simp only [e0, Int.natCast_zero] at key
 rw [key]; rfl
theorem rsame_eq {a b : List Int} (ha : a.length ≤ maxLen) : M.anamnesisref07_same a b = some (decide (a = b)) := by
 unfold M.anamnesisref07_same
 by_cases hl : a.length = b.length
 ·rw [if_neg (by simp [hl])]
  rw [same_loop (f := M.anamnesisref07_same_L1 a b) (a := a) (b := b) hl ha (fun k hk => by
   simp only [M.anamnesisref07_same_L1]
   have hm : maxLen = 9223372036854775807 := rfl
   rw [if_pos (by simp; omega), idx_get hk, idx_get (by omega), w64_id (x := (k : Int) + 1) (by omega) (by omega)]
   simp only [Option.bind_some]
   by_cases h : a[k] = b[k]
   ·rw [if_neg (by simpa using h), if_pos h]
   ·rw [if_pos (by simpa using h), if_neg h]) (by
   simp only [M.anamnesisref07_same_L1]
   rw [if_neg (by simp)])]
  by_cases h : a = b
  ·rw [if_pos h, decide_eq_true h]; rfl
  ·rw [if_neg h, decide_eq_false h]; rfl
 ·rw [if_pos (by simp; omega), decide_eq_false (fun h => hl (by rw [h]))]
theorem off_inn {L p1 p2 : List Int} {k : Nat} {m t : Int} (h1 : inShape (L.take k) p1) : off (inn L k m) (p1 ++ t :: p2) = (off (L.take k) p1 * m + t) * prod (L.drop k) + off (L.drop k) p2 := by
 unfold inn
 rw [off_app h1.len]
 simp only [off, prod]
 rw [Int.add_mul, Int.mul_assoc, Int.add_assoc]
def ElemAt (v : Val) (R : Nat) (L : List Int) (k m : Nat) (x : List Int) : Prop :=
 ∀ (p1 p2 : List Int) (t : Nat), inShape (L.take k) p1 → inShape (L.drop k) p2 → t < m → M.anamnesisref07_element v (R : Int) (k : Int) (p1 ++ (t : Int) :: p2) = some ((x[((off (L.take k) p1).toNat * m + t) * qB L k + (off (L.drop k) p2).toNat]?).getD 0)
theorem elem_full {v : Val} {R k m : Nat} {L : List Int} (hv : vRight v = true) (hs : v.Shape = inn L k (m : Int)) (hR : v.Shape.length = R) (hk : k ≤ L.length) : ElemAt v R L k m v.Data := fun p1 p2 t h1 h2 ht => by
 obtain ⟨hok, hp, _⟩ := vRight_iff.mp hv
 have h4 := hok.1
 have hl := inn_len L (m : Int) hk
 rw [← hs] at hl
 have h0 : ∀ x ∈ L, 0 ≤ x := fun x hx => (hok.2.1 x (by rw [hs]; exact inn_mem.mpr (.inr hx))).1
 obtain ⟨q1, q2⟩ := pq k h0
 unfold M.anamnesisref07_element
 rw [if_neg (by simp only [beq_iff_eq]; omega), if_neg (by simp only [decide_eq_true_eq]; omega)]
 have hin : inShape v.Shape (p1 ++ (t : Int) :: p2) := by
  rw [hs]; unfold inn
  exact inShape_app h1 ⟨by omega, by omega, h2⟩
 have r1 := off_range h1
 have r2 := off_range h2
 have ho : off v.Shape (p1 ++ (t : Int) :: p2) = ((((off (L.take k) p1).toNat * m + t) * qB L k + (off (L.drop k) p2).toNat : Nat) : Int) := by
  rw [hs, off_inn h1, q2]
  obtain ⟨I, hI⟩ : ∃ I : Nat, off (L.take k) p1 = I := ⟨(off (L.take k) p1).toNat, by omega⟩
  obtain ⟨c, hc⟩ : ∃ c : Nat, off (L.drop k) p2 = c := ⟨(off (L.drop k) p2).toNat, by omega⟩
  rw [hI, hc]; simp
 have hr := off_range hin
 rw [ref07_Offset_eq hok hin, ho]
 rw [ho, hp] at hr
 have hlt : ((off (L.take k) p1).toNat * m + t) * qB L k + (off (L.drop k) p2).toNat < v.Data.length := by omega
 rw [Option.bind_some, idx_get hlt, List.getElem?_eq_getElem hlt]; rfl
theorem wo_mid {p1 p2 : List Int} {t : Int} {k : Nat} (h : p1.length = k) : wo (p1 ++ t :: p2) k = p1 ++ p2 := by
 unfold wo
 rw [if_pos ⟨by omega, by simp; omega⟩, Int.toNat_natCast, List.take_append_of_le_length (by omega), List.take_of_length_le (by omega), List.drop_append, List.drop_of_length_le (by omega), h, show k + 1 - k = 1 by omega]
 rfl
theorem elem_less {v : Val} {R k : Nat} (hv : vRight v = true) (h0 : v.Shape.length ≠ 0) (hR : v.Shape.length < R) (hk : k ≤ v.Shape.length) : ElemAt v R v.Shape k 1 v.Data := fun p1 p2 t h1 h2 ht => by
 obtain ⟨hok, hp, _⟩ := vRight_iff.mp hv
 have h4 := hok.1
 have hn : ∀ x ∈ v.Shape, 0 ≤ x := fun x hx => (hok.2.1 x hx).1
 obtain ⟨q1, q2⟩ := pq k hn
 obtain rfl : t = 0 := by omega
 have l1 := h1.len
 have l2 := h2.len
 rw [List.length_take, Nat.min_eq_left hk] at l1
 rw [List.length_drop] at l2
 unfold M.anamnesisref07_element
 rw [if_neg (by simp only [beq_iff_eq]; omega), if_pos (by simp only [decide_eq_true_eq]; omega), rwithout_eq (by simp; omega) (by omega), Option.bind_some, wo_mid l1]
 have hin : inShape v.Shape (p1 ++ p2) := by
  have := inShape_app h1 h2
  rwa [List.take_append_drop] at this
 have r1 := off_range h1
 have r2 := off_range h2
 have ho : off v.Shape (p1 ++ p2) = ((((off (v.Shape.take k) p1).toNat * 1 + 0) * qB v.Shape k + (off (v.Shape.drop k) p2).toNat : Nat) : Int) := by
  have e := off_app (a := v.Shape.take k) (p := p1) (b := v.Shape.drop k) (q := p2) h1.len
  rw [List.take_append_drop, q2] at e
  rw [e]
  obtain ⟨I, hI⟩ : ∃ I : Nat, off (v.Shape.take k) p1 = I := ⟨(off (v.Shape.take k) p1).toNat, by omega⟩
  obtain ⟨c, hc⟩ : ∃ c : Nat, off (v.Shape.drop k) p2 = c := ⟨(off (v.Shape.drop k) p2).toNat, by omega⟩
  rw [hI, hc]; simp
 have hr := off_range hin
 rw [ref07_Offset_eq hok hin, ho]
 rw [ho, hp] at hr
 have hlt : ((off (v.Shape.take k) p1).toNat * 1 + 0) * qB v.Shape k + (off (v.Shape.drop k) p2).toNat < v.Data.length := by omega
 rw [Option.bind_some, idx_get hlt, List.getElem?_eq_getElem hlt]; rfl
theorem elem_scalar {v : Val} {R k N : Nat} {L : List Int} (hv : vRight v = true) (h0 : v.Shape.length = 0) (hL : ∀ x ∈ L, 0 ≤ x) (hN : N = pB L k * (1 * qB L k)) : ElemAt v R L k 1 (cyc v N) := fun p1 p2 t h1 h2 ht => by
 obtain ⟨hok, hp, _⟩ := vRight_iff.mp hv
 have hs : v.Shape = [] := List.length_eq_zero_iff.mp h0
 have hd : v.Data.length = 1 := by rw [hs] at hp; simp [prod] at hp; omega
 obtain rfl : t = 0 := by omega
 obtain ⟨q1, q2⟩ := pq k hL
 have r1 := off_range h1
 have r2 := off_range h2
 rw [q1] at r1
 rw [q2] at r2
 unfold M.anamnesisref07_element
 obtain ⟨d, hdd⟩ := List.length_eq_one_iff.mp hd
 have e0 : idx v.Data 0 = some d := by rw [hdd]; rfl
 have hlt : ((off (L.take k) p1).toNat * 1 + 0) * qB L k + (off (L.drop k) p2).toNat < N := by
  rw [hN, Nat.one_mul, Nat.mul_one, Nat.add_zero]
  exact grid_lt (by omega) (by omega)
 rw [if_pos (by simp [h0]), e0, cyc_get hlt, if_neg (by intro h; rw [h] at hd; simp at hd), hd, Nat.mod_one, hdd]
 rfl
theorem rcat_loop {a b : Val} {R k m n : Nat} {L xa xb : List Int} (hk : k ≤ L.length) (hok : shOk (inn L k ((m + n : Nat) : Int))) (ea : ElemAt a R L k m xa) (eb : ElemAt b R L k n xb) :
  wloop (M.anamnesisref07_Catenate_L1 a b (R : Int) (k : Int) (m : Int) (inn L k ((m + n : Nat) : Int)) ((pB L k * ((m + n) * qB L k) : Nat) : Int)) (0, []) = some (.next (vls (catG xa xb m n (qB L k)) (pB L k * ((m + n) * qB L k)))) := by
 have hl := inn_len L ((m + n : Nat) : Int) hk
 have h0 : ∀ x ∈ L, 0 ≤ x := fun x hx => (hok.2.1 x (inn_mem.mpr (.inr hx))).1
 obtain ⟨q1, q2⟩ := pq k h0
 have hcnt := inn_cnt (L := L) (k := k) (m + n) h0
 have hsz := hok.2.2
 have h4 := hok.1
 rw [hcnt] at hsz
 have key := go_loop (F := M.anamnesisref07_Catenate_L1 a b (R : Int) (k : Int) (m : Int) (inn L k ((m + n : Nat) : Int)) ((pB L k * ((m + n) * qB L k) : Nat) : Int)) (fun q => ((q : Int), vls (catG xa xb m n (qB L k)) q)) (.next (vls (catG xa xb m n (qB L k)) (pB L k * ((m + n) * qB L k)))) (pB L k * ((m + n) * qB L k)) (fun q hq => by
  have hpos : allPos (inn L k ((m + n : Nat) : Int)) := allPos_of (fun x hx => (hok.2.1 x hx).1) (by omega)
  have hin := dig_in (s := inn L k ((m + n : Nat) : Int)) (k := (q : Int)) hpos (by omega) (by omega)
  have ho := off_dig (s := inn L k ((m + n : Nat) : Int)) (k := (q : Int)) hpos (by omega) (by omega)
  have hkl : k < (inn L k ((m + n : Nat) : Int)).length := by omega
  unfold M.anamnesisref07_Catenate_L1
  simp only []
  rw [if_pos (by simp only [decide_eq_true_eq]; omega), ref07_At_eq hok (by omega), Option.bind_some]
  generalize dig (inn L k ((m + n : Nat) : Int)) (q : Int) = p at *
  obtain ⟨p1, i, p2, rfl, hp1, g1, g2, g3, g4⟩ := at_axis hin hkl
  rw [inn_take L _ hk] at g1
  rw [inn_drop L _ hk] at g4
  rw [inn_get L _ hk] at g3
  obtain ⟨t, rfl⟩ := Int.eq_ofNat_of_zero_le g2
  have htl : t < m + n := by omega
  have r1 := off_range g1
  have r2 := off_range g4
  rw [q2] at r2
  rw [off_inn g1, q2] at ho
  obtain ⟨I, hI⟩ : ∃ I : Nat, off (L.take k) p1 = I := ⟨(off (L.take k) p1).toNat, by omega⟩
  obtain ⟨c, hc⟩ : ∃ c : Nat, off (L.drop k) p2 = c := ⟨(off (L.drop k) p2).toNat, by omega⟩
  rw [hI, hc] at ho
  rw [hc] at r2
  have hcB : c < qB L k := by omega
  have hqq : (I * (m + n) + t) * qB L k + c = q := by
   have : (((I * (m + n) + t) * qB L k + c : Nat) : Int) = q := by rw [← ho]; simp
   omega
  have d1 : q % qB L k = c := by rw [← hqq]; exact (grid_div hcB).2
  have d2 : q / qB L k = I * (m + n) + t := by rw [← hqq]; exact (grid_div hcB).1
  have hg : catG xa xb m n (qB L k) q = if t < m then (xa[(I * m + t) * qB L k + c]?).getD 0 else (xb[(I * n + (t - m)) * qB L k + c]?).getD 0 := by
   unfold catG
   rw [d1, d2, (grid_div htl).1, (grid_div htl).2]
  have hix : idx (p1 ++ (t : Int) :: p2) (k : Int) = some (t : Int) := by
   rw [idx_nat, List.getElem?_append_right (by omega), hp1, Nat.sub_self]; rfl
  rw [hix, Option.bind_some]
  by_cases htm : t < m
  ·rw [if_pos htm] at hg
   have h1 := ea p1 p2 t g1 g4 htm
   rw [hI, hc, Int.toNat_natCast, Int.toNat_natCast] at h1
   rw [if_pos (by simp only [decide_eq_true_eq]; omega), h1, Option.bind_some, app_ok (by rw [vls_len]; simp; omega), Option.bind_some, w64_id (by omega) (by omega), vls_succ, hg]
   rfl
  ·rw [if_neg htm] at hg
   have h1 := eb p1 p2 (t - m) g1 g4 (by omega)
   rw [hI, hc, Int.toNat_natCast, Int.toNat_natCast] at h1
   have hub : m + n ≤ 10000 := by have := (hok.2.1 ((m + n : Nat) : Int) (inn_mem.mpr (.inl rfl))).2; omega
   have hup : upd (p1 ++ (t : Int) :: p2) (k : Int) ((t - m : Nat) : Int) = some (p1 ++ ((t - m : Nat) : Int) :: p2) := by
    rw [upd_nat (by simp; omega), List.set_append_right _ _ (by omega), hp1, Nat.sub_self]; rfl
   rw [if_neg (by simp only [decide_eq_true_eq]; omega), Option.bind_some, Option.bind_some, show (t : Int) - (m : Int) = ((t - m : Nat) : Int) by omega, w64_id (x := ((t - m : Nat) : Int)) (by omega) (by omega), hup, Option.bind_some, h1, Option.bind_some, app_ok (by rw [vls_len]; simp; omega), Option.bind_some, w64_id (by omega) (by omega), vls_succ, hg]
   rfl) (by
  unfold M.anamnesisref07_Catenate_L1
  simp)
 have ev : vls (catG xa xb m n (qB L k)) 0 = [] := rfl
 simp only [Int.natCast_zero, ev] at key
 exact key
noncomputable def finK (a b : Val) (rank2 axis2 r8 r9 : Int) (x2 : List Int) : Option (Val × Int) :=
     (sub x2 0 axis2).bind fun l1 =>
     (app 8 ([]) l1).bind fun l2 =>
     (app 8 l2 ([(IntKind.i64.wrap (r8 + r9))])).bind fun l3 =>
     (sub x2 axis2 x2.length).bind fun l4 =>
     (app 8 l3 l4).bind fun l5 =>
     (M.anamnesisref07_Size l5).bind fun r10 =>
     if (decide (r10 < 0)) then
      some ((Val.mk false ([]) ([])), 27)
     else
      if (((!(a.Char == b.Char)) && (decide ((a.Data.length : Int) > 0))) && (decide ((b.Data.length : Int) > 0))) then
       some ((Val.mk false ([]) ([])), 23)
      else
       (if (((b.Data.length : Int) == 0) && (decide ((a.Data.length : Int) > 0))) then
        some a.Char
       else
        some b.Char).bind fun Char1 =>
       (wloop (M.anamnesisref07_Catenate_L1 a b rank2 axis2 r8 l5 r10) (0, [])).bind fun k => joinK k fun Data1 =>
       some ((Val.mk Char1 l5 Data1), 0)
theorem finK_eq {a b : Val} {R k m n : Nat} {L xa xb : List Int} (hk : k ≤ L.length) (hL : L.length ≤ 10) (hm : m ≤ 10000) (hn : n ≤ 10000)
  (ea : shOk (inn L k ((m + n : Nat) : Int)) → ElemAt a R L k m xa) (eb : shOk (inn L k ((m + n : Nat) : Int)) → ElemAt b R L k n xb) :
  finK a b (R : Int) (k : Int) (m : Int) (n : Int) L = some (catR a b (besV L k xa xb m n)) := by
 unfold finK catR besV
 have e5 : (L.take k ++ [((m + n : Nat) : Int)]) ++ L.drop k = inn L k ((m + n : Nat) : Int) := by unfold inn; rw [List.append_assoc]; rfl
 rw [sub_take hk, Option.bind_some, app_ok (by simp; omega), List.nil_append, Option.bind_some, w64_id (by omega) (by omega), show (m : Int) + (n : Int) = ((m + n : Nat) : Int) by omega, app_ok (by simp; omega), Option.bind_some, sub_drop hk, Option.bind_some, app_ok (by simp; omega), Option.bind_some, e5,
  ref07_Size_eq (by rw [inn_len L _ hk]; omega), Option.bind_some]
 by_cases hok : shOk (inn L k ((m + n : Nat) : Int))
 case neg =>
  rw [if_neg hok, if_pos (by simp), if_pos hok, if_pos (by simp)]; rfl
 have h0 : ∀ x ∈ L, 0 ≤ x := fun x hx => (hok.2.1 x (inn_mem.mpr (.inr hx))).1
 rw [if_pos hok, inn_cnt _ h0, if_neg (by simp only [decide_eq_true_eq]; omega), if_neg (nn hok), if_neg (nn rfl), rcat_loop hk hok (ea hok) (eb hok)]
 unfold kindOf
 by_cases hc : a.Char = b.Char ∨ a.Data.length = 0
 ·rw [if_neg (by
   simp only [Bool.and_eq_true, Bool.not_eq_true', beq_eq_false_iff_ne, decide_eq_true_eq]
   rintro ⟨⟨h1, h2⟩, _⟩
   rcases hc with h | h
   ·exact h1 h
   ·omega), if_pos hc, if_neg (show ¬ ((b.Char, true) : Bool × Bool).2 = false by simp)]
  have e : (if (((b.Data.length : Int) == 0) && decide ((a.Data.length : Int) > 0)) = true then some a.Char else some b.Char) = some b.Char := by
   split
   ·rename_i h
    simp only [Bool.and_eq_true, beq_iff_eq, decide_eq_true_eq] at h
    rcases hc with h' | h'
    ·rw [h']
    ·omega
   ·rfl
  rw [e]; rfl
 ·have hc1 : a.Char ≠ b.Char := fun h => hc (.inl h)
  have hc2 : a.Data.length ≠ 0 := fun h => hc (.inr h)
  rw [if_neg hc]
  by_cases hb : b.Data.length = 0
  ·rw [if_neg (by simp only [Bool.and_eq_true, decide_eq_true_eq]; omega), if_pos hb, if_neg (show ¬ ((a.Char, true) : Bool × Bool).2 = false by simp), if_pos (by simp only [Bool.and_eq_true, beq_iff_eq, decide_eq_true_eq]; omega)]
   rfl
  ·rw [if_pos (by
    simp only [Bool.and_eq_true, Bool.not_eq_true', beq_eq_false_iff_ne, decide_eq_true_eq]
    exact ⟨⟨hc1, by omega⟩, by omega⟩), if_neg hb, if_pos rfl]
   rfl
theorem rlong_eq {v : Val} {R k : Nat} (hok : shOk v.Shape) (hk : v.Shape.length = R → k < R) : M.anamnesisref07_length v (R : Int) (k : Int) = some ((if v.Shape.length = R then lenAt v.Shape k else 1 : Nat) : Int) := by
 unfold M.anamnesisref07_length
 by_cases h : v.Shape.length = R
 ·have hkl := hk h
  rw [if_pos (by simp only [Bool.and_eq_true, beq_iff_eq, decide_eq_true_eq]; omega), idx_get (show k < v.Shape.length by omega), if_pos h, (lenAt_eq hok (by omega)).1]
  rfl
 ·rw [if_neg (by simp only [Bool.and_eq_true, beq_iff_eq, decide_eq_true_eq]; omega), if_neg h]; rfl
theorem racross_eq {v : Val} {R k : Nat} (hl : v.Shape.length ≤ 10) (hk : k ≤ 100) : M.anamnesisref07_across v (R : Int) (k : Int) = some (if v.Shape.length = R then (wo v.Shape k, true) else (v.Shape, decide (0 < v.Shape.length))) := by
 unfold M.anamnesisref07_across
 by_cases h : v.Shape.length = R
 ·rw [if_pos (by simp only [beq_iff_eq]; omega), if_pos h, rwithout_eq (by omega) hk]; rfl
 ·rw [if_neg (by simp only [beq_iff_eq]; omega), if_neg h]
  congr 2
  rw [Bool.eq_iff_iff]; simp
theorem ref07_Catenate_eq {a b : Val} {axis : Int} (da : a.Data.length ≤ 1000000) (db : b.Data.length ≤ 1000000) (hax : -9223372036854775808 ≤ axis ∧ axis ≤ 9223372036854775807) : M.anamnesisref07_Catenate a b axis = some (catF a b axis) := by
 have hmax : maxLen = 9223372036854775807 := rfl
 unfold M.anamnesisref07_Catenate catF
 rw [ref02_Right_eq (by omega), ref02_Right_eq (by omega)]
 simp only [Option.bind_some]
 by_cases hv : vRight a = false ∨ vRight b = false
 ·rw [if_pos hv]
  rcases hv with h | h
  ·rw [h]; rfl
  ·rw [h]; cases vRight a <;> rfl
 have hva : vRight a = true := by
  cases h : vRight a with
  | true => rfl
  | false => exact absurd (.inl h) hv
 have hvb : vRight b = true := by
  cases h : vRight b with
  | true => rfl
  | false => exact absurd (.inr h) hv
 rw [if_neg hv, hva, hvb]
 simp only [Bool.not_true, Bool.false_eq_true, if_false, Option.bind_some]
 obtain ⟨oka, pa, _⟩ := vRight_iff.mp hva
 obtain ⟨okb, pb, _⟩ := vRight_iff.mp hvb
 have a4 := oka.1
 have b4 := okb.1
 have a0 : ∀ x ∈ a.Shape, 0 ≤ x := fun x hx => (oka.2.1 x hx).1
 have b0 : ∀ x ∈ b.Shape, 0 ≤ x := fun x hx => (okb.2.1 x hx).1
 have emax : (if decide ((b.Shape.length : Int) > (a.Shape.length : Int)) = true then some (b.Shape.length : Int) else some (a.Shape.length : Int)) = some ((max a.Shape.length b.Shape.length : Nat) : Int) := by
  by_cases h : a.Shape.length < b.Shape.length
  ·rw [if_pos (by simp only [decide_eq_true_eq]; omega)]; congr 1; omega
  ·rw [if_neg (by simp only [decide_eq_true_eq]; omega)]; congr 1; omega
 rw [emax]
 simp only [Option.bind_some]
 by_cases hbad : axis < -1 ∨ axis ≥ ((max a.Shape.length b.Shape.length : Nat) : Int)
 ·rw [if_pos (by simp only [Bool.or_eq_true, decide_eq_true_eq]; exact hbad), if_pos hbad]; rfl
 rw [if_neg (by simp only [Bool.or_eq_true, decide_eq_true_eq]; exact hbad), if_neg hbad]
 obtain ⟨R, hR⟩ : ∃ R : Nat, R = if max a.Shape.length b.Shape.length = 0 then 1 else max a.Shape.length b.Shape.length := ⟨_, rfl⟩
 have hR4 : R ≤ 4 := by rw [hR]; split <;> omega
 have e1 : (if (((max a.Shape.length b.Shape.length : Nat) : Int) == 0) = true then some (1 : Int) else some ((max a.Shape.length b.Shape.length : Nat) : Int)) = some (R : Int) := by
  rw [hR]
  by_cases h : max a.Shape.length b.Shape.length = 0
  ·rw [if_pos (by simp only [beq_iff_eq]; omega), if_pos h]; rfl
  ·rw [if_neg (by simp only [beq_iff_eq]; omega), if_neg h]
 rw [e1]
 simp only [Option.bind_some]
 have ek : (if decide (axis < 0) = true then some (IntKind.i64.wrap ((R : Int) - 1)) else some axis) = some ((axC a b axis : Nat) : Int) := by
  unfold axC
  by_cases h : axis = -1
  ·rw [if_pos (by simp only [decide_eq_true_eq]; omega), if_pos h, w64_id (by omega) (by omega), hR]
   congr 1; split <;> omega
  ·rw [if_neg (by simp only [decide_eq_true_eq]; omega), if_neg h]
   congr 1; omega
 have hkR : axC a b axis < R := by
  unfold axC; rw [hR]; split <;> split <;> omega
 rw [ek]
 generalize axC a b axis = k at *
 simp only [Option.bind_some]
 rw [w64_id (by omega) (by omega), w64_id (by omega) (by omega)]
 by_cases hfar : 0 < a.Shape.length ∧ 0 < b.Shape.length ∧ (b.Shape.length + 1 < a.Shape.length ∨ a.Shape.length + 1 < b.Shape.length)
 ·rw [if_pos (by simp only [Bool.and_eq_true, Bool.or_eq_true, decide_eq_true_eq]; omega)]
  unfold catM
  rw [if_neg (by omega), if_neg (by omega), if_neg (by omega), if_neg (by omega), if_neg (by omega)]
  rfl
 rw [if_neg (by simp only [Bool.and_eq_true, Bool.or_eq_true, decide_eq_true_eq]; omega), racross_eq (by omega) (by omega), racross_eq (by omega) (by omega), rlong_eq oka (fun h => by omega), rlong_eq okb (fun h => by omega)]
 simp only [Option.bind_some]
 unfold catM
 by_cases hab : a.Shape.length = b.Shape.length
 ·rw [if_pos hab]
  by_cases ra : a.Shape.length = 0
  ·have rb : b.Shape.length = 0 := by omega
   have sa : a.Shape = [] := List.length_eq_zero_iff.mp ra
   have sb : b.Shape = [] := List.length_eq_zero_iff.mp rb
   have hR1 : R = 1 := by rw [hR, if_pos (by omega)]
   have hk0 : k = 0 := by omega
   subst hk0 hR1
   have da1 : a.Data.length = 1 := by rw [sa] at pa; simp [prod] at pa; omega
   have db1 : b.Data.length = 1 := by rw [sb] at pb; simp [prod] at pb; omega
   rw [if_pos ra, if_neg (show ¬ a.Shape.length = 1 by omega), if_neg (show ¬ b.Shape.length = 1 by omega), if_neg (show ¬ a.Shape.length = 1 by omega), if_neg (show ¬ b.Shape.length = 1 by omega)]
   simp only []
   rw [ra, rb]
   have d0 : decide (0 < 0) = false := rfl
   rw [d0]
   have ca : cyc a 1 = a.Data := by rw [← da1]; exact cyc_self
   have cb : cyc b 1 = b.Data := by rw [← db1]; exact cyc_self
   have := finK_eq (a := a) (b := b) (R := 1) (k := 0) (m := 1) (n := 1) (L := []) (xa := a.Data) (xb := b.Data) (by simp) (by simp) (by omega) (by omega)
    (fun _ => by rw [← ca]; exact elem_scalar hva ra (by simp) rfl) (fun _ => by rw [← cb]; exact elem_scalar hvb rb (by simp) rfl)
   exact this
  ·rw [if_neg ra]
   have hRa : a.Shape.length = R := by rw [hR, if_neg (by omega)]; omega
   have hRb : b.Shape.length = R := by omega
   have ka : k < a.Shape.length := by omega
   have kb : k < b.Shape.length := by omega
   rw [if_pos hRa, if_pos hRb, if_pos hRa, if_pos hRb]
   simp only [Bool.and_self, if_true]
   rw [rsame_eq (by have := wo_len' ka; omega)]
   simp only [Option.bind_some]
   by_cases hw : wo a.Shape k = wo b.Shape k
   ·rw [if_neg (nn hw), decide_eq_true hw]
    obtain ⟨m1, m2⟩ := lenAt_eq oka ka
    obtain ⟨n1, n2⟩ := lenAt_eq okb kb
    have ea := inn_of ka
    have eb := inn_of kb
    rw [m1] at ea
    rw [n1, ← hw] at eb
    have hwl := wo_len' ka
    exact finK_eq (a := a) (b := b) (R := R) (k := k) (L := wo a.Shape k) (by omega) (by omega) m2 n2 (fun _ => elem_full hva ea hRa (by omega)) (fun _ => elem_full hvb eb hRb (by omega))
   ·rw [if_pos hw, decide_eq_false hw]; rfl
 rw [if_neg hab]
 have hRm : R = max a.Shape.length b.Shape.length := by rw [hR, if_neg (by omega)]
 by_cases ra : a.Shape.length = 0
 ·have hRb : b.Shape.length = R := by omega
  have kb : k < b.Shape.length := by omega
  rw [if_pos ra, if_neg (show ¬ a.Shape.length = R by omega), if_pos hRb, if_neg (show ¬ a.Shape.length = R by omega), if_pos hRb]
  simp only []
  rw [ra]
  have d0 : decide (0 < 0) = false := rfl
  rw [d0]
  obtain ⟨n1, n2⟩ := lenAt_eq okb kb
  have eb := inn_of kb
  rw [n1] at eb
  have hwl := wo_len' kb
  have h0 : ∀ x ∈ wo b.Shape k, 0 ≤ x := fun x hx => by
   have : x ∈ b.Shape := by rw [eb]; exact inn_mem.mpr (.inr hx)
   exact b0 x this
  exact finK_eq (a := a) (b := b) (R := R) (k := k) (m := 1) (L := wo b.Shape k) (by omega) (by omega) (by omega) n2 (fun h => elem_scalar hva ra h0 (fillN_ok (inn_ok (by omega) (by omega) h).1)) (fun _ => elem_full hvb eb hRb (by omega))
 rw [if_neg ra]
 by_cases rb : b.Shape.length = 0
 ·have hRa : a.Shape.length = R := by omega
  have ka : k < a.Shape.length := by omega
  rw [if_pos rb, if_pos hRa, if_neg (show ¬ b.Shape.length = R by omega), if_pos hRa, if_neg (show ¬ b.Shape.length = R by omega)]
  simp only []
  rw [rb]
  have d0 : decide (0 < 0) = false := rfl
  rw [d0]
  obtain ⟨m1, m2⟩ := lenAt_eq oka ka
  have ea := inn_of ka
  rw [m1] at ea
  have hwl := wo_len' ka
  have h0 : ∀ x ∈ wo a.Shape k, 0 ≤ x := fun x hx => by
   have : x ∈ a.Shape := by rw [ea]; exact inn_mem.mpr (.inr hx)
   exact a0 x this
  exact finK_eq (a := a) (b := b) (R := R) (k := k) (n := 1) (L := wo a.Shape k) (by omega) (by omega) m2 (by omega) (fun _ => elem_full hva ea hRa (by omega)) (fun h => elem_scalar hvb rb h0 (fillN_ok (inn_ok (by omega) (by omega) h).1))
 rw [if_neg rb]
 by_cases r1 : a.Shape.length + 1 = b.Shape.length
 ·have hRb : b.Shape.length = R := by omega
  have kb : k < b.Shape.length := by omega
  rw [if_pos r1, if_neg (show ¬ a.Shape.length = R by omega), if_pos hRb, if_neg (show ¬ a.Shape.length = R by omega), if_pos hRb]
  simp only []
  rw [decide_eq_true (show 0 < a.Shape.length by omega)]
  simp only [Bool.and_self, if_true]
  rw [rsame_eq (by omega)]
  simp only [Option.bind_some]
  by_cases hw : a.Shape = wo b.Shape k
  ·rw [if_neg (nn hw), decide_eq_true hw]
   obtain ⟨n1, n2⟩ := lenAt_eq okb kb
   have eb := inn_of kb
   rw [n1, ← hw] at eb
   exact finK_eq (a := a) (b := b) (R := R) (k := k) (m := 1) (L := a.Shape) (by omega) (by omega) (by omega) n2 (fun _ => elem_less hva ra (by omega) (by omega)) (fun _ => elem_full hvb eb hRb (by omega))
  ·rw [if_pos hw, decide_eq_false hw]; rfl
 rw [if_neg r1]
 have r2 : b.Shape.length + 1 = a.Shape.length := by omega
 rw [if_pos r2]
 have hRa : a.Shape.length = R := by omega
 have ka : k < a.Shape.length := by omega
 rw [if_pos hRa, if_neg (show ¬ b.Shape.length = R by omega), if_pos hRa, if_neg (show ¬ b.Shape.length = R by omega)]
 simp only []
 rw [decide_eq_true (show 0 < b.Shape.length by omega)]
 simp only [Bool.and_self, if_true]
 rw [rsame_eq (by have := wo_len' ka; omega)]
 simp only [Option.bind_some]
 by_cases hw : wo a.Shape k = b.Shape
 ·rw [if_neg (nn hw), decide_eq_true hw]
  obtain ⟨m1, m2⟩ := lenAt_eq oka ka
  have ea := inn_of ka
  rw [m1, hw] at ea
  have := finK_eq (a := a) (b := b) (R := R) (k := k) (n := 1) (L := b.Shape) (by omega) (by omega) m2 (by omega) (fun _ => elem_full hva ea hRa (by omega)) (fun _ => elem_less hvb rb (by omega) (by omega))
  rw [hw]
  exact this
 ·rw [if_pos hw, decide_eq_false hw]; rfl
theorem ref02_Copy_eq {v : Val} (hs : v.Shape.length ≤ 1000000) (hd : v.Data.length ≤ 1000000) : M.anamnesisref02_Copy v = some v := by
 unfold M.anamnesisref02_Copy
 rw [app_ok (by simp; omega), Option.bind_some, app_ok (by simp; omega)]
 rfl
theorem besV_bd {L : List Int} {k m n : Nat} {xa xb : List Int} (hk : k ≤ L.length) : (besV L k xa xb m n).1.Shape.length ≤ maxLen ∧ (besV L k xa xb m n).1.Data.length ≤ maxLen := by
 have hmax : maxLen = 9223372036854775807 := rfl
 unfold besV
 split
 ·exact ⟨by simp [zV], by simp [zV]⟩
 ·rename_i h
  have hok : shOk (inn L k ((m + n : Nat) : Int)) := Classical.byContradiction h
  have h0 : ∀ x ∈ L, 0 ≤ x := fun x hx => (hok.2.1 x (inn_mem.mpr (.inr hx))).1
  have hs := hok.2.2
  rw [inn_cnt _ h0] at hs
  have h4 := hok.1
  refine ⟨by simp only []; omega, ?_⟩
  simp only []
  rw [vls_len]
  omega
theorem catR_bd {a b : Val} {r : Val × Int} (h : r.1.Shape.length ≤ maxLen ∧ r.1.Data.length ≤ maxLen) : (catR a b r).1.Shape.length ≤ maxLen ∧ (catR a b r).1.Data.length ≤ maxLen := by
 unfold catR
 split
 ·exact ⟨by simp [zV], by simp [zV]⟩
 ·split
  ·exact ⟨by simp [zV], by simp [zV]⟩
  ·exact h
theorem catF_bd {a b : Val} {axis : Int} (ha : a.Shape.length ≤ 10) (hb : b.Shape.length ≤ 10) : (catF a b axis).1.Shape.length ≤ maxLen ∧ (catF a b axis).1.Data.length ≤ maxLen := by
 have z : (zV : Val).Shape.length ≤ maxLen ∧ (zV : Val).Data.length ≤ maxLen := ⟨by simp [zV], by simp [zV]⟩
 unfold catF
 split
 ·exact z
 split
 ·exact z
 rename_i h1 h2
 have hk : axC a b axis ≤ max a.Shape.length b.Shape.length - 1 := by
  unfold axC; split <;> omega
 generalize axC a b axis = k at hk
 have w : ∀ s : List Int, 0 < s.length → k < s.length → k ≤ (wo s k).length := fun s _ h => by rw [wo_len' h]; omega
 unfold catM
 split
 ·split
  ·exact catR_bd (besV_bd (by simp))
  ·split
   ·exact z
   ·exact catR_bd (besV_bd (w _ (by omega) (by omega)))
 split
 ·exact catR_bd (besV_bd (w _ (by omega) (by omega)))
 split
 ·exact catR_bd (besV_bd (w _ (by omega) (by omega)))
 split
 ·split
  ·exact z
  ·exact catR_bd (besV_bd (by omega))
 split
 ·split
  ·exact z
  ·exact catR_bd (besV_bd (by omega))
 ·exact z
theorem joinBeside_true (a b : Val) (axis : Int) (ga : (∀ x ∈ a.Shape, (Lit.int .i64 x).wf = true) ∧ (∀ x ∈ a.Data, (Lit.int .i64 x).wf = true) ∧ a.Shape.length ≤ maxLen ∧ a.Data.length ≤ maxLen)
  (gb : (∀ x ∈ b.Shape, (Lit.int .i64 x).wf = true) ∧ (∀ x ∈ b.Data, (Lit.int .i64 x).wf = true) ∧ b.Shape.length ≤ maxLen ∧ b.Data.length ≤ maxLen) (gx : (Lit.int .i64 axis).wf = true) : M.anamnesislaw07_JoinBeside a b axis = some true := by
 have hmax : maxLen = 9223372036854775807 := rfl
 have hx := wf64 gx
 unfold M.anamnesislaw07_JoinBeside M.anamnesislaw07_Great
 simp only [Option.bind_some]
 by_cases h1 : 2000 < a.Data.length ∨ 10 < a.Shape.length
 ·rw [if_pos (by simp only [Bool.or_eq_true, decide_eq_true_eq]; omega)]; rfl
 rw [if_neg (by simp only [Bool.or_eq_true, decide_eq_true_eq]; omega)]
 simp only [Option.bind_some]
 by_cases h2 : 2000 < b.Data.length ∨ 10 < b.Shape.length
 ·rw [if_pos (by simp only [Bool.or_eq_true, decide_eq_true_eq]; omega)]
 rw [if_neg (by simp only [Bool.or_eq_true, decide_eq_true_eq]; omega), ref02_Copy_eq (by omega) (by omega), ref02_Copy_eq (by omega) (by omega), join_Catenate_eq (by omega) (by omega) hx, ref07_Catenate_eq (by omega) (by omega) hx]
 simp only [Option.bind_some]
 obtain ⟨b1, b2⟩ := catF_bd (a := a) (b := b) (axis := axis) (by omega) (by omega)
 have ht : M.anamnesislaw07_told (catF a b axis).1 (catF a b axis).2 (catF a b axis).1 (catF a b axis).2 = some true := by
  unfold M.anamnesislaw07_told
  rw [if_pos (by simp), ref02_Same_eq b1 b2, vSame_refl]; rfl
 rw [ht]
 simp only [Option.bind_some, if_true]
 rw [ref02_Same_eq (by omega) (by omega), vSame_refl, ref02_Same_eq (by omega) (by omega), vSame_refl]
 rfl

end Go.Proofs.Ytaedfhikoamfeaa.joinBeside
