/- JoinShapes: what the code that the law reaches computes, as plain functions; and that the law comes to true. -/
import Derived.Test.YtaedfhikoamfeaaAmU
set_option linter.unusedVariables false
set_option linter.unusedSimpArgs false
set_option maxRecDepth 100000
open Go Go.Am
namespace Go.Proofs.Ytaedfhikoamfeaa.joinShapes
noncomputable def M.anamnesislaw07_Great (v1 : Val) : Option (Bool) :=
  some ((decide ((v1.Data.length : Int) > 2000)) || (decide ((v1.Shape.length : Int) > 10)))
noncomputable def M.slices_IndexFunc__Value_L1 (s1 : (List Val)) (f1 : (Val → Option (Bool))) (s : Int) : Option (Ctl (Int) (Ctl (Unit) (Int))) :=
  match s with
  | t1 =>
    if (decide (t1 < (s1.length : Int))) then
      (idx s1 t1).bind fun y1 =>
      (f1 y1).bind fun r1 =>
      if r1 then
        some (.done (.done t1))
      else
        some (.next (IntKind.i64.wrap (t1 + 1)))
    else
      some (.done (.next ()))
noncomputable def M.slices_IndexFunc__Value (s1 : (List Val)) (f1 : (Val → Option (Bool))) : Option (Int) :=
  (wloop (M.slices_IndexFunc__Value_L1 s1 f1) 0).bind fun k => joinK k fun _ =>
  some (-1)
noncomputable def M.slices_ContainsFunc__Value (s1 : (List Val)) (f1 : (Val → Option (Bool))) : Option (Bool) :=
  (M.slices_IndexFunc__Value s1 f1).bind fun r1 =>
  some (decide (r1 ≥ 0))
noncomputable def M.slices_IndexFunc__int64_L1 (s1 : (List Int)) (f1 : (Int → Option (Bool))) (s : Int) : Option (Ctl (Int) (Ctl (Unit) (Int))) :=
  match s with
  | t1 =>
    if (decide (t1 < (s1.length : Int))) then
      (idx s1 t1).bind fun y1 =>
      (f1 y1).bind fun r1 =>
      if r1 then
        some (.done (.done t1))
      else
        some (.next (IntKind.i64.wrap (t1 + 1)))
    else
      some (.done (.next ()))
noncomputable def M.slices_IndexFunc__int64 (s1 : (List Int)) (f1 : (Int → Option (Bool))) : Option (Int) :=
  (wloop (M.slices_IndexFunc__int64_L1 s1 f1) 0).bind fun k => joinK k fun _ =>
  some (-1)
noncomputable def M.slices_ContainsFunc__int64 (s1 : (List Int)) (f1 : (Int → Option (Bool))) : Option (Bool) :=
  (M.slices_IndexFunc__int64 s1 f1).bind fun r1 =>
  some (decide (r1 ≥ 0))
noncomputable def M.unicode_utf8_ValidRune (r1 : Int) : Option (Bool) :=
  if ((decide (0 ≤ r1)) && (decide (r1 < 55296))) then
    some true
  else
    if ((decide (57343 < r1)) && (decide (r1 ≤ 1114111))) then
      some true
    else
      some false
noncomputable def M.value_character (n1 : Int) : Option (Bool) :=
  (if ((decide (n1 ≥ 0)) && (decide (n1 ≤ 1114111))) then
  (M.unicode_utf8_ValidRune (IntKind.i32.wrap n1)).bind fun r1 =>
  some r1 else
  some false).bind fun c2 =>
  some c2
noncomputable def M.value_Right_1 (n1 : Int) : Option (Bool) :=
  (M.value_character n1).bind fun r1 =>
  some (!r1)
noncomputable def M.value_Right_L1 (v1 : Val) (s : Int × Int) : Option (Ctl (Int × Int) (Ctl (Int) (Bool))) :=
  match s with
  | (size1, t1) =>
    if (decide (t1 < (v1.Shape.length : Int))) then
      (idx v1.Shape t1).bind fun y1 =>
      if ((decide (y1 < 0)) || (decide (y1 > 10000))) then
        some (.done (.done false))
      else
        some (.next ((IntKind.i64.wrap (size1 * y1)), (IntKind.i64.wrap (t1 + 1))))
    else
      some (.done (.next size1))
noncomputable def M.value_Right (v1 : Val) : Option (Bool) :=
  if (decide ((v1.Shape.length : Int) > 4)) then
    some false
  else
    (wloop (M.value_Right_L1 v1) (1, 0)).bind fun k => joinK k fun size1 =>
    if ((decide (size1 > 10000)) || (size1 != (v1.Data.length : Int))) then
      some false
    else
      (if (!v1.Char) then
      some true else
      (M.slices_ContainsFunc__int64 v1.Data (fun x0 => M.value_Right_1 x0)).bind fun r1 =>
      some (!r1)).bind fun c4 =>
      some c4
noncomputable def M.join_whole_1 (v1 : Val) : Option (Bool) :=
  (M.value_Right v1).bind fun r1 =>
  some (!r1)
noncomputable def M.join_whole (l1 : (List Val)) : Option (Bool) :=
  (M.slices_ContainsFunc__Value l1 (fun x0 => M.join_whole_1 x0)).bind fun r1 =>
  some (!r1)
noncomputable def M.join_lengths_1 (n1 : Int) : Option (Bool) :=
  some (decide (n1 < 0))
noncomputable def M.join_lengths_L1 (a1 : Val) (s : (List Int) × Int) : Option (Ctl ((List Int) × Int) (Ctl ((List Int)) ((List Int) × Int))) :=
  match s with
  | (s1, t1) =>
    if (decide (t1 < (a1.Data.length : Int))) then
      (idx a1.Data t1).bind fun y1 =>
      (app 8 s1 ([(if 10001 < y1 then 10001 else y1)])).bind fun l1 =>
      some (.next (l1, (IntKind.i64.wrap (t1 + 1))))
    else
      some (.done (.next s1))
noncomputable def M.join_lengths (a1 : Val) : Option ((List Int) × Int) :=
  if (decide ((a1.Shape.length : Int) > 1)) then
    some ([], 24)
  else
    (if (a1.Char && (decide ((a1.Data.length : Int) > 0))) then
    some true else
    (M.slices_ContainsFunc__int64 a1.Data (fun x0 => M.join_lengths_1 x0)).bind fun r1 =>
    some r1).bind fun c2 =>
    if c2 then
      some ([], 23)
    else
      if (decide ((a1.Data.length : Int) > 4)) then
        some ([], 24)
      else
        (wloop (M.join_lengths_L1 a1) (([] : List Int), 0)).bind fun k => joinK k fun s1 =>
        some (s1, 0)
noncomputable def M.slices_IndexFunc__int_L1 (s1 : (List Int)) (f1 : (Int → Option (Bool))) (s : Int) : Option (Ctl (Int) (Ctl (Unit) (Int))) :=
  match s with
  | t1 =>
    if (decide (t1 < (s1.length : Int))) then
      (idx s1 t1).bind fun y1 =>
      (f1 y1).bind fun r1 =>
      if r1 then
        some (.done (.done t1))
      else
        some (.next (IntKind.i64.wrap (t1 + 1)))
    else
      some (.done (.next ()))
noncomputable def M.slices_IndexFunc__int (s1 : (List Int)) (f1 : (Int → Option (Bool))) : Option (Int) :=
  (wloop (M.slices_IndexFunc__int_L1 s1 f1) 0).bind fun k => joinK k fun _ =>
  some (-1)
noncomputable def M.slices_ContainsFunc__int (s1 : (List Int)) (f1 : (Int → Option (Bool))) : Option (Bool) :=
  (M.slices_IndexFunc__int s1 f1).bind fun r1 =>
  some (decide (r1 ≥ 0))
noncomputable def M.shape_Size_1 (n1 : Int) : Option (Bool) :=
  some (decide (n1 < 0))
noncomputable def M.shape_Size_2 (n1 : Int) : Option (Bool) :=
  some (decide (n1 > 10000))
noncomputable def M.shape_product_L1 (s1 : (List Int)) (s : Int × Int) : Option (Ctl (Int × Int) (Ctl (Int) (Int))) :=
  match s with
  | (p1, t1) =>
    if (decide (t1 < (s1.length : Int))) then
      (idx s1 t1).bind fun y1 =>
      some (.next ((IntKind.i64.wrap (p1 * y1)), (IntKind.i64.wrap (t1 + 1))))
    else
      some (.done (.next p1))
noncomputable def M.shape_product (s1 : (List Int)) : Option (Int) :=
  (wloop (M.shape_product_L1 s1) (1, 0)).bind fun k => joinK k fun p1 =>
  some p1
noncomputable def M.shape_Size (s1 : (List Int)) : Option (Int × Int) :=
  if (decide ((s1.length : Int) > 4)) then
    some (0, 24)
  else
    (M.slices_ContainsFunc__int s1 (fun x0 => M.shape_Size_1 x0)).bind fun r1 =>
    if r1 then
      some (0, 1)
    else
      ((M.slices_ContainsFunc__int s1 (fun x0 => M.shape_Size_2 x0)).bind fun r2 =>
      if r2 then
        some r2
      else
        (M.shape_product s1).bind fun r3 =>
        some (decide (r3 > 10000))).bind fun t1 =>
      if t1 then
        some (0, 27)
      else
        (M.shape_product s1).bind fun r4 =>
        some (r4, 0)
noncomputable def M.join_Reshape_1 (n1 : Int) : Option (Bool) :=
  some (decide (n1 > 10000))
noncomputable def M.value_Fill (v1 : Val) : Option (Int) :=
  if v1.Char then
    some 32
  else
    some 0
noncomputable def M.join_filled_L1 (v2 : Val) (l1 : List Int) (s : Int × (List Int)) : Option (Ctl (Int × (List Int)) (Ctl ((List Int)) ((List Int)))) :=
  match s with
  | (t1, l3) =>
    if (decide (t1 < (l1.length : Int))) then
      (M.value_Fill v2).bind fun r1 =>
      (idx l3 t1).bind fun y1 =>
      (upd l3 t1 r1).bind fun l4 =>
      some (.next ((IntKind.i64.wrap (t1 + 1)), l4))
    else
      some (.done (.next l3))
noncomputable def M.join_filled_L2 (size1 : Int) (v2 : Val) (s : Int × (List Int)) : Option (Ctl (Int × (List Int)) (Ctl ((List Int)) (Val))) :=
  match s with
  | (at1, l5) =>
    if ((decide (at1 < size1)) && (decide ((v2.Data.length : Int) > 0))) then
      (sub l5 at1 l5.length).bind fun l6 =>
      some (.next ((IntKind.i64.wrap (at1 + ((min v2.Data.length l6.length : Nat) : Int))), (cpy l5 (Int.toNat at1) l6.length v2.Data)))
    else
      some (.done (.next l5))
noncomputable def M.join_filled (s1 : (List Int)) (size1 : Int) (v2 : Val) : Option (Val) :=
  (mk 8 (0 : Int) size1 size1).bind fun l1 =>
  (if ((v2.Data.length : Int) == 0) then
    (wloop (M.join_filled_L1 v2 l1) (0, l1)).bind fun k => joinK k fun l3 =>
    some l3
  else
    some l1).bind fun l2 =>
  (wloop (M.join_filled_L2 size1 v2) (0, l2)).bind fun k => joinK k fun l5 =>
  some (Val.mk v2.Char s1 l5)
noncomputable def M.join_Reshape (a1 : Val) (b1 : Val) : Option (Val × Int) :=
  (M.join_whole ([a1, b1])).bind fun r1 =>
  if (!r1) then
    some ((Val.mk false ([]) ([])), 1)
  else
    (M.join_lengths a1).bind fun (r2, r3) =>
    if (r3 != 0) then
      some ((Val.mk false ([]) ([])), r3)
    else
      (M.shape_Size r2).bind fun (r4, r5) =>
      (if (r5 != 0) then
      some true else
      (M.slices_ContainsFunc__int r2 (fun x0 => M.join_Reshape_1 x0)).bind fun r6 =>
      some r6).bind fun c1 =>
      if c1 then
        some ((Val.mk false ([]) ([])), 27)
      else
        (M.join_filled r2 r4 b1).bind fun r7 =>
        some (r7, 0)
noncomputable def M.anamnesisref02_Right_L2 (v1 : Val) (s : Int) : Option (Ctl (Int) (Ctl (Unit) (Bool))) :=
  match s with
  | i2 =>
    if ((decide (i2 < (v1.Data.length : Int))) && v1.Char) then
      (idx v1.Data i2).bind fun y4 =>
      if (((decide (y4 < 0)) || (decide (y4 > 1114111))) || ((decide (y4 ≥ 55296)) && (decide (y4 ≤ 57343)))) then
        some (.done (.done false))
      else
        some (.next (IntKind.i64.wrap (i2 + 1)))
    else
      some (.done (.next ()))
noncomputable def M.anamnesisref02_Right_L1 (v1 : Val) (s : Int × Int) : Option (Ctl (Int × Int) (Ctl (Int) (Bool))) :=
  match s with
  | (size1, i1) =>
    if (decide (i1 < (v1.Shape.length : Int))) then
      (idx v1.Shape i1).bind fun y1 =>
      (if (decide (y1 < 0)) then
      some true else
      (idx v1.Shape i1).bind fun y2 =>
      some (decide (y2 > 10000))).bind fun c2 =>
      if c2 then
        some (.done (.done false))
      else
        (idx v1.Shape i1).bind fun y3 =>
        some (.next ((IntKind.i64.wrap (size1 * y3)), (IntKind.i64.wrap (i1 + 1))))
    else
      some (.done (.next size1))
noncomputable def M.anamnesisref02_Right (v1 : Val) : Option (Bool) :=
  if (decide ((v1.Shape.length : Int) > 4)) then
    some false
  else
    (wloop (M.anamnesisref02_Right_L1 v1) (1, 0)).bind fun k => joinK k fun size1 =>
    (wloop (M.anamnesisref02_Right_L2 v1) 0).bind fun k => joinK k fun _ =>
    some ((size1 == (v1.Data.length : Int)) && (decide (size1 ≤ 10000)))
noncomputable def M.anamnesisref07_Size_L1 (s1 : (List Int)) (s : Int × Int) : Option (Ctl (Int × Int) (Ctl (Int) (Int))) :=
  match s with
  | (size1, i1) =>
    if (decide (i1 < (s1.length : Int))) then
      (idx s1 i1).bind fun y1 =>
      (if (decide (y1 < 0)) then
      some true else
      (idx s1 i1).bind fun y2 =>
      some (decide (y2 > 10000))).bind fun c2 =>
      if c2 then
        some (.done (.done (-1)))
      else
        (idx s1 i1).bind fun y3 =>
        some (.next ((IntKind.i64.wrap (size1 * y3)), (IntKind.i64.wrap (i1 + 1))))
    else
      some (.done (.next size1))
noncomputable def M.anamnesisref07_Size (s1 : (List Int)) : Option (Int) :=
  if (decide ((s1.length : Int) > 4)) then
    some (-1)
  else
    (wloop (M.anamnesisref07_Size_L1 s1) (1, 0)).bind fun k => joinK k fun size1 =>
    if (decide (size1 > 10000)) then
      some (-1)
    else
      some size1
noncomputable def M.anamnesisref07_Reshape_L3 (b1 : Val) (r3 : Int) (s : Int × (List Int)) : Option (Ctl (Int × (List Int)) (Ctl ((List Int)) (Val × Int))) :=
  match s with
  | (k3, Data1) =>
    if (decide (k3 < r3)) then
      if (decide ((b1.Data.length : Int) > 0)) then
        (remI k3 (b1.Data.length : Int)).bind fun q1 =>
        (idx b1.Data q1).bind fun y4 =>
        (app 8 Data1 ([y4])).bind fun l2 =>
        some (.next ((IntKind.i64.wrap (k3 + 1)), l2))
      else
        if b1.Char then
          (app 8 Data1 ([32])).bind fun l3 =>
          some (.next ((IntKind.i64.wrap (k3 + 1)), l3))
        else
          (app 8 Data1 ([0])).bind fun l4 =>
          some (.next ((IntKind.i64.wrap (k3 + 1)), l4))
    else
      some (.done (.next Data1))
noncomputable def M.anamnesisref07_Reshape_L2 (a1 : Val) (s : (List Int) × Int) : Option (Ctl ((List Int) × Int) (Ctl ((List Int)) (Val × Int))) :=
  match s with
  | (s1, i2) =>
    if (decide (i2 < (a1.Data.length : Int))) then
      (idx a1.Data i2).bind fun y2 =>
      if (decide (y2 > 10000)) then
        some (.done (.done ((Val.mk false ([]) ([])), 27)))
      else
        (idx a1.Data i2).bind fun y3 =>
        (app 8 s1 ([y3])).bind fun l1 =>
        some (.next (l1, (IntKind.i64.wrap (i2 + 1))))
    else
      some (.done (.next s1))
noncomputable def M.anamnesisref07_Reshape_L1 (a1 : Val) (s : Int) : Option (Ctl (Int) (Ctl (Unit) (Val × Int))) :=
  match s with
  | i1 =>
    if (decide (i1 < (a1.Data.length : Int))) then
      (if a1.Char then
      some true else
      (idx a1.Data i1).bind fun y1 =>
      some (decide (y1 < 0))).bind fun c3 =>
      if c3 then
        some (.done (.done ((Val.mk false ([]) ([])), 23)))
      else
        some (.next (IntKind.i64.wrap (i1 + 1)))
    else
      some (.done (.next ()))
noncomputable def M.anamnesisref07_Reshape (a1 : Val) (b1 : Val) : Option (Val × Int) :=
  (M.anamnesisref02_Right a1).bind fun r1 =>
  (if (!r1) then
  some true else
  (M.anamnesisref02_Right b1).bind fun r2 =>
  some (!r2)).bind fun c1 =>
  if c1 then
    some ((Val.mk false ([]) ([])), 1)
  else
    if (decide ((a1.Shape.length : Int) > 1)) then
      some ((Val.mk false ([]) ([])), 24)
    else
      (wloop (M.anamnesisref07_Reshape_L1 a1) 0).bind fun k => joinK k fun _ =>
      if (decide ((a1.Data.length : Int) > 4)) then
        some ((Val.mk false ([]) ([])), 24)
      else
        (wloop (M.anamnesisref07_Reshape_L2 a1) ([], 0)).bind fun k => joinK k fun s1 =>
        (M.anamnesisref07_Size s1).bind fun r3 =>
        if (decide (r3 < 0)) then
          some ((Val.mk false ([]) ([])), 27)
        else
          (wloop (M.anamnesisref07_Reshape_L3 b1 r3) (0, [])).bind fun k => joinK k fun Data1 =>
          some ((Val.mk b1.Char s1 Data1), 0)
noncomputable def M.anamnesisref02_Same_L2 (a1 : Val) (b1 : Val) (s : Int) : Option (Ctl (Int) (Ctl (Unit) (Bool))) :=
  match s with
  | i2 =>
    if (decide (i2 < (a1.Data.length : Int))) then
      (idx a1.Data i2).bind fun y3 =>
      (idx b1.Data i2).bind fun y4 =>
      if (y3 != y4) then
        some (.done (.done false))
      else
        some (.next (IntKind.i64.wrap (i2 + 1)))
    else
      some (.done (.next ()))
noncomputable def M.anamnesisref02_Same_L1 (a1 : Val) (b1 : Val) (s : Int) : Option (Ctl (Int) (Ctl (Unit) (Bool))) :=
  match s with
  | i1 =>
    if (decide (i1 < (a1.Shape.length : Int))) then
      (idx a1.Shape i1).bind fun y1 =>
      (idx b1.Shape i1).bind fun y2 =>
      if (y1 != y2) then
        some (.done (.done false))
      else
        some (.next (IntKind.i64.wrap (i1 + 1)))
    else
      some (.done (.next ()))
noncomputable def M.anamnesisref02_Same (a1 : Val) (b1 : Val) : Option (Bool) :=
  if (((!(a1.Char == b1.Char)) || ((a1.Shape.length : Int) != (b1.Shape.length : Int))) || ((a1.Data.length : Int) != (b1.Data.length : Int))) then
    some false
  else
    (wloop (M.anamnesisref02_Same_L1 a1 b1) 0).bind fun k => joinK k fun _ =>
    (wloop (M.anamnesisref02_Same_L2 a1 b1) 0).bind fun k => joinK k fun _ =>
    some true
noncomputable def M.anamnesislaw07_told (v1 : Val) (e1 : Int) (w1 : Val) (f1 : Int) : Option (Bool) :=
  (if (e1 == f1) then
  (M.anamnesisref02_Same v1 w1).bind fun r1 =>
  some r1 else
  some false).bind fun c1 =>
  some c1
noncomputable def M.join_Shape_L1 (v1 : Val) (s : Int × (List Int)) : Option (Ctl (Int × (List Int)) (Ctl ((List Int)) (Val × Int))) :=
  match s with
  | (t1, Data1) =>
    if (decide (t1 < (v1.Shape.length : Int))) then
      (idx v1.Shape t1).bind fun y1 =>
      (app 8 Data1 ([y1])).bind fun l1 =>
      some (.next ((IntKind.i64.wrap (t1 + 1)), l1))
    else
      some (.done (.next Data1))
noncomputable def M.join_Shape (v1 : Val) : Option (Val × Int) :=
  (M.join_whole ([v1])).bind fun r1 =>
  if (!r1) then
    some ((Val.mk false ([]) ([])), 1)
  else
    (wloop (M.join_Shape_L1 v1) (0, [])).bind fun k => joinK k fun Data1 =>
    some ((Val.mk false ([(v1.Shape.length : Int)]) Data1), 0)
noncomputable def M.slices_Clone__int64 (s1 : (List Int)) : Option ((List Int)) :=
  app 8 [] s1
noncomputable def M.join_Ravel (v1 : Val) : Option (Val × Int) :=
  (M.join_whole ([v1])).bind fun r1 =>
  if (!r1) then
    some ((Val.mk false ([]) ([])), 1)
  else
    (M.slices_Clone__int64 v1.Data).bind fun r2 =>
    some ((Val.mk v1.Char ([(v1.Data.length : Int)]) r2), 0)
noncomputable def M.anamnesislaw07_None (v1 : Val) (e1 : Int) (want1 : Int) : Option (Bool) :=
  (if (e1 == want1) then
  (M.anamnesisref02_Same v1 (Val.mk false ([]) ([]))).bind fun r1 =>
  some r1 else
  some false).bind fun c1 =>
  some c1
noncomputable def M.anamnesislaw07_Is (v1 : Val) (e1 : Int) (want1 : Val) : Option (Bool) :=
  (if (e1 == 0) then
  (M.anamnesisref02_Same v1 want1).bind fun r1 =>
  some r1 else
  some false).bind fun c1 =>
  some c1
noncomputable def M.anamnesislaw07_JoinShapes_L1 (b1 : Val) (r8 : Val) (s : Int) : Option (Ctl (Int) (Ctl (Unit) (Bool))) :=
  match s with
  | i1 =>
    if (decide (i1 < (b1.Shape.length : Int))) then
      (idx r8.Data i1).bind fun y2 =>
      (idx b1.Shape i1).bind fun y3 =>
      if (y2 != y3) then
        some (.done (.done false))
      else
        some (.next (IntKind.i64.wrap (i1 + 1)))
    else
      some (.done (.next ()))
noncomputable def M.anamnesislaw07_JoinShapes (a1 : Val) (b1 : Val) : Option (Bool) :=
  (M.anamnesislaw07_Great a1).bind fun r1 =>
  (if r1 then
  some true else
  (M.anamnesislaw07_Great b1).bind fun r2 =>
  some r2).bind fun c1 =>
  if c1 then
    some true
  else
    (M.join_Reshape a1 b1).bind fun (r3, r4) =>
    (M.anamnesisref07_Reshape a1 b1).bind fun (r5, r6) =>
    (M.anamnesislaw07_told r3 r4 r5 r6).bind fun r7 =>
    if (!r7) then
      some false
    else
      (M.join_Shape b1).bind fun (r8, r9) =>
      (M.join_Ravel b1).bind fun (r10, r11) =>
      (M.anamnesisref02_Right b1).bind fun r12 =>
      if (!r12) then
        (M.anamnesislaw07_None r8 r9 1).bind fun r13 =>
        (if r13 then
        (M.anamnesislaw07_None r10 r11 1).bind fun r14 =>
        some r14 else
        some false).bind fun c2 =>
        some (c2 && true)
      else
        (if (((r9 != 0) || r8.Char) || ((r8.Shape.length : Int) != 1)) then
        some true else
        (idx r8.Shape 0).bind fun y1 =>
        some (y1 != (b1.Shape.length : Int))).bind fun c6 =>
        if (c6 || ((r8.Data.length : Int) != (b1.Shape.length : Int))) then
          some false
        else
          (wloop (M.anamnesislaw07_JoinShapes_L1 b1 r8) 0).bind fun k => joinK k fun _ =>
          (M.anamnesislaw07_Is r10 r11 (Val.mk b1.Char ([(b1.Data.length : Int)]) b1.Data)).bind fun r15 =>
          some (r15 && true)
theorem w64_id {x : Int} (h1 : -9223372036854775808 ≤ x) (h2 : x ≤ 9223372036854775807) : IntKind.i64.wrap x = x := wrap_id h1 h2
theorem u8_mod (x : Int) : IntKind.u8.wrap x = x % 256 := by simp [IntKind.wrap, IntKind.bits, IntKind.signed]
theorem u8_id {x : Int} (h1 : 0 ≤ x) (h2 : x ≤ 255) : IntKind.u8.wrap x = x := by rw [u8_mod]; omega
theorem u32_id {x : Int} (h1 : 0 ≤ x) (h2 : x ≤ 1114111) : IntKind.u32.wrap x = x := by
  have : IntKind.u32.wrap x = x % 4294967296 := by simp [IntKind.wrap, IntKind.bits, IntKind.signed]
  rw [this]; omega
/-- A loop comes to an end in a state with Q: P holds ahead of each round, and its number falls. -/
theorem wloop_ind {σ β : Type} {f : σ → Option (Ctl σ β)} (P : Nat → σ → Prop) (Q : β → Prop)
    (h : ∀ n s, P n s → (∃ s' n', f s = some (.next s') ∧ n' < n ∧ P n' s') ∨ (∃ b, f s = some (.done b) ∧ Q b)) : ∀ n s, P n s → ∃ b, wloop f s = some b ∧ Q b := by
  intro n
  induction n using Nat.strongRecOn with
  | _ n ih =>
    intro s hp
    rcases h n s hp with ⟨s', n', hf, hn, hp'⟩ | ⟨b, hf, hq⟩
    · obtain ⟨b, hb, hq⟩ := ih n' hn s' hp'
      exact ⟨b, by rw [wloop_next hf]; exact hb, hq⟩
    · exact ⟨b, wloop_done hf, hq⟩
theorem idx_nat {α : Type} (l : List α) (k : Nat) : idx l (k : Int) = l[k]? := by
  unfold idx; rw [if_pos (by omega)]; rfl
theorem idx_get {α : Type} {l : List α} {k : Nat} (h : k < l.length) : idx l (k : Int) = some l[k] := by rw [idx_nat, List.getElem?_eq_getElem h]
theorem upd_nat {α : Type} {l : List α} {k : Nat} {x : α} (h : k < l.length) : upd l (k : Int) x = some (l.set k x) := by
  unfold upd; rw [if_pos ⟨by omega, by omega⟩]; rfl
theorem app_ok {α : Type} {b : Nat} {l m : List α} (h : (l.length + m.length) * b ≤ 140737488355328) : app b l m = some (l ++ m) := by
  unfold app; rw [if_pos (.inr h)]
theorem mk_ok {α : Type} {b : Nat} {z : α} {n : Nat} (h : b * n ≤ 140737488355328) (h' : n ≤ 140737488355328) : mk b z (n : Int) (n : Int) = some (List.replicate n z) := by
  unfold mk
  have : ((b : Int) * (n : Int)) ≤ 140737488355328 := by
    have h2 : ((b * n : Nat) : Int) ≤ 140737488355328 := by omega
    rwa [Int.natCast_mul] at h2
  rw [if_pos ⟨by omega, by omega, this, by omega⟩]; rfl
/-- the numbers that a kind has. -/
theorem wf64 {n : Int} (h : (Lit.int .i64 n).wf = true) : -9223372036854775808 ≤ n ∧ n ≤ 9223372036854775807 := by
  have h2 : (decide (IntKind.i64.min ≤ n) && decide (n ≤ IntKind.i64.max)) = true := h
  have e1 : IntKind.i64.min = -9223372036854775808 := by decide
  have e2 : IntKind.i64.max = 9223372036854775807 := by decide
  rw [e1, e2] at h2
  simpa using h2
theorem sub_drop {α : Type} {l : List α} {k : Nat} (h : k ≤ l.length) : sub l (k : Int) (l.length : Int) = some (l.drop k) := by
  unfold sub
  rw [if_pos ⟨by omega, by omega, by omega⟩]
  simp
theorem drop_cons {α : Type} {l : List α} {k : Nat} (h : k < l.length) : l.drop k = l[k] :: l.drop (k + 1) := List.drop_eq_getElem_cons h
theorem same_loop {f : Int → Option (Ctl Int (Ctl Unit Bool))} {a b : List Int} (hl : a.length = b.length) (hm : a.length ≤ maxLen)
    (hf : ∀ k : Nat, ∀ h : k < a.length, f k = if a[k] = b[k]'(hl ▸ h) then some (.next ((k : Int) + 1)) else some (.done (.done false))) (he : f a.length = some (.done (.next ()))) :
    wloop f 0 = some (if a = b then .next () else .done false) := by
  have key := wloop_ind (f := f) (fun n i => ∃ k : Nat, i = k ∧ k ≤ a.length ∧ n = a.length - k ∧ a.take k = b.take k)
    (fun c => (c = .done false ∧ a ≠ b) ∨ (c = .next () ∧ a = b)) (fun n i h => by
      obtain ⟨k, rfl, hk, rfl, hn⟩ := h
      by_cases hlt : k < a.length
      · rw [hf k hlt]
        by_cases he : a[k] = b[k]
        · rw [if_pos he]
          left
          refine ⟨_, a.length - (k + 1), rfl, by omega, k + 1, by omega, by omega, rfl, ?_⟩
          rw [List.take_succ_eq_append_getElem hlt, List.take_succ_eq_append_getElem (by omega), hn, he]
        · rw [if_neg he]
          right
          refine ⟨_, rfl, .inl ⟨rfl, fun h => he ?_⟩⟩
          subst h; rfl
      · have : k = a.length := by omega
        subst this
        right
        refine ⟨_, he, .inr ⟨rfl, ?_⟩⟩
        rw [List.take_length, hl, List.take_length] at hn
        exact hn) a.length 0 ⟨0, rfl, by omega, by omega, by simp⟩
  obtain ⟨c, hc, ⟨rfl, h⟩ | ⟨rfl, h⟩⟩ := key
  · rw [hc]; simp [h]
  · rw [hc]; simp [h]

theorem same_step {f : Int → Option (Ctl Int (Ctl Unit Bool))} {a b : List Int} (hl : a.length = b.length) (hm : a.length ≤ maxLen)
    (hf : ∀ k : Nat, ∀ h : k < a.length, f k = if a[k] = b[k]'(hl ▸ h) then some (.next ((k : Int) + 1)) else some (.done (.done false))) (he : f a.length = some (.done (.next ()))) :
    (wloop f 0).bind (fun k => joinK k fun _ => some true) = some (decide (a = b)) := by
  rw [same_loop hl hm hf he]
  by_cases h : a = b
  · rw [if_pos h, decide_eq_true h]; rfl
  · rw [if_neg h, decide_eq_false h]; rfl
/-- a loop that counts up. -/
theorem loop_up {S τ β : Type} {f : S → Option (Ctl S β)} (st : Nat → τ → S) (n : Nat) (I : Nat → τ → Prop) (out : τ → β) (a : τ) (h0 : I 0 a)
    (hf : ∀ k m, k < n → I k m → ∃ m', f (st k m) = some (.next (st (k + 1) m')) ∧ I (k + 1) m') (he : ∀ m, I n m → f (st n m) = some (.done (out m))) :
    ∃ m, I n m ∧ wloop f (st 0 a) = some (out m) := by
  have key := wloop_ind (f := f) (fun j s => ∃ k m, s = st k m ∧ j = n - k ∧ k ≤ n ∧ I k m) (fun b => ∃ m, b = out m ∧ I n m) (fun j s h => by
    obtain ⟨k, m, rfl, rfl, hk, hi⟩ := h
    by_cases hlt : k < n
    · left
      obtain ⟨m', h1, h2⟩ := hf k m hlt hi
      exact ⟨_, n - (k + 1), h1, by omega, k + 1, m', rfl, rfl, by omega, h2⟩
    · have : k = n := by omega
      subst this
      exact .inr ⟨_, he m hi, m, rfl, hi⟩) n (st 0 a) ⟨0, a, rfl, by omega, by omega, h0⟩
  obtain ⟨b, hb, m, rfl, hi⟩ := key
  exact ⟨m, hi, hb⟩
/-- a loop that counts up, each of whose states is told. -/
theorem loop_fun {S β : Type} {f : S → Option (Ctl S β)} (st : Nat → S) (n : Nat) {b : β} (hf : ∀ k, k < n → f (st k) = some (.next (st (k + 1)))) (he : f (st n) = some (.done b)) : wloop f (st 0) = some b := by
  obtain ⟨_, _, h⟩ := loop_up (f := f) (fun k (_ : Unit) => st k) n (fun _ _ => True) (fun _ => b) () trivial (fun k m hk _ => ⟨(), hf k hk, trivial⟩) (fun m _ => he)
  exact h
theorem lin_lt {i k R C : Nat} (h : i < R) (hk : k < C) : i * C + k < R * C := by
  have := Nat.mul_le_mul_right C (show i + 1 ≤ R from h)
  rw [Nat.succ_mul] at this; omega
theorem lin_inj {i k i' k' C : Nat} (hk : k < C) (hk' : k' < C) (h : i * C + k = i' * C + k') : i = i' ∧ k = k' := by
  have hc : 0 < C := by omega
  have e : ∀ (a b : Nat), b < C → (a * C + b) / C = a := fun a b hb => by
    rw [Nat.mul_comm, Nat.mul_add_div hc, Nat.div_eq_of_lt hb, Nat.add_zero]
  have h1 := e i k hk
  rw [h, e i' k' hk'] at h1
  subst h1; omega
/-- a matrix, row by row. -/
def tab (R C : Nat) (f : Nat → Nat → Int) : List Int := (List.range (R * C)).map fun p => f (p / C) (p % C)
theorem tab_len (R C : Nat) (f : Nat → Nat → Int) : (tab R C f).length = R * C := by simp [tab]
theorem tab_get {R C i k : Nat} (f : Nat → Nat → Int) (hi : i < R) (hk : k < C) : (tab R C f)[i * C + k]? = some (f i k) := by
  have hc : 0 < C := by omega
  unfold tab
  rw [List.getElem?_map, List.getElem?_range (lin_lt hi hk)]
  show some (f ((i * C + k) / C) ((i * C + k) % C)) = _
  rw [Nat.mul_comm, Nat.mul_add_div hc, Nat.div_eq_of_lt hk, Nat.mul_add_mod, Nat.mod_eq_of_lt hk, Nat.add_zero]
theorem tab_ext {R C : Nat} {f : Nat → Nat → Int} {l : List Int} (hl : l.length = R * C) (h : ∀ i k, i < R → k < C → l[i * C + k]? = some (f i k)) : l = tab R C f := by
  apply List.ext_getElem?
  intro p
  by_cases hp : p < R * C
  · have hc : 0 < C := by
      rcases Nat.eq_zero_or_pos C with h | h
      · subst h; simp at hp
      · exact h
    have h1 : p / C < R := by rw [Nat.div_lt_iff_lt_mul hc]; exact hp
    have h2 : p % C < C := Nat.mod_lt _ hc
    have e : p / C * C + p % C = p := by rw [Nat.mul_comm]; exact Nat.div_add_mod p C
    have a := h _ _ h1 h2
    have b := tab_get f h1 h2
    rw [e] at a b
    rw [a, b]
  · rw [List.getElem?_eq_none (by omega), List.getElem?_eq_none (by rw [tab_len]; omega)]
theorem contains_int {s : List Int} {f : Int → Option Bool} {g : Int → Bool} (hf : ∀ x ∈ s, f x = some (g x)) (hl : s.length ≤ 4611686018427387904) : M.slices_ContainsFunc__int s f = some (s.any g) := by
  have key := wloop_ind (f := M.slices_IndexFunc__int_L1 s f) (fun n i => ∃ k : Nat, i = k ∧ k ≤ s.length ∧ n = s.length - k ∧ (s.take k).any g = false)
    (fun b => (∃ i : Int, b = .done i ∧ 0 ≤ i ∧ s.any g = true) ∨ (b = .next () ∧ s.any g = false)) (fun n i h => by
      obtain ⟨k, rfl, hk, rfl, hn⟩ := h
      unfold M.slices_IndexFunc__int_L1
      by_cases hlt : k < s.length
      · simp only [show decide ((k : Int) < (s.length : Int)) = true from by simp; exact hlt, if_true, idx_get hlt, Option.bind_some, hf _ (List.getElem_mem hlt)]
        cases hg : g s[k] with
        | true =>
          right
          refine ⟨_, rfl, .inl ⟨_, rfl, by omega, ?_⟩⟩
          rw [List.any_eq_true]
          exact ⟨_, List.getElem_mem hlt, hg⟩
        | false =>
          left
          refine ⟨_, s.length - (k + 1), rfl, by omega, k + 1, ?_, by omega, rfl, ?_⟩
          · rw [w64_id (by omega) (by omega)]; omega
          · rw [List.take_succ_eq_append_getElem hlt, List.any_append, hn]; simp [hg]
      · have : k = s.length := by omega
        subst this
        right
        simp only [show decide ((s.length : Int) < (s.length : Int)) = false from by simp, Bool.false_eq_true, if_false]
        exact ⟨_, rfl, .inr ⟨rfl, by simpa using hn⟩⟩) s.length 0 ⟨0, rfl, by omega, by omega, by simp⟩
  unfold M.slices_ContainsFunc__int M.slices_IndexFunc__int
  obtain ⟨b, hb, ⟨i, rfl, h0, ha⟩ | ⟨rfl, ha⟩⟩ := key
  · rw [hb, ha]; simp [h0]
  · rw [hb, ha]; simp
theorem contains_int64 {s : List Int} {f : Int → Option Bool} {g : Int → Bool} (hf : ∀ x ∈ s, f x = some (g x)) (hl : s.length ≤ 9223372036854775807) : M.slices_ContainsFunc__int64 s f = some (s.any g) := by
  have key := wloop_ind (f := M.slices_IndexFunc__int64_L1 s f) (fun n i => ∃ k : Nat, i = k ∧ k ≤ s.length ∧ n = s.length - k ∧ (s.take k).any g = false)
    (fun b => (∃ i : Int, b = .done i ∧ 0 ≤ i ∧ s.any g = true) ∨ (b = .next () ∧ s.any g = false)) (fun n i h => by
      obtain ⟨k, rfl, hk, rfl, hn⟩ := h
      unfold M.slices_IndexFunc__int64_L1
      by_cases hlt : k < s.length
      · simp only [show decide ((k : Int) < (s.length : Int)) = true from by simp; exact hlt, if_true, idx_get hlt, Option.bind_some, hf _ (List.getElem_mem hlt)]
        cases hg : g s[k] with
        | true =>
          right
          refine ⟨_, rfl, .inl ⟨_, rfl, by omega, ?_⟩⟩
          rw [List.any_eq_true]
          exact ⟨_, List.getElem_mem hlt, hg⟩
        | false =>
          left
          refine ⟨_, s.length - (k + 1), rfl, by omega, k + 1, ?_, by omega, rfl, ?_⟩
          · rw [w64_id (by omega) (by omega)]; omega
          · rw [List.take_succ_eq_append_getElem hlt, List.any_append, hn]; simp [hg]
      · have : k = s.length := by omega
        subst this
        right
        simp only [show decide ((s.length : Int) < (s.length : Int)) = false from by simp, Bool.false_eq_true, if_false]
        exact ⟨_, rfl, .inr ⟨rfl, by simpa using hn⟩⟩) s.length 0 ⟨0, rfl, by omega, by omega, by simp⟩
  unfold M.slices_ContainsFunc__int64 M.slices_IndexFunc__int64
  obtain ⟨b, hb, ⟨i, rfl, h0, ha⟩ | ⟨rfl, ha⟩⟩ := key
  · rw [hb, ha]; simp [h0]
  · rw [hb, ha]; simp
theorem contains_Val {s : List Val} {f : Val → Option Bool} {g : Val → Bool} (hf : ∀ x ∈ s, f x = some (g x)) (hl : s.length ≤ 4611686018427387904) : M.slices_ContainsFunc__Value s f = some (s.any g) := by
  have key := wloop_ind (f := M.slices_IndexFunc__Value_L1 s f) (fun n i => ∃ k : Nat, i = k ∧ k ≤ s.length ∧ n = s.length - k ∧ (s.take k).any g = false)
    (fun b => (∃ i : Int, b = .done i ∧ 0 ≤ i ∧ s.any g = true) ∨ (b = .next () ∧ s.any g = false)) (fun n i h => by
      obtain ⟨k, rfl, hk, rfl, hn⟩ := h
      unfold M.slices_IndexFunc__Value_L1
      by_cases hlt : k < s.length
      · simp only [show decide ((k : Int) < (s.length : Int)) = true from by simp; exact hlt, if_true, idx_get hlt, Option.bind_some, hf _ (List.getElem_mem hlt)]
        cases hg : g s[k] with
        | true =>
          right
          refine ⟨_, rfl, .inl ⟨_, rfl, by omega, ?_⟩⟩
          rw [List.any_eq_true]
          exact ⟨_, List.getElem_mem hlt, hg⟩
        | false =>
          left
          refine ⟨_, s.length - (k + 1), rfl, by omega, k + 1, ?_, by omega, rfl, ?_⟩
          · rw [w64_id (by omega) (by omega)]; omega
          · rw [List.take_succ_eq_append_getElem hlt, List.any_append, hn]; simp [hg]
      · have : k = s.length := by omega
        subst this
        right
        simp only [show decide ((s.length : Int) < (s.length : Int)) = false from by simp, Bool.false_eq_true, if_false]
        exact ⟨_, rfl, .inr ⟨rfl, by simpa using hn⟩⟩) s.length 0 ⟨0, rfl, by omega, by omega, by simp⟩
  unfold M.slices_ContainsFunc__Value M.slices_IndexFunc__Value
  obtain ⟨b, hb, ⟨i, rfl, h0, ha⟩ | ⟨rfl, ha⟩⟩ := key
  · rw [hb, ha]; simp [h0]
  · rw [hb, ha]; simp
def prod : List Int → Int
  | [] => 1
  | x :: s => x * prod s
def off : List Int → List Int → Int
  | x :: s, a :: at_ => a * prod s + off s at_
  | _, _ => 0
def dig : List Int → Int → List Int
  | [], _ => []
  | _ :: s, k => k / prod s :: dig s (k % prod s)
/-- is a place in a shape? -/
def inShape : List Int → List Int → Prop
  | [], [] => True
  | x :: s, a :: at_ => 0 ≤ a ∧ a < x ∧ inShape s at_
  | _, _ => False
instance : (s at_ : List Int) → Decidable (inShape s at_)
  | [], [] => isTrue trivial
  | x :: s, a :: at_ =>
    have := instDecidableInShape s at_
    by unfold inShape; exact inferInstance
  | [], _ :: _ => isFalse (fun h => h)
  | _ :: _, [] => isFalse (fun h => h)
theorem inShape.len : ∀ {s at_ : List Int}, inShape s at_ → at_.length = s.length
  | [], [], _ => rfl
  | x :: s, a :: at_, ⟨_, _, h⟩ => by simp [h.len]
  | [], _ :: _, h => h.elim
  | _ :: _, [], h => h.elim
theorem inShape.pos : ∀ {s at_ : List Int}, inShape s at_ → 0 < prod s
  | [], [], _ => by simp [prod]
  | x :: s, a :: at_, ⟨h0, h1, h⟩ => by
    have := h.pos
    exact Int.mul_pos (by omega) this
  | [], _ :: _, h => h.elim
  | _ :: _, [], h => h.elim
theorem off_range : ∀ {s at_ : List Int}, inShape s at_ → 0 ≤ off s at_ ∧ off s at_ < prod s
  | [], [], _ => by simp [prod, off]
  | x :: s, a :: at_, ⟨h0, h1, h⟩ => by
    have h2 := off_range h
    have h3 := h.pos
    have h4 : (a + 1) * prod s ≤ x * prod s := Int.mul_le_mul_of_nonneg_right (by omega) (by omega)
    have h5 : 0 ≤ a * prod s := Int.mul_nonneg h0 (by omega)
    rw [Int.add_mul] at h4
    simp only [prod, off]
    omega
  | [], _ :: _, h => h.elim
  | _ :: _, [], h => h.elim
theorem dig_off : ∀ {s at_ : List Int}, inShape s at_ → dig s (off s at_) = at_
  | [], [], _ => rfl
  | x :: s, a :: at_, ⟨h0, h1, h⟩ => by
    have h2 := off_range h
    have h3 := h.pos
    simp only [dig, off]
    rw [Int.add_comm, Int.mul_comm, Int.add_mul_ediv_left _ _ (by omega), Int.add_mul_emod_self_left, Int.emod_eq_of_lt h2.1 h2.2, dig_off h, Int.ediv_eq_zero_of_lt h2.1 h2.2]
    simp
  | [], _ :: _, h => h.elim
  | _ :: _, [], h => h.elim
def allPos (s : List Int) : Prop := ∀ x ∈ s, 0 < x
theorem allPos.pprod : ∀ {s : List Int}, allPos s → 0 < prod s
  | [], _ => by simp [prod]
  | x :: s, h => Int.mul_pos (h x List.mem_cons_self) (allPos.pprod fun y hy => h y (List.mem_cons_of_mem _ hy))
theorem allPos_of {s : List Int} (h : ∀ x ∈ s, 0 ≤ x) (hp : 0 < prod s) : allPos s := by
  intro x hx
  have h0 := h x hx
  rcases Int.lt_or_eq_of_le h0 with h1 | h1
  · exact h1
  · exfalso
    have : ∀ s : List Int, (0 : Int) ∈ s → prod s = 0 := by
      intro s
      induction s with
      | nil => intro h; simp at h
      | cons y s ih =>
        intro h
        rcases List.mem_cons.mp h with h | h
        · simp [prod, ← h]
        · simp [prod, ih h]
    rw [this s (h1 ▸ hx)] at hp
    omega
theorem dig_in : ∀ {s : List Int} {k : Int}, allPos s → 0 ≤ k → k < prod s → inShape s (dig s k)
  | [], k, _, h0, h1 => trivial
  | x :: s, k, h, h0, h1 => by
    have hs : allPos s := fun y hy => h y (List.mem_cons_of_mem _ hy)
    have hp := hs.pprod
    refine ⟨Int.ediv_nonneg h0 (by omega), ?_, dig_in hs (Int.emod_nonneg _ (by omega)) (Int.emod_lt_of_pos _ hp)⟩
    exact Int.ediv_lt_of_lt_mul hp h1
theorem off_dig : ∀ {s : List Int} {k : Int}, allPos s → 0 ≤ k → k < prod s → off s (dig s k) = k
  | [], k, _, h0, h1 => by simp [prod] at h1; simp [dig, off]; omega
  | x :: s, k, h, h0, h1 => by
    have hs : allPos s := fun y hy => h y (List.mem_cons_of_mem _ hy)
    have hp := hs.pprod
    simp only [dig, off]
    rw [off_dig hs (Int.emod_nonneg _ (by omega)) (Int.emod_lt_of_pos _ hp)]
    rw [Int.mul_comm]; exact Int.mul_ediv_add_emod k (prod s)
theorem dig_len : ∀ (s : List Int) (k : Int), (dig s k).length = s.length
  | [], _ => rfl
  | x :: s, k => by simp [dig, dig_len s]
theorem prod_nonneg : ∀ {s : List Int}, (∀ x ∈ s, 0 ≤ x) → 0 ≤ prod s
  | [], _ => by simp [prod]
  | x :: s, h => Int.mul_nonneg (h x List.mem_cons_self) (prod_nonneg fun y hy => h y (List.mem_cons_of_mem _ hy))
theorem prod_append : ∀ (s t : List Int), prod (s ++ t) = prod s * prod t
  | [], t => by simp [prod]
  | x :: s, t => by simp [prod, prod_append s t, Int.mul_assoc]

/-- the size of a shape, or the error. -/
def shSize (s : List Int) : Int × Int :=
  if 4 < s.length then (0, 24) else if s.any (fun x => decide (x < 0)) then (0, 1) else if s.any (fun x => decide (x > 10000)) || decide (prod s > 10000) then (0, 27) else (prod s, 0)
def shOk (s : List Int) : Prop := s.length ≤ 4 ∧ (∀ x ∈ s, 0 ≤ x ∧ x ≤ 10000) ∧ prod s ≤ 10000
instance (s : List Int) : Decidable (shOk s) := by unfold shOk; exact inferInstance
theorem shSize_ok {s : List Int} (h : shOk s) : shSize s = (prod s, 0) := by
  obtain ⟨h1, h2, h3⟩ := h
  unfold shSize
  rw [if_neg (by omega), if_neg, if_neg]
  · simp only [Bool.or_eq_true, List.any_eq_true, decide_eq_true_eq]
    rintro (⟨x, hx, h⟩ | h)
    · have := h2 x hx; omega
    · omega
  · simp only [List.any_eq_true, decide_eq_true_eq]
    rintro ⟨x, hx, h⟩
    have := h2 x hx; omega
theorem shSize_zero {s : List Int} : (shSize s).2 = 0 ↔ shOk s := by
  constructor
  · intro h
    unfold shSize at h
    split at h
    · cases h
    · rename_i h1
      split at h
      · cases h
      · rename_i h2
        split at h
        · cases h
        · rename_i h3
          simp only [List.any_eq_true, decide_eq_true_eq, not_exists, not_and] at h2
          simp only [Bool.or_eq_true, List.any_eq_true, decide_eq_true_eq, not_or, not_exists, not_and] at h3
          exact ⟨by omega, fun x hx => ⟨by have := h2 x hx; omega, by have := h3.1 x hx; omega⟩, by omega⟩
  · intro h; rw [shSize_ok h]
theorem shSize_cases (s : List Int) : (shOk s ∧ shSize s = (prod s, 0)) ∨ (¬ shOk s ∧ (shSize s).2 ≠ 0 ∧ (shSize s).1 = 0) := by
  by_cases h : shOk s
  · exact .inl ⟨h, shSize_ok h⟩
  · refine .inr ⟨h, fun hh => h (shSize_zero.mp hh), ?_⟩
    unfold shSize
    split
    · rfl
    · rename_i h1
      split
      · rfl
      · rename_i h2
        split
        · rfl
        · rename_i h3
          exfalso; apply h
          simp only [List.any_eq_true, decide_eq_true_eq, not_exists, not_and] at h2
          simp only [Bool.or_eq_true, List.any_eq_true, decide_eq_true_eq, not_or, not_exists, not_and] at h3
          exact ⟨by omega, fun x hx => ⟨by have := h2 x hx; omega, by have := h3.1 x hx; omega⟩, by omega⟩
theorem dig_bound {s : List Int} {k : Int} (hok : shOk s) (h0 : 0 ≤ k) (h1 : k < prod s) : ∀ x ∈ dig s k, 0 ≤ x ∧ x ≤ 10000 := by
  have hpos : allPos s := allPos_of (fun x hx => (hok.2.1 x hx).1) (by omega)
  have key : ∀ (s at_ : List Int), inShape s at_ → (∀ x ∈ s, 0 ≤ x ∧ x ≤ 10000) → ∀ x ∈ at_, 0 ≤ x ∧ x ≤ 10000 := by
    intro s
    induction s with
    | nil => intro at_ h _ x hx; cases at_ with | nil => simp at hx | cons _ _ => exact h.elim
    | cons y s ih =>
      intro at_ h hb x hx
      cases at_ with
      | nil => exact h.elim
      | cons a at_ =>
        obtain ⟨h1, h2, h3⟩ := h
        rcases List.mem_cons.mp hx with rfl | hx
        · have := hb y List.mem_cons_self; omega
        · exact ih at_ h3 (fun z hz => hb z (List.mem_cons_of_mem _ hz)) x hx
  exact key s _ (dig_in hpos h0 h1) hok.2.1
theorem dig_zero : ∀ {s : List Int}, allPos s → dig s 0 = List.replicate s.length 0
  | [], _ => rfl
  | x :: s, h => by
    have hs : allPos s := fun y hy => h y (List.mem_cons_of_mem _ hy)
    simp only [dig, Int.zero_ediv, Int.zero_emod, dig_zero hs]; rfl

theorem one_le_pow : ∀ k : Nat, (1 : Int) ≤ 10000 ^ k
  | 0 => by simp
  | k + 1 => by rw [Int.pow_succ]; have := one_le_pow k; omega
theorem prod_bound : ∀ (s : List Int) (k : Nat), s.length ≤ k → (∀ x ∈ s, 0 ≤ x ∧ x ≤ 10000) → 0 ≤ prod s ∧ prod s ≤ 10000 ^ k
  | [], k, _, _ => ⟨by simp [prod], one_le_pow k⟩
  | x :: s, k + 1, hl, h => by
    have h1 := h x List.mem_cons_self
    have h2 := prod_bound s k (by simpa using hl) (fun y hy => h y (List.mem_cons_of_mem _ hy))
    refine ⟨Int.mul_nonneg h1.1 h2.1, ?_⟩
    simp only [prod]
    have h3 : x * prod s ≤ 10000 * prod s := Int.mul_le_mul_of_nonneg_right h1.2 h2.1
    have h4 : (10000 : Int) ^ (k + 1) = 10000 ^ k * 10000 := Int.pow_succ _ _
    omega
  | x :: s, 0, hl, h => by simp at hl

theorem product_eq {s : List Int} (hl : s.length ≤ 4) (hb : ∀ x ∈ s, 0 ≤ x ∧ x ≤ 10000) : M.shape_product s = some (prod s) := by
  have key := wloop_ind (f := M.shape_product_L1 s) (fun n st => ∃ k : Nat, st = (prod (s.take k), (k : Int)) ∧ k ≤ s.length ∧ n = s.length - k)
    (fun b => b = .next (prod s)) (fun n st h => by
      obtain ⟨k, rfl, hk, rfl⟩ := h
      unfold M.shape_product_L1
      by_cases hlt : k < s.length
      · left
        simp only [show decide ((k : Int) < (s.length : Int)) = true from by simp; exact hlt, if_true, idx_get hlt, Option.bind_some]
        have e : prod (s.take k) * s[k] = prod (s.take (k + 1)) := by
          rw [List.take_succ_eq_append_getElem hlt, prod_append]; simp [prod]
        have hp := prod_bound (s.take (k + 1)) 4 (by rw [List.length_take]; omega) (fun x hx => hb x (List.mem_of_mem_take hx))
        refine ⟨_, s.length - (k + 1), rfl, by omega, k + 1, ?_, by omega, rfl⟩
        rw [e, w64_id (by omega) (by omega), w64_id (by omega) (by omega)]
        simp
      · have : k = s.length := by omega
        subst this
        right
        simp)
    s.length (1, 0) ⟨0, by simp [prod], by omega, by omega⟩
  obtain ⟨b, hb, rfl⟩ := key
  unfold M.shape_product
  rw [hb]; rfl

theorem shape_Size_eq {s : List Int} (hl : s.length ≤ maxLen) : M.shape_Size s = some (shSize s) := by
  have hm : maxLen = 9223372036854775807 := rfl
  unfold M.shape_Size shSize
  by_cases h4 : 4 < s.length
  · rw [if_pos h4, if_pos (by simp; omega)]
  · rw [if_neg h4, if_neg (by simp; omega)]
    rw [contains_int (s := s) (f := fun x0 => M.shape_Size_1 x0) (g := fun x => decide (x < 0)) (fun x _ => rfl) (by omega), Option.bind_some]
    cases hneg : s.any (fun x => decide (x < 0)) with
    | true => simp
    | false =>
      simp only [Bool.false_eq_true, if_false]
      rw [contains_int (s := s) (f := fun x0 => M.shape_Size_2 x0) (g := fun x => decide (x > 10000)) (fun x _ => rfl) (by omega), Option.bind_some]
      cases hbig : s.any (fun x => decide (x > 10000)) with
      | true => simp
      | false =>
        have hb : ∀ x ∈ s, 0 ≤ x ∧ x ≤ 10000 := by
          intro x hx
          simp only [List.any_eq_false, decide_eq_true_eq] at hneg hbig
          have := hneg x hx; have := hbig x hx; omega
        simp only [Bool.false_eq_true, if_false, product_eq (by omega) hb, Option.bind_some, Bool.false_or]
        split <;> simp_all
/-- is a number a character? -/
def chOk (c : Int) : Bool := decide (0 ≤ c ∧ c ≤ 1114111) && !decide (55296 ≤ c ∧ c ≤ 57343)
/-- may an array be? -/
def vRight (v : Val) : Bool := decide (shOk v.Shape) && decide (prod v.Shape = v.Data.length) && (!v.Char || v.Data.all chOk)
def vSame (a b : Val) : Bool := (a.Char == b.Char) && decide (a.Shape = b.Shape) && decide (a.Data = b.Data)
theorem vSame_iff {a b : Val} : vSame a b = true ↔ a = b := by
  obtain ⟨c, s, d⟩ := a
  obtain ⟨c', s', d'⟩ := b
  simp only [vSame, Bool.and_eq_true, beq_iff_eq, decide_eq_true_eq, Val.mk.injEq]
  constructor
  · rintro ⟨⟨h1, h2⟩, h3⟩; exact ⟨h1, h2, h3⟩
  · rintro ⟨h1, h2, h3⟩; exact ⟨⟨h1, h2⟩, h3⟩
theorem vSame_refl (a : Val) : vSame a a = true := vSame_iff.mpr rfl
theorem vSame_eq (a b : Val) : vSame a b = true ∧ a = b ∨ vSame a b = false ∧ a ≠ b := by
  cases h : vSame a b with
  | true => exact .inl ⟨rfl, vSame_iff.mp h⟩
  | false => exact .inr ⟨rfl, fun hh => by rw [vSame_iff.mpr hh] at h; cases h⟩
theorem vRight_iff {v : Val} : vRight v = true ↔ shOk v.Shape ∧ prod v.Shape = v.Data.length ∧ (v.Char = true → ∀ c ∈ v.Data, chOk c = true) := by
  simp only [vRight, Bool.and_eq_true, decide_eq_true_eq, Bool.or_eq_true, Bool.not_eq_true', List.all_eq_true]
  constructor
  · rintro ⟨⟨h1, h2⟩, h3⟩
    refine ⟨h1, h2, fun h => ?_⟩
    rcases h3 with h3 | h3
    · rw [h3] at h; cases h
    · exact h3
  · rintro ⟨h1, h2, h3⟩
    refine ⟨⟨h1, h2⟩, ?_⟩
    cases h : v.Char with
    | true => exact .inr (h3 h)
    | false => exact .inl rfl

theorem right_loop {f : Int × Int → Option (Ctl (Int × Int) (Ctl Int Bool))} {s : List Int} (h4 : s.length ≤ 4)
    (hf : ∀ k : Nat, ∀ h : k < s.length, ∀ z, f (z, (k : Int)) = if s[k] < 0 ∨ s[k] > 10000 then some (.done (.done false)) else some (.next (IntKind.i64.wrap (z * s[k]), (k : Int) + 1)))
    (he : ∀ z, f (z, (s.length : Int)) = some (.done (.next z))) :
    ((∀ x ∈ s, 0 ≤ x ∧ x ≤ 10000) ∧ wloop f (1, 0) = some (.next (prod s))) ∨ (¬ (∀ x ∈ s, 0 ≤ x ∧ x ≤ 10000) ∧ wloop f (1, 0) = some (.done false)) := by
  have key := wloop_ind (f := f) (fun n st => ∃ k : Nat, n = s.length - k ∧ k ≤ s.length ∧ st = (prod (s.take k), (k : Int)) ∧ ∀ x ∈ s.take k, 0 ≤ x ∧ x ≤ 10000)
    (fun b => (b = .next (prod s) ∧ ∀ x ∈ s, 0 ≤ x ∧ x ≤ 10000) ∨ (b = .done false ∧ ¬ ∀ x ∈ s, 0 ≤ x ∧ x ≤ 10000)) (fun n st h => by
      obtain ⟨k, rfl, hk, rfl, hall⟩ := h
      by_cases hlt : k < s.length
      · rw [hf k hlt]
        by_cases hb : s[k] < 0 ∨ s[k] > 10000
        · rw [if_pos hb]
          right
          refine ⟨_, rfl, .inr ⟨rfl, fun hh => ?_⟩⟩
          have := hh _ (List.getElem_mem hlt); omega
        · rw [if_neg hb]
          left
          have e := List.take_succ_eq_append_getElem hlt
          have hall2 : ∀ x ∈ s.take (k + 1), 0 ≤ x ∧ x ≤ 10000 := by
            intro x hx
            rw [e] at hx
            rcases List.mem_append.mp hx with hx | hx
            · exact hall x hx
            · rw [List.mem_singleton.mp hx]; omega
          have hp := prod_bound (s.take (k + 1)) 4 (by rw [List.length_take]; omega) hall2
          have e2 : prod (s.take (k + 1)) = prod (s.take k) * s[k] := by rw [e, prod_append]; simp [prod]
          refine ⟨_, s.length - (k + 1), rfl, by omega, k + 1, rfl, by omega, ?_, hall2⟩
          rw [← e2, w64_id (by omega) (by omega)]; simp
      · have : k = s.length := by omega
        subst this
        rw [he]
        rw [List.take_length] at hall ⊢
        exact .inr ⟨_, rfl, .inl ⟨rfl, hall⟩⟩)
    s.length (1, 0) ⟨0, by omega, by omega, by simp [prod], by simp⟩
  obtain ⟨b, hb, ⟨rfl, h⟩ | ⟨rfl, h⟩⟩ := key
  · exact .inl ⟨h, hb⟩
  · exact .inr ⟨h, hb⟩
theorem all_loop {f : Int → Option (Ctl Int (Ctl Unit Bool))} {l : List Int} {p : Int → Bool}
    (hf : ∀ k : Nat, ∀ h : k < l.length, f k = if p l[k] = true then some (.next ((k : Int) + 1)) else some (.done (.done false))) (he : f l.length = some (.done (.next ()))) :
    wloop f 0 = some (if l.all p = true then .next () else .done false) := by
  have key := wloop_ind (f := f) (fun n i => ∃ k : Nat, i = k ∧ k ≤ l.length ∧ n = l.length - k ∧ (l.take k).all p = true)
    (fun c => (c = .done false ∧ l.all p = false) ∨ (c = .next () ∧ l.all p = true)) (fun n i h => by
      obtain ⟨k, rfl, hk, rfl, hn⟩ := h
      by_cases hlt : k < l.length
      · rw [hf k hlt]
        by_cases hp : p l[k] = true
        · rw [if_pos hp]
          left
          refine ⟨_, l.length - (k + 1), rfl, by omega, k + 1, by omega, by omega, rfl, ?_⟩
          rw [List.take_succ_eq_append_getElem hlt, List.all_append, hn]; simp [hp]
        · rw [if_neg hp]
          right
          refine ⟨_, rfl, .inl ⟨rfl, ?_⟩⟩
          rw [List.all_eq_false]
          exact ⟨_, List.getElem_mem hlt, hp⟩
      · have : k = l.length := by omega
        subst this
        right
        rw [List.take_length] at hn
        exact ⟨_, he, .inr ⟨rfl, hn⟩⟩) l.length 0 ⟨0, rfl, by omega, by omega, by simp⟩
  obtain ⟨c, hc, ⟨rfl, h⟩ | ⟨rfl, h⟩⟩ := key
  · rw [hc, h]; simp
  · rw [hc, h]; simp
theorem w32_id {x : Int} (h1 : 0 ≤ x) (h2 : x ≤ 1114111) : IntKind.i32.wrap x = x := by
  have e : IntKind.i32.wrap x = if x % 4294967296 ≥ 2147483648 then x % 4294967296 - 4294967296 else x % 4294967296 := by
    simp [IntKind.wrap, IntKind.bits, IntKind.signed]
  rw [e]
  split <;> omega
theorem character_eq (c : Int) : M.value_character c = some (chOk c) := by
  unfold M.value_character chOk
  by_cases h : 0 ≤ c ∧ c ≤ 1114111
  · have e : (decide (c ≥ 0) && decide (c ≤ 1114111)) = true := by simp; omega
    simp only [e, if_true, h, and_self, decide_true, Bool.true_and]
    rw [w32_id h.1 h.2]
    unfold M.unicode_utf8_ValidRune
    by_cases h1 : c < 55296
    · have e1 : (decide (0 ≤ c) && decide (c < 55296)) = true := by simp; omega
      have e2 : decide (55296 ≤ c ∧ c ≤ 57343) = false := decide_eq_false (by omega)
      simp only [e1, e2, if_true, Option.bind_some, Bool.not_false]
    · have e1 : (decide (0 ≤ c) && decide (c < 55296)) = false := by simp; omega
      simp only [e1, Bool.false_eq_true, if_false]
      by_cases h2 : 57343 < c
      · have e3 : (decide (57343 < c) && decide (c ≤ 1114111)) = true := by simp; omega
        have e2 : decide (55296 ≤ c ∧ c ≤ 57343) = false := decide_eq_false (by omega)
        simp only [e3, e2, if_true, Option.bind_some, Bool.not_false]
      · have e3 : (decide (57343 < c) && decide (c ≤ 1114111)) = false := by simp; omega
        have e2 : decide (55296 ≤ c ∧ c ≤ 57343) = true := decide_eq_true (by omega)
        simp only [e3, e2, Bool.false_eq_true, if_false, Option.bind_some, Bool.not_true]
  · have e : (decide (c ≥ 0) && decide (c ≤ 1114111)) = false := by simp; omega
    simp only [e, Bool.false_eq_true, if_false, h, decide_false, Bool.false_and, Option.bind_some]
theorem value_Right_eq {v : Val} (hd : v.Data.length ≤ 9223372036854775807) : M.value_Right v = some (vRight v) := by
  unfold M.value_Right
  by_cases h4 : 4 < v.Shape.length
  · rw [if_pos (by simp; omega)]
    have : vRight v = false := by
      cases h : vRight v with
      | false => rfl
      | true => have := (vRight_iff.mp h).1.1; omega
    rw [this]
  · rw [if_neg (by simp; omega)]
    have hloop := right_loop (f := M.value_Right_L1 v) (s := v.Shape) (by omega) (fun k h z => by
      unfold M.value_Right_L1
      simp only [show decide ((k : Int) < (v.Shape.length : Int)) = true from decide_eq_true (by omega), if_true, idx_get h, Option.bind_some]
      by_cases hb : v.Shape[k] < 0 ∨ v.Shape[k] > 10000
      · rw [if_pos hb, if_pos (by simpa using hb)]
      · rw [if_neg hb, if_neg (by simpa using hb), w64_id (x := (k : Int) + 1) (by omega) (by omega)]) (fun z => by unfold M.value_Right_L1; simp)
    rcases hloop with ⟨hall, hw⟩ | ⟨hall, hw⟩
    · rw [hw]
      simp only [Option.bind_some, joinK_next]
      have hp0 : 0 ≤ prod v.Shape := prod_nonneg fun x hx => (hall x hx).1
      by_cases hsz : prod v.Shape ≤ 10000 ∧ prod v.Shape = v.Data.length
      · have e : (decide (prod v.Shape > 10000) || (prod v.Shape != (v.Data.length : Int))) = false := by simp; omega
        simp only [e, Bool.false_eq_true, if_false]
        have hok : shOk v.Shape := ⟨by omega, hall, hsz.1⟩
        have hv : vRight v = (!v.Char || v.Data.all chOk) := by unfold vRight; simp [hok, hsz.2]
        rw [hv]
        cases hc : v.Char with
        | false => simp
        | true =>
          simp only [Bool.not_true, Bool.false_eq_true, if_false, Bool.false_or]
          rw [contains_int64 (s := v.Data) (f := fun x0 => M.value_Right_1 x0) (g := fun x => !chOk x) (fun x _ => by unfold M.value_Right_1; rw [character_eq]; rfl) hd]
          simp only [Option.bind_some]
          congr 1
          rw [List.not_any_eq_all_not]; simp
      · have e : (decide (prod v.Shape > 10000) || (prod v.Shape != (v.Data.length : Int))) = true := by
          simp; omega
        simp only [e, if_true]
        have : vRight v = false := by
          cases h : vRight v with
          | false => rfl
          | true => have := vRight_iff.mp h; exact absurd ⟨this.1.2.2, this.2.1⟩ hsz
        rw [this]
    · rw [hw]
      have : vRight v = false := by
        cases h : vRight v with
        | false => rfl
        | true => exact absurd (vRight_iff.mp h).1.2.1 hall
      rw [this]; rfl
theorem ref02_Right_eq {v : Val} (hd : v.Data.length ≤ 9223372036854775807) : M.anamnesisref02_Right v = some (vRight v) := by
  unfold M.anamnesisref02_Right
  by_cases h4 : 4 < v.Shape.length
  · rw [if_pos (by simp; omega)]
    have : vRight v = false := by
      cases h : vRight v with
      | false => rfl
      | true => have := (vRight_iff.mp h).1.1; omega
    rw [this]
  · rw [if_neg (by simp; omega)]
    have hloop := right_loop (f := M.anamnesisref02_Right_L1 v) (s := v.Shape) (by omega) (fun k h z => by
      unfold M.anamnesisref02_Right_L1
      simp only [show decide ((k : Int) < (v.Shape.length : Int)) = true from decide_eq_true (by omega), if_true, idx_get h, Option.bind_some]
      by_cases h0 : v.Shape[k] < 0
      · simp only [show decide (v.Shape[k] < 0) = true from decide_eq_true h0, if_true, Option.bind_some]
        rw [if_pos (.inl h0)]
      · simp only [show decide (v.Shape[k] < 0) = false from decide_eq_false h0, Bool.false_eq_true, if_false, Option.bind_some]
        by_cases h1 : v.Shape[k] > 10000
        · rw [if_pos (by simpa using h1), if_pos (.inr h1)]
        · rw [if_neg (by simpa using h1), if_neg (by omega), w64_id (x := (k : Int) + 1) (by omega) (by omega)]) (fun z => by unfold M.anamnesisref02_Right_L1; simp)
    have hchars : wloop (M.anamnesisref02_Right_L2 v) 0 = some (if (!v.Char || v.Data.all chOk) = true then .next () else .done false) := by
      cases hc : v.Char with
      | false =>
        simp only [Bool.not_false, Bool.true_or, if_true]
        exact wloop_done (by unfold M.anamnesisref02_Right_L2; simp [hc])
      | true =>
        simp only [Bool.not_true, Bool.false_or]
        refine all_loop (fun k h => ?_) ?_
        · unfold M.anamnesisref02_Right_L2
          simp only [hc, Bool.and_true, show decide ((k : Int) < (v.Data.length : Int)) = true from decide_eq_true (by omega), if_true, idx_get h, Option.bind_some]
          by_cases hok : chOk v.Data[k] = true
          · have e : ((decide (v.Data[k] < 0) || decide (v.Data[k] > 1114111)) || (decide (v.Data[k] ≥ 55296) && decide (v.Data[k] ≤ 57343))) = false := by
              unfold chOk at hok
              simp at hok ⊢; omega
            rw [e, if_neg (by simp), if_pos hok, w64_id (by omega) (by omega)]
          · have e : ((decide (v.Data[k] < 0) || decide (v.Data[k] > 1114111)) || (decide (v.Data[k] ≥ 55296) && decide (v.Data[k] ≤ 57343))) = true := by
              unfold chOk at hok
              simp at hok ⊢; omega
            rw [e, if_pos rfl, if_neg hok]
        · unfold M.anamnesisref02_Right_L2; simp
    rcases hloop with ⟨hall, hw⟩ | ⟨hall, hw⟩
    · rw [hw, hchars]
      simp only [Option.bind_some, joinK_next]
      have hok : ∀ b : Bool, (decide (shOk v.Shape) && decide (prod v.Shape = v.Data.length) && b) = ((prod v.Shape == (v.Data.length : Int)) && decide (prod v.Shape ≤ 10000) && b) := by
        intro b
        have : decide (shOk v.Shape) = decide (prod v.Shape ≤ 10000) := by
          by_cases h : prod v.Shape ≤ 10000
          · rw [decide_eq_true h, decide_eq_true (show shOk v.Shape from ⟨by omega, hall, h⟩)]
          · rw [decide_eq_false h, decide_eq_false (fun hh : shOk v.Shape => h hh.2.2)]
        rw [this]
        have e2 : (prod v.Shape == (v.Data.length : Int)) = decide (prod v.Shape = v.Data.length) := rfl
        rw [e2]
        cases decide (prod v.Shape ≤ 10000) <;> cases decide (prod v.Shape = (v.Data.length : Int)) <;> rfl
      unfold vRight
      rw [hok]
      cases hcb : (!v.Char || v.Data.all chOk) with
      | true => simp
      | false => simp
    · rw [hw]
      have : vRight v = false := by
        cases h : vRight v with
        | false => rfl
        | true => exact absurd (vRight_iff.mp h).1.2.1 hall
      rw [this]; rfl
theorem ref02_Same_eq {a b : Val} (hs : a.Shape.length ≤ maxLen) (hd : a.Data.length ≤ maxLen) : M.anamnesisref02_Same a b = some (vSame a b) := by
  have hm : maxLen = 9223372036854775807 := rfl
  unfold M.anamnesisref02_Same
  by_cases hl : (a.Char = b.Char ∧ a.Shape.length = b.Shape.length) ∧ a.Data.length = b.Data.length
  · obtain ⟨⟨h1, h2⟩, h3⟩ := hl
    rw [if_neg (by simp [h1, h2, h3])]
    have l1 := same_loop (f := M.anamnesisref02_Same_L1 a b) h2 hs (fun k h => by
      unfold M.anamnesisref02_Same_L1
      simp only [show decide ((k : Int) < (a.Shape.length : Int)) = true from decide_eq_true (by omega), if_true, idx_get h, idx_get (show k < b.Shape.length by omega), Option.bind_some]
      by_cases he : a.Shape[k] = b.Shape[k]
      · rw [if_pos he, if_neg (by simp [he]), w64_id (by omega) (by omega)]
      · rw [if_neg he, if_pos (by simp [he])]) (by unfold M.anamnesisref02_Same_L1; simp)
    have l2 := same_loop (f := M.anamnesisref02_Same_L2 a b) h3 hd (fun k h => by
      unfold M.anamnesisref02_Same_L2
      simp only [show decide ((k : Int) < (a.Data.length : Int)) = true from decide_eq_true (by omega), if_true, idx_get h, idx_get (show k < b.Data.length by omega), Option.bind_some]
      by_cases he : a.Data[k] = b.Data[k]
      · rw [if_pos he, if_neg (by simp [he]), w64_id (by omega) (by omega)]
      · rw [if_neg he, if_pos (by simp [he])]) (by unfold M.anamnesisref02_Same_L2; simp)
    rw [l1, l2]
    unfold vSame
    simp only [h1, BEq.rfl, Bool.true_and]
    by_cases he : a.Shape = b.Shape
    · rw [if_pos he, decide_eq_true he]
      by_cases hd : a.Data = b.Data
      · rw [if_pos hd, decide_eq_true hd]; rfl
      · rw [if_neg hd, decide_eq_false hd]; rfl
    · rw [if_neg he, decide_eq_false he]; rfl
  · have e : ((!(a.Char == b.Char) || ((a.Shape.length : Int) != (b.Shape.length : Int))) || ((a.Data.length : Int) != (b.Data.length : Int))) = true := by
      cases hq : ((!(a.Char == b.Char) || ((a.Shape.length : Int) != (b.Shape.length : Int))) || ((a.Data.length : Int) != (b.Data.length : Int))) with
      | true => rfl
      | false =>
        exfalso; apply hl
        simp only [Bool.or_eq_false_iff, Bool.not_eq_false', beq_iff_eq, bne_eq_false_iff_eq] at hq
        obtain ⟨⟨q1, q2⟩, q3⟩ := hq
        exact ⟨⟨q1, by omega⟩, by omega⟩
    rw [if_pos e]
    have : vSame a b = false := by
      cases hq : vSame a b with
      | false => rfl
      | true => have := vSame_iff.mp hq; subst this; simp at hl
    rw [this]
theorem whole_one {v : Val} (h : v.Data.length ≤ 9223372036854775807) : M.join_whole [v] = some (vRight v) := by
  unfold M.join_whole
  rw [contains_Val (g := fun v => !vRight v) (fun x hx => by
    obtain rfl := List.mem_singleton.mp hx
    unfold M.join_whole_1; rw [value_Right_eq h]; rfl) (by simp)]
  simp
theorem whole_two {v w : Val} (h : v.Data.length ≤ 9223372036854775807) (h' : w.Data.length ≤ 9223372036854775807) : M.join_whole [v, w] = some (vRight v && vRight w) := by
  unfold M.join_whole
  rw [contains_Val (g := fun v => !vRight v) (fun x hx => by
    have : x = v ∨ x = w := by simpa using hx
    rcases this with rfl | rfl
    · unfold M.join_whole_1; rw [value_Right_eq h]; rfl
    · unfold M.join_whole_1; rw [value_Right_eq h']; rfl) (by simp)]
  simp
def zV : Val := ⟨false, [], []⟩
/-- a list written down element by element. -/
theorem copy_loop {S β : Type} {f : S → Option (Ctl S β)} (st : Nat → List Int → S) {l : List Int} {g : Int → Int} {out : List Int → β}
    (hf : ∀ k : Nat, ∀ h : k < l.length, ∀ m : List Int, m.length = k → f (st k m) = some (.next (st (k + 1) (m ++ [g l[k]])))) (he : ∀ m : List Int, m.length = l.length → f (st l.length m) = some (.done (out m))) :
    wloop f (st 0 []) = some (out (l.map g)) := by
  have := loop_fun (f := f) (fun k => st k ((l.take k).map g)) l.length (b := out (l.map g)) (fun k hk => by
    rw [hf k hk _ (by simp; omega), List.take_succ_eq_append_getElem hk, List.map_append]; rfl) (by
    rw [List.take_length, he _ (by simp)])
  simpa using this
theorem join_Shape_eq {v : Val} (h : v.Data.length ≤ 1000000000) : M.join_Shape v = some (if vRight v then (⟨false, [(v.Shape.length : Int)], v.Shape⟩, 0) else (zV, 1)) := by
  unfold M.join_Shape
  rw [whole_one (by omega)]
  cases hr : vRight v with
  | false => rfl
  | true =>
    obtain ⟨⟨h4, _⟩, _⟩ := vRight_iff.mp hr
    simp only [Option.bind_some, Bool.not_true, Bool.false_eq_true, if_false, if_true]
    have := copy_loop (f := M.join_Shape_L1 v) (fun k m => ((k : Int), m)) (l := v.Shape) (g := id) (out := fun m => .next m) (fun k hk m hm => by
      unfold M.join_Shape_L1
      simp only [show decide ((k : Int) < (v.Shape.length : Int)) = true from decide_eq_true (by omega), if_true, idx_get hk, Option.bind_some]
      rw [app_ok (by simp; omega), w64_id (by omega) (by omega)]; rfl) (fun m _ => by unfold M.join_Shape_L1; simp)
    simp only [Int.natCast_zero, List.map_id] at this
    rw [this]; rfl
theorem join_Ravel_eq {v : Val} (h : v.Data.length ≤ 1000000000) : M.join_Ravel v = some (if vRight v then (⟨v.Char, [(v.Data.length : Int)], v.Data⟩, 0) else (zV, 1)) := by
  unfold M.join_Ravel M.slices_Clone__int64
  rw [whole_one (by omega)]
  cases hr : vRight v with
  | false => rfl
  | true =>
    simp only [Option.bind_some, Bool.not_true, Bool.false_eq_true, if_false, if_true]
    rw [app_ok (by simp; omega)]; rfl
def clip (n : Int) : Int := if 10001 < n then 10001 else n
def lenErr (a : Val) : Int := if a.Shape.length > 1 then 24 else if (a.Char = true ∧ a.Data.length > 0) ∨ a.Data.any (fun n => decide (n < 0)) = true then 23 else if a.Data.length > 4 then 24 else 0
theorem join_lengths_eq {a : Val} (h : a.Data.length ≤ 1000000000) : M.join_lengths a = some (if lenErr a = 0 then a.Data.map clip else [], lenErr a) := by
  unfold M.join_lengths lenErr
  by_cases h1 : a.Shape.length > 1
  · rw [if_pos (by simp; omega), if_pos h1]; rfl
  · rw [if_neg (by simp; omega), if_neg h1]
    have e : (if (a.Char && decide ((a.Data.length : Int) > 0)) = true then some true else (M.slices_ContainsFunc__int64 a.Data (fun x0 => M.join_lengths_1 x0)).bind fun r1 => some r1) = some (decide ((a.Char = true ∧ a.Data.length > 0) ∨ a.Data.any (fun n => decide (n < 0)) = true)) := by
      rw [contains_int64 (f := fun x0 => M.join_lengths_1 x0) (g := fun n => decide (n < 0)) (fun x _ => rfl) (by omega)]
      by_cases hc : a.Char = true ∧ a.Data.length > 0
      · rw [if_pos (by simp [hc.1]; omega), decide_eq_true (.inl hc)]
      · have hc2 : ¬ (a.Char && decide ((a.Data.length : Int) > 0)) = true := by
          intro h; rw [Bool.and_eq_true, decide_eq_true_eq] at h; exact hc ⟨h.1, by omega⟩
        rw [if_neg hc2]
        simp only [Option.bind_some]
        congr 1
        rw [Bool.eq_iff_iff, decide_eq_true_eq]
        exact ⟨.inr, fun h => h.resolve_left hc⟩
    rw [e]
    simp only [Option.bind_some]
    by_cases h2 : (a.Char = true ∧ a.Data.length > 0) ∨ a.Data.any (fun n => decide (n < 0)) = true
    · rw [if_pos (by simpa using h2), if_pos h2]; rfl
    · rw [if_neg (by simpa using h2), if_neg h2]
      by_cases h3 : a.Data.length > 4
      · rw [if_pos (by simp; omega), if_pos h3]; rfl
      · rw [if_neg (by simp; omega), if_neg h3, if_pos rfl]
        have := copy_loop (f := M.join_lengths_L1 a) (fun k m => (m, (k : Int))) (l := a.Data) (g := clip) (out := fun m => .next m) (fun k hk m hm => by
          unfold M.join_lengths_L1
          simp only [show decide ((k : Int) < (a.Data.length : Int)) = true from decide_eq_true (by omega), if_true, idx_get hk, Option.bind_some]
          rw [app_ok (by simp; omega), w64_id (by omega) (by omega)]; rfl) (fun m _ => by unfold M.join_lengths_L1; simp)
        simp only [Int.natCast_zero] at this
        rw [this]; rfl
def fillOf (c : Bool) : Int := if c then 32 else 0
/-- as many of a list's elements as are wanted, from the first one on again and again. -/
def cyc (b : Val) (n : Nat) : List Int := (List.range n).map fun k => if b.Data = [] then fillOf b.Char else (b.Data[k % b.Data.length]?).getD 0
theorem cyc_len (b : Val) (n : Nat) : (cyc b n).length = n := by simp [cyc]
theorem cyc_get {b : Val} {n k : Nat} (h : k < n) : (cyc b n)[k]? = some (if b.Data = [] then fillOf b.Char else (b.Data[k % b.Data.length]?).getD 0) := by
  unfold cyc; rw [List.getElem?_map, List.getElem?_range h]; rfl
theorem cyc_self {b : Val} : cyc b b.Data.length = b.Data := by
  apply List.ext_getElem?
  intro k
  by_cases h : k < b.Data.length
  · rw [cyc_get h, if_neg (by intro h0; rw [h0] at h; simp at h), Nat.mod_eq_of_lt h, List.getElem?_eq_getElem h]; rfl
  · rw [List.getElem?_eq_none (by rw [cyc_len]; omega), List.getElem?_eq_none (by omega)]
theorem join_filled_eq {s : List Int} {n : Nat} {b : Val} (hn : n ≤ 10000) (hb : b.Data.length ≤ 1000000000) : M.join_filled s (n : Int) b = some ⟨b.Char, s, cyc b n⟩ := by
  unfold M.join_filled
  rw [mk_ok (by omega) (by omega)]
  simp only [Option.bind_some]
  by_cases h0 : b.Data = []
  · rw [if_pos (by simp [h0])]
    obtain ⟨m, ⟨h1, h2⟩, h3⟩ := loop_up (f := M.join_filled_L1 b (List.replicate n 0)) (fun k (m : List Int) => ((k : Int), m)) n (fun k m => m.length = n ∧ ∀ i, i < k → m[i]? = some (fillOf b.Char)) (fun m => .next m) (List.replicate n 0) ⟨by simp, fun i h => by omega⟩ (fun k m hk ⟨hm, hI⟩ => by
      refine ⟨m.set k (fillOf b.Char), ?_, by simp [hm], fun i hi => ?_⟩
      · unfold M.join_filled_L1
        have hfill : M.value_Fill b = some (fillOf b.Char) := by unfold M.value_Fill fillOf; cases b.Char <;> rfl
        simp only [List.length_replicate, show decide ((k : Int) < (n : Int)) = true from decide_eq_true (by omega), if_true, hfill, Option.bind_some]
        rw [idx_get (show k < m.length by omega)]
        simp only [Option.bind_some]
        rw [upd_nat (by omega), w64_id (by omega) (by omega)]; rfl
      · by_cases he : i = k
        · subst he; rw [List.getElem?_set_self (by omega)]
        · rw [List.getElem?_set_ne (by omega)]; exact hI i (by omega)) (fun m _ => by unfold M.join_filled_L1; simp)
    simp only [Int.natCast_zero] at h3
    rw [h3]
    simp only [Option.bind_some, joinK_next]
    have h4 : wloop (M.join_filled_L2 (n : Int) b) (0, m) = some (.next m) := wloop_done (by unfold M.join_filled_L2; simp [h0])
    rw [h4]
    simp only [Option.bind_some, joinK_next]
    have : m = cyc b n := by
      apply List.ext_getElem?
      intro k
      by_cases h : k < n
      · rw [cyc_get h, if_pos h0, h2 k h]
      · rw [List.getElem?_eq_none (by omega), List.getElem?_eq_none (by rw [cyc_len]; omega)]
    rw [this]
  · have hpos : 0 < b.Data.length := List.length_pos_iff.mpr h0
    rw [if_neg (by simp [h0])]
    simp only [Option.bind_some]
    have key := wloop_ind (f := M.join_filled_L2 (n : Int) b) (fun j st => ∃ (k : Nat) (m : List Int), st = ((k : Int), m) ∧ j = n - k ∧ k ≤ n ∧ m.length = n ∧ (k = n ∨ k % b.Data.length = 0) ∧ ∀ i, i < k → m[i]? = some ((b.Data[i % b.Data.length]?).getD 0))
      (fun c => ∃ m, c = .next m ∧ m = cyc b n) (fun j st h => by
        obtain ⟨k, m, rfl, rfl, hk, hm, hmod, hI⟩ := h
        unfold M.join_filled_L2
        simp only []
        by_cases hlt : k < n
        · left
          rw [if_pos (by simp; omega), sub_drop (by omega)]
          simp only [Option.bind_some]
          have hdl : (m.drop k).length = n - k := by simp [hm]
          rw [hdl, w64_id (by omega) (by omega), Int.toNat_natCast, show (k : Int) + ((min b.Data.length (n - k) : Nat) : Int) = ((k + min b.Data.length (n - k) : Nat) : Int) by omega]
          have hm0 : k % b.Data.length = 0 := by omega
          refine ⟨_, n - (k + min b.Data.length (n - k)), rfl, by omega, k + min b.Data.length (n - k), _, rfl, rfl, by omega, by rw [cpy_len (by omega)]; exact hm, ?_, fun i hi => ?_⟩
          · by_cases hc : b.Data.length ≤ n - k
            · right; rw [Nat.min_eq_left hc, Nat.add_mod_right]; exact hm0
            · left; omega
          · unfold cpy
            by_cases hik : i < k
            · rw [List.getElem?_append_left (by simp; omega), List.getElem?_append_left (by simp; omega), List.getElem?_take_of_lt hik]
              exact hI i hik
            · have hq : k = b.Data.length * (k / b.Data.length) := by
                have := Nat.div_add_mod k b.Data.length
                omega
              have him : i % b.Data.length = i - k := by
                rw [show i = (i - k) + b.Data.length * (k / b.Data.length) by rw [← hq]; omega, Nat.add_mul_mod_self_left, Nat.mod_eq_of_lt (by omega)]
                omega
              rw [List.getElem?_append_left (by simp; omega), List.getElem?_append_right (by simp; omega), List.getElem?_take_of_lt (by simp; omega), him]
              have e : i - (m.take k).length = i - k := by simp; omega
              rw [e, List.getElem?_eq_getElem (show i - k < b.Data.length by omega)]; rfl
        · right
          rw [if_neg (by simp; omega)]
          refine ⟨_, rfl, m, rfl, ?_⟩
          apply List.ext_getElem?
          intro i
          by_cases h : i < n
          · rw [cyc_get h, if_neg h0, hI i (by omega)]
          · rw [List.getElem?_eq_none (by omega), List.getElem?_eq_none (by rw [cyc_len]; omega)]) n ((0 : Int), List.replicate n 0) ⟨0, _, rfl, by omega, by omega, by simp, .inr (by simp), fun i h => by omega⟩
    obtain ⟨c, hc, m, rfl, rfl⟩ := key
    rw [hc]; rfl
def reshV (a b : Val) : Val × Int :=
  if vRight a && vRight b then
    if lenErr a ≠ 0 then (zV, lenErr a)
    else if shOk (a.Data.map clip) then (⟨b.Char, a.Data.map clip, cyc b (prod (a.Data.map clip)).toNat⟩, 0) else (zV, 27)
  else (zV, 1)
theorem join_Reshape_eq {a b : Val} (ha : a.Data.length ≤ 1000000000) (hb : b.Data.length ≤ 1000000000) : M.join_Reshape a b = some (reshV a b) := by
  unfold M.join_Reshape reshV
  rw [whole_two (by omega) (by omega)]
  cases hr : vRight a && vRight b with
  | false => rfl
  | true =>
    simp only [Option.bind_some, Bool.not_true, Bool.false_eq_true, if_false, if_true]
    rw [join_lengths_eq ha]
    simp only [Option.bind_some]
    by_cases he : lenErr a = 0
    · rw [if_pos he, if_neg (by simpa using he), if_neg (by simpa using he)]
      have hml : (a.Data.map clip).length ≤ 1000000000 := by simpa using ha
      rw [shape_Size_eq (by have : maxLen = 9223372036854775807 := rfl; omega)]
      simp only [Option.bind_some]
      rcases shSize_cases (a.Data.map clip) with ⟨hok, hs⟩ | ⟨hok, hs, _⟩
      · rw [hs, if_pos hok]
        simp only [bne_self_eq_false, Bool.false_eq_true, if_false]
        rw [contains_int (f := fun x0 => M.join_Reshape_1 x0) (g := fun n => decide (n > 10000)) (fun x _ => rfl) (by omega)]
        have : (a.Data.map clip).any (fun n => decide (n > 10000)) = false := by
          rw [List.any_eq_false]
          intro x hx
          have := hok.2.1 x hx
          simp; omega
        rw [this]
        simp only [Option.bind_some, Bool.false_eq_true, if_false]
        have hp := prod_nonneg (fun x hx => (hok.2.1 x hx).1)
        have hp2 := hok.2.2
        obtain ⟨n, hn⟩ := Int.eq_ofNat_of_zero_le hp
        rw [hn] at hp2 ⊢
        rw [join_filled_eq (by omega) hb, Int.toNat_natCast]; rfl
      · rw [if_neg hok, if_pos (by simpa using hs)]; rfl
    · rw [if_neg he, if_pos (by simpa using he), if_pos (by simpa using he)]; rfl
theorem ref07_Size_eq {s : List Int} (hl : s.length ≤ 9223372036854775807) : M.anamnesisref07_Size s = some (if shOk s then prod s else -1) := by
  unfold M.anamnesisref07_Size
  by_cases h4 : s.length > 4
  · rw [if_pos (by simp; omega), if_neg (fun h => by have := h.1; omega)]
  · rw [if_neg (by simp; omega)]
    have key := wloop_ind (f := M.anamnesisref07_Size_L1 s) (fun n st => ∃ k : Nat, st = (prod (s.take k), (k : Int)) ∧ k ≤ s.length ∧ n = s.length - k ∧ ∀ x ∈ s.take k, 0 ≤ x ∧ x ≤ 10000)
      (fun b => (b = .next (prod s) ∧ ∀ x ∈ s, 0 ≤ x ∧ x ≤ 10000) ∨ (b = .done (-1) ∧ ¬ ∀ x ∈ s, 0 ≤ x ∧ x ≤ 10000)) (fun n st h => by
        obtain ⟨k, rfl, hk, rfl, hb⟩ := h
        unfold M.anamnesisref07_Size_L1
        by_cases hlt : k < s.length
        · simp only [show decide ((k : Int) < (s.length : Int)) = true from by simp; exact hlt, if_true, idx_get hlt, Option.bind_some]
          have e : (if decide (s[k] < 0) = true then some true else some (decide (s[k] > 10000))) = some (decide (s[k] < 0 ∨ s[k] > 10000)) := by
            by_cases h : s[k] < 0
            · rw [if_pos (by simpa using h), decide_eq_true (.inl h)]
            · rw [if_neg (by simpa using h)]; simp [h]
          rw [e]
          simp only [Option.bind_some]
          by_cases hbad : s[k] < 0 ∨ s[k] > 10000
          · right
            rw [if_pos (by simpa using hbad)]
            refine ⟨_, rfl, .inr ⟨rfl, fun h => ?_⟩⟩
            have := h _ (List.getElem_mem hlt)
            omega
          · left
            rw [if_neg (by simpa using hbad)]
            have e : prod (s.take k) * s[k] = prod (s.take (k + 1)) := by
              rw [List.take_succ_eq_append_getElem hlt, prod_append]; simp [prod]
            have hb' : ∀ x ∈ s.take (k + 1), 0 ≤ x ∧ x ≤ 10000 := by
              intro x hx
              rw [List.take_succ_eq_append_getElem hlt] at hx
              rcases List.mem_append.mp hx with hx | hx
              · exact hb x hx
              · obtain rfl := List.mem_singleton.mp hx; omega
            have hp := prod_bound (s.take (k + 1)) 4 (by rw [List.length_take]; omega) hb'
            refine ⟨_, s.length - (k + 1), rfl, by omega, k + 1, ?_, by omega, rfl, hb'⟩
            rw [e, w64_id (by omega) (by omega), w64_id (by omega) (by omega)]
            simp
        · have : k = s.length := by omega
          subst this
          right
          rw [List.take_length] at hb ⊢
          exact ⟨_, by simp, .inl ⟨rfl, hb⟩⟩)
      s.length (1, 0) ⟨0, by simp [prod], by omega, by omega, by simp⟩
    obtain ⟨b, hb, ⟨rfl, h⟩ | ⟨rfl, h⟩⟩ := key
    · rw [hb]
      simp only [Option.bind_some, joinK_next]
      by_cases hp : prod s > 10000
      · rw [if_pos (by simpa using hp), if_neg (fun h => by have := h.2.2; omega)]
      · rw [if_neg (by simpa using hp), if_pos ⟨by omega, h, by omega⟩]
    · rw [hb, if_neg (fun h' => h h'.2.1)]; rfl
theorem ref07_Reshape_eq {a b : Val} (ha : a.Data.length ≤ 1000000) (hb : b.Data.length ≤ 1000000) : M.anamnesisref07_Reshape a b = some (reshV a b) := by
  unfold M.anamnesisref07_Reshape reshV
  rw [ref02_Right_eq (by omega), ref02_Right_eq (by omega)]
  simp only [Option.bind_some]
  cases hra : vRight a with
  | false => rfl
  | true =>
    cases hrb : vRight b with
    | false => rfl
    | true =>
      simp only [Bool.not_true, Bool.false_eq_true, if_false, Option.bind_some, Bool.and_self, if_true]
      unfold lenErr
      by_cases h1 : a.Shape.length > 1
      · rw [if_pos (by simp; omega), if_pos h1, if_pos (by omega)]; rfl
      · rw [if_neg (by simp; omega), if_neg h1]
        have l1 : wloop (M.anamnesisref07_Reshape_L1 a) 0 = some (if (a.Char = true ∧ a.Data.length > 0) ∨ a.Data.any (fun n => decide (n < 0)) = true then .done (zV, 23) else .next ()) := by
          have key := wloop_ind (f := M.anamnesisref07_Reshape_L1 a) (fun n st => ∃ k : Nat, st = (k : Int) ∧ k ≤ a.Data.length ∧ n = a.Data.length - k ∧ (0 < k → a.Char = false) ∧ ∀ x ∈ a.Data.take k, ¬ x < 0)
            (fun c => (c = .done (zV, 23) ∧ ((a.Char = true ∧ a.Data.length > 0) ∨ ∃ x ∈ a.Data, x < 0)) ∨ (c = .next () ∧ ¬ ((a.Char = true ∧ a.Data.length > 0) ∨ ∃ x ∈ a.Data, x < 0))) (fun n st h => by
              obtain ⟨k, rfl, hk, rfl, hc, hI⟩ := h
              unfold M.anamnesisref07_Reshape_L1
              by_cases hlt : k < a.Data.length
              · simp only [show decide ((k : Int) < (a.Data.length : Int)) = true from by simp; exact hlt, if_true, idx_get hlt, Option.bind_some]
                cases hch : a.Char with
                | true => exact .inr ⟨_, rfl, .inl ⟨rfl, .inl ⟨rfl, by omega⟩⟩⟩
                | false =>
                  simp only [Bool.false_eq_true, if_false, Option.bind_some]
                  by_cases hneg : a.Data[k] < 0
                  · rw [if_pos (by simpa using hneg)]
                    exact .inr ⟨_, rfl, .inl ⟨rfl, .inr ⟨_, List.getElem_mem hlt, hneg⟩⟩⟩
                  · rw [if_neg (by simpa using hneg)]
                    refine .inl ⟨_, a.Data.length - (k + 1), rfl, by omega, k + 1, by rw [w64_id (by omega) (by omega)]; rfl, by omega, rfl, (by intro _; first | exact hch | rfl | trivial), fun x hx => ?_⟩
                    rw [List.take_succ_eq_append_getElem hlt] at hx
                    rcases List.mem_append.mp hx with hx | hx
                    · exact hI x hx
                    · obtain rfl := List.mem_singleton.mp hx; exact hneg
              · have : k = a.Data.length := by omega
                subst this
                right
                refine ⟨_, by simp, .inr ⟨rfl, ?_⟩⟩
                rw [List.take_length] at hI
                rintro (⟨h1, h2⟩ | ⟨x, hx, hx2⟩)
                · rw [hc h2] at h1; cases h1
                · exact hI x hx hx2) a.Data.length (0 : Int) ⟨0, rfl, by omega, by omega, by omega, by simp⟩
          obtain ⟨c, hc, ⟨rfl, h⟩ | ⟨rfl, h⟩⟩ := key
          · rw [hc, if_pos (by simpa using h)]
          · rw [hc, if_neg (by simpa using h)]
        rw [l1]
        by_cases h2 : (a.Char = true ∧ a.Data.length > 0) ∨ a.Data.any (fun n => decide (n < 0)) = true
        · simp only [if_pos h2]
          rw [if_pos (show (23 : Int) ≠ 0 by omega)]; rfl
        · simp only [if_neg h2]
          simp only [Option.bind_some, joinK_next]
          by_cases h3 : a.Data.length > 4
          · rw [if_pos (by simp; omega), if_pos h3, if_pos (by omega)]; rfl
          · rw [if_neg (by simp; omega), if_neg h3, if_neg (by omega)]
            have hneg : ∀ x ∈ a.Data, 0 ≤ x := by
              intro x hx
              by_cases h : x < 0
              · exact absurd (.inr (List.any_eq_true.mpr ⟨x, hx, by simpa using h⟩)) h2
              · omega
            have l2 : wloop (M.anamnesisref07_Reshape_L2 a) ([], 0) = some (if a.Data.any (fun n => decide (n > 10000)) = true then .done (zV, 27) else .next a.Data) := by
              have key := wloop_ind (f := M.anamnesisref07_Reshape_L2 a) (fun n st => ∃ k : Nat, st = (a.Data.take k, (k : Int)) ∧ k ≤ a.Data.length ∧ n = a.Data.length - k ∧ ∀ x ∈ a.Data.take k, ¬ x > 10000)
                (fun c => (c = .done (zV, 27) ∧ ∃ x ∈ a.Data, x > 10000) ∨ (c = .next a.Data ∧ ¬ ∃ x ∈ a.Data, x > 10000)) (fun n st h => by
                  obtain ⟨k, rfl, hk, rfl, hI⟩ := h
                  unfold M.anamnesisref07_Reshape_L2
                  by_cases hlt : k < a.Data.length
                  · simp only [show decide ((k : Int) < (a.Data.length : Int)) = true from by simp; exact hlt, if_true, idx_get hlt, Option.bind_some]
                    by_cases hb2 : a.Data[k] > 10000
                    · rw [if_pos (by simpa using hb2)]
                      exact .inr ⟨_, rfl, .inl ⟨rfl, _, List.getElem_mem hlt, hb2⟩⟩
                    · rw [if_neg (by simpa using hb2), app_ok (by simp; omega), w64_id (by omega) (by omega)]
                      refine .inl ⟨_, a.Data.length - (k + 1), rfl, by omega, k + 1, by rw [List.take_succ_eq_append_getElem hlt]; rfl, by omega, rfl, fun x hx => ?_⟩
                      rw [List.take_succ_eq_append_getElem hlt] at hx
                      rcases List.mem_append.mp hx with hx | hx
                      · exact hI x hx
                      · obtain rfl := List.mem_singleton.mp hx; exact hb2
                  · have : k = a.Data.length := by omega
                    subst this
                    right
                    rw [List.take_length] at hI ⊢
                    refine ⟨_, by simp, .inr ⟨rfl, ?_⟩⟩
                    rintro ⟨x, hx, hx2⟩
                    exact hI x hx hx2) a.Data.length (([] : List Int), (0 : Int)) ⟨0, by simp, by omega, by omega, by simp⟩
              obtain ⟨c, hc, ⟨rfl, h⟩ | ⟨rfl, h⟩⟩ := key
              · rw [hc, if_pos (by simpa using h)]
              · rw [hc, if_neg (by simpa using h)]
            rw [l2]
            by_cases hbig : a.Data.any (fun n => decide (n > 10000)) = true
            · rw [if_pos hbig, if_neg]
              · rfl
              · intro hok
                obtain ⟨x, hx, hx2⟩ := List.any_eq_true.mp hbig
                have hx3 : x > 10000 := by simpa using hx2
                have := hok.2.1 (clip x) (List.mem_map_of_mem hx)
                unfold clip at this
                split at this <;> omega
            · rw [if_neg hbig]
              have hsm : ∀ x ∈ a.Data, x ≤ 10000 := by
                intro x hx
                by_cases h : x > 10000
                · exact absurd (List.any_eq_true.mpr ⟨x, hx, by simpa using h⟩) hbig
                · omega
              have hmap : a.Data.map clip = a.Data := by
                have : ∀ x ∈ a.Data, clip x = id x := fun x hx => by have := hsm x hx; unfold clip; rw [if_neg (by omega)]; rfl
                rw [List.map_congr_left this, List.map_id]
              rw [hmap]
              simp only [Option.bind_some, joinK_next]
              rw [ref07_Size_eq (by omega)]
              simp only [Option.bind_some]
              by_cases hok : shOk a.Data
              · rw [if_pos hok, if_pos hok]
                have hp := prod_nonneg hneg
                have hp2 := hok.2.2
                obtain ⟨n, hn⟩ := Int.eq_ofNat_of_zero_le hp
                rw [hn] at hp2 ⊢
                rw [if_neg (by simp), Int.toNat_natCast]
                have l3 := loop_fun (f := M.anamnesisref07_Reshape_L3 b (n : Int)) (fun k => ((k : Int), (cyc b n).take k)) n (b := .next (cyc b n)) (fun k hk => by
                  have hg := cyc_get (b := b) hk
                  have hkl : k < (cyc b n).length := by rw [cyc_len]; exact hk
                  have hst : (cyc b n).take k ++ [(cyc b n)[k]] = (cyc b n).take (k + 1) := (List.take_succ_eq_append_getElem hkl).symm
                  rw [List.getElem?_eq_getElem hkl] at hg
                  have hg := Option.some.inj hg
                  have htl : ((cyc b n).take k).length = k := by rw [List.length_take, cyc_len]; omega
                  unfold M.anamnesisref07_Reshape_L3
                  simp only [show decide ((k : Int) < (n : Int)) = true from decide_eq_true (by omega), if_true]
                  by_cases h0 : b.Data = []
                  · rw [if_pos h0] at hg
                    rw [if_neg (by simp [h0])]
                    cases hc : b.Char with
                    | true =>
                      rw [hc] at hg
                      rw [if_pos rfl, app_ok (by simp; omega), w64_id (by omega) (by omega), ← hst, hg]; rfl
                    | false =>
                      rw [hc] at hg
                      rw [if_neg (by simp), app_ok (by simp; omega), w64_id (by omega) (by omega), ← hst, hg]; rfl
                  · have hpos : 0 < b.Data.length := List.length_pos_iff.mpr h0
                    have hm := Nat.mod_lt k hpos
                    rw [if_neg h0, List.getElem?_eq_getElem hm] at hg
                    rw [if_pos (by simp; omega)]
                    unfold remI
                    rw [if_neg (by omega), Int.tmod_eq_emod_of_nonneg (by omega), ← Int.natCast_emod]
                    simp only [Option.bind_some]
                    rw [idx_get hm]
                    simp only [Option.bind_some]
                    rw [app_ok (by simp; omega), w64_id (by omega) (by omega), ← hst, hg]; rfl) (by
                  unfold M.anamnesisref07_Reshape_L3
                  rw [List.take_of_length_le (by rw [cyc_len]; omega)]; simp)
                simp only [Int.natCast_zero, List.take_zero] at l3
                rw [l3]; rfl
              · rw [if_neg hok, if_neg hok]; rfl
theorem is_ok {v w : Val} {e : Int} (hs : v.Shape.length ≤ 1000000000) (hd : v.Data.length ≤ 1000000000) : M.anamnesislaw07_Is v e w = some ((e == 0) && vSame v w) := by
  unfold M.anamnesislaw07_Is
  rw [ref02_Same_eq (by have : maxLen = 9223372036854775807 := rfl; omega) (by have : maxLen = 9223372036854775807 := rfl; omega)]
  cases (e == 0) <;> rfl
theorem reshV_bound (a b : Val) : (reshV a b).1.Shape.length ≤ 10000 ∧ (reshV a b).1.Data.length ≤ 10000 := by
  unfold reshV
  split
  · split
    · exact ⟨by simp [zV], by simp [zV]⟩
    · split
      · rename_i h
        have := h.1
        have := h.2.2
        refine ⟨by simp only []; omega, ?_⟩
        simp only [cyc_len]; omega
      · exact ⟨by simp [zV], by simp [zV]⟩
  · exact ⟨by simp [zV], by simp [zV]⟩
theorem joinShapes_true (a b : Val) (ga : (∀ x ∈ a.Shape, (Lit.int .i64 x).wf = true) ∧ (∀ x ∈ a.Data, (Lit.int .i64 x).wf = true) ∧ a.Shape.length ≤ maxLen ∧ a.Data.length ≤ maxLen)
    (gb : (∀ x ∈ b.Shape, (Lit.int .i64 x).wf = true) ∧ (∀ x ∈ b.Data, (Lit.int .i64 x).wf = true) ∧ b.Shape.length ≤ maxLen ∧ b.Data.length ≤ maxLen) : M.anamnesislaw07_JoinShapes a b = some true := by
  have hm : maxLen = 9223372036854775807 := rfl
  unfold M.anamnesislaw07_JoinShapes M.anamnesislaw07_Great
  simp only [Option.bind_some]
  have e0 : (if (decide ((a.Data.length : Int) > 2000) || decide ((a.Shape.length : Int) > 10)) = true then some true else some (decide ((b.Data.length : Int) > 2000) || decide ((b.Shape.length : Int) > 10))) = some (decide ((a.Data.length > 2000 ∨ a.Shape.length > 10) ∨ b.Data.length > 2000 ∨ b.Shape.length > 10)) := by
    by_cases h : a.Data.length > 2000 ∨ a.Shape.length > 10
    · rw [if_pos (by simp; omega), decide_eq_true (.inl h)]
    · rw [if_neg (by simp; omega)]
      congr 1
      rw [Bool.eq_iff_iff]; simp; omega
  rw [e0]
  simp only [Option.bind_some]
  by_cases hbig : (a.Data.length > 2000 ∨ a.Shape.length > 10) ∨ b.Data.length > 2000 ∨ b.Shape.length > 10
  · rw [if_pos (by simpa using hbig)]
  rw [if_neg (by simpa using hbig), join_Reshape_eq (by omega) (by omega), ref07_Reshape_eq (by omega) (by omega)]
  obtain ⟨b1, b2⟩ := reshV_bound a b
  generalize reshV a b = q at b1 b2
  obtain ⟨q1, q2⟩ := q
  simp only [Option.bind_some]
  have ht : M.anamnesislaw07_told q1 q2 q1 q2 = some true := by
    unfold M.anamnesislaw07_told
    simp only [] at b1 b2
    rw [if_pos (by simp), ref02_Same_eq (by omega) (by omega), vSame_refl]; rfl
  rw [ht]
  simp only [Option.bind_some, Bool.not_true, Bool.false_eq_true, if_false]
  rw [join_Shape_eq (by omega), join_Ravel_eq (by omega), ref02_Right_eq (by omega)]
  have hN : M.anamnesislaw07_None zV 1 1 = some true := by
    unfold M.anamnesislaw07_None
    rw [if_pos (by simp), show (⟨false, [], []⟩ : Val) = zV from rfl, ref02_Same_eq (by simp [zV]) (by simp [zV]), vSame_refl]; rfl
  cases hr : vRight b with
  | false =>
    simp only [Bool.false_eq_true, if_false, Option.bind_some, Bool.not_false, if_true, hN]; rfl
  | true =>
    simp only [if_true, Option.bind_some, Bool.not_true, Bool.false_eq_true, if_false]
    have e1 : (if ((((0 : Int) != 0) || false) || ((([(b.Shape.length : Int)]).length : Int) != 1)) = true then some true else (idx [(b.Shape.length : Int)] 0).bind fun y1 => some (y1 != (b.Shape.length : Int))) = some false := by
      rw [if_neg (by simp), show idx [(b.Shape.length : Int)] 0 = some (b.Shape.length : Int) from rfl]; simp
    rw [e1]
    simp only [Option.bind_some, Bool.false_or]
    rw [if_neg (by simp)]
    have l1 := loop_fun (f := M.anamnesislaw07_JoinShapes_L1 b ⟨false, [(b.Shape.length : Int)], b.Shape⟩) (fun k => (k : Int)) b.Shape.length (b := .next ()) (fun k hk => by
      unfold M.anamnesislaw07_JoinShapes_L1
      simp only [show decide ((k : Int) < (b.Shape.length : Int)) = true from decide_eq_true (by omega), if_true, idx_get hk, Option.bind_some, bne_self_eq_false, Bool.false_eq_true, if_false]
      rw [w64_id (by omega) (by omega)]; rfl) (by unfold M.anamnesislaw07_JoinShapes_L1; simp)
    simp only [Int.natCast_zero] at l1
    rw [l1]
    simp only [Option.bind_some, joinK_next]
    rw [is_ok (by simp) (by simp only []; omega), vSame_refl]; rfl

end Go.Proofs.Ytaedfhikoamfeaa.joinShapes
