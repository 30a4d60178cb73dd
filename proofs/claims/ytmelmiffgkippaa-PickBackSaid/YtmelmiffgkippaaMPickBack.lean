/- PickBack: what the code that the law reaches computes, as plain functions; and that the law comes to true. -/
import Derived.Test.YtmelmiffgkippaaAmU
set_option maxHeartbeats 4000000
set_option linter.unusedVariables false
set_option linter.unusedSimpArgs false
set_option maxRecDepth 100000
open Go Go.Am
namespace Go.Proofs.Ytmelmiffgkippaa.pickBack
noncomputable def M.slices_IndexFunc__int64_L1 (s1 : (List Int)) (f1 : (Int → Option (Bool))) (s : Int) : Option (Ctl (Int) (Ctl (Unit) (Int))) :=
  match s with
  | t1 =>
    if (decide (t1 < (s1.length : Int))) then
      (idx s1 t1).bind fun y1 =>
      (f1 y1).bind fun r1 =>
      if r1 then
        some (.done (.done t1))
      else
        some (.next (IntKind.i64.wrap (t1 + 1)))
    else
      some (.done (.next ()))
noncomputable def M.slices_IndexFunc__int64 (s1 : (List Int)) (f1 : (Int → Option (Bool))) : Option (Int) :=
  (wloop (M.slices_IndexFunc__int64_L1 s1 f1) 0).bind fun k => joinK k fun _ =>
  some (-1)
noncomputable def M.slices_ContainsFunc__int64 (s1 : (List Int)) (f1 : (Int → Option (Bool))) : Option (Bool) :=
  (M.slices_IndexFunc__int64 s1 f1).bind fun r1 =>
  some (decide (r1 ≥ 0))
noncomputable def M.unicode_utf8_ValidRune (r1 : Int) : Option (Bool) :=
  if ((decide (0 ≤ r1)) && (decide (r1 < 55296))) then
    some true
  else
    if ((decide (57343 < r1)) && (decide (r1 ≤ 1114111))) then
      some true
    else
      some false
noncomputable def M.value_character (n1 : Int) : Option (Bool) :=
  (if ((decide (n1 ≥ 0)) && (decide (n1 ≤ 1114111))) then
  (M.unicode_utf8_ValidRune (IntKind.i32.wrap n1)).bind fun r1 =>
  some r1 else
  some false).bind fun c2 =>
  some c2
noncomputable def M.value_Right_1 (n1 : Int) : Option (Bool) :=
  (M.value_character n1).bind fun r1 =>
  some (!r1)
noncomputable def M.value_Right_L1 (v1 : Val) (s : Int × Int) : Option (Ctl (Int × Int) (Ctl (Int) (Bool))) :=
  match s with
  | (size1, t1) =>
    if (decide (t1 < (v1.Shape.length : Int))) then
      (idx v1.Shape t1).bind fun y1 =>
      if ((decide (y1 < 0)) || (decide (y1 > 10000))) then
        some (.done (.done false))
      else
        some (.next ((IntKind.i64.wrap (size1 * y1)), (IntKind.i64.wrap (t1 + 1))))
    else
      some (.done (.next size1))
noncomputable def M.value_Right (v1 : Val) : Option (Bool) :=
  if (decide ((v1.Shape.length : Int) > 4)) then
    some false
  else
    (wloop (M.value_Right_L1 v1) (1, 0)).bind fun k => joinK k fun size1 =>
    if ((decide (size1 > 10000)) || (size1 != (v1.Data.length : Int))) then
      some false
    else
      (if (!v1.Char) then
      some true else
      (M.slices_ContainsFunc__int64 v1.Data (fun x0 => M.value_Right_1 x0)).bind fun r1 =>
      some (!r1)).bind fun c4 =>
      some c4
noncomputable def M.pick_counts (a1 : Val) (b1 : Val) : Option (Int) :=
  (M.value_Right a1).bind fun r1 =>
  (if (!r1) then
  some true else
  (M.value_Right b1).bind fun r2 =>
  some (!r2)).bind fun c1 =>
  if c1 then
    some 1
  else
    if (decide ((a1.Shape.length : Int) > 1)) then
      some 24
    else
      if (a1.Char && (decide ((a1.Data.length : Int) > 0))) then
        some 23
      else
        some 0
noncomputable def M.pick_lined (b1 : Val) (axis1 : Int) : Option (Val × Int × Bool) :=
  (if ((b1.Shape.length : Int) == 0) then
    some [1]
  else
    some b1.Shape).bind fun Shape1 =>
  (if (axis1 == (-1)) then
    some (IntKind.i64.wrap ((Shape1.length : Int) - 1))
  else
    some axis1).bind fun axis2 =>
  some ((Val.mk b1.Char Shape1 b1.Data), axis2, ((decide (axis2 ≥ 0)) && (decide (axis2 < (Shape1.length : Int)))))
noncomputable def M.pick_Expand_1 (n1 : Int) : Option (Bool) :=
  some ((n1 != 0) && (n1 != 1))
noncomputable def M.slices_Clone__int (s1 : (List Int)) : Option ((List Int)) :=
  app 8 [] s1
noncomputable def M.slices_IndexFunc__int_L1 (s1 : (List Int)) (f1 : (Int → Option (Bool))) (s : Int) : Option (Ctl (Int) (Ctl (Unit) (Int))) :=
  match s with
  | t1 =>
    if (decide (t1 < (s1.length : Int))) then
      (idx s1 t1).bind fun y1 =>
      (f1 y1).bind fun r1 =>
      if r1 then
        some (.done (.done t1))
      else
        some (.next (IntKind.i64.wrap (t1 + 1)))
    else
      some (.done (.next ()))
noncomputable def M.slices_IndexFunc__int (s1 : (List Int)) (f1 : (Int → Option (Bool))) : Option (Int) :=
  (wloop (M.slices_IndexFunc__int_L1 s1 f1) 0).bind fun k => joinK k fun _ =>
  some (-1)
noncomputable def M.slices_ContainsFunc__int (s1 : (List Int)) (f1 : (Int → Option (Bool))) : Option (Bool) :=
  (M.slices_IndexFunc__int s1 f1).bind fun r1 =>
  some (decide (r1 ≥ 0))
noncomputable def M.shape_Size_1 (n1 : Int) : Option (Bool) :=
  some (decide (n1 < 0))
noncomputable def M.shape_Size_2 (n1 : Int) : Option (Bool) :=
  some (decide (n1 > 10000))
noncomputable def M.shape_product_L1 (s1 : (List Int)) (s : Int × Int) : Option (Ctl (Int × Int) (Ctl (Int) (Int))) :=
  match s with
  | (p1, t1) =>
    if (decide (t1 < (s1.length : Int))) then
      (idx s1 t1).bind fun y1 =>
      some (.next ((IntKind.i64.wrap (p1 * y1)), (IntKind.i64.wrap (t1 + 1))))
    else
      some (.done (.next p1))
noncomputable def M.shape_product (s1 : (List Int)) : Option (Int) :=
  (wloop (M.shape_product_L1 s1) (1, 0)).bind fun k => joinK k fun p1 =>
  some p1
noncomputable def M.shape_Size (s1 : (List Int)) : Option (Int × Int) :=
  if (decide ((s1.length : Int) > 4)) then
    some (0, 24)
  else
    (M.slices_ContainsFunc__int s1 (fun x0 => M.shape_Size_1 x0)).bind fun r1 =>
    if r1 then
      some (0, 1)
    else
      ((M.slices_ContainsFunc__int s1 (fun x0 => M.shape_Size_2 x0)).bind fun r2 =>
      if r2 then
        some r2
      else
        (M.shape_product s1).bind fun r3 =>
        some (decide (r3 > 10000))).bind fun t1 =>
      if t1 then
        some (0, 27)
      else
        (M.shape_product s1).bind fun r4 =>
        some (r4, 0)
noncomputable def M.pick_size_1 (n1 : Int) : Option (Bool) :=
  some (decide (n1 > 10000))
noncomputable def M.pick_size (s1 : (List Int)) : Option (Int × Bool) :=
  (M.shape_Size s1).bind fun (r1, r2) =>
  (if (r2 == 0) then
  (M.slices_ContainsFunc__int s1 (fun x0 => M.pick_size_1 x0)).bind fun r3 =>
  some (!r3) else
  some false).bind fun c1 =>
  some (r1, c1)
noncomputable def M.shape_sized (s1 : (List Int)) : Option (Bool) :=
  (M.shape_Size s1).bind fun (r1, r2) =>
  some (r2 == 0)
noncomputable def M.shape_Split (s1 : (List Int)) (axis1 : Int) : Option (Int × Int × Int × Bool) :=
  (if ((decide (axis1 < 0)) || (decide (axis1 ≥ (s1.length : Int)))) then
  some true else
  (M.shape_sized s1).bind fun r1 =>
  some (!r1)).bind fun c2 =>
  if c2 then
    some (0, 0, 0, false)
  else
    (sub s1 0 axis1).bind fun l1 =>
    (M.shape_product l1).bind fun r2 =>
    (idx s1 axis1).bind fun y1 =>
    (sub s1 (IntKind.i64.wrap (axis1 + 1)) s1.length).bind fun l2 =>
    (M.shape_product l2).bind fun r3 =>
    some (r2, y1, r3, true)
noncomputable def M.value_Fill (v1 : Val) : Option (Int) :=
  if v1.Char then
    some 32
  else
    some 0
noncomputable def M.math_bits_Mul64 (x1 : Int) (y1 : Int) : Option (Int × Int) :=
  some ((IntKind.u64.wrap ((IntKind.u64.wrap ((IntKind.u64.wrap ((Int.fdiv x1 (2 ^ (min (Int.toNat 32) IntKind.u64.bits))) * (Int.fdiv y1 (2 ^ (min (Int.toNat 32) IntKind.u64.bits))))) + (Int.fdiv (IntKind.u64.wrap ((IntKind.u64.wrap ((Int.fdiv x1 (2 ^ (min (Int.toNat 32) IntKind.u64.bits))) * (IntKind.u64.wrap (BitVec.ofInt IntKind.u64.bits y1 &&& BitVec.ofInt IntKind.u64.bits 4294967295).toNat))) + (Int.fdiv (IntKind.u64.wrap ((IntKind.u64.wrap (BitVec.ofInt IntKind.u64.bits x1 &&& BitVec.ofInt IntKind.u64.bits 4294967295).toNat) * (IntKind.u64.wrap (BitVec.ofInt IntKind.u64.bits y1 &&& BitVec.ofInt IntKind.u64.bits 4294967295).toNat))) (2 ^ (min (Int.toNat 32) IntKind.u64.bits))))) (2 ^ (min (Int.toNat 32) IntKind.u64.bits))))) + (Int.fdiv (IntKind.u64.wrap ((IntKind.u64.wrap (BitVec.ofInt IntKind.u64.bits (IntKind.u64.wrap ((IntKind.u64.wrap ((Int.fdiv x1 (2 ^ (min (Int.toNat 32) IntKind.u64.bits))) * (IntKind.u64.wrap (BitVec.ofInt IntKind.u64.bits y1 &&& BitVec.ofInt IntKind.u64.bits 4294967295).toNat))) + (Int.fdiv (IntKind.u64.wrap ((IntKind.u64.wrap (BitVec.ofInt IntKind.u64.bits x1 &&& BitVec.ofInt IntKind.u64.bits 4294967295).toNat) * (IntKind.u64.wrap (BitVec.ofInt IntKind.u64.bits y1 &&& BitVec.ofInt IntKind.u64.bits 4294967295).toNat))) (2 ^ (min (Int.toNat 32) IntKind.u64.bits))))) &&& BitVec.ofInt IntKind.u64.bits 4294967295).toNat) + (IntKind.u64.wrap ((IntKind.u64.wrap (BitVec.ofInt IntKind.u64.bits x1 &&& BitVec.ofInt IntKind.u64.bits 4294967295).toNat) * (Int.fdiv y1 (2 ^ (min (Int.toNat 32) IntKind.u64.bits))))))) (2 ^ (min (Int.toNat 32) IntKind.u64.bits))))), (IntKind.u64.wrap (x1 * y1)))
noncomputable def M.math_bits_Mul (x1 : Int) (y1 : Int) : Option (Int × Int) :=
  (M.math_bits_Mul64 x1 y1).bind fun (r1, r2) =>
  some (r1, r2)
noncomputable def M.slices_Repeat__int64_L1 (s : Int × (List Int)) : Option (Ctl (Int × (List Int)) (Ctl ((List Int)) ((List Int)))) :=
  match s with
  | (n1, l2) =>
    if (decide (n1 < (l2.length : Int))) then
      (sub l2 n1 l2.length).bind fun l3 =>
      (sub l2 0 n1).bind fun l4 =>
      some (.next ((IntKind.i64.wrap (n1 + ((min l4.length l3.length : Nat) : Int))), (cpy l2 (Int.toNat n1) l3.length l4)))
    else
      some (.done (.next l2))
noncomputable def M.slices_Repeat__int64 (x1 : (List Int)) (count1 : Int) : Option ((List Int)) :=
  if (decide (count1 < 0)) then
    none
  else
    (M.math_bits_Mul (IntKind.u64.wrap (x1.length : Int)) (IntKind.u64.wrap count1)).bind fun (r1, r2) =>
    if ((decide (r1 > 0)) || (decide (r2 > 9223372036854775807))) then
      none
    else
      (mk 8 (0 : Int) (IntKind.i64.wrap r2) (IntKind.i64.wrap r2)).bind fun l1 =>
      (wloop (M.slices_Repeat__int64_L1) (((min x1.length l1.length : Nat) : Int), (cpy l1 0 l1.length x1))).bind fun k => joinK k fun l2 =>
      some l2
noncomputable def M.pick_along_L2 (b1 : Val) (from1 : (List Int)) (r5 : Int) (r6 : Int) (i1 : Int) (s : Int × (List Int)) : Option (Ctl (Int × (List Int)) (Ctl ((List Int)) (Ctl (Int × (List Int)) (Ctl ((List Int)) (Val × Int))))) :=
  match s with
  | (t1, Data2) =>
    if (decide (t1 < (from1.length : Int))) then
      (idx from1 t1).bind fun y2 =>
      if (decide (y2 < 0)) then
        (M.value_Fill b1).bind fun r8 =>
        (M.slices_Repeat__int64 ([r8]) r6).bind fun r9 =>
        (app 8 Data2 r9).bind fun l3 =>
        some (.next ((IntKind.i64.wrap (t1 + 1)), l3))
      else
        (sub b1.Data (IntKind.i64.wrap ((IntKind.i64.wrap ((IntKind.i64.wrap (i1 * r5)) + y2)) * r6)) (IntKind.i64.wrap ((IntKind.i64.wrap ((IntKind.i64.wrap ((IntKind.i64.wrap (i1 * r5)) + y2)) * r6)) + r6))).bind fun l4 =>
        (app 8 Data2 l4).bind fun l5 =>
        some (.next ((IntKind.i64.wrap (t1 + 1)), l5))
    else
      some (.done (.next Data2))
noncomputable def M.pick_along_L1 (b1 : Val) (from1 : (List Int)) (r2 : Int) (r4 : Int) (r5 : Int) (r6 : Int) (s : Int × (List Int)) : Option (Ctl (Int × (List Int)) (Ctl ((List Int)) (Val × Int))) :=
  match s with
  | (i1, Data1) =>
    if ((decide (i1 < r4)) && (decide (r2 > 0))) then
      (wloop (M.pick_along_L2 b1 from1 r5 r6 i1) (0, Data1)).bind fun k => joinK k fun Data2 =>
      some (.next ((IntKind.i64.wrap (i1 + 1)), Data2))
    else
      some (.done (.next Data1))
noncomputable def M.pick_along (b1 : Val) (axis1 : Int) (from1 : (List Int)) : Option (Val × Int) :=
  (M.slices_Clone__int b1.Shape).bind fun r1 =>
  (idx r1 axis1).bind fun y1 =>
  (upd r1 axis1 (from1.length : Int)).bind fun l1 =>
  (M.pick_size l1).bind fun (r2, r3) =>
  if (!r3) then
    some ((Val.mk false ([]) ([])), 27)
  else
    (mk 8 (0 : Int) 0 r2).bind fun l2 =>
    (M.shape_Split b1.Shape axis1).bind fun (r4, r5, r6, r7) =>
    (wloop (M.pick_along_L1 b1 from1 r2 r4 r5 r6) (0, l2)).bind fun k => joinK k fun Data1 =>
    some ((Val.mk b1.Char l1 Data1), 0)
noncomputable def M.pick_Expand_L1 (a1 : Val) (y1 : Int) (s : Int × (List Int) × Int) : Option (Ctl (Int × (List Int) × Int) (Ctl (Int × (List Int)) (Val × Int))) :=
  match s with
  | (next1, from1, t1) =>
    if (decide (t1 < (a1.Data.length : Int))) then
      (idx a1.Data t1).bind fun y2 =>
      if (y2 == 0) then
        (app 8 from1 ([(-1)])).bind fun l1 =>
        some (.next (next1, l1, (IntKind.i64.wrap (t1 + 1))))
      else
        (remI next1 (if y1 < 1 then 1 else y1)).bind fun q1 =>
        (app 8 from1 ([q1])).bind fun l2 =>
        some (.next ((IntKind.i64.wrap (next1 + 1)), l2, (IntKind.i64.wrap (t1 + 1))))
    else
      some (.done (.next (next1, from1)))
noncomputable def M.pick_Expand (a1 : Val) (b1 : Val) (axis1 : Int) : Option (Val × Int) :=
  (M.pick_counts a1 b1).bind fun r1 =>
  if (r1 != 0) then
    some ((Val.mk false ([]) ([])), r1)
  else
    (M.pick_lined b1 axis1).bind fun (r2, r3, r4) =>
    if (!r4) then
      some ((Val.mk false ([]) ([])), 26)
    else
      (M.slices_ContainsFunc__int64 a1.Data (fun x0 => M.pick_Expand_1 x0)).bind fun r5 =>
      if r5 then
        some ((Val.mk false ([]) ([])), 23)
      else
        (idx r2.Shape r3).bind fun y1 =>
        (wloop (M.pick_Expand_L1 a1 y1) (0, ([] : List Int), 0)).bind fun k => joinK k fun (next1, from1) =>
        if ((y1 != 1) && (next1 != y1)) then
          some ((Val.mk false ([]) ([])), 25)
        else
          (M.pick_along r2 r3 from1).bind fun (r6, r7) =>
          some (r6, r7)
noncomputable def M.anamnesisref02_Same_L2 (a1 : Val) (b1 : Val) (s : Int) : Option (Ctl (Int) (Ctl (Unit) (Bool))) :=
  match s with
  | i2 =>
    if (decide (i2 < (a1.Data.length : Int))) then
      (idx a1.Data i2).bind fun y3 =>
      (idx b1.Data i2).bind fun y4 =>
      if (y3 != y4) then
        some (.done (.done false))
      else
        some (.next (IntKind.i64.wrap (i2 + 1)))
    else
      some (.done (.next ()))
noncomputable def M.anamnesisref02_Same_L1 (a1 : Val) (b1 : Val) (s : Int) : Option (Ctl (Int) (Ctl (Unit) (Bool))) :=
  match s with
  | i1 =>
    if (decide (i1 < (a1.Shape.length : Int))) then
      (idx a1.Shape i1).bind fun y1 =>
      (idx b1.Shape i1).bind fun y2 =>
      if (y1 != y2) then
        some (.done (.done false))
      else
        some (.next (IntKind.i64.wrap (i1 + 1)))
    else
      some (.done (.next ()))
noncomputable def M.anamnesisref02_Same (a1 : Val) (b1 : Val) : Option (Bool) :=
  if (((!(a1.Char == b1.Char)) || ((a1.Shape.length : Int) != (b1.Shape.length : Int))) || ((a1.Data.length : Int) != (b1.Data.length : Int))) then
    some false
  else
    (wloop (M.anamnesisref02_Same_L1 a1 b1) 0).bind fun k => joinK k fun _ =>
    (wloop (M.anamnesisref02_Same_L2 a1 b1) 0).bind fun k => joinK k fun _ =>
    some true
noncomputable def M.anamnesislaw07_None (v1 : Val) (e1 : Int) (want1 : Int) : Option (Bool) :=
  (if (e1 == want1) then
  (M.anamnesisref02_Same v1 (Val.mk false ([]) ([]))).bind fun r1 =>
  some r1 else
  some false).bind fun c1 =>
  some c1
noncomputable def M.pick_Compress_1 (n1 : Int) : Option (Bool) :=
  some (decide (n1 < 0))
noncomputable def M.pick_Compress_L2 (y1 : Int) (t1 : Int) (y2 : Int) (s : (List Int) × Int) : Option (Ctl ((List Int) × Int) (Ctl ((List Int)) (Ctl ((List Int) × Int) (Ctl ((List Int)) (Val × Int))))) :=
  match s with
  | (from2, t2) =>
    if (decide (t2 < (if 10001 < y2 then 10001 else y2))) then
      if (decide ((from2.length : Int) > 10000)) then
        some (.done (.done (.done (.done ((Val.mk false ([]) ([])), 27)))))
      else
        (remI t1 y1).bind fun q1 =>
        (app 8 from2 ([q1])).bind fun l2 =>
        some (.next (l2, (IntKind.i64.wrap (t2 + 1))))
    else
      some (.done (.next from2))
noncomputable def M.pick_Compress_L1 (y1 : Int) (l1 : (List Int)) (s : (List Int) × Int) : Option (Ctl ((List Int) × Int) (Ctl ((List Int)) (Val × Int))) :=
  match s with
  | (from1, t1) =>
    if (decide (t1 < (l1.length : Int))) then
      (idx l1 t1).bind fun y2 =>
      (wloop (M.pick_Compress_L2 y1 t1 y2) (from1, 0)).bind fun k => joinK k fun from2 =>
      some (.next (from2, (IntKind.i64.wrap (t1 + 1))))
    else
      some (.done (.next from1))
noncomputable def M.pick_Compress (a1 : Val) (b1 : Val) (axis1 : Int) : Option (Val × Int) :=
  (M.pick_counts a1 b1).bind fun r1 =>
  if (r1 != 0) then
    some ((Val.mk false ([]) ([])), r1)
  else
    (M.pick_lined b1 axis1).bind fun (r2, r3, r4) =>
    if (!r4) then
      some ((Val.mk false ([]) ([])), 26)
    else
      (M.slices_ContainsFunc__int64 a1.Data (fun x0 => M.pick_Compress_1 x0)).bind fun r5 =>
      if r5 then
        some ((Val.mk false ([]) ([])), 23)
      else
        (idx r2.Shape r3).bind fun y1 =>
        (if ((a1.Data.length : Int) == 1) then
          (M.slices_Repeat__int64 a1.Data y1).bind fun r6 =>
          some r6
        else
          some a1.Data).bind fun l1 =>
        if ((y1 != 1) && ((l1.length : Int) != y1)) then
          some ((Val.mk false ([]) ([])), 25)
        else
          (wloop (M.pick_Compress_L1 y1 l1) (([] : List Int), 0)).bind fun k => joinK k fun from1 =>
          (M.pick_along r2 r3 from1).bind fun (r7, r8) =>
          some (r7, r8)
noncomputable def M.anamnesislaw07_Is (v1 : Val) (e1 : Int) (want1 : Val) : Option (Bool) :=
  (if (e1 == 0) then
  (M.anamnesisref02_Same v1 want1).bind fun r1 =>
  some r1 else
  some false).bind fun c1 =>
  some c1
noncomputable def M.anamnesislaw09_PickBack_L1 (bits1 : (List Bool)) (s : Int × Int × (List Int)) : Option (Ctl (Int × Int × (List Int)) (Ctl (Int × (List Int)) (Bool))) :=
  match s with
  | (ones1, i1, Data1) =>
    if (decide (i1 < (bits1.length : Int))) then
      (idx bits1 i1).bind fun y1 =>
      if y1 then
        (app 8 Data1 ([1])).bind fun l1 =>
        some (.next ((IntKind.i64.wrap (ones1 + 1)), (IntKind.i64.wrap (i1 + 1)), l1))
      else
        (app 8 Data1 ([0])).bind fun l2 =>
        some (.next (ones1, (IntKind.i64.wrap (i1 + 1)), l2))
    else
      some (.done (.next (ones1, Data1)))
noncomputable def M.anamnesislaw09_PickBack (v1 : Val) (bits1 : (List Bool)) (axis1 : Int) : Option (Bool) :=
  if (((decide ((v1.Data.length : Int) > 1000)) || (decide ((v1.Shape.length : Int) > 10))) || (decide ((bits1.length : Int) > 1000))) then
    some true
  else
    (wloop (M.anamnesislaw09_PickBack_L1 bits1) (0, 0, [])).bind fun k => joinK k fun (ones1, Data1) =>
    (M.pick_Expand (Val.mk false ([(bits1.length : Int)]) Data1) v1 axis1).bind fun (r1, r2) =>
    if (r2 != 0) then
      (M.anamnesislaw07_None r1 r2 r2).bind fun r3 =>
      some (r3 && true)
    else
      (M.pick_Compress (Val.mk false ([(bits1.length : Int)]) Data1) r1 axis1).bind fun (r4, r5) =>
      if ((v1.Shape.length : Int) == 0) then
        some (((r5 == 0) && ((r4.Data.length : Int) == ones1)) && true)
      else
        (if (axis1 == (-1)) then
          some (IntKind.i64.wrap ((v1.Shape.length : Int) - 1))
        else
          some axis1).bind fun k2 =>
        (if ((bits1.length : Int) == 1) then
        (idx bits1 0).bind fun y2 =>
        some (!y2) else
        some false).bind fun c7 =>
        (if c7 then
        some true else
        (idx v1.Shape k2).bind fun y3 =>
        some (y3 != ones1)).bind fun c8 =>
        if c8 then
          some ((r5 == 0) && true)
        else
          (M.anamnesislaw07_Is r4 r5 v1).bind fun r6 =>
          some (r6 && true)
theorem w64_id {x : Int} (h1 : -9223372036854775808 ≤ x) (h2 : x ≤ 9223372036854775807) : IntKind.i64.wrap x = x := wrap_id h1 h2
theorem u8_mod (x : Int) : IntKind.u8.wrap x = x % 256 := by simp [IntKind.wrap, IntKind.bits, IntKind.signed]
theorem u8_id {x : Int} (h1 : 0 ≤ x) (h2 : x ≤ 255) : IntKind.u8.wrap x = x := by rw [u8_mod]; omega
theorem u32_id {x : Int} (h1 : 0 ≤ x) (h2 : x ≤ 1114111) : IntKind.u32.wrap x = x := by
  have : IntKind.u32.wrap x = x % 4294967296 := by simp [IntKind.wrap, IntKind.bits, IntKind.signed]
  rw [this]; omega
/-- A loop comes to an end in a state with Q: P holds ahead of each round, and its number falls. -/
theorem wloop_ind {σ β : Type} {f : σ → Option (Ctl σ β)} (P : Nat → σ → Prop) (Q : β → Prop)
    (h : ∀ n s, P n s → (∃ s' n', f s = some (.next s') ∧ n' < n ∧ P n' s') ∨ (∃ b, f s = some (.done b) ∧ Q b)) : ∀ n s, P n s → ∃ b, wloop f s = some b ∧ Q b := by
  intro n
  induction n using Nat.strongRecOn with
  | _ n ih =>
    intro s hp
    rcases h n s hp with ⟨s', n', hf, hn, hp'⟩ | ⟨b, hf, hq⟩
    · obtain ⟨b, hb, hq⟩ := ih n' hn s' hp'
      exact ⟨b, by rw [wloop_next hf]; exact hb, hq⟩
    · exact ⟨b, wloop_done hf, hq⟩
theorem idx_nat {α : Type} (l : List α) (k : Nat) : idx l (k : Int) = l[k]? := by
  unfold idx; rw [if_pos (by omega)]; rfl
theorem idx_get {α : Type} {l : List α} {k : Nat} (h : k < l.length) : idx l (k : Int) = some l[k] := by rw [idx_nat, List.getElem?_eq_getElem h]
theorem upd_nat {α : Type} {l : List α} {k : Nat} {x : α} (h : k < l.length) : upd l (k : Int) x = some (l.set k x) := by
  unfold upd; rw [if_pos ⟨by omega, by omega⟩]; rfl
theorem app_ok {α : Type} {b : Nat} {l m : List α} (h : (l.length + m.length) * b ≤ 140737488355328) : app b l m = some (l ++ m) := by
  unfold app; rw [if_pos (.inr h)]
theorem mk_ok {α : Type} {b : Nat} {z : α} {n : Nat} (h : b * n ≤ 140737488355328) (h' : n ≤ 140737488355328) : mk b z (n : Int) (n : Int) = some (List.replicate n z) := by
  unfold mk
  have : ((b : Int) * (n : Int)) ≤ 140737488355328 := by
    have h2 : ((b * n : Nat) : Int) ≤ 140737488355328 := by omega
    rwa [Int.natCast_mul] at h2
  rw [if_pos ⟨by omega, by omega, this, by omega⟩]; rfl
/-- the numbers that a kind has. -/
theorem wf64 {n : Int} (h : (Lit.int .i64 n).wf = true) : -9223372036854775808 ≤ n ∧ n ≤ 9223372036854775807 := by
  have h2 : (decide (IntKind.i64.min ≤ n) && decide (n ≤ IntKind.i64.max)) = true := h
  have e1 : IntKind.i64.min = -9223372036854775808 := by decide
  have e2 : IntKind.i64.max = 9223372036854775807 := by decide
  rw [e1, e2] at h2
  simpa using h2
theorem sub_drop {α : Type} {l : List α} {k : Nat} (h : k ≤ l.length) : sub l (k : Int) (l.length : Int) = some (l.drop k) := by
  unfold sub
  rw [if_pos ⟨by omega, by omega, by omega⟩]
  simp
theorem drop_cons {α : Type} {l : List α} {k : Nat} (h : k < l.length) : l.drop k = l[k] :: l.drop (k + 1) := List.drop_eq_getElem_cons h
theorem same_loop {f : Int → Option (Ctl Int (Ctl Unit Bool))} {a b : List Int} (hl : a.length = b.length) (hm : a.length ≤ maxLen)
    (hf : ∀ k : Nat, ∀ h : k < a.length, f k = if a[k] = b[k]'(hl ▸ h) then some (.next ((k : Int) + 1)) else some (.done (.done false))) (he : f a.length = some (.done (.next ()))) :
    wloop f 0 = some (if a = b then .next () else .done false) := by
  have key := wloop_ind (f := f) (fun n i => ∃ k : Nat, i = k ∧ k ≤ a.length ∧ n = a.length - k ∧ a.take k = b.take k)
    (fun c => (c = .done false ∧ a ≠ b) ∨ (c = .next () ∧ a = b)) (fun n i h => by
      obtain ⟨k, rfl, hk, rfl, hn⟩ := h
      by_cases hlt : k < a.length
      · rw [hf k hlt]
        by_cases he : a[k] = b[k]
        · rw [if_pos he]
          left
          refine ⟨_, a.length - (k + 1), rfl, by omega, k + 1, by omega, by omega, rfl, ?_⟩
          rw [List.take_succ_eq_append_getElem hlt, List.take_succ_eq_append_getElem (by omega), hn, he]
        · rw [if_neg he]
          right
          refine ⟨_, rfl, .inl ⟨rfl, fun h => he ?_⟩⟩
          subst h; rfl
      · have : k = a.length := by omega
        subst this
        right
        refine ⟨_, he, .inr ⟨rfl, ?_⟩⟩
        rw [List.take_length, hl, List.take_length] at hn
        exact hn) a.length 0 ⟨0, rfl, by omega, by omega, by simp⟩
  obtain ⟨c, hc, ⟨rfl, h⟩ | ⟨rfl, h⟩⟩ := key
  · rw [hc]; simp [h]
  · rw [hc]; simp [h]

theorem same_step {f : Int → Option (Ctl Int (Ctl Unit Bool))} {a b : List Int} (hl : a.length = b.length) (hm : a.length ≤ maxLen)
    (hf : ∀ k : Nat, ∀ h : k < a.length, f k = if a[k] = b[k]'(hl ▸ h) then some (.next ((k : Int) + 1)) else some (.done (.done false))) (he : f a.length = some (.done (.next ()))) :
    (wloop f 0).bind (fun k => joinK k fun _ => some true) = some (decide (a = b)) := by
  rw [same_loop hl hm hf he]
  by_cases h : a = b
  · rw [if_pos h, decide_eq_true h]; rfl
  · rw [if_neg h, decide_eq_false h]; rfl
/-- a loop that counts up. -/
theorem loop_up {S τ β : Type} {f : S → Option (Ctl S β)} (st : Nat → τ → S) (n : Nat) (I : Nat → τ → Prop) (out : τ → β) (a : τ) (h0 : I 0 a)
    (hf : ∀ k m, k < n → I k m → ∃ m', f (st k m) = some (.next (st (k + 1) m')) ∧ I (k + 1) m') (he : ∀ m, I n m → f (st n m) = some (.done (out m))) :
    ∃ m, I n m ∧ wloop f (st 0 a) = some (out m) := by
  have key := wloop_ind (f := f) (fun j s => ∃ k m, s = st k m ∧ j = n - k ∧ k ≤ n ∧ I k m) (fun b => ∃ m, b = out m ∧ I n m) (fun j s h => by
    obtain ⟨k, m, rfl, rfl, hk, hi⟩ := h
    by_cases hlt : k < n
    · left
      obtain ⟨m', h1, h2⟩ := hf k m hlt hi
      exact ⟨_, n - (k + 1), h1, by omega, k + 1, m', rfl, rfl, by omega, h2⟩
    · have : k = n := by omega
      subst this
      exact .inr ⟨_, he m hi, m, rfl, hi⟩) n (st 0 a) ⟨0, a, rfl, by omega, by omega, h0⟩
  obtain ⟨b, hb, m, rfl, hi⟩ := key
  exact ⟨m, hi, hb⟩
/-- a loop that counts up, each of whose states is told. -/
theorem loop_fun {S β : Type} {f : S → Option (Ctl S β)} (st : Nat → S) (n : Nat) {b : β} (hf : ∀ k, k < n → f (st k) = some (.next (st (k + 1)))) (he : f (st n) = some (.done b)) : wloop f (st 0) = some b := by
  obtain ⟨_, _, h⟩ := loop_up (f := f) (fun k (_ : Unit) => st k) n (fun _ _ => True) (fun _ => b) () trivial (fun k m hk _ => ⟨(), hf k hk, trivial⟩) (fun m _ => he)
  exact h
theorem lin_lt {i k R C : Nat} (h : i < R) (hk : k < C) : i * C + k < R * C := by
  have := Nat.mul_le_mul_right C (show i + 1 ≤ R from h)
  rw [Nat.succ_mul] at this; omega
theorem lin_inj {i k i' k' C : Nat} (hk : k < C) (hk' : k' < C) (h : i * C + k = i' * C + k') : i = i' ∧ k = k' := by
  have hc : 0 < C := by omega
  have e : ∀ (a b : Nat), b < C → (a * C + b) / C = a := fun a b hb => by
    rw [Nat.mul_comm, Nat.mul_add_div hc, Nat.div_eq_of_lt hb, Nat.add_zero]
  have h1 := e i k hk
  rw [h, e i' k' hk'] at h1
  subst h1; omega
/-- a matrix, row by row. -/
def tab (R C : Nat) (f : Nat → Nat → Int) : List Int := (List.range (R * C)).map fun p => f (p / C) (p % C)
theorem tab_len (R C : Nat) (f : Nat → Nat → Int) : (tab R C f).length = R * C := by simp [tab]
theorem tab_get {R C i k : Nat} (f : Nat → Nat → Int) (hi : i < R) (hk : k < C) : (tab R C f)[i * C + k]? = some (f i k) := by
  have hc : 0 < C := by omega
  unfold tab
  rw [List.getElem?_map, List.getElem?_range (lin_lt hi hk)]
  show some (f ((i * C + k) / C) ((i * C + k) % C)) = _
  rw [Nat.mul_comm, Nat.mul_add_div hc, Nat.div_eq_of_lt hk, Nat.mul_add_mod, Nat.mod_eq_of_lt hk, Nat.add_zero]
theorem tab_ext {R C : Nat} {f : Nat → Nat → Int} {l : List Int} (hl : l.length = R * C) (h : ∀ i k, i < R → k < C → l[i * C + k]? = some (f i k)) : l = tab R C f := by
  apply List.ext_getElem?
  intro p
  by_cases hp : p < R * C
  · have hc : 0 < C := by
      rcases Nat.eq_zero_or_pos C with h | h
      · subst h; simp at hp
      · exact h
    have h1 : p / C < R := by rw [Nat.div_lt_iff_lt_mul hc]; exact hp
    have h2 : p % C < C := Nat.mod_lt _ hc
    have e : p / C * C + p % C = p := by rw [Nat.mul_comm]; exact Nat.div_add_mod p C
    have a := h _ _ h1 h2
    have b := tab_get f h1 h2
    rw [e] at a b
    rw [a, b]
  · rw [List.getElem?_eq_none (by omega), List.getElem?_eq_none (by rw [tab_len]; omega)]
theorem contains_int {s : List Int} {f : Int → Option Bool} {g : Int → Bool} (hf : ∀ x ∈ s, f x = some (g x)) (hl : s.length ≤ 4611686018427387904) : M.slices_ContainsFunc__int s f = some (s.any g) := by
  have key := wloop_ind (f := M.slices_IndexFunc__int_L1 s f) (fun n i => ∃ k : Nat, i = k ∧ k ≤ s.length ∧ n = s.length - k ∧ (s.take k).any g = false)
    (fun b => (∃ i : Int, b = .done i ∧ 0 ≤ i ∧ s.any g = true) ∨ (b = .next () ∧ s.any g = false)) (fun n i h => by
      obtain ⟨k, rfl, hk, rfl, hn⟩ := h
      unfold M.slices_IndexFunc__int_L1
      by_cases hlt : k < s.length
      · simp only [show decide ((k : Int) < (s.length : Int)) = true from by simp; exact hlt, if_true, idx_get hlt, Option.bind_some, hf _ (List.getElem_mem hlt)]
        cases hg : g s[k] with
        | true =>
          right
          refine ⟨_, rfl, .inl ⟨_, rfl, by omega, ?_⟩⟩
          rw [List.any_eq_true]
          exact ⟨_, List.getElem_mem hlt, hg⟩
        | false =>
          left
          refine ⟨_, s.length - (k + 1), rfl, by omega, k + 1, ?_, by omega, rfl, ?_⟩
          · rw [w64_id (by omega) (by omega)]; omega
          · rw [List.take_succ_eq_append_getElem hlt, List.any_append, hn]; simp [hg]
      · have : k = s.length := by omega
        subst this
        right
        simp only [show decide ((s.length : Int) < (s.length : Int)) = false from by simp, Bool.false_eq_true, if_false]
        exact ⟨_, rfl, .inr ⟨rfl, by simpa using hn⟩⟩) s.length 0 ⟨0, rfl, by omega, by omega, by simp⟩
  unfold M.slices_ContainsFunc__int M.slices_IndexFunc__int
  obtain ⟨b, hb, ⟨i, rfl, h0, ha⟩ | ⟨rfl, ha⟩⟩ := key
  · rw [hb, ha]; simp [h0]
  · rw [hb, ha]; simp
theorem contains_int64 {s : List Int} {f : Int → Option Bool} {g : Int → Bool} (hf : ∀ x ∈ s, f x = some (g x)) (hl : s.length ≤ 9223372036854775807) : M.slices_ContainsFunc__int64 s f = some (s.any g) := by
  have key := wloop_ind (f := M.slices_IndexFunc__int64_L1 s f) (fun n i => ∃ k : Nat, i = k ∧ k ≤ s.length ∧ n = s.length - k ∧ (s.take k).any g = false)
    (fun b => (∃ i : Int, b = .done i ∧ 0 ≤ i ∧ s.any g = true) ∨ (b = .next () ∧ s.any g = false)) (fun n i h => by
      obtain ⟨k, rfl, hk, rfl, hn⟩ := h
      unfold M.slices_IndexFunc__int64_L1
      by_cases hlt : k < s.length
      · simp only [show decide ((k : Int) < (s.length : Int)) = true from by simp; exact hlt, if_true, idx_get hlt, Option.bind_some, hf _ (List.getElem_mem hlt)]
        cases hg : g s[k] with
        | true =>
          right
          refine ⟨_, rfl, .inl ⟨_, rfl, by omega, ?_⟩⟩
          rw [List.any_eq_true]
          exact ⟨_, List.getElem_mem hlt, hg⟩
        | false =>
          left
          refine ⟨_, s.length - (k + 1), rfl, by omega, k + 1, ?_, by omega, rfl, ?_⟩
          · rw [w64_id (by omega) (by omega)]; omega
          · rw [List.take_succ_eq_append_getElem hlt, List.any_append, hn]; simp [hg]
      · have : k = s.length := by omega
        subst this
        right
        simp only [show decide ((s.length : Int) < (s.length : Int)) = false from by simp, Bool.false_eq_true, if_false]
        exact ⟨_, rfl, .inr ⟨rfl, by simpa using hn⟩⟩) s.length 0 ⟨0, rfl, by omega, by omega, by simp⟩
  unfold M.slices_ContainsFunc__int64 M.slices_IndexFunc__int64
  obtain ⟨b, hb, ⟨i, rfl, h0, ha⟩ | ⟨rfl, ha⟩⟩ := key
  · rw [hb, ha]; simp [h0]
  · rw [hb, ha]; simp
def prod : List Int → Int
  | [] => 1
  | x :: s => x * prod s
def off : List Int → List Int → Int
  | x :: s, a :: at_ => a * prod s + off s at_
  | _, _ => 0
def dig : List Int → Int → List Int
  | [], _ => []
  | _ :: s, k => k / prod s :: dig s (k % prod s)
/-- is a place in a shape? -/
def inShape : List Int → List Int → Prop
  | [], [] => True
  | x :: s, a :: at_ => 0 ≤ a ∧ a < x ∧ inShape s at_
  | _, _ => False
instance : (s at_ : List Int) → Decidable (inShape s at_)
  | [], [] => isTrue trivial
  | x :: s, a :: at_ =>
    have := instDecidableInShape s at_
    by unfold inShape; exact inferInstance
  | [], _ :: _ => isFalse (fun h => h)
  | _ :: _, [] => isFalse (fun h => h)
theorem inShape.len : ∀ {s at_ : List Int}, inShape s at_ → at_.length = s.length
  | [], [], _ => rfl
  | x :: s, a :: at_, ⟨_, _, h⟩ => by simp [h.len]
  | [], _ :: _, h => h.elim
  | _ :: _, [], h => h.elim
theorem inShape.pos : ∀ {s at_ : List Int}, inShape s at_ → 0 < prod s
  | [], [], _ => by simp [prod]
  | x :: s, a :: at_, ⟨h0, h1, h⟩ => by
    have := h.pos
    exact Int.mul_pos (by omega) this
  | [], _ :: _, h => h.elim
  | _ :: _, [], h => h.elim
theorem off_range : ∀ {s at_ : List Int}, inShape s at_ → 0 ≤ off s at_ ∧ off s at_ < prod s
  | [], [], _ => by simp [prod, off]
  | x :: s, a :: at_, ⟨h0, h1, h⟩ => by
    have h2 := off_range h
    have h3 := h.pos
    have h4 : (a + 1) * prod s ≤ x * prod s := Int.mul_le_mul_of_nonneg_right (by omega) (by omega)
    have h5 : 0 ≤ a * prod s := Int.mul_nonneg h0 (by omega)
    rw [Int.add_mul] at h4
    simp only [prod, off]
    omega
  | [], _ :: _, h => h.elim
  | _ :: _, [], h => h.elim
theorem dig_off : ∀ {s at_ : List Int}, inShape s at_ → dig s (off s at_) = at_
  | [], [], _ => rfl
  | x :: s, a :: at_, ⟨h0, h1, h⟩ => by
    have h2 := off_range h
    have h3 := h.pos
    simp only [dig, off]
    rw [Int.add_comm, Int.mul_comm, Int.add_mul_ediv_left _ _ (by omega), Int.add_mul_emod_self_left, Int.emod_eq_of_lt h2.1 h2.2, dig_off h, Int.ediv_eq_zero_of_lt h2.1 h2.2]
    simp
  | [], _ :: _, h => h.elim
  | _ :: _, [], h => h.elim
def allPos (s : List Int) : Prop := ∀ x ∈ s, 0 < x
theorem allPos.pprod : ∀ {s : List Int}, allPos s → 0 < prod s
  | [], _ => by simp [prod]
  | x :: s, h => Int.mul_pos (h x List.mem_cons_self) (allPos.pprod fun y hy => h y (List.mem_cons_of_mem _ hy))
theorem allPos_of {s : List Int} (h : ∀ x ∈ s, 0 ≤ x) (hp : 0 < prod s) : allPos s := by
  intro x hx
  have h0 := h x hx
  rcases Int.lt_or_eq_of_le h0 with h1 | h1
  · exact h1
  · exfalso
    have : ∀ s : List Int, (0 : Int) ∈ s → prod s = 0 := by
      intro s
      induction s with
      | nil => intro h; simp at h
      | cons y s ih =>
        intro h
        rcases List.mem_cons.mp h with h | h
        · simp [prod, ← h]
        · simp [prod, ih h]
    rw [this s (h1 ▸ hx)] at hp
    omega
theorem dig_in : ∀ {s : List Int} {k : Int}, allPos s → 0 ≤ k → k < prod s → inShape s (dig s k)
  | [], k, _, h0, h1 => trivial
  | x :: s, k, h, h0, h1 => by
    have hs : allPos s := fun y hy => h y (List.mem_cons_of_mem _ hy)
    have hp := hs.pprod
    refine ⟨Int.ediv_nonneg h0 (by omega), ?_, dig_in hs (Int.emod_nonneg _ (by omega)) (Int.emod_lt_of_pos _ hp)⟩
    exact Int.ediv_lt_of_lt_mul hp h1
theorem off_dig : ∀ {s : List Int} {k : Int}, allPos s → 0 ≤ k → k < prod s → off s (dig s k) = k
  | [], k, _, h0, h1 => by simp [prod] at h1; simp [dig, off]; omega
  | x :: s, k, h, h0, h1 => by
    have hs : allPos s := fun y hy => h y (List.mem_cons_of_mem _ hy)
    have hp := hs.pprod
    simp only [dig, off]
    rw [off_dig hs (Int.emod_nonneg _ (by omega)) (Int.emod_lt_of_pos _ hp)]
    rw [Int.mul_comm]; exact Int.mul_ediv_add_emod k (prod s)
theorem dig_len : ∀ (s : List Int) (k : Int), (dig s k).length = s.length
  | [], _ => rfl
  | x :: s, k => by simp [dig, dig_len s]
theorem prod_nonneg : ∀ {s : List Int}, (∀ x ∈ s, 0 ≤ x) → 0 ≤ prod s
  | [], _ => by simp [prod]
  | x :: s, h => Int.mul_nonneg (h x List.mem_cons_self) (prod_nonneg fun y hy => h y (List.mem_cons_of_mem _ hy))
theorem prod_append : ∀ (s t : List Int), prod (s ++ t) = prod s * prod t
  | [], t => by simp [prod]
  | x :: s, t => by simp [prod, prod_append s t, Int.mul_assoc]

/-- the size of a shape, or the error. -/
def shSize (s : List Int) : Int × Int :=
  if 4 < s.length then (0, 24) else if s.any (fun x => decide (x < 0)) then (0, 1) else if s.any (fun x => decide (x > 10000)) || decide (prod s > 10000) then (0, 27) else (prod s, 0)
def shOk (s : List Int) : Prop := s.length ≤ 4 ∧ (∀ x ∈ s, 0 ≤ x ∧ x ≤ 10000) ∧ prod s ≤ 10000
instance (s : List Int) : Decidable (shOk s) := by unfold shOk; exact inferInstance
theorem shSize_ok {s : List Int} (h : shOk s) : shSize s = (prod s, 0) := by
  obtain ⟨h1, h2, h3⟩ := h
  unfold shSize
  rw [if_neg (by omega), if_neg, if_neg]
  · simp only [Bool.or_eq_true, List.any_eq_true, decide_eq_true_eq]
    rintro (⟨x, hx, h⟩ | h)
    · have := h2 x hx; omega
    · omega
  · simp only [List.any_eq_true, decide_eq_true_eq]
    rintro ⟨x, hx, h⟩
    have := h2 x hx; omega
theorem shSize_zero {s : List Int} : (shSize s).2 = 0 ↔ shOk s := by
  constructor
  · intro h
    unfold shSize at h
    split at h
    · cases h
    · rename_i h1
      split at h
      · cases h
      · rename_i h2
        split at h
        · cases h
        · rename_i h3
          simp only [List.any_eq_true, decide_eq_true_eq, not_exists, not_and] at h2
          simp only [Bool.or_eq_true, List.any_eq_true, decide_eq_true_eq, not_or, not_exists, not_and] at h3
          exact ⟨by omega, fun x hx => ⟨by have := h2 x hx; omega, by have := h3.1 x hx; omega⟩, by omega⟩
  · intro h; rw [shSize_ok h]
theorem shSize_cases (s : List Int) : (shOk s ∧ shSize s = (prod s, 0)) ∨ (¬ shOk s ∧ (shSize s).2 ≠ 0 ∧ (shSize s).1 = 0) := by
  by_cases h : shOk s
  · exact .inl ⟨h, shSize_ok h⟩
  · refine .inr ⟨h, fun hh => h (shSize_zero.mp hh), ?_⟩
    unfold shSize
    split
    · rfl
    · rename_i h1
      split
      · rfl
      · rename_i h2
        split
        · rfl
        · rename_i h3
          exfalso; apply h
          simp only [List.any_eq_true, decide_eq_true_eq, not_exists, not_and] at h2
          simp only [Bool.or_eq_true, List.any_eq_true, decide_eq_true_eq, not_or, not_exists, not_and] at h3
          exact ⟨by omega, fun x hx => ⟨by have := h2 x hx; omega, by have := h3.1 x hx; omega⟩, by omega⟩
theorem dig_bound {s : List Int} {k : Int} (hok : shOk s) (h0 : 0 ≤ k) (h1 : k < prod s) : ∀ x ∈ dig s k, 0 ≤ x ∧ x ≤ 10000 := by
  have hpos : allPos s := allPos_of (fun x hx => (hok.2.1 x hx).1) (by omega)
  have key : ∀ (s at_ : List Int), inShape s at_ → (∀ x ∈ s, 0 ≤ x ∧ x ≤ 10000) → ∀ x ∈ at_, 0 ≤ x ∧ x ≤ 10000 := by
    intro s
    induction s with
    | nil => intro at_ h _ x hx; cases at_ with | nil => simp at hx | cons _ _ => exact h.elim
    | cons y s ih =>
      intro at_ h hb x hx
      cases at_ with
      | nil => exact h.elim
      | cons a at_ =>
        obtain ⟨h1, h2, h3⟩ := h
        rcases List.mem_cons.mp hx with rfl | hx
        · have := hb y List.mem_cons_self; omega
        · exact ih at_ h3 (fun z hz => hb z (List.mem_cons_of_mem _ hz)) x hx
  exact key s _ (dig_in hpos h0 h1) hok.2.1
theorem dig_zero : ∀ {s : List Int}, allPos s → dig s 0 = List.replicate s.length 0
  | [], _ => rfl
  | x :: s, h => by
    have hs : allPos s := fun y hy => h y (List.mem_cons_of_mem _ hy)
    simp only [dig, Int.zero_ediv, Int.zero_emod, dig_zero hs]; rfl

theorem one_le_pow : ∀ k : Nat, (1 : Int) ≤ 10000 ^ k
  | 0 => by simp
  | k + 1 => by rw [Int.pow_succ]; have := one_le_pow k; omega
theorem prod_bound : ∀ (s : List Int) (k : Nat), s.length ≤ k → (∀ x ∈ s, 0 ≤ x ∧ x ≤ 10000) → 0 ≤ prod s ∧ prod s ≤ 10000 ^ k
  | [], k, _, _ => ⟨by simp [prod], one_le_pow k⟩
  | x :: s, k + 1, hl, h => by
    have h1 := h x List.mem_cons_self
    have h2 := prod_bound s k (by simpa using hl) (fun y hy => h y (List.mem_cons_of_mem _ hy))
    refine ⟨Int.mul_nonneg h1.1 h2.1, ?_⟩
    simp only [prod]
    have h3 : x * prod s ≤ 10000 * prod s := Int.mul_le_mul_of_nonneg_right h1.2 h2.1
    have h4 : (10000 : Int) ^ (k + 1) = 10000 ^ k * 10000 := Int.pow_succ _ _
    omega
  | x :: s, 0, hl, h => by simp at hl

theorem product_eq {s : List Int} (hl : s.length ≤ 4) (hb : ∀ x ∈ s, 0 ≤ x ∧ x ≤ 10000) : M.shape_product s = some (prod s) := by
  have key := wloop_ind (f := M.shape_product_L1 s) (fun n st => ∃ k : Nat, st = (prod (s.take k), (k : Int)) ∧ k ≤ s.length ∧ n = s.length - k)
    (fun b => b = .next (prod s)) (fun n st h => by
      obtain ⟨k, rfl, hk, rfl⟩ := h
      unfold M.shape_product_L1
      by_cases hlt : k < s.length
      · left
        simp only [show decide ((k : Int) < (s.length : Int)) = true from by simp; exact hlt, if_true, idx_get hlt, Option.bind_some]
        have e : prod (s.take k) * s[k] = prod (s.take (k + 1)) := by
          rw [List.take_succ_eq_append_getElem hlt, prod_append]; simp [prod]
        have hp := prod_bound (s.take (k + 1)) 4 (by rw [List.length_take]; omega) (fun x hx => hb x (List.mem_of_mem_take hx))
        refine ⟨_, s.length - (k + 1), rfl, by omega, k + 1, ?_, by omega, rfl⟩
        rw [e, w64_id (by omega) (by omega), w64_id (by omega) (by omega)]
        simp
      · have : k = s.length := by omega
        subst this
        right
        simp)
    s.length (1, 0) ⟨0, by simp [prod], by omega, by omega⟩
  obtain ⟨b, hb, rfl⟩ := key
  unfold M.shape_product
  rw [hb]; rfl

theorem shape_Size_eq {s : List Int} (hl : s.length ≤ maxLen) : M.shape_Size s = some (shSize s) := by
  have hm : maxLen = 9223372036854775807 := rfl
  unfold M.shape_Size shSize
  by_cases h4 : 4 < s.length
  · rw [if_pos h4, if_pos (by simp; omega)]
  · rw [if_neg h4, if_neg (by simp; omega)]
    rw [contains_int (s := s) (f := fun x0 => M.shape_Size_1 x0) (g := fun x => decide (x < 0)) (fun x _ => rfl) (by omega), Option.bind_some]
    cases hneg : s.any (fun x => decide (x < 0)) with
    | true => simp
    | false =>
      simp only [Bool.false_eq_true, if_false]
      rw [contains_int (s := s) (f := fun x0 => M.shape_Size_2 x0) (g := fun x => decide (x > 10000)) (fun x _ => rfl) (by omega), Option.bind_some]
      cases hbig : s.any (fun x => decide (x > 10000)) with
      | true => simp
      | false =>
        have hb : ∀ x ∈ s, 0 ≤ x ∧ x ≤ 10000 := by
          intro x hx
          simp only [List.any_eq_false, decide_eq_true_eq] at hneg hbig
          have := hneg x hx; have := hbig x hx; omega
        simp only [Bool.false_eq_true, if_false, product_eq (by omega) hb, Option.bind_some, Bool.false_or]
        split <;> simp_all
theorem sized_eq {s : List Int} (hl : s.length ≤ maxLen) : M.shape_sized s = some ((shSize s).2 == 0) := by
  unfold M.shape_sized; rw [shape_Size_eq hl]; rfl
/-- is a number a character? -/
def chOk (c : Int) : Bool := decide (0 ≤ c ∧ c ≤ 1114111) && !decide (55296 ≤ c ∧ c ≤ 57343)
/-- may an array be? -/
def vRight (v : Val) : Bool := decide (shOk v.Shape) && decide (prod v.Shape = v.Data.length) && (!v.Char || v.Data.all chOk)
def vSame (a b : Val) : Bool := (a.Char == b.Char) && decide (a.Shape = b.Shape) && decide (a.Data = b.Data)
theorem vSame_iff {a b : Val} : vSame a b = true ↔ a = b := by
  obtain ⟨c, s, d⟩ := a
  obtain ⟨c', s', d'⟩ := b
  simp only [vSame, Bool.and_eq_true, beq_iff_eq, decide_eq_true_eq, Val.mk.injEq]
  constructor
  · rintro ⟨⟨h1, h2⟩, h3⟩; exact ⟨h1, h2, h3⟩
  · rintro ⟨h1, h2, h3⟩; exact ⟨⟨h1, h2⟩, h3⟩
theorem vSame_refl (a : Val) : vSame a a = true := vSame_iff.mpr rfl
theorem vSame_eq (a b : Val) : vSame a b = true ∧ a = b ∨ vSame a b = false ∧ a ≠ b := by
  cases h : vSame a b with
  | true => exact .inl ⟨rfl, vSame_iff.mp h⟩
  | false => exact .inr ⟨rfl, fun hh => by rw [vSame_iff.mpr hh] at h; cases h⟩
theorem vRight_iff {v : Val} : vRight v = true ↔ shOk v.Shape ∧ prod v.Shape = v.Data.length ∧ (v.Char = true → ∀ c ∈ v.Data, chOk c = true) := by
  simp only [vRight, Bool.and_eq_true, decide_eq_true_eq, Bool.or_eq_true, Bool.not_eq_true', List.all_eq_true]
  constructor
  · rintro ⟨⟨h1, h2⟩, h3⟩
    refine ⟨h1, h2, fun h => ?_⟩
    rcases h3 with h3 | h3
    · rw [h3] at h; cases h
    · exact h3
  · rintro ⟨h1, h2, h3⟩
    refine ⟨⟨h1, h2⟩, ?_⟩
    cases h : v.Char with
    | true => exact .inr (h3 h)
    | false => exact .inl rfl

theorem right_loop {f : Int × Int → Option (Ctl (Int × Int) (Ctl Int Bool))} {s : List Int} (h4 : s.length ≤ 4)
    (hf : ∀ k : Nat, ∀ h : k < s.length, ∀ z, f (z, (k : Int)) = if s[k] < 0 ∨ s[k] > 10000 then some (.done (.done false)) else some (.next (IntKind.i64.wrap (z * s[k]), (k : Int) + 1)))
    (he : ∀ z, f (z, (s.length : Int)) = some (.done (.next z))) :
    ((∀ x ∈ s, 0 ≤ x ∧ x ≤ 10000) ∧ wloop f (1, 0) = some (.next (prod s))) ∨ (¬ (∀ x ∈ s, 0 ≤ x ∧ x ≤ 10000) ∧ wloop f (1, 0) = some (.done false)) := by
  have key := wloop_ind (f := f) (fun n st => ∃ k : Nat, n = s.length - k ∧ k ≤ s.length ∧ st = (prod (s.take k), (k : Int)) ∧ ∀ x ∈ s.take k, 0 ≤ x ∧ x ≤ 10000)
    (fun b => (b = .next (prod s) ∧ ∀ x ∈ s, 0 ≤ x ∧ x ≤ 10000) ∨ (b = .done false ∧ ¬ ∀ x ∈ s, 0 ≤ x ∧ x ≤ 10000)) (fun n st h => by
      obtain ⟨k, rfl, hk, rfl, hall⟩ := h
      by_cases hlt : k < s.length
      · rw [hf k hlt]
        by_cases hb : s[k] < 0 ∨ s[k] > 10000
        · rw [if_pos hb]
          right
          refine ⟨_, rfl, .inr ⟨rfl, fun hh => ?_⟩⟩
          have := hh _ (List.getElem_mem hlt); omega
        · rw [if_neg hb]
          left
          have e := List.take_succ_eq_append_getElem hlt
          have hall2 : ∀ x ∈ s.take (k + 1), 0 ≤ x ∧ x ≤ 10000 := by
            intro x hx
            rw [e] at hx
            rcases List.mem_append.mp hx with hx | hx
            · exact hall x hx
            · rw [List.mem_singleton.mp hx]; omega
          have hp := prod_bound (s.take (k + 1)) 4 (by rw [List.length_take]; omega) hall2
          have e2 : prod (s.take (k + 1)) = prod (s.take k) * s[k] := by rw [e, prod_append]; simp [prod]
          refine ⟨_, s.length - (k + 1), rfl, by omega, k + 1, rfl, by omega, ?_, hall2⟩
          rw [← e2, w64_id (by omega) (by omega)]; simp
      · have : k = s.length := by omega
        subst this
        rw [he]
        rw [List.take_length] at hall ⊢
        exact .inr ⟨_, rfl, .inl ⟨rfl, hall⟩⟩)
    s.length (1, 0) ⟨0, by omega, by omega, by simp [prod], by simp⟩
  obtain ⟨b, hb, ⟨rfl, h⟩ | ⟨rfl, h⟩⟩ := key
  · exact .inl ⟨h, hb⟩
  · exact .inr ⟨h, hb⟩
theorem all_loop {f : Int → Option (Ctl Int (Ctl Unit Bool))} {l : List Int} {p : Int → Bool}
    (hf : ∀ k : Nat, ∀ h : k < l.length, f k = if p l[k] = true then some (.next ((k : Int) + 1)) else some (.done (.done false))) (he : f l.length = some (.done (.next ()))) :
    wloop f 0 = some (if l.all p = true then .next () else .done false) := by
  have key := wloop_ind (f := f) (fun n i => ∃ k : Nat, i = k ∧ k ≤ l.length ∧ n = l.length - k ∧ (l.take k).all p = true)
    (fun c => (c = .done false ∧ l.all p = false) ∨ (c = .next () ∧ l.all p = true)) (fun n i h => by
      obtain ⟨k, rfl, hk, rfl, hn⟩ := h
      by_cases hlt : k < l.length
      · rw [hf k hlt]
        by_cases hp : p l[k] = true
        · rw [if_pos hp]
          left
          refine ⟨_, l.length - (k + 1), rfl, by omega, k + 1, by omega, by omega, rfl, ?_⟩
          rw [List.take_succ_eq_append_getElem hlt, List.all_append, hn]; simp [hp]
        · rw [if_neg hp]
          right
          refine ⟨_, rfl, .inl ⟨rfl, ?_⟩⟩
          rw [List.all_eq_false]
          exact ⟨_, List.getElem_mem hlt, hp⟩
      · have : k = l.length := by omega
        subst this
        right
        rw [List.take_length] at hn
        exact ⟨_, he, .inr ⟨rfl, hn⟩⟩) l.length 0 ⟨0, rfl, by omega, by omega, by simp⟩
  obtain ⟨c, hc, ⟨rfl, h⟩ | ⟨rfl, h⟩⟩ := key
  · rw [hc, h]; simp
  · rw [hc, h]; simp
theorem w32_id {x : Int} (h1 : 0 ≤ x) (h2 : x ≤ 1114111) : IntKind.i32.wrap x = x := by
  have e : IntKind.i32.wrap x = if x % 4294967296 ≥ 2147483648 then x % 4294967296 - 4294967296 else x % 4294967296 := by
    simp [IntKind.wrap, IntKind.bits, IntKind.signed]
  rw [e]
  split <;> omega
theorem character_eq (c : Int) : M.value_character c = some (chOk c) := by
  unfold M.value_character chOk
  by_cases h : 0 ≤ c ∧ c ≤ 1114111
  · have e : (decide (c ≥ 0) && decide (c ≤ 1114111)) = true := by simp; omega
    simp only [e, if_true, h, and_self, decide_true, Bool.true_and]
    rw [w32_id h.1 h.2]
    unfold M.unicode_utf8_ValidRune
    by_cases h1 : c < 55296
    · have e1 : (decide (0 ≤ c) && decide (c < 55296)) = true := by simp; omega
      have e2 : decide (55296 ≤ c ∧ c ≤ 57343) = false := decide_eq_false (by omega)
      simp only [e1, e2, if_true, Option.bind_some, Bool.not_false]
    · have e1 : (decide (0 ≤ c) && decide (c < 55296)) = false := by simp; omega
      simp only [e1, Bool.false_eq_true, if_false]
      by_cases h2 : 57343 < c
      · have e3 : (decide (57343 < c) && decide (c ≤ 1114111)) = true := by simp; omega
        have e2 : decide (55296 ≤ c ∧ c ≤ 57343) = false := decide_eq_false (by omega)
        simp only [e3, e2, if_true, Option.bind_some, Bool.not_false]
      · have e3 : (decide (57343 < c) && decide (c ≤ 1114111)) = false := by simp; omega
        have e2 : decide (55296 ≤ c ∧ c ≤ 57343) = true := decide_eq_true (by omega)
        simp only [e3, e2, Bool.false_eq_true, if_false, Option.bind_some, Bool.not_true]
  · have e : (decide (c ≥ 0) && decide (c ≤ 1114111)) = false := by simp; omega
    simp only [e, Bool.false_eq_true, if_false, h, decide_false, Bool.false_and, Option.bind_some]
theorem value_Right_eq {v : Val} (hd : v.Data.length ≤ 9223372036854775807) : M.value_Right v = some (vRight v) := by
  unfold M.value_Right
  by_cases h4 : 4 < v.Shape.length
  · rw [if_pos (by simp; omega)]
    have : vRight v = false := by
      cases h : vRight v with
      | false => rfl
      | true => have := (vRight_iff.mp h).1.1; omega
    rw [this]
  · rw [if_neg (by simp; omega)]
    have hloop := right_loop (f := M.value_Right_L1 v) (s := v.Shape) (by omega) (fun k h z => by
      unfold M.value_Right_L1
      simp only [show decide ((k : Int) < (v.Shape.length : Int)) = true from decide_eq_true (by omega), if_true, idx_get h, Option.bind_some]
      by_cases hb : v.Shape[k] < 0 ∨ v.Shape[k] > 10000
      · rw [if_pos hb, if_pos (by simpa using hb)]
      · rw [if_neg hb, if_neg (by simpa using hb), w64_id (x := (k : Int) + 1) (by omega) (by omega)]) (fun z => by unfold M.value_Right_L1; simp)
    rcases hloop with ⟨hall, hw⟩ | ⟨hall, hw⟩
    · rw [hw]
      simp only [Option.bind_some, joinK_next]
      have hp0 : 0 ≤ prod v.Shape := prod_nonneg fun x hx => (hall x hx).1
      by_cases hsz : prod v.Shape ≤ 10000 ∧ prod v.Shape = v.Data.length
      · have e : (decide (prod v.Shape > 10000) || (prod v.Shape != (v.Data.length : Int))) = false := by simp; omega
        simp only [e, Bool.false_eq_true, if_false]
        have hok : shOk v.Shape := ⟨by omega, hall, hsz.1⟩
        have hv : vRight v = (!v.Char || v.Data.all chOk) := by unfold vRight; simp [hok, hsz.2]
        rw [hv]
        cases hc : v.Char with
        | false => simp
        | true =>
          simp only [Bool.not_true, Bool.false_eq_true, if_false, Bool.false_or]
          rw [contains_int64 (s := v.Data) (f := fun x0 => M.value_Right_1 x0) (g := fun x => !chOk x) (fun x _ => by unfold M.value_Right_1; rw [character_eq]; rfl) hd]
          simp only [Option.bind_some]
          congr 1
          rw [List.not_any_eq_all_not]; simp
      · have e : (decide (prod v.Shape > 10000) || (prod v.Shape != (v.Data.length : Int))) = true := by
          simp; omega
        simp only [e, if_true]
        have : vRight v = false := by
          cases h : vRight v with
          | false => rfl
          | true => have := vRight_iff.mp h; exact absurd ⟨this.1.2.2, this.2.1⟩ hsz
        rw [this]
    · rw [hw]
      have : vRight v = false := by
        cases h : vRight v with
        | false => rfl
        | true => exact absurd (vRight_iff.mp h).1.2.1 hall
      rw [this]; rfl
theorem ref02_Same_eq {a b : Val} (hs : a.Shape.length ≤ maxLen) (hd : a.Data.length ≤ maxLen) : M.anamnesisref02_Same a b = some (vSame a b) := by
  have hm : maxLen = 9223372036854775807 := rfl
  unfold M.anamnesisref02_Same
  by_cases hl : (a.Char = b.Char ∧ a.Shape.length = b.Shape.length) ∧ a.Data.length = b.Data.length
  · obtain ⟨⟨h1, h2⟩, h3⟩ := hl
    rw [if_neg (by simp [h1, h2, h3])]
    have l1 := same_loop (f := M.anamnesisref02_Same_L1 a b) h2 hs (fun k h => by
      unfold M.anamnesisref02_Same_L1
      simp only [show decide ((k : Int) < (a.Shape.length : Int)) = true from decide_eq_true (by omega), if_true, idx_get h, idx_get (show k < b.Shape.length by omega), Option.bind_some]
      by_cases he : a.Shape[k] = b.Shape[k]
      · rw [if_pos he, if_neg (by simp [he]), w64_id (by omega) (by omega)]
      · rw [if_neg he, if_pos (by simp [he])]) (by unfold M.anamnesisref02_Same_L1; simp)
    have l2 := same_loop (f := M.anamnesisref02_Same_L2 a b) h3 hd (fun k h => by
      unfold M.anamnesisref02_Same_L2
      simp only [show decide ((k : Int) < (a.Data.length : Int)) = true from decide_eq_true (by omega), if_true, idx_get h, idx_get (show k < b.Data.length by omega), Option.bind_some]
      by_cases he : a.Data[k] = b.Data[k]
      · rw [if_pos he, if_neg (by simp [he]), w64_id (by omega) (by omega)]
      · rw [if_neg he, if_pos (by simp [he])]) (by unfold M.anamnesisref02_Same_L2; simp)
    rw [l1, l2]
    unfold vSame
    simp only [h1, BEq.rfl, Bool.true_and]
    by_cases he : a.Shape = b.Shape
    · rw [if_pos he, decide_eq_true he]
      by_cases hd : a.Data = b.Data
      · rw [if_pos hd, decide_eq_true hd]; rfl
      · rw [if_neg hd, decide_eq_false hd]; rfl
    · rw [if_neg he, decide_eq_false he]; rfl
  · have e : ((!(a.Char == b.Char) || ((a.Shape.length : Int) != (b.Shape.length : Int))) || ((a.Data.length : Int) != (b.Data.length : Int))) = true := by
      cases hq : ((!(a.Char == b.Char) || ((a.Shape.length : Int) != (b.Shape.length : Int))) || ((a.Data.length : Int) != (b.Data.length : Int))) with
      | true => rfl
      | false =>
        exfalso; apply hl
        simp only [Bool.or_eq_false_iff, Bool.not_eq_false', beq_iff_eq, bne_eq_false_iff_eq] at hq
        obtain ⟨⟨q1, q2⟩, q3⟩ := hq
        exact ⟨⟨q1, by omega⟩, by omega⟩
    rw [if_pos e]
    have : vSame a b = false := by
      cases hq : vSame a b with
      | false => rfl
      | true => have := vSame_iff.mp hq; subst this; simp at hl
    rw [this]
theorem sub_take {α : Type} {l : List α} {k : Nat} (h : k ≤ l.length) : sub l 0 (k : Int) = some (l.take k) := by
  unfold sub
  rw [if_pos ⟨by omega, by omega, by omega⟩]
  simp
/-- what is ahead of an axis, it, what is behind. -/
def splitOf (s : List Int) (axis : Int) : Int × Int × Int × Bool :=
  if h : shOk s ∧ 0 ≤ axis ∧ axis < s.length then (prod (s.take axis.toNat), s[axis.toNat]'(by omega), prod (s.drop (axis.toNat + 1)), true) else (0, 0, 0, false)
theorem shape_Split_eq {s : List Int} {axis : Int} (hl : s.length ≤ maxLen) (ha : -9223372036854775808 ≤ axis ∧ axis ≤ 9223372036854775807) : M.shape_Split s axis = some (splitOf s axis) := by
  have hm : maxLen = 9223372036854775807 := rfl
  unfold M.shape_Split splitOf
  by_cases hr : 0 ≤ axis ∧ axis < s.length
  · have e : (decide (axis < 0) || decide (axis ≥ (s.length : Int))) = false := by
      rw [decide_eq_false (by omega), decide_eq_false (by omega)]; rfl
    rw [e, sized_eq hl]
    simp only [Bool.false_eq_true, if_false, Option.bind_some]
    rcases shSize_cases s with ⟨hok, he⟩ | ⟨hok, he, _⟩
    · obtain ⟨k, rfl⟩ : ∃ k : Nat, axis = k := ⟨axis.toNat, by omega⟩
      have hk : k < s.length := by omega
      have h4 := hok.1
      rw [he, dif_pos ⟨hok, hr⟩]
      simp only [beq_self_eq_true, Bool.not_true, Bool.false_eq_true, if_false]
      rw [sub_take (by omega), Option.bind_some, product_eq (by rw [List.length_take]; omega) (fun x hx => hok.2.1 x (List.mem_of_mem_take hx)), Option.bind_some, idx_get hk, Option.bind_some, w64_id (by omega) (by omega),
        show (k : Int) + 1 = ((k + 1 : Nat) : Int) by omega, sub_drop (by omega), Option.bind_some, product_eq (by rw [List.length_drop]; omega) (fun x hx => hok.2.1 x (List.mem_of_mem_drop hx))]
      rfl
    · have : ((shSize s).2 == 0) = false := by simpa using he
      rw [this, dif_neg (fun h => hok h.1)]
      rfl
  · have e : (decide (axis < 0) || decide (axis ≥ (s.length : Int))) = true := by
      simp; omega
    rw [e, dif_neg (fun h => hr h.2)]
    rfl
/-- a shape without an axis. -/
def wo (s : List Int) (axis : Int) : List Int := if 0 ≤ axis ∧ axis < s.length then s.take axis.toNat ++ s.drop (axis.toNat + 1) else s
theorem wo_prod {s : List Int} {k : Nat} (h : k < s.length) : prod (wo s k) = prod (s.take k) * prod (s.drop (k + 1)) := by
  unfold wo
  rw [if_pos ⟨by omega, by omega⟩, prod_append]; simp
theorem prod_split {s : List Int} {k : Nat} (h : k < s.length) : prod s = prod (s.take k) * s[k] * prod (s.drop (k + 1)) := by
  conv => lhs; rw [← List.take_append_drop k s, drop_cons h, prod_append]
  simp only [prod]
  rw [Int.mul_assoc]
theorem off_app : ∀ {a p : List Int} {b q : List Int}, p.length = a.length → off (a ++ b) (p ++ q) = off a p * prod b + off b q
  | [], [], b, q, _ => by simp [off]
  | x :: a, y :: p, b, q, h => by
    simp only [List.cons_append, off]
    rw [off_app (by simpa using h), prod_append, Int.add_mul, Int.mul_assoc, Int.add_assoc]
  | [], _ :: _, _, _, h => by simp at h
  | _ :: _, [], _, _, h => by simp at h
theorem inShape_app : ∀ {a p b q : List Int}, inShape a p → inShape b q → inShape (a ++ b) (p ++ q)
  | [], [], _, _, _, h => h
  | _ :: _, _ :: _, _, _, ⟨h1, h2, h3⟩, h => ⟨h1, h2, inShape_app h3 h⟩
  | [], _ :: _, _, _, h, _ => h.elim
  | _ :: _, [], _, _, h, _ => h.elim
theorem at_axis : ∀ {s p : List Int} {x : Nat}, inShape s p → (hx : x < s.length) → ∃ p1 i p2, p = p1 ++ i :: p2 ∧ p1.length = x ∧ inShape (s.take x) p1 ∧ 0 ≤ i ∧ i < s[x] ∧ inShape (s.drop (x + 1)) p2
  | y :: s, a :: p, 0, ⟨h1, h2, h3⟩, _ => ⟨[], a, p, rfl, rfl, trivial, h1, h2, h3⟩
  | y :: s, a :: p, x + 1, ⟨h1, h2, h3⟩, hx => by
    obtain ⟨p1, i, p2, rfl, e, k1, k2, k3, k4⟩ := at_axis h3 (by simpa using hx : x < s.length)
    exact ⟨a :: p1, i, p2, rfl, by simp [e], ⟨h1, h2, k1⟩, k2, by simpa using k3, by simpa using k4⟩
  | [], _, _, _, hx => by simp at hx
  | _ :: _, [], _, h, _ => h.elim
theorem take_mid (s : List Int) {x : Nat} (hx : x < s.length) : s = s.take x ++ s[x] :: s.drop (x + 1) := by
  rw [← List.drop_eq_getElem_cons hx, List.take_append_drop]
theorem allPos_in {s p : List Int} (h : inShape s p) : allPos s := by
  induction s generalizing p with
  | nil => intro x hx; simp at hx
  | cons y s ih => cases p with
    | nil => exact h.elim
    | cons a p =>
      obtain ⟨h1, h2, h3⟩ := h
      intro x hx
      rcases List.mem_cons.mp hx with rfl | hx
      · omega
      · exact ih h3 x hx
/-- what an offset tells of a place, at an axis. -/
theorem off_axis {s p1 p2 : List Int} {x : Nat} {i : Int} (hx : x < s.length) (h1 : inShape (s.take x) p1) (hi : 0 ≤ i ∧ i < s[x]) (h2 : inShape (s.drop (x + 1)) p2) :
    off s (p1 ++ i :: p2) = (off (s.take x) p1 * s[x] + i) * prod (s.drop (x + 1)) + off (s.drop (x + 1)) p2 := by
  conv => lhs; rw [take_mid s hx]
  rw [off_app h1.len]
  simp only [off, prod]
  rw [Int.add_mul, Int.mul_assoc, Int.add_assoc]
theorem axis_facts {h n i B j k : Int} (hn : 0 ≤ i ∧ i < n) (hB : 0 ≤ j ∧ j < B) (hk : k = (h * n + i) * B + j) :
    k / B % n = i ∧ k / (n * B) = h ∧ k % B = j := by
  have e1 : k / B = h * n + i := by
    rw [hk, Int.add_comm, Int.add_mul_ediv_right _ _ (by omega), Int.ediv_eq_zero_of_lt hB.1 hB.2, Int.zero_add]
  refine ⟨?_, ?_, ?_⟩
  · rw [e1, Int.add_comm, Int.add_mul_emod_self_right, Int.emod_eq_of_lt hn.1 hn.2]
  · rw [Int.mul_comm, ← Int.ediv_ediv_of_nonneg (by omega : (0 : Int) ≤ B), e1, Int.add_comm, Int.add_mul_ediv_right _ _ (by omega), Int.ediv_eq_zero_of_lt hn.1 hn.2, Int.zero_add]
  · rw [hk, Int.add_comm, Int.add_mul_emod_self_right, Int.emod_eq_of_lt hB.1 hB.2]
theorem shOk_nonneg' {s : List Int} (h : shOk s) : 0 ≤ prod s := prod_nonneg (fun x hx => (h.2.1 x hx).1)
theorem inShape_bd : ∀ {s p : List Int}, inShape s p → (∀ x ∈ s, x ≤ 10000) → ∀ x ∈ p, 0 ≤ x ∧ x ≤ 10000
  | [], [], _, _, x, hx => by simp at hx
  | a :: s, i :: p, ⟨h0, h1, h⟩, hs, x, hx => by
    have ha := hs a (by simp)
    rcases List.mem_cons.mp hx with rfl | hx
    · omega
    · exact inShape_bd h (fun y hy => hs y (by simp [hy])) x hx
def pfill (b : Val) : Int := if b.Char = true then 32 else 0
theorem pFill_eq (v : Val) : M.value_Fill v = some (pfill v) := by
  unfold M.value_Fill pfill
  split <;> rfl
def countsF (a b : Val) : Int := if vRight a = false ∨ vRight b = false then 1 else if a.Shape.length > 1 then 24 else if a.Char = true ∧ a.Data.length > 0 then 23 else 0
theorem counts_eq {a b : Val} (ha : a.Data.length ≤ maxLen) (hb : b.Data.length ≤ maxLen) : M.pick_counts a b = some (countsF a b) := by
  have hm : maxLen = 9223372036854775807 := rfl
  unfold M.pick_counts countsF
  rw [value_Right_eq (by omega), value_Right_eq (by omega)]
  cases h1 : vRight a <;> cases h2 : vRight b <;> simp
  by_cases h3 : 1 < a.Shape.length
  · rw [if_pos h3, if_pos (show (1 : Int) < a.Shape.length by omega)]
  · rw [if_neg h3, if_neg (show ¬ (1 : Int) < a.Shape.length by omega)]
    cases a.Char <;> simp
    split <;> rfl
theorem counts_right {a b : Val} (h : countsF a b = 0) : vRight a = true ∧ vRight b = true ∧ a.Shape.length ≤ 1 := by
  unfold countsF at h
  split at h
  · cases h
  · rename_i h1
    split at h
    · cases h
    · cases ha : vRight a <;> cases hb : vRight b <;> simp_all
theorem pdata {a : Val} (h : vRight a = true) : a.Data.length ≤ 10000 := by
  obtain ⟨hs, hp, _⟩ := vRight_iff.mp h
  have := hs.2.2; omega
theorem clone_int_eq' {s : List Int} (h : s.length ≤ 1000000000) : M.slices_Clone__int s = some s := by
  unfold M.slices_Clone__int
  rw [app_ok (by simp; omega)]; rfl
theorem pick_size_eq {s : List Int} (hl : s.length ≤ 1000000) : M.pick_size s = some ((shSize s).1, decide (shOk s)) := by
  unfold M.pick_size
  rw [shape_Size_eq (by unfold maxLen; omega)]
  simp only [Option.bind_some]
  rw [contains_int (s := s) (f := fun x0 => M.pick_size_1 x0) (g := fun x => decide (x > 10000)) (fun x _ => rfl) (by omega)]
  simp only [Option.bind_some]
  by_cases h : shOk s
  · have h2 := shSize_zero.mpr h
    rw [h2]
    have : s.any (fun x => decide (x > 10000)) = false := by
      rw [List.any_eq_false]
      intro x hx
      have := (h.2.1 x hx).2
      simp; omega
    rw [this]; simp [h]
  · have h2 : ¬ (shSize s).2 = 0 := fun e => h (shSize_zero.mp e)
    simp [h, h2]
theorem low32 {x : Int} (h0 : 0 ≤ x) (h1 : x < 4294967296) : (BitVec.ofInt IntKind.u64.bits x &&& BitVec.ofInt IntKind.u64.bits 4294967295).toNat = x.toNat := by
  show (BitVec.ofInt 64 x &&& BitVec.ofInt 64 4294967295).toNat = x.toNat
  rw [BitVec.toNat_and]
  have e1 : (BitVec.ofInt 64 x).toNat = x.toNat := by
    rw [BitVec.toNat_ofInt, Int.emod_eq_of_lt h0 (by omega)]
  have e2 : (BitVec.ofInt 64 4294967295).toNat = 2 ^ 32 - 1 := by decide
  rw [e1, e2, Nat.and_two_pow_sub_one_eq_mod]
  omega
theorem u64_id {x : Int} (h1 : 0 ≤ x) (h2 : x ≤ 18446744073709551615) : IntKind.u64.wrap x = x := by
  have : IntKind.u64.wrap x = x % 18446744073709551616 := by simp [IntKind.wrap, IntKind.bits, IntKind.signed]
  rw [this]; omega
theorem mul64_one {n : Int} (h0 : 0 ≤ n) (h1 : n ≤ 1000000) : M.math_bits_Mul 1 n = some (0, n) := by
  have s32 : ((2 : Int) ^ (min (Int.toNat 32) IntKind.u64.bits)) = 4294967296 := by decide
  have d0 : ∀ x : Int, 0 ≤ x → x < 4294967296 → Int.fdiv x 4294967296 = 0 := fun x a b => by
    rw [Int.fdiv_eq_ediv_of_nonneg _ (by omega)]; exact Int.ediv_eq_zero_of_lt a b
  have l1 : (BitVec.ofInt IntKind.u64.bits 1 &&& BitVec.ofInt IntKind.u64.bits 4294967295).toNat = 1 := low32 (by omega) (by omega)
  have l0 : (BitVec.ofInt IntKind.u64.bits 0 &&& BitVec.ofInt IntKind.u64.bits 4294967295).toNat = 0 := low32 (by omega) (by omega)
  unfold M.math_bits_Mul M.math_bits_Mul64
  rw [s32, low32 h0 (by omega), l1, d0 1 (by omega) (by omega), d0 n h0 (by omega), Int.toNat_of_nonneg h0]
  simp only [Int.zero_mul, Int.mul_zero, Int.natCast_one, Int.one_mul]
  rw [u64_id (x := 0) (by omega) (by omega), u64_id (x := 1) (by omega) (by omega), u64_id (x := n) (by omega) (by omega)]
  simp only [Int.one_mul]
  rw [u64_id (x := n) (by omega) (by omega), d0 n h0 (by omega)]
  have w0 : IntKind.u64.wrap 0 = 0 := by decide
  have l0' : ((BitVec.ofInt IntKind.u64.bits 0 &&& BitVec.ofInt IntKind.u64.bits 4294967295).toNat : Int) = 0 := by rw [l0]; rfl
  have z0 : Int.fdiv 0 4294967296 = 0 := by decide
  simp only [Int.add_zero, Int.zero_add, w0, l0', z0]
  rfl
def repL (k n : Nat) (x : Int) : List Int := List.replicate k x ++ List.replicate (n - k) 0
theorem repL_len {k n : Nat} (x : Int) (h : k ≤ n) : (repL k n x).length = n := by simp [repL]; omega
theorem repL_cpy {k n : Nat} (x : Int) (h : k ≤ n) : cpy (repL k n x) k (n - k) (List.replicate k x) = repL (k + min k (n - k)) n x := by
  unfold cpy repL
  rw [List.take_left' (by simp), List.take_replicate, List.length_replicate, List.drop_append, List.drop_of_length_le (by simp), List.nil_append, List.length_replicate, List.drop_replicate, List.replicate_append_replicate]
  congr 1
  · congr 1; omega
  · congr 1; omega
theorem Repeat_int64_one {x : Int} {n : Nat} (h : n ≤ 1000000) : M.slices_Repeat__int64 [x] (n : Int) = some (List.replicate n x) := by
  have key := wloop_ind (f := M.slices_Repeat__int64_L1) (fun m s => ∃ k : Nat, s = ((k : Int), repL k n x) ∧ k ≤ n ∧ (0 < n → 0 < k) ∧ m = n - k) (fun b => b = .next (List.replicate n x)) (fun m s hs => by
    obtain ⟨k, rfl, hk, h0, rfl⟩ := hs
    simp only [M.slices_Repeat__int64_L1]
    rw [repL_len x hk]
    by_cases hlt : k < n
    · left
      rw [if_pos (by simp; omega)]
      have e1 : sub (repL k n x) (k : Int) (n : Int) = some ((repL k n x).drop k) := by
        have := sub_drop (l := repL k n x) (k := k) (by rw [repL_len x hk]; omega)
        rwa [repL_len x hk] at this
      have e2 : sub (repL k n x) 0 (k : Int) = some (List.replicate k x) := by
        unfold sub
        rw [if_pos ⟨by omega, by omega, by rw [repL_len x hk]; omega⟩]
        simp [repL]
      rw [e1, e2]
      simp only [Option.bind_some]
      have e3 : ((repL k n x).drop k).length = n - k := by rw [List.length_drop, repL_len x hk]
      rw [e3, List.length_replicate, Int.toNat_natCast, repL_cpy x hk, w64_id (by omega) (by omega)]
      refine ⟨_, n - (k + min k (n - k)), rfl, ?_, k + min k (n - k), ?_, by omega, by omega, rfl⟩
      · have := h0 (by omega); omega
      · congr 1
    · right
      rw [if_neg (by simp; omega)]
      obtain rfl : k = n := by omega
      exact ⟨_, rfl, by simp [repL]⟩)
  unfold M.slices_Repeat__int64
  rw [if_neg (by simp), u64_id (x := ([x].length : Int)) (by simp) (by simp), u64_id (x := (n : Int)) (by omega) (by omega)]
  simp only [List.length_cons, List.length_nil, Nat.zero_add, Int.natCast_one]
  rw [mul64_one (by omega) (by omega)]
  simp only [Option.bind_some]
  rw [if_neg (by simp; omega), w64_id (x := (n : Int)) (by omega) (by omega), mk_ok (by omega) (by omega)]
  simp only [Option.bind_some]
  rcases Nat.eq_zero_or_pos n with rfl | hn
  · obtain ⟨b, hb, rfl⟩ := key 0 (0, []) ⟨0, rfl, by omega, by omega, rfl⟩
    show ((wloop (M.slices_Repeat__int64_L1) (0, [])).bind fun k => joinK k fun l2 => some l2) = _
    rw [hb]; rfl
  · obtain ⟨b, hb, rfl⟩ := key (n - 1) (1, repL 1 n x) ⟨1, rfl, by omega, by omega, rfl⟩
    have e : (((min 1 (List.replicate n (0 : Int)).length : Nat) : Int), cpy (List.replicate n (0 : Int)) 0 (List.replicate n (0 : Int)).length [x]) = ((1 : Int), repL 1 n x) := by
      rw [List.length_replicate]
      congr 1
      · omega
      · unfold cpy repL
        obtain ⟨n', rfl⟩ : ∃ n', n = n' + 1 := ⟨n - 1, by omega⟩
        simp [List.replicate_succ]
    rw [e, hb]; rfl
theorem sub_mid {l : List Int} {lo n : Nat} (h : lo + n ≤ l.length) : sub l (lo : Int) ((lo + n : Nat) : Int) = some ((l.drop lo).take n) := by
  unfold sub
  rw [if_pos ⟨by omega, by omega, by omega⟩]
  simp only [Int.toNat_natCast]
  congr 1
  first
    | (rw [List.drop_take]; congr 1; omega)
    | (congr 1; omega)
def alF (b : Val) (x : Nat) (fr : List Int) (k : Int) : Int :=
  if (fr[((dig (b.Shape.set x fr.length) k).getD x 0).toNat]?).getD 0 < 0 then pfill b else
    (b.Data[(off b.Shape ((dig (b.Shape.set x fr.length) k).set x ((fr[((dig (b.Shape.set x fr.length) k).getD x 0).toNat]?).getD 0))).toNat]?).getD 0
def alongF (b : Val) (x : Nat) (fr : List Int) : Val := ⟨b.Char, b.Shape.set x fr.length, (List.range (prod (b.Shape.set x fr.length)).toNat).map fun (k : Nat) => alF b x fr k⟩
theorem set_take (s : List Int) (x : Nat) (v : Int) : (s.set x v).take x = s.take x := by rw [List.take_set_of_le (Nat.le_refl _)]
theorem set_drop (s : List Int) (x : Nat) (v : Int) : (s.set x v).drop (x + 1) = s.drop (x + 1) := by rw [List.drop_set_of_lt (by omega)]
theorem prod_set {s : List Int} {x : Nat} (hx : x < s.length) (v : Int) : prod (s.set x v) = prod (s.take x) * v * prod (s.drop (x + 1)) := by
  have := prod_split (s := s.set x v) (k := x) (by simpa using hx)
  rw [set_take, set_drop, List.getElem_set_self] at this
  exact this
theorem alF_at {b : Val} {x : Nat} {fr : List Int} (hb : vRight b = true) (hx : x < b.Shape.length) (hs : shOk (b.Shape.set x fr.length)) (hf : ∀ e ∈ fr, e < b.Shape[x])
    {i t c : Nat} (hi : (i : Int) < prod (b.Shape.take x)) (ht : t < fr.length) (hc : (c : Int) < prod (b.Shape.drop (x + 1))) :
    alF b x fr (((i : Int) * fr.length + t) * prod (b.Shape.drop (x + 1)) + c) = if fr[t] < 0 then pfill b else (b.Data[(((i : Int) * b.Shape[x] + fr[t]) * prod (b.Shape.drop (x + 1)) + c).toNat]?).getD 0 := by
  have hx' : x < (b.Shape.set x fr.length).length := by simpa using hx
  have hA : 0 < prod (b.Shape.take x) := by omega
  have hB : 0 < prod (b.Shape.drop (x + 1)) := by omega
  generalize hK : ((i : Int) * fr.length + t) * prod (b.Shape.drop (x + 1)) + c = K
  have hP := prod_set hx (fr.length : Int)
  have hlt : (i : Int) * fr.length + t < prod (b.Shape.take x) * fr.length := by
    have := Int.mul_le_mul_of_nonneg_right (show (i : Int) + 1 ≤ prod (b.Shape.take x) by omega) (show (0 : Int) ≤ fr.length by omega)
    rw [Int.add_mul, Int.one_mul] at this
    omega
  have h0 : 0 ≤ (i : Int) * fr.length := Int.mul_nonneg (by omega) (by omega)
  have hK1 : K < prod (b.Shape.set x fr.length) := by
    rw [hP]
    have := Int.mul_le_mul_of_nonneg_right (show (i : Int) * fr.length + t + 1 ≤ prod (b.Shape.take x) * fr.length by omega) (show 0 ≤ prod (b.Shape.drop (x + 1)) by omega)
    rw [Int.add_mul, Int.one_mul] at this
    omega
  have hK0 : 0 ≤ K := by
    have := Int.mul_nonneg (show 0 ≤ (i : Int) * fr.length + t by omega) (show 0 ≤ prod (b.Shape.drop (x + 1)) by omega)
    omega
  have hpos : allPos (b.Shape.set x fr.length) := allPos_of (fun y hy => (hs.2.1 y hy).1) (by omega)
  have hin := dig_in hpos hK0 hK1
  have hod := off_dig hpos hK0 hK1
  unfold alF
  generalize dig (b.Shape.set x fr.length) K = p at *
  obtain ⟨p1, j, p2, rfl, e1, k1, k2, k3, k4⟩ := at_axis hin hx'
  rw [List.getElem_set_self] at k3
  have hoa := off_axis hx' k1 ⟨k2, by rw [List.getElem_set_self]; exact k3⟩ k4
  rw [set_take] at k1 hoa
  rw [set_drop] at k4 hoa
  rw [List.getElem_set_self, hod] at hoa
  have r1 := off_range k1
  have r2 := off_range k4
  have a1 := axis_facts (h := off (b.Shape.take x) p1) (n := (fr.length : Int)) (i := j) (B := prod (b.Shape.drop (x + 1))) (j := off (b.Shape.drop (x + 1)) p2) (k := K) ⟨k2, k3⟩ r2 hoa
  have a2 := axis_facts (h := (i : Int)) (n := (fr.length : Int)) (i := (t : Int)) (B := prod (b.Shape.drop (x + 1))) (j := (c : Int)) (k := K) ⟨by omega, by omega⟩ ⟨by omega, hc⟩ hK.symm
  have ej : j = t := by rw [← a1.1, ← a2.1]
  have ei : off (b.Shape.take x) p1 = i := by rw [← a1.2.1, ← a2.2.1]
  have ec : off (b.Shape.drop (x + 1)) p2 = c := by rw [← a1.2.2, ← a2.2.2]
  subst ej
  have eg : (p1 ++ (t : Int) :: p2).getD x 0 = t := by
    rw [← e1]; simp
  rw [eg, Int.toNat_natCast, List.getElem?_eq_getElem ht]
  simp only [Option.getD_some]
  by_cases hneg : fr[t] < 0
  · rw [if_pos hneg, if_pos hneg]
  · rw [if_neg hneg, if_neg hneg]
    have es : (p1 ++ (t : Int) :: p2).set x fr[t] = p1 ++ fr[t] :: p2 := by
      rw [List.set_append_right _ _ (by omega), e1, Nat.sub_self]; rfl
    rw [es, off_axis hx k1 ⟨by omega, hf _ (List.getElem_mem ht)⟩ k4, ei, ec]
theorem along_eq {b : Val} {x : Nat} {fr : List Int} (hb : vRight b = true) (hx : x < b.Shape.length) (hf : ∀ e ∈ fr, -1 ≤ e ∧ e < b.Shape[x]) (hfl : fr.length ≤ 100000) :
    M.pick_along b x fr = some (if shOk (b.Shape.set x fr.length) then (alongF b x fr, 0) else (⟨false, [], []⟩, 27)) := by
  obtain ⟨hbs, hbp, _⟩ := vRight_iff.mp hb
  have h4 := hbs.1
  have hmx : maxLen = 9223372036854775807 := rfl
  unfold M.pick_along
  rw [clone_int_eq' (by omega)]
  simp only [Option.bind_some]
  rw [idx_get hx]
  simp only [Option.bind_some]
  rw [upd_nat hx]
  simp only [Option.bind_some]
  rw [pick_size_eq (by rw [List.length_set]; omega)]
  simp only [Option.bind_some]
  by_cases hs : shOk (b.Shape.set x fr.length)
  · rw [if_neg (by simp [hs]), if_pos hs, shSize_ok hs]
    have hp0 := shOk_nonneg' hs
    have hp1 := hs.2.2
    have hfl2 : fr.length ≤ 10000 := by
      have := (hs.2.1 (fr.length : Int) (List.mem_iff_getElem.mpr ⟨x, by simpa using hx, List.getElem_set_self _⟩)).2
      omega
    have hxb := hbs.2.1 _ (List.getElem_mem hx)
    obtain ⟨N, hN⟩ : ∃ N : Nat, prod (b.Shape.set x fr.length) = N := ⟨(prod (b.Shape.set x fr.length)).toNat, by omega⟩
    simp only
    have hmk : mk 8 (0 : Int) 0 (prod (b.Shape.set x fr.length)) = some [] := by
      unfold mk; rw [if_pos ⟨by omega, by omega, by omega, by omega⟩]; rfl
    rw [hmk, shape_Split_eq (by omega) (by omega)]
    simp only [Option.bind_some]
    have hsp : splitOf b.Shape (x : Int) = (prod (b.Shape.take x), b.Shape[x], prod (b.Shape.drop (x + 1)), true) := by
      unfold splitOf; rw [dif_pos ⟨hbs, by omega, by omega⟩]; simp
    rw [hsp]
    simp only
    have hP := prod_set hx (fr.length : Int)
    have hQ := prod_split hx
    have gA := prod_nonneg (s := b.Shape.take x) (fun y hy => (hbs.2.1 y (List.mem_of_mem_take hy)).1)
    have gB := prod_nonneg (s := b.Shape.drop (x + 1)) (fun y hy => (hbs.2.1 y (List.mem_of_mem_drop hy)).1)
    obtain ⟨A, hA⟩ : ∃ A : Nat, prod (b.Shape.take x) = A := ⟨_, (Int.toNat_of_nonneg gA).symm⟩
    obtain ⟨B, hB⟩ : ∃ B : Nat, prod (b.Shape.drop (x + 1)) = B := ⟨_, (Int.toNat_of_nonneg gB).symm⟩
    obtain ⟨m, hm⟩ : ∃ m : Nat, b.Shape[x] = m := ⟨_, (Int.toNat_of_nonneg hxb.1).symm⟩
    have alat := fun {i t c : Nat} (hi : (i : Int) < prod (b.Shape.take x)) (ht : t < fr.length) (hc : (c : Int) < prod (b.Shape.drop (x + 1))) => alF_at hb hx hs (fun e he => (hf e he).2) hi ht hc
    have hT : (alongF b x fr).Data = (List.range N).map fun (k : Nat) => alF b x fr k := by simp [alongF, hN]
    have hres : alongF b x fr = ⟨b.Char, b.Shape.set x fr.length, (List.range N).map fun (k : Nat) => alF b x fr k⟩ := by rw [← hT]; rfl
    rw [hres]
    generalize hTe : ((List.range N).map fun (k : Nat) => alF b x fr k) = T at *
    have hTl : T.length = N := by rw [← hTe]; simp
    have hTg : ∀ k (h : k < T.length), T[k] = alF b x fr k := fun k h => by simp only [← hTe]; simp
    rw [hA, hB] at hP
    rw [hA, hB, hm] at hQ
    simp only [hA, hB, hm] at alat
    rw [hN, hA, hB, hm]
    have hN2 : N = A * fr.length * B := by
      have : (N : Int) = ((A * fr.length * B : Nat) : Int) := by rw [← hN, hP]; simp
      omega
    have hD : b.Data.length = A * m * B := by
      have : (b.Data.length : Int) = ((A * m * B : Nat) : Int) := by rw [← hbp, hQ]; simp
      omega
    rw [show wloop (M.pick_along_L1 b fr (N : Int) (A : Int) (m : Int) (B : Int)) (0, []) = some (.next T) from by
      by_cases hz : N = 0
      · rw [wloop_done (b := .next [])]
        · rw [List.eq_nil_of_length_eq_zero (l := T) (by omega)]
        · simp only [M.pick_along_L1]
          rw [if_neg (by simp; omega)]
      have fpos : 0 < fr.length := by
        rcases Nat.eq_zero_or_pos fr.length with h | h
        · rw [h] at hN2; simp at hN2; omega
        · exact h
      have Bpos : 0 < B := by
        rcases Nat.eq_zero_or_pos B with h | h
        · rw [h] at hN2; simp at hN2; omega
        · exact h
      have hAf : A * fr.length ≤ N := by rw [hN2]; exact Nat.le_mul_of_pos_right _ Bpos
      have hAle : A ≤ N := Nat.le_trans (Nat.le_mul_of_pos_right _ fpos) hAf
      have hBle : B ≤ N := by
        have : 0 < A * fr.length := by
          rcases Nat.eq_zero_or_pos (A * fr.length) with h | h
          · rw [h] at hN2; simp at hN2; omega
          · exact h
        rw [hN2]; exact Nat.le_mul_of_pos_left _ this
      have hN10 : N ≤ 10000 := by omega
      have := loop_fun (f := M.pick_along_L1 b fr (N : Int) (A : Int) (m : Int) (B : Int)) (fun i => ((i : Int), T.take (i * fr.length * B))) A (b := .next T) (fun i hi => ?_) ?_
      · simpa using this
      · have hin : wloop (M.pick_along_L2 b fr (m : Int) (B : Int) (i : Int)) (0, T.take (i * fr.length * B)) = some (.next (T.take ((i + 1) * fr.length * B))) := by
          have := loop_fun (f := M.pick_along_L2 b fr (m : Int) (B : Int) (i : Int)) (fun t => ((t : Int), T.take ((i * fr.length + t) * B))) fr.length (b := .next (T.take ((i + 1) * fr.length * B))) (fun t ht => ?_) ?_
          · simpa using this
          · have hft := hf _ (List.getElem_mem ht)
            have hrow : i * fr.length + t + 1 ≤ A * fr.length := by
              have := Nat.mul_le_mul_right fr.length (show i + 1 ≤ A by omega)
              rw [Nat.succ_mul] at this; omega
            have hend : (i * fr.length + t) * B + B ≤ N := by
              have := Nat.mul_le_mul_right B hrow
              rw [Nat.succ_mul] at this; omega
            have hblk : T.take ((i * fr.length + (t + 1)) * B) = T.take ((i * fr.length + t) * B) ++ (T.drop ((i * fr.length + t) * B)).take B := by
              rw [show (i * fr.length + (t + 1)) * B = (i * fr.length + t) * B + B from Nat.succ_mul _ _, List.take_add]
            have hget : ∀ c (h : c < B), (T[(i * fr.length + t) * B + c]'(by omega)) = if fr[t] < 0 then pfill b else (b.Data[(((i : Int) * m + fr[t]) * B + c).toNat]?).getD 0 := fun c h => by
              rw [hTg]
              have := alat (i := i) (t := t) (c := c) (by omega) ht (by omega)
              rw [← this]
              congr 1
            simp only [M.pick_along_L2]
            rw [if_pos (by simp; omega), idx_get ht]
            simp only [Option.bind_some]
            rw [w64_id (x := (t : Int) + 1) (by omega) (by omega), hblk]
            have hap : ∀ z : List Int, z.length = B → app 8 (T.take ((i * fr.length + t) * B)) z = some (T.take ((i * fr.length + t) * B) ++ z) := fun z hz => app_ok (by rw [List.length_take, hz]; omega)
            by_cases hneg : fr[t] < 0
            · rw [if_pos (by simpa using hneg), pFill_eq]
              simp only [Option.bind_some]
              rw [Repeat_int64_one (by omega)]
              simp only [Option.bind_some]
              rw [hap _ (by simp)]
              have : List.replicate B (pfill b) = (T.drop ((i * fr.length + t) * B)).take B := by
                apply List.ext_getElem
                · rw [List.length_replicate, List.length_take, List.length_drop]; omega
                · intro c h1 h2
                  rw [List.getElem_replicate, List.getElem_take, List.getElem_drop, hget c (by simpa using h1), if_pos hneg]
              rw [this]; rfl
            · rw [if_neg (by simpa using hneg)]
              obtain ⟨e, he⟩ : ∃ e : Nat, fr[t] = e := ⟨fr[t].toNat, by omega⟩
              have hem : e < m := by omega
              have hrow2 : i * m + e + 1 ≤ A * m := by
                have := Nat.mul_le_mul_right m (show i + 1 ≤ A by omega)
                rw [Nat.succ_mul] at this; omega
              have hend2 : (i * m + e) * B + B ≤ b.Data.length := by
                have := Nat.mul_le_mul_right B hrow2
                rw [Nat.succ_mul] at this; omega
              have hdl := (vRight_iff.mp hb).1.2.2
              have b1 : i * m ≤ 100000000 := by
                have := Nat.mul_le_mul (show i ≤ 10000 by omega) (show m ≤ 10000 by omega)
                omega
              have eim : ((i : Int) * m) = ((i * m : Nat) : Int) := by simp
              have b2 : (i * m + e) * B ≤ 10000 := by
                have : (b.Data.length : Int) ≤ 10000 := by rw [← hbp]; exact hdl
                omega
              rw [he, eim, w64_id (x := ((i * m : Nat) : Int)) (by omega) (by omega), w64_id (x := ((i * m : Nat) : Int) + (e : Int)) (by omega) (by omega),
                show (((i * m : Nat) : Int) + (e : Int)) * (B : Int) = (((i * m + e) * B : Nat) : Int) by simp, w64_id (x := (((i * m + e) * B : Nat) : Int)) (by omega) (by omega),
                show (((i * m + e) * B : Nat) : Int) + (B : Int) = (((i * m + e) * B + B : Nat) : Int) by omega, w64_id (x := (((i * m + e) * B + B : Nat) : Int)) (by omega) (by omega), sub_mid hend2]
              simp only [Option.bind_some]
              rw [hap _ (by rw [List.length_take, List.length_drop]; omega)]
              have : (b.Data.drop ((i * m + e) * B)).take B = (T.drop ((i * fr.length + t) * B)).take B := by
                apply List.ext_getElem
                · rw [List.length_take, List.length_drop, List.length_take, List.length_drop]; omega
                · intro c h1 h2
                  have hcB : c < B := by rw [List.length_take] at h1; omega
                  rw [List.getElem_take, List.getElem_drop, List.getElem_take, List.getElem_drop, hget c hcB, if_neg hneg, he,
                    show (((i : Int) * m + (e : Int)) * B + c).toNat = (i * m + e) * B + c by
                      rw [show ((i : Int) * m + (e : Int)) * B + c = (((i * m + e) * B + c : Nat) : Int) by simp, Int.toNat_natCast], List.getElem?_eq_getElem (by omega)]
                  rfl
              rw [this]; rfl
          · simp only [M.pick_along_L2]
            rw [if_neg (by simp), Nat.succ_mul]
        simp only [M.pick_along_L1]
        rw [if_pos (by simp; omega), hin]
        simp only [Option.bind_some, joinK]
        rw [w64_id (x := (i : Int) + 1) (by omega) (by omega)]
        rfl
      · simp only [M.pick_along_L1]
        rw [if_neg (by simp), ← hN2, List.take_of_length_le (by omega)]]
    rfl
  · rw [if_pos (by simp [hs]), if_neg hs]
def lnS (b : Val) : List Int := if b.Shape = [] then [1] else b.Shape
def pX (s : List Int) (axis : Int) : Nat := if axis = -1 then s.length - 1 else axis.toNat
def pOk (s : List Int) (axis : Int) : Bool := decide (axis = -1) || (decide (0 ≤ axis) && decide (axis < s.length))
theorem lnS_pos (b : Val) : 0 < (lnS b).length := by
  unfold lnS; split
  · simp
  · rename_i h; exact Nat.pos_of_ne_zero fun hh => h (List.length_eq_zero_iff.mp hh)
theorem lnS_right {b : Val} (hb : vRight b = true) : vRight ⟨b.Char, lnS b, b.Data⟩ = true := by
  obtain ⟨hs, hp, hc⟩ := vRight_iff.mp hb
  unfold lnS
  by_cases h : b.Shape = []
  · rw [if_pos h]
    rw [h] at hp
    exact vRight_iff.mpr ⟨⟨by simp, by simp, by simp [prod]⟩, by simp only [prod] at hp ⊢; omega, hc⟩
  · rw [if_neg h]; exact vRight_iff.mpr ⟨hs, hp, hc⟩
theorem pX_lt {s : List Int} {axis : Int} (h0 : 0 < s.length) (h : pOk s axis = true) : pX s axis < s.length := by
  unfold pOk at h
  unfold pX
  simp at h
  split <;> omega
theorem lined_eq {b : Val} {axis : Int} (hl : b.Shape.length ≤ 10) : ∃ x : Int, M.pick_lined b axis = some (⟨b.Char, lnS b, b.Data⟩, x, pOk (lnS b) axis) ∧ (pOk (lnS b) axis = true → x = (pX (lnS b) axis : Int)) := by
  have h0 := lnS_pos b
  have hll : (lnS b).length ≤ 10 := by unfold lnS; split <;> simp_all
  unfold M.pick_lined
  rw [show (if ((b.Shape.length : Int) == 0) = true then some [1] else some b.Shape) = some (lnS b) from by
    unfold lnS
    by_cases h : b.Shape = []
    · rw [if_pos h, if_pos (by simp [h])]
    · rw [if_neg h, if_neg (by simp [h])]]
  simp only [Option.bind_some]
  by_cases ha : axis = -1
  · subst ha
    rw [if_pos (by rfl), w64_id (x := ((lnS b).length : Int) - 1) (by omega) (by omega)]
    simp only [Option.bind_some]
    have e : pOk (lnS b) (-1) = true := by unfold pOk; rfl
    rw [e, show (decide (((lnS b).length : Int) - 1 ≥ 0) && decide (((lnS b).length : Int) - 1 < (lnS b).length)) = true from by simp; omega]
    exact ⟨_, rfl, fun _ => by unfold pX; rw [if_pos rfl]; omega⟩
  · rw [if_neg (by simpa using ha)]
    simp only [Option.bind_some]
    have e : pOk (lnS b) axis = (decide (axis ≥ 0) && decide (axis < (lnS b).length)) := by
      unfold pOk; rw [decide_eq_false ha]; rfl
    rw [e]
    exact ⟨_, rfl, fun h => by unfold pX; rw [if_neg ha]; simp at h; omega⟩
/-- which rows: each as often as a number says. -/
def cl (l : List Int) (n : Int) : Nat → List Int
  | 0 => []
  | k + 1 => cl l n k ++ List.replicate ((l[k]?).getD 0).toNat ((k : Int) % n)
def rowsF (b : Val) (x : Nat) (fr : List Int) : Val × Int := if shOk (b.Shape.set x fr.length) then (alongF b x fr, 0) else (⟨false, [], []⟩, 27)
def compL (a : Val) (n : Int) : List Int := if a.Data.length = 1 then List.replicate n.toNat ((a.Data[0]?).getD 0) else a.Data
def lnN (s : List Int) (x : Nat) : Int := (s[x]?).getD 0
def compF (a b : Val) (axis : Int) : Val × Int :=
  if countsF a b ≠ 0 then (⟨false, [], []⟩, countsF a b) else
  if pOk (lnS b) axis = false then (⟨false, [], []⟩, 26) else
  if a.Data.any (fun n => decide (n < 0)) = true then (⟨false, [], []⟩, 23) else
  if lnN (lnS b) (pX (lnS b) axis) ≠ 1 ∧ ((compL a (lnN (lnS b) (pX (lnS b) axis))).length : Int) ≠ lnN (lnS b) (pX (lnS b) axis) then (⟨false, [], []⟩, 25) else
  rowsF ⟨b.Char, lnS b, b.Data⟩ (pX (lnS b) axis) (cl (compL a (lnN (lnS b) (pX (lnS b) axis))) (lnN (lnS b) (pX (lnS b) axis)) (compL a (lnN (lnS b) (pX (lnS b) axis))).length)
theorem set_big {b : Val} {x : Nat} {k : Nat} (hx : x < b.Shape.length) (h : 10000 < k) : ¬ shOk (b.Shape.set x k) := fun hs => by
  have := (hs.2.1 (k : Int) (List.mem_iff_getElem.mpr ⟨x, by simpa using hx, List.getElem_set_self _⟩)).2
  omega
theorem cl_mem {l : List Int} {n : Int} (hn : 0 < n) : ∀ k, ∀ e ∈ cl l n k, 0 ≤ e ∧ e < n
  | 0, e, h => by simp [cl] at h
  | k + 1, e, h => by
    simp only [cl, List.mem_append] at h
    rcases h with h | h
    · exact cl_mem hn k e h
    · rw [List.mem_replicate] at h
      rw [h.2]
      exact ⟨Int.emod_nonneg _ (by omega), Int.emod_lt_of_pos _ hn⟩
theorem Compress_L2_eq {n t m : Int} {F : List Int} (hn : 0 < n) (ht : 0 ≤ t) (hF : F.length ≤ 10001) (hm : 0 ≤ m) :
    (∃ k : Nat, k = (min m 10001).toNat ∧ F.length + k ≤ 10001 ∧ wloop (M.pick_Compress_L2 n t m) (F, 0) = some (.next (F ++ List.replicate k (t % n)))) ∨
    (10001 < F.length + (min m 10001).toNat ∧ wloop (M.pick_Compress_L2 n t m) (F, 0) = some (.done (.done (.done (⟨false, [], []⟩, 27))))) := by
  have hq : remI t n = some (t % n) := by unfold remI; rw [if_neg (by omega), Int.tmod_eq_emod_of_nonneg ht]
  have hmm : (if 10001 < m then 10001 else m) = min m 10001 := by split <;> omega
  obtain ⟨K, hK⟩ : ∃ K : Nat, min m 10001 = K := ⟨(min m 10001).toNat, by omega⟩
  obtain ⟨b, hb, hQ⟩ := wloop_ind (f := M.pick_Compress_L2 n t m) (fun j st => ∃ k : Nat, st = (F ++ List.replicate k (t % n), (k : Int)) ∧ k ≤ K ∧ j = K - k ∧ F.length + k ≤ 10001)
    (fun b => (F.length + K ≤ 10001 ∧ b = .next (F ++ List.replicate K (t % n))) ∨ (10001 < F.length + K ∧ b = .done (.done (.done (⟨false, [], []⟩, 27))))) (fun j st h => by
      obtain ⟨k, rfl, hk, rfl, hl⟩ := h
      simp only [M.pick_Compress_L2]
      rw [hmm, hK]
      by_cases hlt : k < K
      · rw [if_pos (by simp; omega)]
        by_cases hbig : F.length + k > 10000
        · right
          rw [if_pos (by simp; omega)]
          exact ⟨_, rfl, .inr ⟨by omega, rfl⟩⟩
        · left
          rw [if_neg (by simp; omega), hq]
          simp only [Option.bind_some]
          rw [app_ok (by simp; omega), w64_id (x := (k : Int) + 1) (by omega) (by omega)]
          refine ⟨_, K - (k + 1), rfl, by omega, k + 1, ?_, by omega, rfl, by omega⟩
          rw [List.replicate_succ', ← List.append_assoc]; rfl
      · right
        rw [if_neg (by simp; omega)]
        obtain rfl : k = K := by omega
        exact ⟨_, rfl, .inl ⟨hl, rfl⟩⟩) K (F, 0) ⟨0, by simp, by omega, by omega, by omega⟩
  rw [hb, hK]
  rcases hQ with ⟨h1, rfl⟩ | ⟨h1, rfl⟩
  · exact .inl ⟨K, by omega, h1, rfl⟩
  · exact .inr ⟨by omega, rfl⟩
theorem Compress_L1_eq {n : Int} {l : List Int} (hn : l ≠ [] → 0 < n) (hl : l.length ≤ 10000) (hm : ∀ x ∈ l, 0 ≤ x) :
    (wloop (M.pick_Compress_L1 n l) ([], 0) = some (.next (cl l n l.length)) ∧ (cl l n l.length).length ≤ 10000) ∨
    ((cl l n l.length).length > 10000 ∧ ((∃ F, wloop (M.pick_Compress_L1 n l) ([], 0) = some (.next F) ∧ F.length = 10001 ∧ ∀ e ∈ F, 0 ≤ e ∧ e < n) ∨ wloop (M.pick_Compress_L1 n l) ([], 0) = some (.done (⟨false, [], []⟩, 27)))) := by
  obtain ⟨b, hb, hQ⟩ := wloop_ind (f := M.pick_Compress_L1 n l) (fun j st => ∃ k : Nat, ∃ F, st = (F, (k : Int)) ∧ k ≤ l.length ∧ j = l.length - k ∧ ((F = cl l n k ∧ F.length ≤ 10000) ∨ (F.length = 10001 ∧ (cl l n k).length > 10000 ∧ ∀ e ∈ F, 0 ≤ e ∧ e < n)))
    (fun b => (b = .next (cl l n l.length) ∧ (cl l n l.length).length ≤ 10000) ∨ ((cl l n l.length).length > 10000 ∧ ((∃ F, b = .next F ∧ F.length = 10001 ∧ ∀ e ∈ F, 0 ≤ e ∧ e < n) ∨ b = .done (⟨false, [], []⟩, 27)))) (fun j st h => by
      obtain ⟨k, F, rfl, hk, rfl, hF⟩ := h
      simp only [M.pick_Compress_L1]
      by_cases hlt : k < l.length
      · rw [if_pos (by simp; omega), idx_get hlt]
        simp only [Option.bind_some]
        have hm0 := hm _ (List.getElem_mem hlt)
        have hn0 := hn (fun h => by rw [h] at hlt; simp at hlt)
        have hcl : cl l n (k + 1) = cl l n k ++ List.replicate (l[k].toNat) ((k : Int) % n) := by
          simp only [cl]; rw [List.getElem?_eq_getElem hlt]; rfl
        have hcll : (cl l n (k + 1)).length = (cl l n k).length + l[k].toNat := by rw [hcl, List.length_append, List.length_replicate]
        have hmono : ∀ j, k + 1 ≤ j → (cl l n (k + 1)).length ≤ (cl l n j).length := fun j hj => by
          induction j with
          | zero => omega
          | succ j ih =>
            by_cases e : k = j
            · subst e; exact Nat.le_refl _
            · have := ih (by omega)
              have : (cl l n (j + 1)).length = (cl l n j).length + ((l[j]?).getD 0).toNat := by simp only [cl]; rw [List.length_append, List.length_replicate]
              omega
        have hle := hmono l.length (by omega)
        have hFl : F.length ≤ 10001 := by rcases hF with h | h <;> omega
        rcases Compress_L2_eq (n := n) (t := (k : Int)) (m := l[k]) (F := F) hn0 (by omega) hFl hm0 with ⟨c, hc, hfc, e⟩ | ⟨hc, e⟩
        · left
          rw [e]
          simp only [Option.bind_some, joinK]
          rw [w64_id (x := (k : Int) + 1) (by omega) (by omega)]
          refine ⟨_, l.length - (k + 1), rfl, by omega, k + 1, _, rfl, by omega, rfl, ?_⟩
          rcases hF with ⟨rfl, hl2⟩ | ⟨h1, h2, h3⟩
          · by_cases hsm : (cl l n k).length + l[k].toNat ≤ 10000
            · left
              have : c = l[k].toNat := by omega
              rw [hcl, this]
              exact ⟨rfl, by rw [List.length_append, List.length_replicate]; omega⟩
            · right
              refine ⟨by rw [List.length_append, List.length_replicate]; omega, by omega, fun e he => ?_⟩
              rcases List.mem_append.mp he with he | he
              · exact cl_mem hn0 k e he
              · rw [List.mem_replicate] at he
                rw [he.2]; exact ⟨Int.emod_nonneg _ (by omega), Int.emod_lt_of_pos _ hn0⟩
          · right
            have : c = 0 := by omega
            subst this
            simp only [List.replicate_zero, List.append_nil]
            exact ⟨h1, by omega, h3⟩
        · right
          rw [e]
          refine ⟨_, rfl, .inr ⟨?_, .inr rfl⟩⟩
          rcases hF with ⟨rfl, hl2⟩ | ⟨h1, h2, h3⟩ <;> omega
      · right
        rw [if_neg (by simp; omega)]
        obtain rfl : k = l.length := by omega
        rcases hF with ⟨rfl, hl2⟩ | ⟨h1, h2, h3⟩
        · exact ⟨_, rfl, .inl ⟨rfl, hl2⟩⟩
        · exact ⟨_, rfl, .inr ⟨h2, .inl ⟨F, rfl, h1, h3⟩⟩⟩) l.length ([], 0) ⟨0, [], rfl, by omega, rfl, .inl ⟨rfl, by simp⟩⟩
  rw [hb]
  rcases hQ with ⟨rfl, h⟩ | ⟨h, ⟨F, rfl, h2⟩ | rfl⟩
  · exact .inl ⟨rfl, h⟩
  · exact .inr ⟨h, .inl ⟨F, rfl, h2⟩⟩
  · exact .inr ⟨h, .inr rfl⟩
theorem Compress_eq {a b : Val} {axis : Int} (ha : a.Data.length ≤ maxLen) (hb : b.Data.length ≤ maxLen) : M.pick_Compress a b axis = some (compF a b axis) := by
  unfold M.pick_Compress compF
  rw [counts_eq ha hb]
  simp only [Option.bind_some]
  by_cases hc : countsF a b = 0
  · obtain ⟨ra, rb, _⟩ := counts_right hc
    have la := pdata ra
    rw [if_neg (by simp [hc]), if_neg (by simp [hc])]
    have hb4 := (vRight_iff.mp rb).1.1
    obtain ⟨x, e, hx⟩ := lined_eq (b := b) (axis := axis) (by omega)
    rw [e]
    simp only [Option.bind_some]
    cases hok : pOk (lnS b) axis with
    | false => rfl
    | true =>
      obtain rfl := hx hok
      have hxl := pX_lt (lnS_pos b) hok
      have hr := lnS_right rb
      obtain ⟨hs, hp, _⟩ := vRight_iff.mp hr
      simp only [Bool.not_true, Bool.false_eq_true, if_false]
      rw [if_neg (by simp)]
      rw [contains_int64 (s := a.Data) (f := fun x0 => M.pick_Compress_1 x0) (g := fun n => decide (n < 0)) (fun x _ => rfl) (by omega)]
      simp only [Option.bind_some]
      cases hneg : a.Data.any (fun n => decide (n < 0)) with
      | true => rfl
      | false =>
        simp only [Bool.false_eq_true, if_false]
        rw [idx_get hxl]
        simp only [Option.bind_some]
        have hN : lnN (lnS b) (pX (lnS b) axis) = (lnS b)[pX (lnS b) axis] := by unfold lnN; rw [List.getElem?_eq_getElem hxl]; rfl
        have hnb := hs.2.1 _ (List.getElem_mem hxl)
        replace hnb : 0 ≤ (lnS b)[pX (lnS b) axis] ∧ (lnS b)[pX (lnS b) axis] ≤ 10000 := hnb
        rw [hN]
        generalize hge : (lnS b)[pX (lnS b) axis] = n at *
        have hL : (if ((a.Data.length : Int) == 1) = true then (M.slices_Repeat__int64 a.Data n).bind fun r6 => some r6 else some a.Data) = some (compL a n) := by
          unfold compL
          by_cases h1 : a.Data.length = 1
          · rw [if_pos (by simp [h1]), if_pos h1]
            obtain ⟨y, hy⟩ := List.length_eq_one_iff.mp h1
            rw [hy, show n = ((n.toNat : Nat) : Int) by omega, Repeat_int64_one (by omega)]
            rfl
          · rw [if_neg (by simp; omega), if_neg h1]
        rw [hL]
        simp only [Option.bind_some]
        have hLl : (compL a n).length ≤ 10000 := by
          unfold compL; split
          · rw [List.length_replicate]; omega
          · exact la
        have hnn : ∀ y ∈ a.Data, 0 ≤ y := fun y hy => by
          have := List.any_eq_false.mp hneg y hy
          simpa using this
        have hLm : ∀ y ∈ compL a n, 0 ≤ y := fun y hy => by
          unfold compL at hy
          split at hy
          · rename_i h1
            rw [List.mem_replicate] at hy
            rw [hy.2, List.getElem?_eq_getElem (by omega)]
            exact hnn _ (List.getElem_mem _)
          · exact hnn y hy
        by_cases hbad : n ≠ 1 ∧ ((compL a n).length : Int) ≠ n
        · rw [if_pos (by simpa using hbad), if_pos hbad]
        · rw [if_neg (by simpa using hbad), if_neg hbad]
          have hn0 : compL a n ≠ [] → 0 < n := fun hne => by
            have : 0 < (compL a n).length := Nat.pos_of_ne_zero fun hh => hne (List.length_eq_zero_iff.mp hh)
            by_cases h1 : n = 1
            · omega
            · have : ((compL a n).length : Int) = n := Classical.byContradiction fun h => hbad ⟨h1, h⟩
              omega
          generalize compL a n = l at *
          have hmem : ∀ F : List Int, (∀ e ∈ F, 0 ≤ e ∧ e < n) → ∀ e ∈ F, -1 ≤ e ∧ e < (⟨b.Char, lnS b, b.Data⟩ : Val).Shape[pX (lnS b) axis] := fun F h e he => by
            have := h e he
            simp only [hge]; omega
          have hclm : ∀ e ∈ cl l n l.length, 0 ≤ e ∧ e < n := by
            by_cases hne : l = []
            · subst hne; simp [cl]
            · exact cl_mem (hn0 hne) _
          have hfin : ∀ F : List Int, (∀ e ∈ F, 0 ≤ e ∧ e < n) → F.length ≤ 10001 → M.pick_along ⟨b.Char, lnS b, b.Data⟩ (pX (lnS b) axis : Int) F = some (rowsF ⟨b.Char, lnS b, b.Data⟩ (pX (lnS b) axis) F) := fun F h1 h2 => along_eq hr hxl (hmem F h1) (by omega)
          rcases Compress_L1_eq (n := n) (l := l) hn0 hLl hLm with ⟨e1, h1⟩ | ⟨h1, ⟨F, e1, h2, h3⟩ | e1⟩
          · rw [e1]
            simp only [Option.bind_some, joinK]
            rw [hfin _ hclm (by omega)]
            rfl
          · rw [e1]
            simp only [Option.bind_some, joinK]
            rw [hfin F h3 (by omega)]
            unfold rowsF
            rw [if_neg (set_big hxl (by omega)), if_neg (set_big hxl (by omega))]
            rfl
          · rw [e1]
            unfold rowsF
            rw [if_neg (set_big hxl (by omega))]
            rfl
  · rw [if_pos (by simp [hc]), if_pos hc]
/-- how many of the first ones are not 0; and which rows. -/
def exN (l : List Int) : Nat → Nat
  | 0 => 0
  | k + 1 => exN l k + (if (l[k]?).getD 0 = 0 then 0 else 1)
def exL (l : List Int) (n : Int) : Nat → List Int
  | 0 => []
  | k + 1 => exL l n k ++ [if (l[k]?).getD 0 = 0 then -1 else (exN l k : Int) % (if n < 1 then 1 else n)]
theorem exL_len (l : List Int) (n : Int) : ∀ k, (exL l n k).length = k
  | 0 => rfl
  | k + 1 => by simp [exL, exL_len l n k]
theorem exN_le (l : List Int) : ∀ k, exN l k ≤ k
  | 0 => Nat.le_refl _
  | k + 1 => by have := exN_le l k; simp only [exN]; split <;> omega
theorem exN_mono (l : List Int) {k : Nat} : ∀ j, k ≤ j → exN l k ≤ exN l j
  | 0, h => by obtain rfl : k = 0 := by omega
               exact Nat.le_refl _
  | j + 1, h => by
    by_cases e : k = j + 1
    · subst e; exact Nat.le_refl _
    · have := exN_mono l (k := k) j (by omega)
      simp only [exN]; omega
theorem exL_mem (l : List Int) (n : Int) : ∀ k, ∀ e ∈ exL l n k, e = -1 ∨ (0 ≤ e ∧ e < (if n < 1 then 1 else n) ∧ 0 < exN l k)
  | 0, e, h => by simp [exL] at h
  | k + 1, e, h => by
    simp only [exL, List.mem_append, List.mem_singleton] at h
    have hm := exN_mono l (k := k) (k + 1) (by omega)
    rcases h with h | h
    · rcases exL_mem l n k e h with h | ⟨h1, h2, h3⟩
      · exact .inl h
      · exact .inr ⟨h1, h2, by omega⟩
    · by_cases hz : (l[k]?).getD 0 = 0
      · rw [if_pos hz] at h; exact .inl h
      · rw [if_neg hz] at h
        have hp : 0 < (if n < 1 then 1 else n) := by split <;> omega
        rw [h]
        refine .inr ⟨Int.emod_nonneg _ (by omega), Int.emod_lt_of_pos _ hp, ?_⟩
        simp only [exN]; rw [if_neg hz]; omega
def expF (a b : Val) (axis : Int) : Val × Int :=
  if countsF a b ≠ 0 then (⟨false, [], []⟩, countsF a b) else
  if pOk (lnS b) axis = false then (⟨false, [], []⟩, 26) else
  if a.Data.any (fun n => decide (n ≠ 0 ∧ n ≠ 1)) = true then (⟨false, [], []⟩, 23) else
  if lnN (lnS b) (pX (lnS b) axis) ≠ 1 ∧ (exN a.Data a.Data.length : Int) ≠ lnN (lnS b) (pX (lnS b) axis) then (⟨false, [], []⟩, 25) else
  rowsF ⟨b.Char, lnS b, b.Data⟩ (pX (lnS b) axis) (exL a.Data (lnN (lnS b) (pX (lnS b) axis)) a.Data.length)
theorem Expand_L1_eq {a : Val} {n : Int} (ha : a.Data.length ≤ 10000) : wloop (M.pick_Expand_L1 a n) (0, [], 0) = some (.next ((exN a.Data a.Data.length : Int), exL a.Data n a.Data.length)) := by
  refine loop_fun (f := M.pick_Expand_L1 a n) (fun k => ((exN a.Data k : Int), exL a.Data n k, (k : Int))) a.Data.length (fun k hk => ?_) ?_
  · have hb := exN_le a.Data k
    have hl := exL_len a.Data n k
    simp only [M.pick_Expand_L1]
    rw [if_pos (by simp; omega), idx_get hk]
    simp only [Option.bind_some]
    have e1 : exN a.Data (k + 1) = exN a.Data k + (if a.Data[k] = 0 then 0 else 1) := by simp only [exN]; rw [List.getElem?_eq_getElem hk]; rfl
    have e2 : exL a.Data n (k + 1) = exL a.Data n k ++ [if a.Data[k] = 0 then -1 else (exN a.Data k : Int) % (if n < 1 then 1 else n)] := by simp only [exL]; rw [List.getElem?_eq_getElem hk]; rfl
    rw [e1, e2, w64_id (x := (k : Int) + 1) (by omega) (by omega)]
    by_cases hz : a.Data[k] = 0
    · rw [if_pos (by simpa using hz), if_pos hz, if_pos hz, app_ok (by simp; omega)]
      rfl
    · have hp : (if n < 1 then 1 else n) ≠ 0 := by split <;> omega
      have hr : remI (exN a.Data k : Int) (if n < 1 then 1 else n) = some ((exN a.Data k : Int) % (if n < 1 then 1 else n)) := by
        unfold remI; rw [if_neg hp, Int.tmod_eq_emod_of_nonneg (by omega)]
      rw [if_neg (by simpa using hz), if_neg hz, if_neg hz, hr]
      simp only [Option.bind_some]
      rw [app_ok (by simp; omega), w64_id (x := (exN a.Data k : Int) + 1) (by omega) (by omega)]
      rfl
  · simp only [M.pick_Expand_L1]
    rw [if_neg (by simp)]
theorem exL_ok {l : List Int} {n : Int} (hn : 0 ≤ n) (h : ¬ (n ≠ 1 ∧ (exN l l.length : Int) ≠ n)) : ∀ e ∈ exL l n l.length, -1 ≤ e ∧ e < n := fun e he => by
  rcases exL_mem l n _ e he with rfl | ⟨h1, h2, h3⟩
  · omega
  · by_cases h5 : n < 1
    · have : ¬ (exN l l.length : Int) ≠ n := fun hh => h ⟨by omega, hh⟩
      omega
    · rw [if_neg h5] at h2; omega
theorem Expand_eq {a b : Val} {axis : Int} (ha : a.Data.length ≤ maxLen) (hb : b.Data.length ≤ maxLen) : M.pick_Expand a b axis = some (expF a b axis) := by
  unfold M.pick_Expand expF
  rw [counts_eq ha hb]
  simp only [Option.bind_some]
  by_cases hc : countsF a b = 0
  · obtain ⟨ra, rb, _⟩ := counts_right hc
    have la := pdata ra
    rw [if_neg (by simp [hc]), if_neg (by simp [hc])]
    have hb4 := (vRight_iff.mp rb).1.1
    obtain ⟨x, e, hx⟩ := lined_eq (b := b) (axis := axis) (by omega)
    rw [e]
    simp only [Option.bind_some]
    cases hok : pOk (lnS b) axis with
    | false => rfl
    | true =>
      obtain rfl := hx hok
      have hxl := pX_lt (lnS_pos b) hok
      have hr := lnS_right rb
      obtain ⟨hs, hp, _⟩ := vRight_iff.mp hr
      simp only [Bool.not_true, Bool.false_eq_true, if_false]
      rw [if_neg (by simp)]
      rw [contains_int64 (s := a.Data) (f := fun x0 => M.pick_Expand_1 x0) (g := fun n => decide (n ≠ 0 ∧ n ≠ 1)) (fun x _ => by
        unfold M.pick_Expand_1
        congr 1
        rw [Bool.eq_iff_iff]; simp) (by omega)]
      simp only [Option.bind_some]
      cases hneg : a.Data.any (fun n => decide (n ≠ 0 ∧ n ≠ 1)) with
      | true => rfl
      | false =>
        simp only [Bool.false_eq_true, if_false]
        rw [idx_get hxl]
        simp only [Option.bind_some]
        have hN : lnN (lnS b) (pX (lnS b) axis) = (lnS b)[pX (lnS b) axis] := by unfold lnN; rw [List.getElem?_eq_getElem hxl]; rfl
        have hnb := hs.2.1 _ (List.getElem_mem hxl)
        replace hnb : 0 ≤ (lnS b)[pX (lnS b) axis] ∧ (lnS b)[pX (lnS b) axis] ≤ 10000 := hnb
        rw [hN]
        generalize hge : (lnS b)[pX (lnS b) axis] = n at *
        rw [Expand_L1_eq la]
        simp only [Option.bind_some, joinK]
        by_cases hbad : n ≠ 1 ∧ (exN a.Data a.Data.length : Int) ≠ n
        · rw [if_pos (by simpa using hbad), if_pos hbad]
        · rw [if_neg (by simpa using hbad), if_neg hbad]
          rw [along_eq hr hxl (fun e he => by simp only [hge]; exact exL_ok hnb.1 hbad e he) (by rw [exL_len]; omega)]
          rfl
  · rw [if_pos (by simp [hc]), if_pos hc]
theorem inShape_set : ∀ {s p : List Int} {x : Nat} {m e : Int}, inShape (s.set x m) p → (h : x < s.length) → 0 ≤ e → e < s[x] → inShape s (p.set x e)
  | y :: s, a :: p, 0, m, e, ⟨h1, h2, h3⟩, _, h4, h5 => ⟨h4, h5, h3⟩
  | y :: s, a :: p, x + 1, m, e, ⟨h1, h2, h3⟩, h, h4, h5 => ⟨h1, h2, inShape_set h3 (by simpa using h) h4 (by simpa using h5)⟩
  | y :: s, [], 0, m, e, hh, _, _, _ => hh.elim
  | y :: s, [], x + 1, m, e, hh, _, _, _ => hh.elim
  | [], _, _, _, _, _, h, _, _ => by simp at h
theorem inShape_at : ∀ {s p : List Int} {x : Nat}, inShape s p → (h : x < s.length) → 0 ≤ p.getD x 0 ∧ p.getD x 0 < s[x]
  | y :: s, a :: p, 0, ⟨h1, h2, h3⟩, _ => ⟨h1, h2⟩
  | y :: s, a :: p, x + 1, ⟨h1, h2, h3⟩, h => by
    have := inShape_at h3 (x := x) (by simpa using h)
    simpa using this
theorem ch_zero : chOk 0 = true := by decide
theorem alF_ch {b : Val} {x : Nat} {fr : List Int} {k : Int} (hb : vRight b = true) (hc : b.Char = true) : chOk (alF b x fr k) = true := by
  obtain ⟨_, _, h⟩ := vRight_iff.mp hb
  unfold alF
  split
  · unfold pfill; rw [if_pos hc]; decide
  · generalize (off b.Shape _).toNat = j
    cases hj : b.Data[j]? with
    | none => exact ch_zero
    | some c => exact h hc c (List.mem_of_getElem? hj)
theorem alongF_right {b : Val} {x : Nat} {fr : List Int} (hb : vRight b = true) (hs : shOk (b.Shape.set x fr.length)) : vRight (alongF b x fr) = true := by
  have := shOk_nonneg' hs
  refine vRight_iff.mpr ⟨hs, ?_, fun h c hcm => ?_⟩
  · simp only [alongF, List.length_map, List.length_range]; omega
  · simp only [alongF, List.mem_map] at hcm
    obtain ⟨k, _, rfl⟩ := hcm
    exact alF_ch hb h
theorem cl_bits {D : List Int} {n : Int} (hn : n = D.length) (hD : ∀ d ∈ D, d = 0 ∨ d = 1) : ∀ k, k ≤ D.length → (cl D n k).length = exN D k ∧ ∀ t, t < exN D k → ∃ j : Nat, j < k ∧ (cl D n k)[t]? = some (j : Int) ∧ exN D j = t ∧ (D[j]?).getD 0 ≠ 0
  | 0, _ => ⟨rfl, fun t h => by simp [exN] at h⟩
  | k + 1, hk => by
    obtain ⟨h1, h2⟩ := cl_bits hn hD k (by omega)
    have hk2 : k < D.length := by omega
    have hm : (k : Int) % n = k := Int.emod_eq_of_lt (by omega) (by omega)
    have hd := hD _ (List.getElem_mem hk2)
    have hg : (D[k]?).getD 0 = D[k] := by rw [List.getElem?_eq_getElem hk2]; rfl
    simp only [cl, exN, hm, hg]
    rcases hd with hd | hd
    · rw [hd]
      simp only [Int.toNat_zero, List.replicate_zero, List.append_nil, if_true, Nat.add_zero]
      refine ⟨h1, fun t ht => ?_⟩
      obtain ⟨j, hj, hr⟩ := h2 t ht
      exact ⟨j, by omega, hr⟩
    · rw [hd, if_neg (by omega)]
      have e1 : List.replicate (1 : Int).toNat (k : Int) = [(k : Int)] := rfl
      rw [e1]
      refine ⟨by rw [List.length_append, h1]; rfl, fun t ht => ?_⟩
      by_cases hlt : t < exN D k
      · obtain ⟨j, hj, hr, hr2⟩ := h2 t hlt
        exact ⟨j, by omega, by rw [List.getElem?_append_left (by omega)]; exact hr, hr2⟩
      · have : t = exN D k := by omega
        refine ⟨k, by omega, ?_, this.symm, by rw [hg]; omega⟩
        rw [List.getElem?_append_right (by omega), h1, this, Nat.sub_self]; rfl
theorem exL_get {l : List Int} {n : Int} : ∀ {k j : Nat}, j < k → (exL l n k)[j]? = some (if (l[j]?).getD 0 = 0 then -1 else (exN l j : Int) % (if n < 1 then 1 else n))
  | 0, j, h => by omega
  | k + 1, j, h => by
    simp only [exL]
    have hl := exL_len l n k
    by_cases e : j = k
    · subst e; rw [List.getElem?_append_right (by omega), hl, Nat.sub_self]; rfl
    · rw [List.getElem?_append_left (by omega)]; exact exL_get (by omega)
theorem expF_cases (a b : Val) (axis : Int) : ((expF a b axis).2 ≠ 0 ∧ (expF a b axis).1 = ⟨false, [], []⟩) ∨
    (countsF a b = 0 ∧ pOk (lnS b) axis = true ∧ ¬ (lnN (lnS b) (pX (lnS b) axis) ≠ 1 ∧ (exN a.Data a.Data.length : Int) ≠ lnN (lnS b) (pX (lnS b) axis)) ∧
      shOk ((lnS b).set (pX (lnS b) axis) a.Data.length) ∧ expF a b axis = (alongF ⟨b.Char, lnS b, b.Data⟩ (pX (lnS b) axis) (exL a.Data (lnN (lnS b) (pX (lnS b) axis)) a.Data.length), 0)) := by
  unfold expF
  by_cases h1 : countsF a b = 0
  · rw [if_neg (by simp [h1])]
    cases h2 : pOk (lnS b) axis with
    | false => rw [if_pos rfl]; exact .inl ⟨by decide, rfl⟩
    | true =>
      rw [if_neg (by simp)]
      cases h3 : a.Data.any (fun n => decide (n ≠ 0 ∧ n ≠ 1)) with
      | true => rw [if_pos rfl]; exact .inl ⟨by decide, rfl⟩
      | false =>
        rw [if_neg (by simp)]
        by_cases h4 : lnN (lnS b) (pX (lnS b) axis) ≠ 1 ∧ (exN a.Data a.Data.length : Int) ≠ lnN (lnS b) (pX (lnS b) axis)
        · rw [if_pos h4]; exact .inl ⟨by decide, rfl⟩
        · rw [if_neg h4]
          unfold rowsF
          rw [exL_len]
          by_cases h5 : shOk ((lnS b).set (pX (lnS b) axis) a.Data.length)
          · rw [if_pos h5]; exact .inr ⟨h1, rfl, h4, h5, rfl⟩
          · rw [if_neg h5]; exact .inl ⟨by decide, rfl⟩
  · rw [if_pos h1]; exact .inl ⟨h1, rfl⟩
theorem shOk_less {s : List Int} {x : Nat} {k m : Nat} (hx : x < s.length) (hs : shOk s) (h : shOk (s.set x k)) (hm : m ≤ k) : shOk (s.set x m) := by
  refine ⟨by have := h.1; simpa using this, fun y hy => ?_, ?_⟩
  · rcases List.mem_or_eq_of_mem_set hy with hy | rfl
    · exact hs.2.1 y hy
    · have := h.2.1 (k : Int) (List.mem_iff_getElem.mpr ⟨x, by simpa using hx, List.getElem_set_self _⟩)
      omega
  · have hA := prod_nonneg (s := s.take x) (fun y hy => (hs.2.1 y (List.mem_of_mem_take hy)).1)
    have hB := prod_nonneg (s := s.drop (x + 1)) (fun y hy => (hs.2.1 y (List.mem_of_mem_drop hy)).1)
    have h1 := h.2.2
    rw [prod_set hx] at h1 ⊢
    have := Int.mul_le_mul_of_nonneg_right (Int.mul_le_mul_of_nonneg_left (show (m : Int) ≤ k by omega) hA) hB
    omega
theorem set_get_self {p : List Int} {x : Nat} (h : x < p.length) (e : Int) (j : Int) (he : p.getD x 0 = e) : (p.set x j).set x e = p := by
  rw [List.set_set]
  apply List.ext_getElem
  · simp
  · intro i h1 h2
    by_cases hi : x = i
    · subst hi; rw [List.getElem_set_self, ← he, List.getD_eq_getElem?_getD, List.getElem?_eq_getElem h]; rfl
    · rw [List.getElem_set_ne hi]
/-- expanded, and compressed again. -/
theorem back_along {b : Val} {x : Nat} {D : List Int} {n : Int} (hb : vRight b = true) (hx : x < b.Shape.length) (hn : b.Shape[x] = n) (hD : ∀ d ∈ D, d = 0 ∨ d = 1) (ht : (exN D D.length : Int) = n)
    (hs : shOk (b.Shape.set x D.length)) : alongF (alongF b x (exL D n D.length)) x (cl D D.length D.length) = b := by
  obtain ⟨hbs, hbp, _⟩ := vRight_iff.mp hb
  obtain ⟨c1, c2⟩ := cl_bits (n := D.length) rfl hD D.length (Nat.le_refl _)
  have hl := exL_len D n D.length
  have hset : b.Shape.set x n = b.Shape := by
    rw [← hn]; exact List.set_getElem_self hx
  have hsh : (alongF (alongF b x (exL D n D.length)) x (cl D D.length D.length)).Shape = b.Shape := by
    show (b.Shape.set x _).set x _ = _
    rw [List.set_set, c1, ht, hset]
  have hdata : (alongF (alongF b x (exL D n D.length)) x (cl D D.length D.length)).Data = b.Data := by
    have hsh' : (alongF b x (exL D n D.length)).Shape.set x ((cl D D.length D.length).length : Int) = b.Shape := hsh
    apply List.ext_getElem
    · simp only [alongF, List.length_map, List.length_range]
      have : ((b.Shape.set x ((exL D n D.length).length : Int)).set x ((cl D D.length D.length).length : Int)) = b.Shape := hsh'
      rw [this]; omega
    · intro k h1 h2
      have hk1 : (k : Int) < prod b.Shape := by omega
      have hpos : allPos b.Shape := allPos_of (fun y hy => (hbs.2.1 y hy).1) (by omega)
      have e1 : (alongF (alongF b x (exL D n D.length)) x (cl D D.length D.length)).Data[k] = alF (alongF b x (exL D n D.length)) x (cl D D.length D.length) k := by simp [alongF]
      rw [e1]
      unfold alF
      rw [hsh']
      have hin := dig_in (s := b.Shape) (k := (k : Int)) hpos (by omega) hk1
      have hod := off_dig (s := b.Shape) (k := (k : Int)) hpos (by omega) hk1
      have hpl := dig_len b.Shape (k : Int)
      generalize dig b.Shape (k : Int) = p at *
      have hat := inShape_at hin hx
      obtain ⟨t, htt⟩ : ∃ t : Nat, p.getD x 0 = t := ⟨(p.getD x 0).toNat, by omega⟩
      rw [htt] at hat
      obtain ⟨j, hj, hcj, hej, hdj⟩ := c2 t (by omega)
      rw [htt, Int.toNat_natCast, hcj]
      simp only [Option.getD_some]
      rw [if_neg (by omega)]
      -- the element of what was expanded
      have hin2 : inShape (b.Shape.set x D.length) (p.set x (j : Int)) := by
        have h3 : (b.Shape.set x (D.length : Int)).set x n = b.Shape := by rw [List.set_set, hset]
        have h4 : inShape ((b.Shape.set x (D.length : Int)).set x n) p := by rw [h3]; exact hin
        exact inShape_set h4 (by simpa using hx) (by omega) (by rw [List.getElem_set_self]; omega)
      have ho := off_range hin2
      have hshx : (alongF b x (exL D n D.length)).Shape = b.Shape.set x D.length := by simp [alongF, hl]
      rw [hshx]
      obtain ⟨o, ho2⟩ : ∃ o : Nat, off (b.Shape.set x (D.length : Int)) (p.set x (j : Int)) = o := ⟨_, (Int.toNat_of_nonneg ho.1).symm⟩
      have hdx : (alongF b x (exL D n D.length)).Data[o]? = some (alF b x (exL D n D.length) (o : Int)) := by
        simp only [alongF]
        rw [List.getElem?_map, List.getElem?_range (by rw [hl]; omega)]
        rfl
      rw [ho2, Int.toNat_natCast, hdx]
      simp only [Option.getD_some]
      unfold alF
      rw [hl, ← ho2, dig_off hin2]
      have hxp : x < p.length := by omega
      have eg : (p.set x (j : Int)).getD x 0 = j := by
        rw [List.getD_eq_getElem?_getD, List.getElem?_set_self hxp]; rfl
      rw [eg, Int.toNat_natCast, exL_get hj, if_neg hdj, hej]
      simp only [Option.getD_some]
      have hmod : (t : Int) % (if n < 1 then 1 else n) = t := by
        rw [if_neg (by omega), Int.emod_eq_of_lt (by omega) (by omega)]
      rw [hmod, if_neg (by omega), set_get_self hxp _ _ htt, hod, Int.toNat_natCast, List.getElem?_eq_getElem h2]
      rfl
  have hch : (alongF (alongF b x (exL D n D.length)) x (cl D D.length D.length)).Char = b.Char := rfl
  generalize alongF (alongF b x (exL D n D.length)) x (cl D D.length D.length) = y at *
  obtain ⟨yc, ys, yd⟩ := y
  obtain ⟨bc, bs, bd⟩ := b
  simp only at hsh hdata hch
  rw [hsh, hdata, hch]
def bitD (bits : List Bool) : List Int := bits.map fun x => if x = true then 1 else 0
theorem bitD_mem {bits : List Bool} : ∀ d ∈ bitD bits, d = 0 ∨ d = 1 := fun d hd => by
  simp only [bitD, List.mem_map] at hd
  obtain ⟨x, _, rfl⟩ := hd
  cases x
  · exact .inl rfl
  · exact .inr rfl
theorem pickBack_L1 {bits : List Bool} (hl : bits.length ≤ 1000) : wloop (M.anamnesislaw09_PickBack_L1 bits) (0, 0, []) = some (.next ((exN (bitD bits) bits.length : Int), bitD bits)) := by
  have hDl : (bitD bits).length = bits.length := by simp [bitD]
  refine loop_fun (f := M.anamnesislaw09_PickBack_L1 bits) (fun k => ((exN (bitD bits) k : Int), (k : Int), (bitD bits).take k)) bits.length (fun k hk => ?_) ?_
  · have hle := exN_le (bitD bits) k
    have hg : (bitD bits)[k]'(by omega) = if bits[k] = true then 1 else 0 := by simp [bitD]
    have e1 : exN (bitD bits) (k + 1) = exN (bitD bits) k + (if bits[k] = true then 1 else 0) := by
      simp only [exN]; rw [List.getElem?_eq_getElem (show k < (bitD bits).length by omega), Option.getD_some, hg]
      cases bits[k] <;> rfl
    simp only [M.anamnesislaw09_PickBack_L1]
    rw [if_pos (by simp; omega), idx_get hk, e1, List.take_succ_eq_append_getElem (show k < (bitD bits).length by omega), hg]
    simp only [Option.bind_some]
    cases bits[k]
    · simp only [Bool.false_eq_true, if_false]
      rw [app_ok (by rw [List.length_take]; simp; omega), w64_id (x := (k : Int) + 1) (by omega) (by omega)]
      rfl
    · simp only [if_true]
      rw [app_ok (by rw [List.length_take]; simp; omega), w64_id (x := (k : Int) + 1) (by omega) (by omega), w64_id (x := (exN (bitD bits) k : Int) + 1) (by omega) (by omega)]
      rfl
  · simp only [M.anamnesislaw09_PickBack_L1]
    rw [if_neg (by simp), List.take_of_length_le (by omega)]
theorem pickBack_true (v : Val) (bits : List Bool) (axis : Int) (gv : (∀ x ∈ v.Shape, (Lit.int .i64 x).wf = true) ∧ (∀ x ∈ v.Data, (Lit.int .i64 x).wf = true) ∧ v.Shape.length ≤ maxLen ∧ v.Data.length ≤ maxLen)
    {pb : Prop} (_ : pb) (_ : bits.length ≤ maxLen) (gx : (Lit.int .i64 axis).wf = true) : M.anamnesislaw09_PickBack v bits axis = some true := by
  have hm : maxLen = 9223372036854775807 := rfl
  unfold M.anamnesislaw09_PickBack
  by_cases hbig : v.Data.length > 1000 ∨ v.Shape.length > 10 ∨ bits.length > 1000
  · rw [if_pos (by simp; omega)]
  rw [if_neg (by simp; omega), pickBack_L1 (by omega)]
  simp only [Option.bind_some, joinK]
  have hDl : (bitD bits).length = bits.length := by simp [bitD]
  have hDm := bitD_mem (bits := bits)
  have hDg : ∀ (h : 0 < bits.length), (bitD bits).length = bits.length := fun _ => hDl
  generalize hDe : bitD bits = D at *
  rw [← hDl]
  have hra : vRight ⟨false, [(D.length : Int)], D⟩ = true := vRight_iff.mpr ⟨⟨by simp, fun x hx => by simp at hx; omega, by simp [prod]; omega⟩, by simp [prod], fun h => by cases h⟩
  generalize hae : (⟨false, [(D.length : Int)], D⟩ : Val) = a at *
  have haD : a.Data = D := by rw [← hae]
  have haS : a.Shape.length = 1 := by rw [← hae]; rfl
  have haC : a.Char = false := by rw [← hae]
  rw [Expand_eq (by rw [haD]; omega) (by omega)]
  simp only [Option.bind_some]
  rcases expF_cases a v axis with ⟨h1, h2⟩ | ⟨hc, hok, hlen, hs, he⟩
  · rw [if_pos (by simpa using h1), h2]
    unfold M.anamnesislaw07_None
    rw [if_pos (by simp), ref02_Same_eq (by simp [hm]) (by simp [hm]), vSame_refl]
    rfl
  · rw [he, if_neg (by simp)]
    simp only
    obtain ⟨_, rv, _⟩ := counts_right hc
    have hxl := pX_lt (lnS_pos v) hok
    have hr := lnS_right rv
    obtain ⟨hs0, hp0, _⟩ := vRight_iff.mp hr
    replace hs0 : shOk (lnS v) := hs0
    rw [haD] at hs hlen ⊢
    have hN : lnN (lnS v) (pX (lnS v) axis) = (lnS v)[pX (lnS v) axis] := by unfold lnN; rw [List.getElem?_eq_getElem hxl]; rfl
    rw [hN] at hlen ⊢
    generalize hge : (lnS v)[pX (lnS v) axis] = n at *
    generalize hxe : alongF ⟨v.Char, lnS v, v.Data⟩ (pX (lnS v) axis) (exL D n D.length) = x
    have hxS : x.Shape = (lnS v).set (pX (lnS v) axis) D.length := by rw [← hxe]; simp [alongF, exL_len]
    have hxr : vRight x = true := by rw [← hxe]; exact alongF_right hr (by rw [exL_len]; exact hs)
    have hxd := pdata hxr
    rw [Compress_eq (by rw [haD]; omega) (by omega)]
    simp only [Option.bind_some]
    -- what is compressed
    have hcx : countsF a x = 0 := by
      unfold countsF
      rw [hra, hxr, haC, haS]; simp
    have hlx : lnS x = x.Shape := by
      unfold lnS
      rw [if_neg]
      intro h
      have := congrArg List.length h
      rw [hxS, List.length_set] at this
      simp at this
      have := lnS_pos v
      simp_all
    have hlen2 : (lnS x).length = (lnS v).length := by rw [hlx, hxS, List.length_set]
    have hpx : pX (lnS x) axis = pX (lnS v) axis := by unfold pX; rw [hlen2]
    have hpo : pOk (lnS x) axis = true := by
      have : pOk (lnS x) axis = pOk (lnS v) axis := by unfold pOk; rw [hlen2]
      rw [this]; exact hok
    have hnx : lnN (lnS x) (pX (lnS v) axis) = D.length := by
      unfold lnN
      rw [hlx, hxS, List.getElem?_set_self hxl]; rfl
    have hcL : compL a (D.length : Int) = D := by
      unfold compL
      rw [haD]
      by_cases h1 : D.length = 1
      · rw [if_pos h1, h1]
        obtain ⟨y, hy⟩ := List.length_eq_one_iff.mp h1
        rw [hy]; rfl
      · rw [if_neg h1]
    obtain ⟨c1, _⟩ := cl_bits (n := (D.length : Int)) rfl hDm D.length (Nat.le_refl _)
    have hones := exN_le D D.length
    have hsy : shOk ((lnS v).set (pX (lnS v) axis) (exN D D.length)) := shOk_less hxl hs0 hs hones
    have hcomp : compF a x axis = (alongF x (pX (lnS v) axis) (cl D D.length D.length), 0) := by
      unfold compF
      rw [if_neg (by simp [hcx]), if_neg (by simp [hpo]), hpx, hnx, hcL, haD]
      have hany : D.any (fun n => decide (n < 0)) = false := List.any_eq_false.mpr fun d hd => by
        rcases hDm d hd with h | h <;> simp [h]
      rw [if_neg (by simp [hany]), if_neg (by simp)]
      unfold rowsF
      have e2 : (⟨x.Char, lnS x, x.Data⟩ : Val) = x := by rw [hlx]
      rw [e2, hxS, List.set_set, c1, if_pos hsy]
    rw [hcomp]
    simp only
    by_cases h0 : v.Shape.length = 0
    · have hv0 : lnS v = [1] := by unfold lnS; rw [if_pos (List.length_eq_zero_iff.mp h0)]
      have hp0x : pX (lnS v) axis = 0 := by rw [hv0] at hxl ⊢; simpa using hxl
      have hyl : (alongF x (pX (lnS v) axis) (cl D D.length D.length)).Data.length = exN D D.length := by
        simp only [alongF, List.length_map, List.length_range]
        rw [hxS, List.set_set, c1, hp0x, hv0]
        simp [prod]
      rw [if_pos (by simp [h0]), hyl]
      simp
    · rw [if_neg (by simpa using h0)]
      have hlv : lnS v = v.Shape := by unfold lnS; rw [if_neg (fun h => h0 (by rw [h]; rfl))]
      have hv4 := (vRight_iff.mp rv).1.1
      have hk2 : (if (axis == -1) = true then some (IntKind.i64.wrap ((v.Shape.length : Int) - 1)) else some axis) = some (pX (lnS v) axis : Int) := by
        rw [hlv]
        unfold pX
        unfold pOk at hok
        by_cases ha : axis = -1
        · subst ha; rw [if_pos (by rfl), if_pos rfl, w64_id (by omega) (by omega)]; congr 1; omega
        · rw [if_neg (by simpa using ha), if_neg ha]
          simp [ha] at hok
          congr 1; omega
      rw [hk2]
      simp only [Option.bind_some]
      have hc7 : ∃ c7 : Bool, (if ((D.length : Int) == 1) = true then (idx bits 0).bind fun y2 => some (!y2) else some false) = some c7 := by
        by_cases h1 : D.length = 1
        · rw [if_pos (by simp [h1])]
          have hb0 : 0 < bits.length := by omega
          have : idx bits 0 = some bits[0] := idx_get (k := 0) hb0
          rw [this]; exact ⟨_, rfl⟩
        · rw [if_neg (by simp; omega)]; exact ⟨_, rfl⟩
      obtain ⟨c7, hc7⟩ := hc7
      rw [hc7]
      simp only [Option.bind_some]
      have hxl' : pX (lnS v) axis < v.Shape.length := by rw [← hlv]; exact hxl
      have hge' : v.Shape[pX (lnS v) axis] = n := by
        have : (lnS v)[pX (lnS v) axis]? = v.Shape[pX (lnS v) axis]? := by rw [hlv]
        rw [List.getElem?_eq_getElem hxl, List.getElem?_eq_getElem hxl', hge] at this
        simpa using this.symm
      have hc8 : ∃ c8 : Bool, (if c7 = true then some true else (idx v.Shape (pX (lnS v) axis : Int)).bind fun y3 => some (y3 != (exN D D.length : Int))) = some c8 ∧ (c8 = false → (exN D D.length : Int) = n) := by
        cases c7
        · rw [if_neg (by simp), idx_get hxl', hge']
          exact ⟨_, rfl, fun h => (show n = (exN D D.length : Int) by simpa using h).symm⟩
        · exact ⟨true, rfl, fun h => by cases h⟩
      obtain ⟨c8, hc8, hc8'⟩ := hc8
      rw [hc8]
      simp only [Option.bind_some]
      cases c8
      · have hv : (⟨v.Char, lnS v, v.Data⟩ : Val) = v := by rw [hlv]
        have hback : alongF x (pX (lnS v) axis) (cl D D.length D.length) = v := by
          rw [← hxe]
          have := back_along (b := ⟨v.Char, lnS v, v.Data⟩) (x := pX (lnS v) axis) (D := D) (n := n) hr hxl hge hDm (hc8' rfl) hs
          rw [this, hv]
        rw [hback]
        unfold M.anamnesislaw07_Is
        rw [if_neg (by simp), if_pos (by rfl), ref02_Same_eq (by omega) (by omega), vSame_refl]
        rfl
      · rfl

end Go.Proofs.Ytmelmiffgkippaa.pickBack
