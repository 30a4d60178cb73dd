/- PickEnds: what the code that the law reaches computes, as plain functions; and that the law comes to true. -/
import Derived.Test.YtmelmiffgkippaaAmU
set_option maxHeartbeats 4000000
set_option linter.unusedVariables false
set_option linter.unusedSimpArgs false
set_option maxRecDepth 100000
open Go Go.Am
namespace Go.Proofs.Ytmelmiffgkippaa.pickEnds
noncomputable def M.anamnesislaw07_Great (v1 : Val) : Option (Bool) :=
  some ((decide ((v1.Data.length : Int) > 2000)) || (decide ((v1.Shape.length : Int) > 10)))
noncomputable def M.anamnesisref02_Copy (v1 : Val) : Option (Val) :=
  (app 8 ([] : List Int) v1.Shape).bind fun l1 =>
  (app 8 ([] : List Int) v1.Data).bind fun l2 =>
  some (Val.mk v1.Char l1 l2)
noncomputable def M.slices_IndexFunc__int64_L1 (s1 : (List Int)) (f1 : (Int → Option (Bool))) (s : Int) : Option (Ctl (Int) (Ctl (Unit) (Int))) :=
  match s with
  | t1 =>
    if (decide (t1 < (s1.length : Int))) then
      (idx s1 t1).bind fun y1 =>
      (f1 y1).bind fun r1 =>
      if r1 then
        some (.done (.done t1))
      else
        some (.next (IntKind.i64.wrap (t1 + 1)))
    else
      some (.done (.next ()))
noncomputable def M.slices_IndexFunc__int64 (s1 : (List Int)) (f1 : (Int → Option (Bool))) : Option (Int) :=
  (wloop (M.slices_IndexFunc__int64_L1 s1 f1) 0).bind fun k => joinK k fun _ =>
  some (-1)
noncomputable def M.slices_ContainsFunc__int64 (s1 : (List Int)) (f1 : (Int → Option (Bool))) : Option (Bool) :=
  (M.slices_IndexFunc__int64 s1 f1).bind fun r1 =>
  some (decide (r1 ≥ 0))
noncomputable def M.unicode_utf8_ValidRune (r1 : Int) : Option (Bool) :=
  if ((decide (0 ≤ r1)) && (decide (r1 < 55296))) then
    some true
  else
    if ((decide (57343 < r1)) && (decide (r1 ≤ 1114111))) then
      some true
    else
      some false
noncomputable def M.value_character (n1 : Int) : Option (Bool) :=
  (if ((decide (n1 ≥ 0)) && (decide (n1 ≤ 1114111))) then
  (M.unicode_utf8_ValidRune (IntKind.i32.wrap n1)).bind fun r1 =>
  some r1 else
  some false).bind fun c2 =>
  some c2
noncomputable def M.value_Right_1 (n1 : Int) : Option (Bool) :=
  (M.value_character n1).bind fun r1 =>
  some (!r1)
noncomputable def M.value_Right_L1 (v1 : Val) (s : Int × Int) : Option (Ctl (Int × Int) (Ctl (Int) (Bool))) :=
  match s with
  | (size1, t1) =>
    if (decide (t1 < (v1.Shape.length : Int))) then
      (idx v1.Shape t1).bind fun y1 =>
      if ((decide (y1 < 0)) || (decide (y1 > 10000))) then
        some (.done (.done false))
      else
        some (.next ((IntKind.i64.wrap (size1 * y1)), (IntKind.i64.wrap (t1 + 1))))
    else
      some (.done (.next size1))
noncomputable def M.value_Right (v1 : Val) : Option (Bool) :=
  if (decide ((v1.Shape.length : Int) > 4)) then
    some false
  else
    (wloop (M.value_Right_L1 v1) (1, 0)).bind fun k => joinK k fun size1 =>
    if ((decide (size1 > 10000)) || (size1 != (v1.Data.length : Int))) then
      some false
    else
      (if (!v1.Char) then
      some true else
      (M.slices_ContainsFunc__int64 v1.Data (fun x0 => M.value_Right_1 x0)).bind fun r1 =>
      some (!r1)).bind fun c4 =>
      some c4
noncomputable def M.pick_counts (a1 : Val) (b1 : Val) : Option (Int) :=
  (M.value_Right a1).bind fun r1 =>
  (if (!r1) then
  some true else
  (M.value_Right b1).bind fun r2 =>
  some (!r2)).bind fun c1 =>
  if c1 then
    some 1
  else
    if (decide ((a1.Shape.length : Int) > 1)) then
      some 24
    else
      if (a1.Char && (decide ((a1.Data.length : Int) > 0))) then
        some 23
      else
        some 0
noncomputable def M.math_bits_Mul64 (x1 : Int) (y1 : Int) : Option (Int × Int) :=
  some ((IntKind.u64.wrap ((IntKind.u64.wrap ((IntKind.u64.wrap ((Int.fdiv x1 (2 ^ (min (Int.toNat 32) IntKind.u64.bits))) * (Int.fdiv y1 (2 ^ (min (Int.toNat 32) IntKind.u64.bits))))) + (Int.fdiv (IntKind.u64.wrap ((IntKind.u64.wrap ((Int.fdiv x1 (2 ^ (min (Int.toNat 32) IntKind.u64.bits))) * (IntKind.u64.wrap (BitVec.ofInt IntKind.u64.bits y1 &&& BitVec.ofInt IntKind.u64.bits 4294967295).toNat))) + (Int.fdiv (IntKind.u64.wrap ((IntKind.u64.wrap (BitVec.ofInt IntKind.u64.bits x1 &&& BitVec.ofInt IntKind.u64.bits 4294967295).toNat) * (IntKind.u64.wrap (BitVec.ofInt IntKind.u64.bits y1 &&& BitVec.ofInt IntKind.u64.bits 4294967295).toNat))) (2 ^ (min (Int.toNat 32) IntKind.u64.bits))))) (2 ^ (min (Int.toNat 32) IntKind.u64.bits))))) + (Int.fdiv (IntKind.u64.wrap ((IntKind.u64.wrap (BitVec.ofInt IntKind.u64.bits (IntKind.u64.wrap ((IntKind.u64.wrap ((Int.fdiv x1 (2 ^ (min (Int.toNat 32) IntKind.u64.bits))) * (IntKind.u64.wrap (BitVec.ofInt IntKind.u64.bits y1 &&& BitVec.ofInt IntKind.u64.bits 4294967295).toNat))) + (Int.fdiv (IntKind.u64.wrap ((IntKind.u64.wrap (BitVec.ofInt IntKind.u64.bits x1 &&& BitVec.ofInt IntKind.u64.bits 4294967295).toNat) * (IntKind.u64.wrap (BitVec.ofInt IntKind.u64.bits y1 &&& BitVec.ofInt IntKind.u64.bits 4294967295).toNat))) (2 ^ (min (Int.toNat 32) IntKind.u64.bits))))) &&& BitVec.ofInt IntKind.u64.bits 4294967295).toNat) + (IntKind.u64.wrap ((IntKind.u64.wrap (BitVec.ofInt IntKind.u64.bits x1 &&& BitVec.ofInt IntKind.u64.bits 4294967295).toNat) * (Int.fdiv y1 (2 ^ (min (Int.toNat 32) IntKind.u64.bits))))))) (2 ^ (min (Int.toNat 32) IntKind.u64.bits))))), (IntKind.u64.wrap (x1 * y1)))
noncomputable def M.math_bits_Mul (x1 : Int) (y1 : Int) : Option (Int × Int) :=
  (M.math_bits_Mul64 x1 y1).bind fun (r1, r2) =>
  some (r1, r2)
noncomputable def M.slices_Repeat__int_L1 (s : Int × (List Int)) : Option (Ctl (Int × (List Int)) (Ctl ((List Int)) ((List Int)))) :=
  match s with
  | (n1, l2) =>
    if (decide (n1 < (l2.length : Int))) then
      (sub l2 n1 l2.length).bind fun l3 =>
      (sub l2 0 n1).bind fun l4 =>
      some (.next ((IntKind.i64.wrap (n1 + ((min l4.length l3.length : Nat) : Int))), (cpy l2 (Int.toNat n1) l3.length l4)))
    else
      some (.done (.next l2))
noncomputable def M.slices_Repeat__int (x1 : (List Int)) (count1 : Int) : Option ((List Int)) :=
  if (decide (count1 < 0)) then
    none
  else
    (M.math_bits_Mul (IntKind.u64.wrap (x1.length : Int)) (IntKind.u64.wrap count1)).bind fun (r1, r2) =>
    if ((decide (r1 > 0)) || (decide (r2 > 9223372036854775807))) then
      none
    else
      (mk 8 (0 : Int) (IntKind.i64.wrap r2) (IntKind.i64.wrap r2)).bind fun l1 =>
      (wloop (M.slices_Repeat__int_L1) (((min x1.length l1.length : Nat) : Int), (cpy l1 0 l1.length x1))).bind fun k => joinK k fun l2 =>
      some l2
noncomputable def M.pick_ranked (a1 : Val) (b1 : Val) : Option (Val × Int) :=
  (if ((b1.Shape.length : Int) == 0) then
    if (decide ((a1.Data.length : Int) > 4)) then
      some (.done (b1, 24))
    else
      (M.slices_Repeat__int ([1]) (a1.Data.length : Int)).bind fun r1 =>
      some (.next r1)
  else
    some (.next b1.Shape)).bind fun k => joinK k fun Shape1 =>
  if ((Shape1.length : Int) != (a1.Data.length : Int)) then
    some ((Val.mk b1.Char Shape1 b1.Data), 25)
  else
    some ((Val.mk b1.Char Shape1 b1.Data), 0)
noncomputable def M.pick_length (n1 : Int) : Option (Int) :=
  (if (decide (n1 < 0)) then
    some (IntKind.i64.wrap (0 - (if n1 < (-10001) then (-10001) else n1)))
  else
    some n1).bind fun n2 =>
  some (if 10001 < n2 then 10001 else n2)
noncomputable def M.slices_IndexFunc__int_L1 (s1 : (List Int)) (f1 : (Int → Option (Bool))) (s : Int) : Option (Ctl (Int) (Ctl (Unit) (Int))) :=
  match s with
  | t1 =>
    if (decide (t1 < (s1.length : Int))) then
      (idx s1 t1).bind fun y1 =>
      (f1 y1).bind fun r1 =>
      if r1 then
        some (.done (.done t1))
      else
        some (.next (IntKind.i64.wrap (t1 + 1)))
    else
      some (.done (.next ()))
noncomputable def M.slices_IndexFunc__int (s1 : (List Int)) (f1 : (Int → Option (Bool))) : Option (Int) :=
  (wloop (M.slices_IndexFunc__int_L1 s1 f1) 0).bind fun k => joinK k fun _ =>
  some (-1)
noncomputable def M.slices_ContainsFunc__int (s1 : (List Int)) (f1 : (Int → Option (Bool))) : Option (Bool) :=
  (M.slices_IndexFunc__int s1 f1).bind fun r1 =>
  some (decide (r1 ≥ 0))
noncomputable def M.shape_Size_1 (n1 : Int) : Option (Bool) :=
  some (decide (n1 < 0))
noncomputable def M.shape_Size_2 (n1 : Int) : Option (Bool) :=
  some (decide (n1 > 10000))
noncomputable def M.shape_product_L1 (s1 : (List Int)) (s : Int × Int) : Option (Ctl (Int × Int) (Ctl (Int) (Int))) :=
  match s with
  | (p1, t1) =>
    if (decide (t1 < (s1.length : Int))) then
      (idx s1 t1).bind fun y1 =>
      some (.next ((IntKind.i64.wrap (p1 * y1)), (IntKind.i64.wrap (t1 + 1))))
    else
      some (.done (.next p1))
noncomputable def M.shape_product (s1 : (List Int)) : Option (Int) :=
  (wloop (M.shape_product_L1 s1) (1, 0)).bind fun k => joinK k fun p1 =>
  some p1
noncomputable def M.shape_Size (s1 : (List Int)) : Option (Int × Int) :=
  if (decide ((s1.length : Int) > 4)) then
    some (0, 24)
  else
    (M.slices_ContainsFunc__int s1 (fun x0 => M.shape_Size_1 x0)).bind fun r1 =>
    if r1 then
      some (0, 1)
    else
      ((M.slices_ContainsFunc__int s1 (fun x0 => M.shape_Size_2 x0)).bind fun r2 =>
      if r2 then
        some r2
      else
        (M.shape_product s1).bind fun r3 =>
        some (decide (r3 > 10000))).bind fun t1 =>
      if t1 then
        some (0, 27)
      else
        (M.shape_product s1).bind fun r4 =>
        some (r4, 0)
noncomputable def M.pick_size_1 (n1 : Int) : Option (Bool) :=
  some (decide (n1 > 10000))
noncomputable def M.pick_size (s1 : (List Int)) : Option (Int × Bool) :=
  (M.shape_Size s1).bind fun (r1, r2) =>
  (if (r2 == 0) then
  (M.slices_ContainsFunc__int s1 (fun x0 => M.pick_size_1 x0)).bind fun r3 =>
  some (!r3) else
  some false).bind fun c1 =>
  some (r1, c1)
noncomputable def M.shape_At_L1 (s1 : (List Int)) (s : Int × Int × (List Int)) : Option (Ctl (Int × Int × (List Int)) (Ctl ((List Int)) ((List Int) × Bool))) :=
  match s with
  | (k2, i1, l2) =>
    if (decide (i1 ≥ 0)) then
      (idx s1 i1).bind fun y1 =>
      (remI k2 y1).bind fun q1 =>
      (idx s1 i1).bind fun y2 =>
      (quoI .i64 k2 y2).bind fun q2 =>
      (idx l2 i1).bind fun y3 =>
      (upd l2 i1 q1).bind fun l3 =>
      some (.next (q2, (IntKind.i64.wrap (i1 - 1)), l3))
    else
      some (.done (.next l2))
noncomputable def M.shape_At (s1 : (List Int)) (k1 : Int) : Option ((List Int) × Bool) :=
  (M.shape_Size s1).bind fun (r1, r2) =>
  if (((r2 != 0) || (decide (k1 < 0))) || (decide (k1 ≥ r1))) then
    some ([], false)
  else
    (mk 8 (0 : Int) (s1.length : Int) (s1.length : Int)).bind fun l1 =>
    (wloop (M.shape_At_L1 s1) (k1, (IntKind.i64.wrap ((s1.length : Int) - 1)), l1)).bind fun k => joinK k fun l2 =>
    some (l2, true)
noncomputable def M.value_Fill (v1 : Val) : Option (Int) :=
  if v1.Char then
    some 32
  else
    some 0
noncomputable def M.shape_sized (s1 : (List Int)) : Option (Bool) :=
  (M.shape_Size s1).bind fun (r1, r2) =>
  some (r2 == 0)
noncomputable def M.shape_Offset_L1 (s1 : (List Int)) (at1 : (List Int)) (s : Int × Int) : Option (Ctl (Int × Int) (Ctl (Int) (Int × Bool))) :=
  match s with
  | (k1, t1) =>
    if (decide (t1 < (at1.length : Int))) then
      (idx at1 t1).bind fun y1 =>
      (if (decide (y1 < 0)) then
      some true else
      (idx s1 t1).bind fun y2 =>
      some (decide (y1 ≥ y2))).bind fun c3 =>
      if c3 then
        some (.done (.done (0, false)))
      else
        (idx s1 t1).bind fun y3 =>
        some (.next ((IntKind.i64.wrap ((IntKind.i64.wrap (k1 * y3)) + y1)), (IntKind.i64.wrap (t1 + 1))))
    else
      some (.done (.next k1))
noncomputable def M.shape_Offset (s1 : (List Int)) (at1 : (List Int)) : Option (Int × Bool) :=
  (if ((at1.length : Int) != (s1.length : Int)) then
  some true else
  (M.shape_sized s1).bind fun r1 =>
  some (!r1)).bind fun c1 =>
  if c1 then
    some (0, false)
  else
    (wloop (M.shape_Offset_L1 s1 at1) (0, 0)).bind fun k => joinK k fun k1 =>
    some (k1, true)
noncomputable def M.pick_window_L2 (move1 : (List Int)) (r3 : (List Int)) (s : Int × (List Int)) : Option (Ctl (Int × (List Int)) (Ctl ((List Int)) (Ctl (Int × (List Int)) (Ctl ((List Int)) (Val))))) :=
  match s with
  | (t2, l3) =>
    if (decide (t2 < (r3.length : Int))) then
      (idx l3 t2).bind fun y1 =>
      (idx move1 t2).bind fun y2 =>
      (idx l3 t2).bind fun y3 =>
      (upd l3 t2 (IntKind.i64.wrap (y1 + y2))).bind fun l4 =>
      some (.next ((IntKind.i64.wrap (t2 + 1)), l4))
    else
      some (.done (.next l3))
noncomputable def M.pick_window_L1 (b1 : Val) (s1 : (List Int)) (move1 : (List Int)) (l1 : List Int) (s : Int × (List Int)) : Option (Ctl (Int × (List Int)) (Ctl ((List Int)) (Val))) :=
  match s with
  | (t1, l2) =>
    if (decide (t1 < (l1.length : Int))) then
      (M.shape_At s1 t1).bind fun (r3, r4) =>
      (wloop (M.pick_window_L2 move1 r3) (0, r3)).bind fun k => joinK k fun l3 =>
      (M.value_Fill b1).bind fun r5 =>
      (idx l2 t1).bind fun y4 =>
      (upd l2 t1 r5).bind fun l5 =>
      (M.shape_Offset b1.Shape l3).bind fun (r6, r7) =>
      if r7 then
        (idx b1.Data r6).bind fun y5 =>
        (idx l5 t1).bind fun y6 =>
        (upd l5 t1 y5).bind fun l6 =>
        some (.next ((IntKind.i64.wrap (t1 + 1)), l6))
      else
        some (.next ((IntKind.i64.wrap (t1 + 1)), l5))
    else
      some (.done (.next l2))
noncomputable def M.pick_window (b1 : Val) (s1 : (List Int)) (move1 : (List Int)) : Option (Val) :=
  (M.pick_size s1).bind fun (r1, r2) =>
  (mk 8 (0 : Int) r1 r1).bind fun l1 =>
  (wloop (M.pick_window_L1 b1 s1 move1 l1) (0, l1)).bind fun k => joinK k fun l2 =>
  some (Val.mk b1.Char s1 l2)
noncomputable def M.pick_Take_L1 (a1 : Val) (r2 : Val) (s : (List Int) × (List Int) × Int) : Option (Ctl ((List Int) × (List Int) × Int) (Ctl ((List Int) × (List Int)) (Val × Int))) :=
  match s with
  | (s1, move1, t1) =>
    if (decide (t1 < (a1.Data.length : Int))) then
      (idx a1.Data t1).bind fun y1 =>
      (M.pick_length y1).bind fun r4 =>
      (app 8 s1 ([r4])).bind fun l1 =>
      if (decide (y1 < 0)) then
        (idx r2.Shape t1).bind fun y2 =>
        (app 8 move1 ([(IntKind.i64.wrap (y2 - r4))])).bind fun l2 =>
        some (.next (l1, l2, (IntKind.i64.wrap (t1 + 1))))
      else
        (app 8 move1 ([0])).bind fun l3 =>
        some (.next (l1, l3, (IntKind.i64.wrap (t1 + 1))))
    else
      some (.done (.next (s1, move1)))
noncomputable def M.pick_Take (a1 : Val) (b1 : Val) : Option (Val × Int) :=
  (M.pick_counts a1 b1).bind fun r1 =>
  if (r1 != 0) then
    some ((Val.mk false ([]) ([])), r1)
  else
    (M.pick_ranked a1 b1).bind fun (r2, r3) =>
    if (r3 != 0) then
      some ((Val.mk false ([]) ([])), r3)
    else
      (wloop (M.pick_Take_L1 a1 r2) (([] : List Int), ([] : List Int), 0)).bind fun k => joinK k fun (s1, move1) =>
      (M.pick_size s1).bind fun (r5, r6) =>
      if (!r6) then
        some ((Val.mk false ([]) ([])), 27)
      else
        (M.pick_window r2 s1 move1).bind fun r7 =>
        some (r7, 0)
noncomputable def M.anamnesisref02_Right_L2 (v1 : Val) (s : Int) : Option (Ctl (Int) (Ctl (Unit) (Bool))) :=
  match s with
  | i2 =>
    if ((decide (i2 < (v1.Data.length : Int))) && v1.Char) then
      (idx v1.Data i2).bind fun y4 =>
      if (((decide (y4 < 0)) || (decide (y4 > 1114111))) || ((decide (y4 ≥ 55296)) && (decide (y4 ≤ 57343)))) then
        some (.done (.done false))
      else
        some (.next (IntKind.i64.wrap (i2 + 1)))
    else
      some (.done (.next ()))
noncomputable def M.anamnesisref02_Right_L1 (v1 : Val) (s : Int × Int) : Option (Ctl (Int × Int) (Ctl (Int) (Bool))) :=
  match s with
  | (size1, i1) =>
    if (decide (i1 < (v1.Shape.length : Int))) then
      (idx v1.Shape i1).bind fun y1 =>
      (if (decide (y1 < 0)) then
      some true else
      (idx v1.Shape i1).bind fun y2 =>
      some (decide (y2 > 10000))).bind fun c2 =>
      if c2 then
        some (.done (.done false))
      else
        (idx v1.Shape i1).bind fun y3 =>
        some (.next ((IntKind.i64.wrap (size1 * y3)), (IntKind.i64.wrap (i1 + 1))))
    else
      some (.done (.next size1))
noncomputable def M.anamnesisref02_Right (v1 : Val) : Option (Bool) :=
  if (decide ((v1.Shape.length : Int) > 4)) then
    some false
  else
    (wloop (M.anamnesisref02_Right_L1 v1) (1, 0)).bind fun k => joinK k fun size1 =>
    (wloop (M.anamnesisref02_Right_L2 v1) 0).bind fun k => joinK k fun _ =>
    some ((size1 == (v1.Data.length : Int)) && (decide (size1 ≤ 10000)))
noncomputable def M.anamnesisref09_bad (a1 : Val) (b1 : Val) : Option (Int) :=
  (M.anamnesisref02_Right a1).bind fun r1 =>
  (if (!r1) then
  some true else
  (M.anamnesisref02_Right b1).bind fun r2 =>
  some (!r2)).bind fun c1 =>
  if c1 then
    some 1
  else
    if (decide ((a1.Shape.length : Int) > 1)) then
      some 24
    else
      if (a1.Char && (decide ((a1.Data.length : Int) > 0))) then
        some 23
      else
        some 0
noncomputable def M.anamnesisref09_ranked_L1 (a1 : Val) (s : (List Int) × Int) : Option (Ctl ((List Int) × Int) (Ctl ((List Int)) ((List Int) × Int))) :=
  match s with
  | (s1, i1) =>
    if (decide (i1 < (a1.Data.length : Int))) then
      (app 8 s1 ([1])).bind fun l1 =>
      some (.next (l1, (IntKind.i64.wrap (i1 + 1))))
    else
      some (.done (.next s1))
noncomputable def M.anamnesisref09_ranked (a1 : Val) (b1 : Val) : Option ((List Int) × Int) :=
  if (decide ((b1.Shape.length : Int) > 0)) then
    if ((b1.Shape.length : Int) != (a1.Data.length : Int)) then
      some ([], 25)
    else
      some (b1.Shape, 0)
  else
    if (decide ((a1.Data.length : Int) > 4)) then
      some ([], 24)
    else
      (wloop (M.anamnesisref09_ranked_L1 a1) ([], 0)).bind fun k => joinK k fun s1 =>
      some (s1, 0)
noncomputable def M.anamnesisref07_Size_L1 (s1 : (List Int)) (s : Int × Int) : Option (Ctl (Int × Int) (Ctl (Int) (Int))) :=
  match s with
  | (size1, i1) =>
    if (decide (i1 < (s1.length : Int))) then
      (idx s1 i1).bind fun y1 =>
      (if (decide (y1 < 0)) then
      some true else
      (idx s1 i1).bind fun y2 =>
      some (decide (y2 > 10000))).bind fun c2 =>
      if c2 then
        some (.done (.done (-1)))
      else
        (idx s1 i1).bind fun y3 =>
        some (.next ((IntKind.i64.wrap (size1 * y3)), (IntKind.i64.wrap (i1 + 1))))
    else
      some (.done (.next size1))
noncomputable def M.anamnesisref07_Size (s1 : (List Int)) : Option (Int) :=
  if (decide ((s1.length : Int) > 4)) then
    some (-1)
  else
    (wloop (M.anamnesisref07_Size_L1 s1) (1, 0)).bind fun k => joinK k fun size1 =>
    if (decide (size1 > 10000)) then
      some (-1)
    else
      some size1
noncomputable def M.anamnesisref07_At_L1 (s1 : (List Int)) (s : Int × Int × (List Int)) : Option (Ctl (Int × Int × (List Int)) (Ctl ((List Int)) ((List Int)))) :=
  match s with
  | (k2, i1, l2) =>
    if (decide (i1 ≥ 0)) then
      (idx s1 i1).bind fun y1 =>
      (remI k2 y1).bind fun q1 =>
      (idx l2 i1).bind fun y2 =>
      (upd l2 i1 q1).bind fun l3 =>
      (idx s1 i1).bind fun y3 =>
      (quoI .i64 k2 y3).bind fun q2 =>
      some (.next (q2, (IntKind.i64.wrap (i1 - 1)), l3))
    else
      some (.done (.next l2))
noncomputable def M.anamnesisref07_At (s1 : (List Int)) (k1 : Int) : Option ((List Int)) :=
  (mk 8 (0 : Int) (s1.length : Int) (s1.length : Int)).bind fun l1 =>
  (wloop (M.anamnesisref07_At_L1 s1) (k1, (IntKind.i64.wrap ((s1.length : Int) - 1)), l1)).bind fun k => joinK k fun l2 =>
  some l2
noncomputable def M.anamnesisref07_Offset_L1 (s1 : (List Int)) (at1 : (List Int)) (s : Int × Int) : Option (Ctl (Int × Int) (Ctl (Int) (Int))) :=
  match s with
  | (k1, i1) =>
    if (decide (i1 < (s1.length : Int))) then
      (idx s1 i1).bind fun y1 =>
      (idx at1 i1).bind fun y2 =>
      some (.next ((IntKind.i64.wrap ((IntKind.i64.wrap (k1 * y1)) + y2)), (IntKind.i64.wrap (i1 + 1))))
    else
      some (.done (.next k1))
noncomputable def M.anamnesisref07_Offset (s1 : (List Int)) (at1 : (List Int)) : Option (Int) :=
  (wloop (M.anamnesisref07_Offset_L1 s1 at1) (0, 0)).bind fun k => joinK k fun k1 =>
  some k1
noncomputable def M.anamnesisref09_fill (v1 : Val) : Option (Int) :=
  if v1.Char then
    some 32
  else
    some 0
noncomputable def M.anamnesisref09_cut_L2 (s1 : (List Int)) (from1 : (List Int)) (s : Bool × Int × (List Int)) : Option (Ctl (Bool × Int × (List Int)) (Ctl (Bool × (List Int)) (Ctl (Int × (List Int)) (Ctl ((List Int)) (Val))))) :=
  match s with
  | (inside1, i1, l1) =>
    if (decide (i1 < (l1.length : Int))) then
      (idx l1 i1).bind fun y1 =>
      (idx from1 i1).bind fun y2 =>
      (idx l1 i1).bind fun y3 =>
      (upd l1 i1 (IntKind.i64.wrap (y1 + y2))).bind fun l2 =>
      (if inside1 then
      (idx l2 i1).bind fun y4 =>
      some (decide (y4 ≥ 0)) else
      some false).bind fun c3 =>
      (if c3 then
      (idx l2 i1).bind fun y5 =>
      (idx s1 i1).bind fun y6 =>
      some (decide (y5 < y6)) else
      some false).bind fun c4 =>
      some (.next (c4, (IntKind.i64.wrap (i1 + 1)), l2))
    else
      some (.done (.next (inside1, l1)))
noncomputable def M.anamnesisref09_cut_L1 (b1 : Val) (s1 : (List Int)) (from1 : (List Int)) (to1 : (List Int)) (s : Int × (List Int)) : Option (Ctl (Int × (List Int)) (Ctl ((List Int)) (Val))) :=
  match s with
  | (k1, Data1) =>
    (M.anamnesisref07_Size to1).bind fun r1 =>
    if (decide (k1 < r1)) then
      (M.anamnesisref07_At to1 k1).bind fun r2 =>
      (wloop (M.anamnesisref09_cut_L2 s1 from1) (true, 0, r2)).bind fun k => joinK k fun (inside1, l1) =>
      if inside1 then
        (M.anamnesisref07_Offset s1 l1).bind fun r3 =>
        (idx b1.Data r3).bind fun y7 =>
        (app 8 Data1 ([y7])).bind fun l3 =>
        some (.next ((IntKind.i64.wrap (k1 + 1)), l3))
      else
        (M.anamnesisref09_fill b1).bind fun r4 =>
        (app 8 Data1 ([r4])).bind fun l4 =>
        some (.next ((IntKind.i64.wrap (k1 + 1)), l4))
    else
      some (.done (.next Data1))
noncomputable def M.anamnesisref09_cut (b1 : Val) (s1 : (List Int)) (from1 : (List Int)) (to1 : (List Int)) : Option (Val) :=
  (wloop (M.anamnesisref09_cut_L1 b1 s1 from1 to1) (0, [])).bind fun k => joinK k fun Data1 =>
  some (Val.mk b1.Char to1 Data1)
noncomputable def M.anamnesisref09_Take_L1 (a1 : Val) (r2 : (List Int)) (s : (List Int) × (List Int) × Int) : Option (Ctl ((List Int) × (List Int) × Int) (Ctl ((List Int) × (List Int)) (Val × Int))) :=
  match s with
  | (from1, to1, i1) =>
    if (decide (i1 < (r2.length : Int))) then
      (idx a1.Data i1).bind fun y1 =>
      if ((decide (y1 > 10000)) || (decide (y1 < (-10000)))) then
        some (.done (.done ((Val.mk false ([]) ([])), 27)))
      else
        if (decide (y1 ≥ 0)) then
          (app 8 from1 ([0])).bind fun l1 =>
          (app 8 to1 ([y1])).bind fun l2 =>
          some (.next (l1, l2, (IntKind.i64.wrap (i1 + 1))))
        else
          (idx r2 i1).bind fun y2 =>
          (app 8 from1 ([(IntKind.i64.wrap (y2 + y1))])).bind fun l3 =>
          (app 8 to1 ([(IntKind.i64.wrap (0 - y1))])).bind fun l4 =>
          some (.next (l3, l4, (IntKind.i64.wrap (i1 + 1))))
    else
      some (.done (.next (from1, to1)))
noncomputable def M.anamnesisref09_Take (a1 : Val) (b1 : Val) : Option (Val × Int) :=
  (M.anamnesisref09_bad a1 b1).bind fun r1 =>
  if (r1 != 0) then
    some ((Val.mk false ([]) ([])), r1)
  else
    (M.anamnesisref09_ranked a1 b1).bind fun (r2, r3) =>
    if (r3 != 0) then
      some ((Val.mk false ([]) ([])), r3)
    else
      (wloop (M.anamnesisref09_Take_L1 a1 r2) ([], [], 0)).bind fun k => joinK k fun (from1, to1) =>
      (M.anamnesisref07_Size to1).bind fun r4 =>
      if (decide (r4 < 0)) then
        some ((Val.mk false ([]) ([])), 27)
      else
        (M.anamnesisref09_cut b1 r2 from1 to1).bind fun r5 =>
        some (r5, 0)
noncomputable def M.pick_Drop_L1 (a1 : Val) (r2 : Val) (s : (List Int) × (List Int) × Int) : Option (Ctl ((List Int) × (List Int) × Int) (Ctl ((List Int) × (List Int)) (Val × Int))) :=
  match s with
  | (s1, move1, t1) =>
    if (decide (t1 < (a1.Data.length : Int))) then
      (idx a1.Data t1).bind fun y1 =>
      (M.pick_length y1).bind fun r4 =>
      (idx r2.Shape t1).bind fun y2 =>
      (idx r2.Shape t1).bind fun y3 =>
      (app 8 s1 ([(IntKind.i64.wrap (y3 - (if y2 < r4 then y2 else r4)))])).bind fun l1 =>
      (if (decide (y1 < 0)) then
        some 0
      else
        some (if y2 < r4 then y2 else r4)).bind fun m1 =>
      (app 8 move1 ([m1])).bind fun l2 =>
      some (.next (l1, l2, (IntKind.i64.wrap (t1 + 1))))
    else
      some (.done (.next (s1, move1)))
noncomputable def M.pick_Drop (a1 : Val) (b1 : Val) : Option (Val × Int) :=
  (M.pick_counts a1 b1).bind fun r1 =>
  if (r1 != 0) then
    some ((Val.mk false ([]) ([])), r1)
  else
    (M.pick_ranked a1 b1).bind fun (r2, r3) =>
    if (r3 != 0) then
      some ((Val.mk false ([]) ([])), r3)
    else
      (wloop (M.pick_Drop_L1 a1 r2) (([] : List Int), ([] : List Int), 0)).bind fun k => joinK k fun (s1, move1) =>
      (M.pick_window r2 s1 move1).bind fun r5 =>
      some (r5, 0)
noncomputable def M.anamnesisref09_Drop_L1 (a1 : Val) (r2 : (List Int)) (s : (List Int) × (List Int) × Int) : Option (Ctl ((List Int) × (List Int) × Int) (Ctl ((List Int) × (List Int)) (Val × Int))) :=
  match s with
  | (from1, to1, i1) =>
    if (decide (i1 < (r2.length : Int))) then
      (idx a1.Data i1).bind fun y1 =>
      (idx r2 i1).bind fun y2 =>
      (if (decide (y1 ≥ 0)) then
        (app 8 from1 ([0])).bind fun l1 =>
        if (decide (y1 < y2)) then
          (idx l1 i1).bind fun y3 =>
          (upd l1 i1 y1).bind fun l2 =>
          some (l2, (IntKind.i64.wrap (y2 - y1)))
        else
          some (l1, 0)
      else
        (app 8 from1 ([0])).bind fun l3 =>
        if (decide (y1 > (IntKind.i64.wrap (0 - y2)))) then
          some (l3, (IntKind.i64.wrap (y2 + y1)))
        else
          some (l3, 0)).bind fun (from2, left1) =>
      (app 8 to1 ([left1])).bind fun l4 =>
      some (.next (from2, l4, (IntKind.i64.wrap (i1 + 1))))
    else
      some (.done (.next (from1, to1)))
noncomputable def M.anamnesisref09_Drop (a1 : Val) (b1 : Val) : Option (Val × Int) :=
  (M.anamnesisref09_bad a1 b1).bind fun r1 =>
  if (r1 != 0) then
    some ((Val.mk false ([]) ([])), r1)
  else
    (M.anamnesisref09_ranked a1 b1).bind fun (r2, r3) =>
    if (r3 != 0) then
      some ((Val.mk false ([]) ([])), r3)
    else
      (wloop (M.anamnesisref09_Drop_L1 a1 r2) ([], [], 0)).bind fun k => joinK k fun (from1, to1) =>
      (M.anamnesisref09_cut b1 r2 from1 to1).bind fun r4 =>
      some (r4, 0)
noncomputable def M.anamnesisref02_Same_L2 (a1 : Val) (b1 : Val) (s : Int) : Option (Ctl (Int) (Ctl (Unit) (Bool))) :=
  match s with
  | i2 =>
    if (decide (i2 < (a1.Data.length : Int))) then
      (idx a1.Data i2).bind fun y3 =>
      (idx b1.Data i2).bind fun y4 =>
      if (y3 != y4) then
        some (.done (.done false))
      else
        some (.next (IntKind.i64.wrap (i2 + 1)))
    else
      some (.done (.next ()))
noncomputable def M.anamnesisref02_Same_L1 (a1 : Val) (b1 : Val) (s : Int) : Option (Ctl (Int) (Ctl (Unit) (Bool))) :=
  match s with
  | i1 =>
    if (decide (i1 < (a1.Shape.length : Int))) then
      (idx a1.Shape i1).bind fun y1 =>
      (idx b1.Shape i1).bind fun y2 =>
      if (y1 != y2) then
        some (.done (.done false))
      else
        some (.next (IntKind.i64.wrap (i1 + 1)))
    else
      some (.done (.next ()))
noncomputable def M.anamnesisref02_Same (a1 : Val) (b1 : Val) : Option (Bool) :=
  if (((!(a1.Char == b1.Char)) || ((a1.Shape.length : Int) != (b1.Shape.length : Int))) || ((a1.Data.length : Int) != (b1.Data.length : Int))) then
    some false
  else
    (wloop (M.anamnesisref02_Same_L1 a1 b1) 0).bind fun k => joinK k fun _ =>
    (wloop (M.anamnesisref02_Same_L2 a1 b1) 0).bind fun k => joinK k fun _ =>
    some true
noncomputable def M.anamnesislaw09_told (v1 : Val) (e1 : Int) (w1 : Val) (f1 : Int) : Option (Bool) :=
  (if (e1 == f1) then
  (M.anamnesisref02_Same v1 w1).bind fun r1 =>
  some r1 else
  some false).bind fun c1 =>
  some c1
noncomputable def M.anamnesislaw09_PickEnds (a1 : Val) (b1 : Val) : Option (Bool) :=
  (M.anamnesislaw07_Great a1).bind fun r1 =>
  (if r1 then
  some true else
  (M.anamnesislaw07_Great b1).bind fun r2 =>
  some r2).bind fun c1 =>
  if c1 then
    some true
  else
    (M.anamnesisref02_Copy a1).bind fun r3 =>
    (M.anamnesisref02_Copy b1).bind fun r4 =>
    (M.pick_Take a1 b1).bind fun (r5, r6) =>
    (M.anamnesisref09_Take a1 b1).bind fun (r7, r8) =>
    (M.pick_Drop a1 b1).bind fun (r9, r10) =>
    (M.anamnesisref09_Drop a1 b1).bind fun (r11, r12) =>
    (M.anamnesislaw09_told r5 r6 r7 r8).bind fun r13 =>
    (if r13 then
    (M.anamnesislaw09_told r9 r10 r11 r12).bind fun r14 =>
    some r14 else
    some false).bind fun c2 =>
    (if c2 then
    (M.anamnesisref02_Same a1 r3).bind fun r15 =>
    some r15 else
    some false).bind fun c3 =>
    (if c3 then
    (M.anamnesisref02_Same b1 r4).bind fun r16 =>
    some r16 else
    some false).bind fun c4 =>
    some (c4 && true)
theorem w64_id {x : Int} (h1 : -9223372036854775808 ≤ x) (h2 : x ≤ 9223372036854775807) : IntKind.i64.wrap x = x := wrap_id h1 h2
theorem u8_mod (x : Int) : IntKind.u8.wrap x = x % 256 := by simp [IntKind.wrap, IntKind.bits, IntKind.signed]
theorem u8_id {x : Int} (h1 : 0 ≤ x) (h2 : x ≤ 255) : IntKind.u8.wrap x = x := by rw [u8_mod]; omega
theorem u32_id {x : Int} (h1 : 0 ≤ x) (h2 : x ≤ 1114111) : IntKind.u32.wrap x = x := by
  have : IntKind.u32.wrap x = x % 4294967296 := by simp [IntKind.wrap, IntKind.bits, IntKind.signed]
  rw [this]; omega
/-- A loop comes to an end in a state with Q: P holds ahead of each round, and its number falls. -/
theorem wloop_ind {σ β : Type} {f : σ → Option (Ctl σ β)} (P : Nat → σ → Prop) (Q : β → Prop)
    (h : ∀ n s, P n s → (∃ s' n', f s = some (.next s') ∧ n' < n ∧ P n' s') ∨ (∃ b, f s = some (.done b) ∧ Q b)) : ∀ n s, P n s → ∃ b, wloop f s = some b ∧ Q b := by
  intro n
  induction n using Nat.strongRecOn with
  | _ n ih =>
    intro s hp
    rcases h n s hp with ⟨s', n', hf, hn, hp'⟩ | ⟨b, hf, hq⟩
    · obtain ⟨b, hb, hq⟩ := ih n' hn s' hp'
      exact ⟨b, by rw [wloop_next hf]; exact hb, hq⟩
    · exact ⟨b, wloop_done hf, hq⟩
theorem idx_nat {α : Type} (l : List α) (k : Nat) : idx l (k : Int) = l[k]? := by
  unfold idx; rw [if_pos (by omega)]; rfl
theorem idx_get {α : Type} {l : List α} {k : Nat} (h : k < l.length) : idx l (k : Int) = some l[k] := by rw [idx_nat, List.getElem?_eq_getElem h]
theorem upd_nat {α : Type} {l : List α} {k : Nat} {x : α} (h : k < l.length) : upd l (k : Int) x = some (l.set k x) := by
  unfold upd; rw [if_pos ⟨by omega, by omega⟩]; rfl
theorem app_ok {α : Type} {b : Nat} {l m : List α} (h : (l.length + m.length) * b ≤ 140737488355328) : app b l m = some (l ++ m) := by
  unfold app; rw [if_pos (.inr h)]
theorem mk_ok {α : Type} {b : Nat} {z : α} {n : Nat} (h : b * n ≤ 140737488355328) (h' : n ≤ 140737488355328) : mk b z (n : Int) (n : Int) = some (List.replicate n z) := by
  unfold mk
  have : ((b : Int) * (n : Int)) ≤ 140737488355328 := by
    have h2 : ((b * n : Nat) : Int) ≤ 140737488355328 := by omega
    rwa [Int.natCast_mul] at h2
  rw [if_pos ⟨by omega, by omega, this, by omega⟩]; rfl
/-- the numbers that a kind has. -/
theorem wf64 {n : Int} (h : (Lit.int .i64 n).wf = true) : -9223372036854775808 ≤ n ∧ n ≤ 9223372036854775807 := by
  have h2 : (decide (IntKind.i64.min ≤ n) && decide (n ≤ IntKind.i64.max)) = true := h
  have e1 : IntKind.i64.min = -9223372036854775808 := by decide
  have e2 : IntKind.i64.max = 9223372036854775807 := by decide
  rw [e1, e2] at h2
  simpa using h2
theorem sub_drop {α : Type} {l : List α} {k : Nat} (h : k ≤ l.length) : sub l (k : Int) (l.length : Int) = some (l.drop k) := by
  unfold sub
  rw [if_pos ⟨by omega, by omega, by omega⟩]
  simp
theorem drop_cons {α : Type} {l : List α} {k : Nat} (h : k < l.length) : l.drop k = l[k] :: l.drop (k + 1) := List.drop_eq_getElem_cons h
theorem same_loop {f : Int → Option (Ctl Int (Ctl Unit Bool))} {a b : List Int} (hl : a.length = b.length) (hm : a.length ≤ maxLen)
    (hf : ∀ k : Nat, ∀ h : k < a.length, f k = if a[k] = b[k]'(hl ▸ h) then some (.next ((k : Int) + 1)) else some (.done (.done false))) (he : f a.length = some (.done (.next ()))) :
    wloop f 0 = some (if a = b then .next () else .done false) := by
  have key := wloop_ind (f := f) (fun n i => ∃ k : Nat, i = k ∧ k ≤ a.length ∧ n = a.length - k ∧ a.take k = b.take k)
    (fun c => (c = .done false ∧ a ≠ b) ∨ (c = .next () ∧ a = b)) (fun n i h => by
      obtain ⟨k, rfl, hk, rfl, hn⟩ := h
      by_cases hlt : k < a.length
      · rw [hf k hlt]
        by_cases he : a[k] = b[k]
        · rw [if_pos he]
          left
          refine ⟨_, a.length - (k + 1), rfl, by omega, k + 1, by omega, by omega, rfl, ?_⟩
          rw [List.take_succ_eq_append_getElem hlt, List.take_succ_eq_append_getElem (by omega), hn, he]
        · rw [if_neg he]
          right
          refine ⟨_, rfl, .inl ⟨rfl, fun h => he ?_⟩⟩
          subst h; rfl
      · have : k = a.length := by omega
        subst this
        right
        refine ⟨_, he, .inr ⟨rfl, ?_⟩⟩
        rw [List.take_length, hl, List.take_length] at hn
        exact hn) a.length 0 ⟨0, rfl, by omega, by omega, by simp⟩
  obtain ⟨c, hc, ⟨rfl, h⟩ | ⟨rfl, h⟩⟩ := key
  · rw [hc]; simp [h]
  · rw [hc]; simp [h]

theorem same_step {f : Int → Option (Ctl Int (Ctl Unit Bool))} {a b : List Int} (hl : a.length = b.length) (hm : a.length ≤ maxLen)
    (hf : ∀ k : Nat, ∀ h : k < a.length, f k = if a[k] = b[k]'(hl ▸ h) then some (.next ((k : Int) + 1)) else some (.done (.done false))) (he : f a.length = some (.done (.next ()))) :
    (wloop f 0).bind (fun k => joinK k fun _ => some true) = some (decide (a = b)) := by
  rw [same_loop hl hm hf he]
  by_cases h : a = b
  · rw [if_pos h, decide_eq_true h]; rfl
  · rw [if_neg h, decide_eq_false h]; rfl
/-- a loop that counts up. -/
theorem loop_up {S τ β : Type} {f : S → Option (Ctl S β)} (st : Nat → τ → S) (n : Nat) (I : Nat → τ → Prop) (out : τ → β) (a : τ) (h0 : I 0 a)
    (hf : ∀ k m, k < n → I k m → ∃ m', f (st k m) = some (.next (st (k + 1) m')) ∧ I (k + 1) m') (he : ∀ m, I n m → f (st n m) = some (.done (out m))) :
    ∃ m, I n m ∧ wloop f (st 0 a) = some (out m) := by
  have key := wloop_ind (f := f) (fun j s => ∃ k m, s = st k m ∧ j = n - k ∧ k ≤ n ∧ I k m) (fun b => ∃ m, b = out m ∧ I n m) (fun j s h => by
    obtain ⟨k, m, rfl, rfl, hk, hi⟩ := h
    by_cases hlt : k < n
    · left
      obtain ⟨m', h1, h2⟩ := hf k m hlt hi
      exact ⟨_, n - (k + 1), h1, by omega, k + 1, m', rfl, rfl, by omega, h2⟩
    · have : k = n := by omega
      subst this
      exact .inr ⟨_, he m hi, m, rfl, hi⟩) n (st 0 a) ⟨0, a, rfl, by omega, by omega, h0⟩
  obtain ⟨b, hb, m, rfl, hi⟩ := key
  exact ⟨m, hi, hb⟩
/-- a loop that counts up, each of whose states is told. -/
theorem loop_fun {S β : Type} {f : S → Option (Ctl S β)} (st : Nat → S) (n : Nat) {b : β} (hf : ∀ k, k < n → f (st k) = some (.next (st (k + 1)))) (he : f (st n) = some (.done b)) : wloop f (st 0) = some b := by
  obtain ⟨_, _, h⟩ := loop_up (f := f) (fun k (_ : Unit) => st k) n (fun _ _ => True) (fun _ => b) () trivial (fun k m hk _ => ⟨(), hf k hk, trivial⟩) (fun m _ => he)
  exact h
theorem lin_lt {i k R C : Nat} (h : i < R) (hk : k < C) : i * C + k < R * C := by
  have := Nat.mul_le_mul_right C (show i + 1 ≤ R from h)
  rw [Nat.succ_mul] at this; omega
theorem lin_inj {i k i' k' C : Nat} (hk : k < C) (hk' : k' < C) (h : i * C + k = i' * C + k') : i = i' ∧ k = k' := by
  have hc : 0 < C := by omega
  have e : ∀ (a b : Nat), b < C → (a * C + b) / C = a := fun a b hb => by
    rw [Nat.mul_comm, Nat.mul_add_div hc, Nat.div_eq_of_lt hb, Nat.add_zero]
  have h1 := e i k hk
  rw [h, e i' k' hk'] at h1
  subst h1; omega
/-- a matrix, row by row. -/
def tab (R C : Nat) (f : Nat → Nat → Int) : List Int := (List.range (R * C)).map fun p => f (p / C) (p % C)
theorem tab_len (R C : Nat) (f : Nat → Nat → Int) : (tab R C f).length = R * C := by simp [tab]
theorem tab_get {R C i k : Nat} (f : Nat → Nat → Int) (hi : i < R) (hk : k < C) : (tab R C f)[i * C + k]? = some (f i k) := by
  have hc : 0 < C := by omega
  unfold tab
  rw [List.getElem?_map, List.getElem?_range (lin_lt hi hk)]
  show some (f ((i * C + k) / C) ((i * C + k) % C)) = _
  rw [Nat.mul_comm, Nat.mul_add_div hc, Nat.div_eq_of_lt hk, Nat.mul_add_mod, Nat.mod_eq_of_lt hk, Nat.add_zero]
theorem tab_ext {R C : Nat} {f : Nat → Nat → Int} {l : List Int} (hl : l.length = R * C) (h : ∀ i k, i < R → k < C → l[i * C + k]? = some (f i k)) : l = tab R C f := by
  apply List.ext_getElem?
  intro p
  by_cases hp : p < R * C
  · have hc : 0 < C := by
      rcases Nat.eq_zero_or_pos C with h | h
      · subst h; simp at hp
      · exact h
    have h1 : p / C < R := by rw [Nat.div_lt_iff_lt_mul hc]; exact hp
    have h2 : p % C < C := Nat.mod_lt _ hc
    have e : p / C * C + p % C = p := by rw [Nat.mul_comm]; exact Nat.div_add_mod p C
    have a := h _ _ h1 h2
    have b := tab_get f h1 h2
    rw [e] at a b
    rw [a, b]
  · rw [List.getElem?_eq_none (by omega), List.getElem?_eq_none (by rw [tab_len]; omega)]
/-- a loop that counts up, and may end ahead of time. -/
theorem loop_find {S β : Type} {f : S → Option (Ctl S β)} (st : Nat → S) (n : Nat) (bad : Nat → Bool) (b : Nat → β) {c : β}
    (hf : ∀ k, k < n → f (st k) = if bad k then some (.done (b k)) else some (.next (st (k + 1)))) (he : f (st n) = some (.done c)) :
    (∃ k, k < n ∧ bad k = true ∧ (∀ j, j < k → bad j = false) ∧ wloop f (st 0) = some (b k)) ∨ ((∀ k, k < n → bad k = false) ∧ wloop f (st 0) = some c) := by
  obtain ⟨r, hr, hq⟩ := wloop_ind (f := f) (fun m s => ∃ k, s = st k ∧ m = n - k ∧ k ≤ n ∧ ∀ j, j < k → bad j = false)
    (fun r => (∃ k, k < n ∧ bad k = true ∧ (∀ j, j < k → bad j = false) ∧ r = b k) ∨ ((∀ k, k < n → bad k = false) ∧ r = c)) (fun m s h => by
      obtain ⟨k, rfl, rfl, hk, hj⟩ := h
      by_cases hlt : k < n
      · have := hf k hlt
        cases hb : bad k
        · rw [hb] at this
          refine .inl ⟨_, n - (k + 1), this, by omega, k + 1, rfl, rfl, by omega, fun j hj' => ?_⟩
          by_cases he : j = k
          · subst he; exact hb
          · exact hj j (by omega)
        · rw [hb] at this
          exact .inr ⟨_, this, .inl ⟨k, hlt, hb, hj, rfl⟩⟩
      · have : k = n := by omega
        subst this
        exact .inr ⟨_, he, .inr ⟨hj, rfl⟩⟩) n (st 0) ⟨0, rfl, by omega, by omega, fun j h => by omega⟩
  rcases hq with ⟨k, h1, h2, h3, rfl⟩ | ⟨h1, rfl⟩
  · exact .inl ⟨k, h1, h2, h3, hr⟩
  · exact .inr ⟨h1, hr⟩
theorem contains_int {s : List Int} {f : Int → Option Bool} {g : Int → Bool} (hf : ∀ x ∈ s, f x = some (g x)) (hl : s.length ≤ 4611686018427387904) : M.slices_ContainsFunc__int s f = some (s.any g) := by
  have key := wloop_ind (f := M.slices_IndexFunc__int_L1 s f) (fun n i => ∃ k : Nat, i = k ∧ k ≤ s.length ∧ n = s.length - k ∧ (s.take k).any g = false)
    (fun b => (∃ i : Int, b = .done i ∧ 0 ≤ i ∧ s.any g = true) ∨ (b = .next () ∧ s.any g = false)) (fun n i h => by
      obtain ⟨k, rfl, hk, rfl, hn⟩ := h
      unfold M.slices_IndexFunc__int_L1
      by_cases hlt : k < s.length
      · simp only [show decide ((k : Int) < (s.length : Int)) = true from by simp; exact hlt, if_true, idx_get hlt, Option.bind_some, hf _ (List.getElem_mem hlt)]
        cases hg : g s[k] with
        | true =>
          right
          refine ⟨_, rfl, .inl ⟨_, rfl, by omega, ?_⟩⟩
          rw [List.any_eq_true]
          exact ⟨_, List.getElem_mem hlt, hg⟩
        | false =>
          left
          refine ⟨_, s.length - (k + 1), rfl, by omega, k + 1, ?_, by omega, rfl, ?_⟩
          · rw [w64_id (by omega) (by omega)]; omega
          · rw [List.take_succ_eq_append_getElem hlt, List.any_append, hn]; simp [hg]
      · have : k = s.length := by omega
        subst this
        right
        simp only [show decide ((s.length : Int) < (s.length : Int)) = false from by simp, Bool.false_eq_true, if_false]
        exact ⟨_, rfl, .inr ⟨rfl, by simpa using hn⟩⟩) s.length 0 ⟨0, rfl, by omega, by omega, by simp⟩
  unfold M.slices_ContainsFunc__int M.slices_IndexFunc__int
  obtain ⟨b, hb, ⟨i, rfl, h0, ha⟩ | ⟨rfl, ha⟩⟩ := key
  · rw [hb, ha]; simp [h0]
  · rw [hb, ha]; simp
theorem contains_int64 {s : List Int} {f : Int → Option Bool} {g : Int → Bool} (hf : ∀ x ∈ s, f x = some (g x)) (hl : s.length ≤ 9223372036854775807) : M.slices_ContainsFunc__int64 s f = some (s.any g) := by
  have key := wloop_ind (f := M.slices_IndexFunc__int64_L1 s f) (fun n i => ∃ k : Nat, i = k ∧ k ≤ s.length ∧ n = s.length - k ∧ (s.take k).any g = false)
    (fun b => (∃ i : Int, b = .done i ∧ 0 ≤ i ∧ s.any g = true) ∨ (b = .next () ∧ s.any g = false)) (fun n i h => by
      obtain ⟨k, rfl, hk, rfl, hn⟩ := h
      unfold M.slices_IndexFunc__int64_L1
      by_cases hlt : k < s.length
      · simp only [show decide ((k : Int) < (s.length : Int)) = true from by simp; exact hlt, if_true, idx_get hlt, Option.bind_some, hf _ (List.getElem_mem hlt)]
        cases hg : g s[k] with
        | true =>
          right
          refine ⟨_, rfl, .inl ⟨_, rfl, by omega, ?_⟩⟩
          rw [List.any_eq_true]
          exact ⟨_, List.getElem_mem hlt, hg⟩
        | false =>
          left
          refine ⟨_, s.length - (k + 1), rfl, by omega, k + 1, ?_, by omega, rfl, ?_⟩
          · rw [w64_id (by omega) (by omega)]; omega
          · rw [List.take_succ_eq_append_getElem hlt, List.any_append, hn]; simp [hg]
      · have : k = s.length := by omega
        subst this
        right
        simp only [show decide ((s.length : Int) < (s.length : Int)) = false from by simp, Bool.false_eq_true, if_false]
        exact ⟨_, rfl, .inr ⟨rfl, by simpa using hn⟩⟩) s.length 0 ⟨0, rfl, by omega, by omega, by simp⟩
  unfold M.slices_ContainsFunc__int64 M.slices_IndexFunc__int64
  obtain ⟨b, hb, ⟨i, rfl, h0, ha⟩ | ⟨rfl, ha⟩⟩ := key
  · rw [hb, ha]; simp [h0]
  · rw [hb, ha]; simp
def prod : List Int → Int
  | [] => 1
  | x :: s => x * prod s
def off : List Int → List Int → Int
  | x :: s, a :: at_ => a * prod s + off s at_
  | _, _ => 0
def dig : List Int → Int → List Int
  | [], _ => []
  | _ :: s, k => k / prod s :: dig s (k % prod s)
/-- is a place in a shape? -/
def inShape : List Int → List Int → Prop
  | [], [] => True
  | x :: s, a :: at_ => 0 ≤ a ∧ a < x ∧ inShape s at_
  | _, _ => False
instance : (s at_ : List Int) → Decidable (inShape s at_)
  | [], [] => isTrue trivial
  | x :: s, a :: at_ =>
    have := instDecidableInShape s at_
    by unfold inShape; exact inferInstance
  | [], _ :: _ => isFalse (fun h => h)
  | _ :: _, [] => isFalse (fun h => h)
theorem inShape.len : ∀ {s at_ : List Int}, inShape s at_ → at_.length = s.length
  | [], [], _ => rfl
  | x :: s, a :: at_, ⟨_, _, h⟩ => by simp [h.len]
  | [], _ :: _, h => h.elim
  | _ :: _, [], h => h.elim
theorem inShape.pos : ∀ {s at_ : List Int}, inShape s at_ → 0 < prod s
  | [], [], _ => by simp [prod]
  | x :: s, a :: at_, ⟨h0, h1, h⟩ => by
    have := h.pos
    exact Int.mul_pos (by omega) this
  | [], _ :: _, h => h.elim
  | _ :: _, [], h => h.elim
theorem off_range : ∀ {s at_ : List Int}, inShape s at_ → 0 ≤ off s at_ ∧ off s at_ < prod s
  | [], [], _ => by simp [prod, off]
  | x :: s, a :: at_, ⟨h0, h1, h⟩ => by
    have h2 := off_range h
    have h3 := h.pos
    have h4 : (a + 1) * prod s ≤ x * prod s := Int.mul_le_mul_of_nonneg_right (by omega) (by omega)
    have h5 : 0 ≤ a * prod s := Int.mul_nonneg h0 (by omega)
    rw [Int.add_mul] at h4
    simp only [prod, off]
    omega
  | [], _ :: _, h => h.elim
  | _ :: _, [], h => h.elim
theorem dig_off : ∀ {s at_ : List Int}, inShape s at_ → dig s (off s at_) = at_
  | [], [], _ => rfl
  | x :: s, a :: at_, ⟨h0, h1, h⟩ => by
    have h2 := off_range h
    have h3 := h.pos
    simp only [dig, off]
    rw [Int.add_comm, Int.mul_comm, Int.add_mul_ediv_left _ _ (by omega), Int.add_mul_emod_self_left, Int.emod_eq_of_lt h2.1 h2.2, dig_off h, Int.ediv_eq_zero_of_lt h2.1 h2.2]
    simp
  | [], _ :: _, h => h.elim
  | _ :: _, [], h => h.elim
def allPos (s : List Int) : Prop := ∀ x ∈ s, 0 < x
theorem allPos.pprod : ∀ {s : List Int}, allPos s → 0 < prod s
  | [], _ => by simp [prod]
  | x :: s, h => Int.mul_pos (h x List.mem_cons_self) (allPos.pprod fun y hy => h y (List.mem_cons_of_mem _ hy))
theorem allPos_of {s : List Int} (h : ∀ x ∈ s, 0 ≤ x) (hp : 0 < prod s) : allPos s := by
  intro x hx
  have h0 := h x hx
  rcases Int.lt_or_eq_of_le h0 with h1 | h1
  · exact h1
  · exfalso
    have : ∀ s : List Int, (0 : Int) ∈ s → prod s = 0 := by
      intro s
      induction s with
      | nil => intro h; simp at h
      | cons y s ih =>
        intro h
        rcases List.mem_cons.mp h with h | h
        · simp [prod, ← h]
        · simp [prod, ih h]
    rw [this s (h1 ▸ hx)] at hp
    omega
theorem dig_in : ∀ {s : List Int} {k : Int}, allPos s → 0 ≤ k → k < prod s → inShape s (dig s k)
  | [], k, _, h0, h1 => trivial
  | x :: s, k, h, h0, h1 => by
    have hs : allPos s := fun y hy => h y (List.mem_cons_of_mem _ hy)
    have hp := hs.pprod
    refine ⟨Int.ediv_nonneg h0 (by omega), ?_, dig_in hs (Int.emod_nonneg _ (by omega)) (Int.emod_lt_of_pos _ hp)⟩
    exact Int.ediv_lt_of_lt_mul hp h1
theorem off_dig : ∀ {s : List Int} {k : Int}, allPos s → 0 ≤ k → k < prod s → off s (dig s k) = k
  | [], k, _, h0, h1 => by simp [prod] at h1; simp [dig, off]; omega
  | x :: s, k, h, h0, h1 => by
    have hs : allPos s := fun y hy => h y (List.mem_cons_of_mem _ hy)
    have hp := hs.pprod
    simp only [dig, off]
    rw [off_dig hs (Int.emod_nonneg _ (by omega)) (Int.emod_lt_of_pos _ hp)]
    rw [Int.mul_comm]; exact Int.mul_ediv_add_emod k (prod s)
theorem dig_len : ∀ (s : List Int) (k : Int), (dig s k).length = s.length
  | [], _ => rfl
  | x :: s, k => by simp [dig, dig_len s]
theorem prod_nonneg : ∀ {s : List Int}, (∀ x ∈ s, 0 ≤ x) → 0 ≤ prod s
  | [], _ => by simp [prod]
  | x :: s, h => Int.mul_nonneg (h x List.mem_cons_self) (prod_nonneg fun y hy => h y (List.mem_cons_of_mem _ hy))
theorem prod_append : ∀ (s t : List Int), prod (s ++ t) = prod s * prod t
  | [], t => by simp [prod]
  | x :: s, t => by simp [prod, prod_append s t, Int.mul_assoc]

/-- the size of a shape, or the error. -/
def shSize (s : List Int) : Int × Int :=
  if 4 < s.length then (0, 24) else if s.any (fun x => decide (x < 0)) then (0, 1) else if s.any (fun x => decide (x > 10000)) || decide (prod s > 10000) then (0, 27) else (prod s, 0)
def shOk (s : List Int) : Prop := s.length ≤ 4 ∧ (∀ x ∈ s, 0 ≤ x ∧ x ≤ 10000) ∧ prod s ≤ 10000
instance (s : List Int) : Decidable (shOk s) := by unfold shOk; exact inferInstance
theorem shSize_ok {s : List Int} (h : shOk s) : shSize s = (prod s, 0) := by
  obtain ⟨h1, h2, h3⟩ := h
  unfold shSize
  rw [if_neg (by omega), if_neg, if_neg]
  · simp only [Bool.or_eq_true, List.any_eq_true, decide_eq_true_eq]
    rintro (⟨x, hx, h⟩ | h)
    · have := h2 x hx; omega
    · omega
  · simp only [List.any_eq_true, decide_eq_true_eq]
    rintro ⟨x, hx, h⟩
    have := h2 x hx; omega
theorem shSize_zero {s : List Int} : (shSize s).2 = 0 ↔ shOk s := by
  constructor
  · intro h
    unfold shSize at h
    split at h
    · cases h
    · rename_i h1
      split at h
      · cases h
      · rename_i h2
        split at h
        · cases h
        · rename_i h3
          simp only [List.any_eq_true, decide_eq_true_eq, not_exists, not_and] at h2
          simp only [Bool.or_eq_true, List.any_eq_true, decide_eq_true_eq, not_or, not_exists, not_and] at h3
          exact ⟨by omega, fun x hx => ⟨by have := h2 x hx; omega, by have := h3.1 x hx; omega⟩, by omega⟩
  · intro h; rw [shSize_ok h]
theorem shSize_cases (s : List Int) : (shOk s ∧ shSize s = (prod s, 0)) ∨ (¬ shOk s ∧ (shSize s).2 ≠ 0 ∧ (shSize s).1 = 0) := by
  by_cases h : shOk s
  · exact .inl ⟨h, shSize_ok h⟩
  · refine .inr ⟨h, fun hh => h (shSize_zero.mp hh), ?_⟩
    unfold shSize
    split
    · rfl
    · rename_i h1
      split
      · rfl
      · rename_i h2
        split
        · rfl
        · rename_i h3
          exfalso; apply h
          simp only [List.any_eq_true, decide_eq_true_eq, not_exists, not_and] at h2
          simp only [Bool.or_eq_true, List.any_eq_true, decide_eq_true_eq, not_or, not_exists, not_and] at h3
          exact ⟨by omega, fun x hx => ⟨by have := h2 x hx; omega, by have := h3.1 x hx; omega⟩, by omega⟩
theorem dig_bound {s : List Int} {k : Int} (hok : shOk s) (h0 : 0 ≤ k) (h1 : k < prod s) : ∀ x ∈ dig s k, 0 ≤ x ∧ x ≤ 10000 := by
  have hpos : allPos s := allPos_of (fun x hx => (hok.2.1 x hx).1) (by omega)
  have key : ∀ (s at_ : List Int), inShape s at_ → (∀ x ∈ s, 0 ≤ x ∧ x ≤ 10000) → ∀ x ∈ at_, 0 ≤ x ∧ x ≤ 10000 := by
    intro s
    induction s with
    | nil => intro at_ h _ x hx; cases at_ with | nil => simp at hx | cons _ _ => exact h.elim
    | cons y s ih =>
      intro at_ h hb x hx
      cases at_ with
      | nil => exact h.elim
      | cons a at_ =>
        obtain ⟨h1, h2, h3⟩ := h
        rcases List.mem_cons.mp hx with rfl | hx
        · have := hb y List.mem_cons_self; omega
        · exact ih at_ h3 (fun z hz => hb z (List.mem_cons_of_mem _ hz)) x hx
  exact key s _ (dig_in hpos h0 h1) hok.2.1
theorem dig_zero : ∀ {s : List Int}, allPos s → dig s 0 = List.replicate s.length 0
  | [], _ => rfl
  | x :: s, h => by
    have hs : allPos s := fun y hy => h y (List.mem_cons_of_mem _ hy)
    simp only [dig, Int.zero_ediv, Int.zero_emod, dig_zero hs]; rfl

theorem one_le_pow : ∀ k : Nat, (1 : Int) ≤ 10000 ^ k
  | 0 => by simp
  | k + 1 => by rw [Int.pow_succ]; have := one_le_pow k; omega
theorem prod_bound : ∀ (s : List Int) (k : Nat), s.length ≤ k → (∀ x ∈ s, 0 ≤ x ∧ x ≤ 10000) → 0 ≤ prod s ∧ prod s ≤ 10000 ^ k
  | [], k, _, _ => ⟨by simp [prod], one_le_pow k⟩
  | x :: s, k + 1, hl, h => by
    have h1 := h x List.mem_cons_self
    have h2 := prod_bound s k (by simpa using hl) (fun y hy => h y (List.mem_cons_of_mem _ hy))
    refine ⟨Int.mul_nonneg h1.1 h2.1, ?_⟩
    simp only [prod]
    have h3 : x * prod s ≤ 10000 * prod s := Int.mul_le_mul_of_nonneg_right h1.2 h2.1
    have h4 : (10000 : Int) ^ (k + 1) = 10000 ^ k * 10000 := Int.pow_succ _ _
    omega
  | x :: s, 0, hl, h => by simp at hl

theorem product_eq {s : List Int} (hl : s.length ≤ 4) (hb : ∀ x ∈ s, 0 ≤ x ∧ x ≤ 10000) : M.shape_product s = some (prod s) := by
  have key := wloop_ind (f := M.shape_product_L1 s) (fun n st => ∃ k : Nat, st = (prod (s.take k), (k : Int)) ∧ k ≤ s.length ∧ n = s.length - k)
    (fun b => b = .next (prod s)) (fun n st h => by
      obtain ⟨k, rfl, hk, rfl⟩ := h
      unfold M.shape_product_L1
      by_cases hlt : k < s.length
      · left
        simp only [show decide ((k : Int) < (s.length : Int)) = true from by simp; exact hlt, if_true, idx_get hlt, Option.bind_some]
        have e : prod (s.take k) * s[k] = prod (s.take (k + 1)) := by
          rw [List.take_succ_eq_append_getElem hlt, prod_append]; simp [prod]
        have hp := prod_bound (s.take (k + 1)) 4 (by rw [List.length_take]; omega) (fun x hx => hb x (List.mem_of_mem_take hx))
        refine ⟨_, s.length - (k + 1), rfl, by omega, k + 1, ?_, by omega, rfl⟩
        rw [e, w64_id (by omega) (by omega), w64_id (by omega) (by omega)]
        simp
      · have : k = s.length := by omega
        subst this
        right
        simp)
    s.length (1, 0) ⟨0, by simp [prod], by omega, by omega⟩
  obtain ⟨b, hb, rfl⟩ := key
  unfold M.shape_product
  rw [hb]; rfl

theorem shape_Size_eq {s : List Int} (hl : s.length ≤ maxLen) : M.shape_Size s = some (shSize s) := by
  have hm : maxLen = 9223372036854775807 := rfl
  unfold M.shape_Size shSize
  by_cases h4 : 4 < s.length
  · rw [if_pos h4, if_pos (by simp; omega)]
  · rw [if_neg h4, if_neg (by simp; omega)]
    rw [contains_int (s := s) (f := fun x0 => M.shape_Size_1 x0) (g := fun x => decide (x < 0)) (fun x _ => rfl) (by omega), Option.bind_some]
    cases hneg : s.any (fun x => decide (x < 0)) with
    | true => simp
    | false =>
      simp only [Bool.false_eq_true, if_false]
      rw [contains_int (s := s) (f := fun x0 => M.shape_Size_2 x0) (g := fun x => decide (x > 10000)) (fun x _ => rfl) (by omega), Option.bind_some]
      cases hbig : s.any (fun x => decide (x > 10000)) with
      | true => simp
      | false =>
        have hb : ∀ x ∈ s, 0 ≤ x ∧ x ≤ 10000 := by
          intro x hx
          simp only [List.any_eq_false, decide_eq_true_eq] at hneg hbig
          have := hneg x hx; have := hbig x hx; omega
        simp only [Bool.false_eq_true, if_false, product_eq (by omega) hb, Option.bind_some, Bool.false_or]
        split <;> simp_all
theorem sized_eq {s : List Int} (hl : s.length ≤ maxLen) : M.shape_sized s = some ((shSize s).2 == 0) := by
  unfold M.shape_sized; rw [shape_Size_eq hl]; rfl
/-- is a number a character? -/
def chOk (c : Int) : Bool := decide (0 ≤ c ∧ c ≤ 1114111) && !decide (55296 ≤ c ∧ c ≤ 57343)
/-- may an array be? -/
def vRight (v : Val) : Bool := decide (shOk v.Shape) && decide (prod v.Shape = v.Data.length) && (!v.Char || v.Data.all chOk)
def vSame (a b : Val) : Bool := (a.Char == b.Char) && decide (a.Shape = b.Shape) && decide (a.Data = b.Data)
theorem vSame_iff {a b : Val} : vSame a b = true ↔ a = b := by
  obtain ⟨c, s, d⟩ := a
  obtain ⟨c', s', d'⟩ := b
  simp only [vSame, Bool.and_eq_true, beq_iff_eq, decide_eq_true_eq, Val.mk.injEq]
  constructor
  · rintro ⟨⟨h1, h2⟩, h3⟩; exact ⟨h1, h2, h3⟩
  · rintro ⟨h1, h2, h3⟩; exact ⟨⟨h1, h2⟩, h3⟩
theorem vSame_refl (a : Val) : vSame a a = true := vSame_iff.mpr rfl
theorem vSame_eq (a b : Val) : vSame a b = true ∧ a = b ∨ vSame a b = false ∧ a ≠ b := by
  cases h : vSame a b with
  | true => exact .inl ⟨rfl, vSame_iff.mp h⟩
  | false => exact .inr ⟨rfl, fun hh => by rw [vSame_iff.mpr hh] at h; cases h⟩
theorem vRight_iff {v : Val} : vRight v = true ↔ shOk v.Shape ∧ prod v.Shape = v.Data.length ∧ (v.Char = true → ∀ c ∈ v.Data, chOk c = true) := by
  simp only [vRight, Bool.and_eq_true, decide_eq_true_eq, Bool.or_eq_true, Bool.not_eq_true', List.all_eq_true]
  constructor
  · rintro ⟨⟨h1, h2⟩, h3⟩
    refine ⟨h1, h2, fun h => ?_⟩
    rcases h3 with h3 | h3
    · rw [h3] at h; cases h
    · exact h3
  · rintro ⟨h1, h2, h3⟩
    refine ⟨⟨h1, h2⟩, ?_⟩
    cases h : v.Char with
    | true => exact .inr (h3 h)
    | false => exact .inl rfl

theorem right_loop {f : Int × Int → Option (Ctl (Int × Int) (Ctl Int Bool))} {s : List Int} (h4 : s.length ≤ 4)
    (hf : ∀ k : Nat, ∀ h : k < s.length, ∀ z, f (z, (k : Int)) = if s[k] < 0 ∨ s[k] > 10000 then some (.done (.done false)) else some (.next (IntKind.i64.wrap (z * s[k]), (k : Int) + 1)))
    (he : ∀ z, f (z, (s.length : Int)) = some (.done (.next z))) :
    ((∀ x ∈ s, 0 ≤ x ∧ x ≤ 10000) ∧ wloop f (1, 0) = some (.next (prod s))) ∨ (¬ (∀ x ∈ s, 0 ≤ x ∧ x ≤ 10000) ∧ wloop f (1, 0) = some (.done false)) := by
  have key := wloop_ind (f := f) (fun n st => ∃ k : Nat, n = s.length - k ∧ k ≤ s.length ∧ st = (prod (s.take k), (k : Int)) ∧ ∀ x ∈ s.take k, 0 ≤ x ∧ x ≤ 10000)
    (fun b => (b = .next (prod s) ∧ ∀ x ∈ s, 0 ≤ x ∧ x ≤ 10000) ∨ (b = .done false ∧ ¬ ∀ x ∈ s, 0 ≤ x ∧ x ≤ 10000)) (fun n st h => by
      obtain ⟨k, rfl, hk, rfl, hall⟩ := h
      by_cases hlt : k < s.length
      · rw [hf k hlt]
        by_cases hb : s[k] < 0 ∨ s[k] > 10000
        · rw [if_pos hb]
          right
          refine ⟨_, rfl, .inr ⟨rfl, fun hh => ?_⟩⟩
          have := hh _ (List.getElem_mem hlt); omega
        · rw [if_neg hb]
          left
          have e := List.take_succ_eq_append_getElem hlt
          have hall2 : ∀ x ∈ s.take (k + 1), 0 ≤ x ∧ x ≤ 10000 := by
            intro x hx
            rw [e] at hx
            rcases List.mem_append.mp hx with hx | hx
            · exact hall x hx
            · rw [List.mem_singleton.mp hx]; omega
          have hp := prod_bound (s.take (k + 1)) 4 (by rw [List.length_take]; omega) hall2
          have e2 : prod (s.take (k + 1)) = prod (s.take k) * s[k] := by rw [e, prod_append]; simp [prod]
          refine ⟨_, s.length - (k + 1), rfl, by omega, k + 1, rfl, by omega, ?_, hall2⟩
          rw [← e2, w64_id (by omega) (by omega)]; simp
      · have : k = s.length := by omega
        subst this
        rw [he]
        rw [List.take_length] at hall ⊢
        exact .inr ⟨_, rfl, .inl ⟨rfl, hall⟩⟩)
    s.length (1, 0) ⟨0, by omega, by omega, by simp [prod], by simp⟩
  obtain ⟨b, hb, ⟨rfl, h⟩ | ⟨rfl, h⟩⟩ := key
  · exact .inl ⟨h, hb⟩
  · exact .inr ⟨h, hb⟩
theorem all_loop {f : Int → Option (Ctl Int (Ctl Unit Bool))} {l : List Int} {p : Int → Bool}
    (hf : ∀ k : Nat, ∀ h : k < l.length, f k = if p l[k] = true then some (.next ((k : Int) + 1)) else some (.done (.done false))) (he : f l.length = some (.done (.next ()))) :
    wloop f 0 = some (if l.all p = true then .next () else .done false) := by
  have key := wloop_ind (f := f) (fun n i => ∃ k : Nat, i = k ∧ k ≤ l.length ∧ n = l.length - k ∧ (l.take k).all p = true)
    (fun c => (c = .done false ∧ l.all p = false) ∨ (c = .next () ∧ l.all p = true)) (fun n i h => by
      obtain ⟨k, rfl, hk, rfl, hn⟩ := h
      by_cases hlt : k < l.length
      · rw [hf k hlt]
        by_cases hp : p l[k] = true
        · rw [if_pos hp]
          left
          refine ⟨_, l.length - (k + 1), rfl, by omega, k + 1, by omega, by omega, rfl, ?_⟩
          rw [List.take_succ_eq_append_getElem hlt, List.all_append, hn]; simp [hp]
        · rw [if_neg hp]
          right
          refine ⟨_, rfl, .inl ⟨rfl, ?_⟩⟩
          rw [List.all_eq_false]
          exact ⟨_, List.getElem_mem hlt, hp⟩
      · have : k = l.length := by omega
        subst this
        right
        rw [List.take_length] at hn
        exact ⟨_, he, .inr ⟨rfl, hn⟩⟩) l.length 0 ⟨0, rfl, by omega, by omega, by simp⟩
  obtain ⟨c, hc, ⟨rfl, h⟩ | ⟨rfl, h⟩⟩ := key
  · rw [hc, h]; simp
  · rw [hc, h]; simp
theorem w32_id {x : Int} (h1 : 0 ≤ x) (h2 : x ≤ 1114111) : IntKind.i32.wrap x = x := by
  have e : IntKind.i32.wrap x = if x % 4294967296 ≥ 2147483648 then x % 4294967296 - 4294967296 else x % 4294967296 := by
    simp [IntKind.wrap, IntKind.bits, IntKind.signed]
  rw [e]
  split <;> omega
theorem character_eq (c : Int) : M.value_character c = some (chOk c) := by
  unfold M.value_character chOk
  by_cases h : 0 ≤ c ∧ c ≤ 1114111
  · have e : (decide (c ≥ 0) && decide (c ≤ 1114111)) = true := by simp; omega
    simp only [e, if_true, h, and_self, decide_true, Bool.true_and]
    rw [w32_id h.1 h.2]
    unfold M.unicode_utf8_ValidRune
    by_cases h1 : c < 55296
    · have e1 : (decide (0 ≤ c) && decide (c < 55296)) = true := by simp; omega
      have e2 : decide (55296 ≤ c ∧ c ≤ 57343) = false := decide_eq_false (by omega)
      simp only [e1, e2, if_true, Option.bind_some, Bool.not_false]
    · have e1 : (decide (0 ≤ c) && decide (c < 55296)) = false := by simp; omega
      simp only [e1, Bool.false_eq_true, if_false]
      by_cases h2 : 57343 < c
      · have e3 : (decide (57343 < c) && decide (c ≤ 1114111)) = true := by simp; omega
        have e2 : decide (55296 ≤ c ∧ c ≤ 57343) = false := decide_eq_false (by omega)
        simp only [e3, e2, if_true, Option.bind_some, Bool.not_false]
      · have e3 : (decide (57343 < c) && decide (c ≤ 1114111)) = false := by simp; omega
        have e2 : decide (55296 ≤ c ∧ c ≤ 57343) = true := decide_eq_true (by omega)
        simp only [e3, e2, Bool.false_eq_true, if_false, Option.bind_some, Bool.not_true]
  · have e : (decide (c ≥ 0) && decide (c ≤ 1114111)) = false := by simp; omega
    simp only [e, Bool.false_eq_true, if_false, h, decide_false, Bool.false_and, Option.bind_some]
theorem value_Right_eq {v : Val} (hd : v.Data.length ≤ 9223372036854775807) : M.value_Right v = some (vRight v) := by
  unfold M.value_Right
  by_cases h4 : 4 < v.Shape.length
  · rw [if_pos (by simp; omega)]
    have : vRight v = false := by
      cases h : vRight v with
      | false => rfl
      | true => have := (vRight_iff.mp h).1.1; omega
    rw [this]
  · rw [if_neg (by simp; omega)]
    have hloop := right_loop (f := M.value_Right_L1 v) (s := v.Shape) (by omega) (fun k h z => by
      unfold M.value_Right_L1
      simp only [show decide ((k : Int) < (v.Shape.length : Int)) = true from decide_eq_true (by omega), if_true, idx_get h, Option.bind_some]
      by_cases hb : v.Shape[k] < 0 ∨ v.Shape[k] > 10000
      · rw [if_pos hb, if_pos (by simpa using hb)]
      · rw [if_neg hb, if_neg (by simpa using hb), w64_id (x := (k : Int) + 1) (by omega) (by omega)]) (fun z => by unfold M.value_Right_L1; simp)
    rcases hloop with ⟨hall, hw⟩ | ⟨hall, hw⟩
    · rw [hw]
      simp only [Option.bind_some, joinK_next]
      have hp0 : 0 ≤ prod v.Shape := prod_nonneg fun x hx => (hall x hx).1
      by_cases hsz : prod v.Shape ≤ 10000 ∧ prod v.Shape = v.Data.length
      · have e : (decide (prod v.Shape > 10000) || (prod v.Shape != (v.Data.length : Int))) = false := by simp; omega
        simp only [e, Bool.false_eq_true, if_false]
        have hok : shOk v.Shape := ⟨by omega, hall, hsz.1⟩
        have hv : vRight v = (!v.Char || v.Data.all chOk) := by unfold vRight; simp [hok, hsz.2]
        rw [hv]
        cases hc : v.Char with
        | false => simp
        | true =>
          simp only [Bool.not_true, Bool.false_eq_true, if_false, Bool.false_or]
          rw [contains_int64 (s := v.Data) (f := fun x0 => M.value_Right_1 x0) (g := fun x => !chOk x) (fun x _ => by unfold M.value_Right_1; rw [character_eq]; rfl) hd]
          simp only [Option.bind_some]
          congr 1
          rw [List.not_any_eq_all_not]; simp
      · have e : (decide (prod v.Shape > 10000) || (prod v.Shape != (v.Data.length : Int))) = true := by
          simp; omega
        simp only [e, if_true]
        have : vRight v = false := by
          cases h : vRight v with
          | false => rfl
          | true => have := vRight_iff.mp h; exact absurd ⟨this.1.2.2, this.2.1⟩ hsz
        rw [this]
    · rw [hw]
      have : vRight v = false := by
        cases h : vRight v with
        | false => rfl
        | true => exact absurd (vRight_iff.mp h).1.2.1 hall
      rw [this]; rfl
theorem ref02_Right_eq {v : Val} (hd : v.Data.length ≤ 9223372036854775807) : M.anamnesisref02_Right v = some (vRight v) := by
  unfold M.anamnesisref02_Right
  by_cases h4 : 4 < v.Shape.length
  · rw [if_pos (by simp; omega)]
    have : vRight v = false := by
      cases h : vRight v with
      | false => rfl
      | true => have := (vRight_iff.mp h).1.1; omega
    rw [this]
  · rw [if_neg (by simp; omega)]
    have hloop := right_loop (f := M.anamnesisref02_Right_L1 v) (s := v.Shape) (by omega) (fun k h z => by
      unfold M.anamnesisref02_Right_L1
      simp only [show decide ((k : Int) < (v.Shape.length : Int)) = true from decide_eq_true (by omega), if_true, idx_get h, Option.bind_some]
      by_cases h0 : v.Shape[k] < 0
      · simp only [show decide (v.Shape[k] < 0) = true from decide_eq_true h0, if_true, Option.bind_some]
        rw [if_pos (.inl h0)]
      · simp only [show decide (v.Shape[k] < 0) = false from decide_eq_false h0, Bool.false_eq_true, if_false, Option.bind_some]
        by_cases h1 : v.Shape[k] > 10000
        · rw [if_pos (by simpa using h1), if_pos (.inr h1)]
        · rw [if_neg (by simpa using h1), if_neg (by omega), w64_id (x := (k : Int) + 1) (by omega) (by omega)]) (fun z => by unfold M.anamnesisref02_Right_L1; simp)
    have hchars : wloop (M.anamnesisref02_Right_L2 v) 0 = some (if (!v.Char || v.Data.all chOk) = true then .next () else .done false) := by
      cases hc : v.Char with
      | false =>
        simp only [Bool.not_false, Bool.true_or, if_true]
        exact wloop_done (by unfold M.anamnesisref02_Right_L2; simp [hc])
      | true =>
        simp only [Bool.not_true, Bool.false_or]
        refine all_loop (fun k h => ?_) ?_
        · unfold M.anamnesisref02_Right_L2
          simp only [hc, Bool.and_true, show decide ((k : Int) < (v.Data.length : Int)) = true from decide_eq_true (by omega), if_true, idx_get h, Option.bind_some]
          by_cases hok : chOk v.Data[k] = true
          · have e : ((decide (v.Data[k] < 0) || decide (v.Data[k] > 1114111)) || (decide (v.Data[k] ≥ 55296) && decide (v.Data[k] ≤ 57343))) = false := by
              unfold chOk at hok
              simp at hok ⊢; omega
            rw [e, if_neg (by simp), if_pos hok, w64_id (by omega) (by omega)]
          · have e : ((decide (v.Data[k] < 0) || decide (v.Data[k] > 1114111)) || (decide (v.Data[k] ≥ 55296) && decide (v.Data[k] ≤ 57343))) = true := by
              unfold chOk at hok
              simp at hok ⊢; omega
            rw [e, if_pos rfl, if_neg hok]
        · unfold M.anamnesisref02_Right_L2; simp
    rcases hloop with ⟨hall, hw⟩ | ⟨hall, hw⟩
    · rw [hw, hchars]
      simp only [Option.bind_some, joinK_next]
      have hok : ∀ b : Bool, (decide (shOk v.Shape) && decide (prod v.Shape = v.Data.length) && b) = ((prod v.Shape == (v.Data.length : Int)) && decide (prod v.Shape ≤ 10000) && b) := by
        intro b
        have : decide (shOk v.Shape) = decide (prod v.Shape ≤ 10000) := by
          by_cases h : prod v.Shape ≤ 10000
          · rw [decide_eq_true h, decide_eq_true (show shOk v.Shape from ⟨by omega, hall, h⟩)]
          · rw [decide_eq_false h, decide_eq_false (fun hh : shOk v.Shape => h hh.2.2)]
        rw [this]
        have e2 : (prod v.Shape == (v.Data.length : Int)) = decide (prod v.Shape = v.Data.length) := rfl
        rw [e2]
        cases decide (prod v.Shape ≤ 10000) <;> cases decide (prod v.Shape = (v.Data.length : Int)) <;> rfl
      unfold vRight
      rw [hok]
      cases hcb : (!v.Char || v.Data.all chOk) with
      | true => simp
      | false => simp
    · rw [hw]
      have : vRight v = false := by
        cases h : vRight v with
        | false => rfl
        | true => exact absurd (vRight_iff.mp h).1.2.1 hall
      rw [this]; rfl
theorem ref02_Same_eq {a b : Val} (hs : a.Shape.length ≤ maxLen) (hd : a.Data.length ≤ maxLen) : M.anamnesisref02_Same a b = some (vSame a b) := by
  have hm : maxLen = 9223372036854775807 := rfl
  unfold M.anamnesisref02_Same
  by_cases hl : (a.Char = b.Char ∧ a.Shape.length = b.Shape.length) ∧ a.Data.length = b.Data.length
  · obtain ⟨⟨h1, h2⟩, h3⟩ := hl
    rw [if_neg (by simp [h1, h2, h3])]
    have l1 := same_loop (f := M.anamnesisref02_Same_L1 a b) h2 hs (fun k h => by
      unfold M.anamnesisref02_Same_L1
      simp only [show decide ((k : Int) < (a.Shape.length : Int)) = true from decide_eq_true (by omega), if_true, idx_get h, idx_get (show k < b.Shape.length by omega), Option.bind_some]
      by_cases he : a.Shape[k] = b.Shape[k]
      · rw [if_pos he, if_neg (by simp [he]), w64_id (by omega) (by omega)]
      · rw [if_neg he, if_pos (by simp [he])]) (by unfold M.anamnesisref02_Same_L1; simp)
    have l2 := same_loop (f := M.anamnesisref02_Same_L2 a b) h3 hd (fun k h => by
      unfold M.anamnesisref02_Same_L2
      simp only [show decide ((k : Int) < (a.Data.length : Int)) = true from decide_eq_true (by omega), if_true, idx_get h, idx_get (show k < b.Data.length by omega), Option.bind_some]
      by_cases he : a.Data[k] = b.Data[k]
      · rw [if_pos he, if_neg (by simp [he]), w64_id (by omega) (by omega)]
      · rw [if_neg he, if_pos (by simp [he])]) (by unfold M.anamnesisref02_Same_L2; simp)
    rw [l1, l2]
    unfold vSame
    simp only [h1, BEq.rfl, Bool.true_and]
    by_cases he : a.Shape = b.Shape
    · rw [if_pos he, decide_eq_true he]
      by_cases hd : a.Data = b.Data
      · rw [if_pos hd, decide_eq_true hd]; rfl
      · rw [if_neg hd, decide_eq_false hd]; rfl
    · rw [if_neg he, decide_eq_false he]; rfl
  · have e : ((!(a.Char == b.Char) || ((a.Shape.length : Int) != (b.Shape.length : Int))) || ((a.Data.length : Int) != (b.Data.length : Int))) = true := by
      cases hq : ((!(a.Char == b.Char) || ((a.Shape.length : Int) != (b.Shape.length : Int))) || ((a.Data.length : Int) != (b.Data.length : Int))) with
      | true => rfl
      | false =>
        exfalso; apply hl
        simp only [Bool.or_eq_false_iff, Bool.not_eq_false', beq_iff_eq, bne_eq_false_iff_eq] at hq
        obtain ⟨⟨q1, q2⟩, q3⟩ := hq
        exact ⟨⟨q1, by omega⟩, by omega⟩
    rw [if_pos e]
    have : vSame a b = false := by
      cases hq : vSame a b with
      | false => rfl
      | true => have := vSame_iff.mp hq; subst this; simp at hl
    rw [this]
theorem emod_mul_ediv {k x P : Int} (hx : 0 < x) (hP : 0 < P) : k % (x * P) / P = k / P % x := by
  have h1 := Int.mul_ediv_add_emod k P
  have h2 := Int.mul_ediv_add_emod (k / P) x
  have h3 := Int.emod_nonneg k (show P ≠ 0 by omega)
  have h4 := Int.emod_lt_of_pos k hP
  have h5 := Int.emod_nonneg (k / P) (show x ≠ 0 by omega)
  have h6 := Int.emod_lt_of_pos (k / P) hx
  have e : k % (x * P) = (k / P % x) * P + k % P := by
    have e0 : k = ((k / P % x) * P + k % P) + (x * P) * (k / P / x) := by
      generalize k / P % x = u at *
      generalize k / P / x = t at *
      generalize k / P = q at *
      generalize k % P = r at *
      grind
    have hlt : (k / P % x) * P + k % P < x * P := by
      have : (k / P % x + 1) * P ≤ x * P := Int.mul_le_mul_of_nonneg_right (by omega) (by omega)
      rw [Int.add_mul] at this; omega
    have h0 : 0 ≤ (k / P % x) * P := Int.mul_nonneg h5 (by omega)
    conv => lhs; rw [e0]
    rw [Int.add_mul_emod_self_left]
    exact Int.emod_eq_of_lt (by omega) hlt
  rw [e, Int.add_comm, Int.add_mul_ediv_right _ _ (by omega), Int.ediv_eq_zero_of_lt h3 h4]
  simp
theorem shape_At_eq {s : List Int} {k : Int} (hl : s.length ≤ maxLen) (hk : -9223372036854775808 ≤ k ∧ k ≤ 9223372036854775807) :
    M.shape_At s k = some (if shOk s ∧ 0 ≤ k ∧ k < prod s then (dig s k, true) else ([], false)) := by
  have hm : maxLen = 9223372036854775807 := rfl
  unfold M.shape_At
  rw [shape_Size_eq hl]
  simp only [Option.bind_some]
  rcases shSize_cases s with ⟨hok, he⟩ | ⟨hok, he, _⟩
  · rw [he]
    by_cases hk0 : 0 ≤ k ∧ k < prod s
    · rw [if_neg (by simp; omega), if_pos ⟨hok, hk0⟩]
      have hpos : allPos s := allPos_of (fun x hx => (hok.2.1 x hx).1) (by omega)
      rw [mk_ok (by have := hok.1; omega) (by have := hok.1; omega), Option.bind_some]
      have key := wloop_ind (f := M.shape_At_L1 s)
        (fun n st => ∃ j : Nat, n = j ∧ j ≤ s.length ∧ st = (k / prod (s.drop j), (j : Int) - 1, List.replicate j 0 ++ dig (s.drop j) (k % prod (s.drop j))))
        (fun b => b = .next (dig s k)) (fun n st h => by
          obtain ⟨j, rfl, hj, rfl⟩ := h
          unfold M.shape_At_L1
          cases n with
          | zero =>
            right
            simp only [List.drop_zero, List.replicate_zero, List.nil_append]
            refine ⟨_, ?_, rfl⟩
            simp [Int.emod_eq_of_lt hk0.1 hk0.2]
          | succ j =>
            left
            have hlt : j < s.length := by omega
            have hjj : ((j + 1 : Nat) : Int) - 1 = (j : Int) := by omega
            have hP : 0 < prod (s.drop (j + 1)) := allPos.pprod (fun x hx => hpos x (List.mem_of_mem_drop hx))
            have hx : 0 < s[j] := hpos _ (List.getElem_mem hlt)
            have hq : 0 ≤ k / prod (s.drop (j + 1)) := Int.ediv_nonneg hk0.1 (by omega)
            have hq2 : k / prod (s.drop (j + 1)) ≤ k := Int.ediv_le_self _ hk0.1
            have hlen : j < (List.replicate (j + 1) (0 : Int) ++ dig (s.drop (j + 1)) (k % prod (s.drop (j + 1)))).length := by simp; omega
            have hprod : prod (s.drop j) = s[j] * prod (s.drop (j + 1)) := by rw [drop_cons hlt]; rfl
            rw [hjj]
            simp only [show decide ((j : Int) ≥ 0) = true from decide_eq_true (by omega), if_true, idx_get hlt, idx_get hlen, upd_nat hlen, Option.bind_some]
            have e1 : remI (k / prod (s.drop (j + 1))) s[j] = some ((k / prod (s.drop (j + 1))) % s[j]) := by
              unfold remI; rw [if_neg (by omega), Int.tmod_eq_emod_of_nonneg hq]
            have e2 : quoI .i64 (k / prod (s.drop (j + 1))) s[j] = some ((k / prod (s.drop (j + 1))) / s[j]) := by
              have h3 : (k / prod (s.drop (j + 1))) / s[j] ≤ k / prod (s.drop (j + 1)) := Int.ediv_le_self _ hq
              have h4 : 0 ≤ (k / prod (s.drop (j + 1))) / s[j] := Int.ediv_nonneg hq (by omega)
              unfold quoI; rw [if_neg (by omega), Int.tdiv_eq_ediv_of_nonneg hq, w64_id (by omega) (by omega)]
            rw [e1, e2]
            simp only [Option.bind_some]
            refine ⟨_, j, rfl, by omega, j, rfl, by omega, ?_⟩
            rw [w64_id (by omega) (by omega), hprod]
            refine Prod.ext ?_ (Prod.ext rfl ?_)
            · simp only
              rw [Int.ediv_ediv_of_nonneg (by omega), Int.mul_comm]
            · simp only
              rw [List.set_append_left _ _ (by simp), List.replicate_succ', List.set_append_right _ _ (by simp), List.length_replicate, Nat.sub_self]
              simp only [List.set_cons_zero, List.append_assoc, List.singleton_append]
              congr 1
              rw [drop_cons hlt]
              simp only [dig]
              have e3 : k % (s[j] * prod (s.drop (j + 1))) / prod (s.drop (j + 1)) = k / prod (s.drop (j + 1)) % s[j] := by
                exact emod_mul_ediv hx hP
              have e4 : k % (s[j] * prod (s.drop (j + 1))) % prod (s.drop (j + 1)) = k % prod (s.drop (j + 1)) := Int.emod_emod_of_dvd _ ⟨s[j], Int.mul_comm _ _⟩
              rw [e3, e4])
        s.length (k, (s.length : Int) - 1, List.replicate s.length 0) ⟨s.length, rfl, by omega, by simp [prod, dig]⟩
      obtain ⟨b, hb, rfl⟩ := key
      rw [w64_id (by have := hok.1; omega) (by have := hok.1; omega), hb]; rfl
    · rw [if_pos (by simp; omega), if_neg (fun h => hk0 h.2)]
  · have : ((shSize s).2 != 0) = true := by simpa using he
    rw [if_pos (by rw [this]; rfl), if_neg (fun h => hok h.1)]
/-- by Horner. -/
def hor : List Int → List Int → Int → Int
  | x :: s, a :: at_, acc => hor s at_ (acc * x + a)
  | _, _, acc => acc
theorem hor_eq : ∀ {s at_ : List Int}, at_.length = s.length → ∀ acc, hor s at_ acc = acc * prod s + off s at_
  | [], [], _, acc => by simp [hor, prod, off]
  | x :: s, a :: at_, h, acc => by
    simp only [hor, prod, off]
    rw [hor_eq (by simpa using h), Int.add_mul, Int.mul_assoc, Int.add_assoc]
  | [], _ :: _, h, _ => by simp at h
  | _ :: _, [], h, _ => by simp at h
theorem hor_snoc : ∀ {s at_ : List Int} {x a acc : Int}, at_.length = s.length → hor (s ++ [x]) (at_ ++ [a]) acc = hor s at_ acc * x + a
  | [], [], x, a, acc, _ => by simp [hor]
  | y :: s, b :: at_, x, a, acc, h => by
    simp only [List.cons_append, hor]
    exact hor_snoc (by simpa using h)
  | [], _ :: _, _, _, _, h => by simp at h
  | _ :: _, [], _, _, _, h => by simp at h
theorem inShape_snoc : ∀ {s at_ : List Int} {x a : Int}, at_.length = s.length → (inShape (s ++ [x]) (at_ ++ [a]) ↔ inShape s at_ ∧ 0 ≤ a ∧ a < x)
  | [], [], x, a, _ => by simp [inShape]
  | y :: s, b :: at_, x, a, h => by
    simp only [List.cons_append, inShape]
    rw [inShape_snoc (by simpa using h)]
    constructor
    · rintro ⟨h1, h2, h3, h4, h5⟩; exact ⟨⟨h1, h2, h3⟩, h4, h5⟩
    · rintro ⟨⟨h1, h2, h3⟩, h4, h5⟩; exact ⟨h1, h2, h3, h4, h5⟩
  | [], _ :: _, _, _, h => by simp at h
  | _ :: _, [], _, _, h => by simp at h
theorem inShape_take {s at_ : List Int} (h : inShape s at_) : ∀ k, inShape (s.take k) (at_.take k) := by
  intro k
  induction k generalizing s at_ with
  | zero => simp [inShape]
  | succ k ih =>
    match s, at_, h with
    | [], [], _ => simp [inShape]
    | x :: s, a :: at_, ⟨h1, h2, h3⟩ => exact ⟨h1, h2, ih h3⟩
theorem prod_le_take {s : List Int} (h : shOk s) (k : Nat) : 0 ≤ prod (s.take k) ∧ prod (s.take k) ≤ 10000 ^ 4 :=
  prod_bound (s.take k) 4 (by have := h.1; rw [List.length_take]; omega) (fun x hx => h.2.1 x (List.mem_of_mem_take hx))

theorem shape_Offset_eq {s at_ : List Int} (hl : s.length ≤ maxLen) (hl' : at_.length ≤ maxLen) :
    M.shape_Offset s at_ = some (if shOk s ∧ inShape s at_ then (off s at_, true) else (0, false)) := by
  have hm : maxLen = 9223372036854775807 := rfl
  unfold M.shape_Offset
  by_cases hlen : at_.length = s.length
  · rw [if_neg (by simp [hlen]), sized_eq hl]
    simp only [Option.bind_some]
    rcases shSize_cases s with ⟨hok, he⟩ | ⟨hok, he, _⟩
    · rw [he]
      simp only [beq_self_eq_true, Bool.not_true, Bool.false_eq_true, if_false]
      have key := wloop_ind (f := M.shape_Offset_L1 s at_)
        (fun n st => ∃ k : Nat, st = (hor (s.take k) (at_.take k) 0, (k : Int)) ∧ k ≤ s.length ∧ n = s.length - k ∧ inShape (s.take k) (at_.take k))
        (fun b => (b = .done (0, false) ∧ ¬ inShape s at_) ∨ (b = .next (off s at_) ∧ inShape s at_)) (fun n st h => by
          obtain ⟨k, rfl, hk, rfl, hin⟩ := h
          unfold M.shape_Offset_L1
          by_cases hlt : k < s.length
          · have hlt' : k < at_.length := by omega
            have e1 := List.take_succ_eq_append_getElem hlt
            have e2 := List.take_succ_eq_append_getElem hlt'
            have hlk : (at_.take k).length = (s.take k).length := by simp [hlen]
            simp only [show decide ((k : Int) < (at_.length : Int)) = true from by simp; exact hlt', if_true, idx_get hlt, idx_get hlt', Option.bind_some]
            have hx := hok.2.1 _ (List.getElem_mem hlt)
            by_cases h0 : at_[k] < 0
            · right
              simp only [show decide (at_[k] < 0) = true from by simpa using h0, if_true, Option.bind_some]
              refine ⟨_, rfl, .inl ⟨rfl, fun hh => ?_⟩⟩
              have := inShape_take hh (k + 1)
              rw [e1, e2, inShape_snoc hlk] at this
              omega
            · simp only [show decide (at_[k] < 0) = false from by simpa using h0, Bool.false_eq_true, if_false, Option.bind_some]
              by_cases h1 : at_[k] ≥ s[k]
              · right
                simp only [show decide (at_[k] ≥ s[k]) = true from by simpa using h1, if_true]
                refine ⟨_, rfl, .inl ⟨rfl, fun hh => ?_⟩⟩
                have := inShape_take hh (k + 1)
                rw [e1, e2, inShape_snoc hlk] at this
                omega
              · left
                simp only [show decide (at_[k] ≥ s[k]) = false from by simpa using h1, Bool.false_eq_true, if_false]
                have hin2 : inShape (s.take (k + 1)) (at_.take (k + 1)) := by rw [e1, e2, inShape_snoc hlk]; exact ⟨hin, by omega, by omega⟩
                have r1 := off_range hin
                have p1 := prod_bound (s.take k) 3 (by have := hok.1; rw [List.length_take]; omega) (fun x hx => hok.2.1 x (List.mem_of_mem_take hx))
                have h6 : hor (s.take k) (at_.take k) 0 * s[k] ≤ 10000 ^ 3 * 10000 := by
                  rw [hor_eq hlk]
                  exact Int.mul_le_mul (by omega) (by omega) (by omega) (by omega)
                have h7 : 0 ≤ hor (s.take k) (at_.take k) 0 * s[k] := by
                  rw [hor_eq hlk]
                  exact Int.mul_nonneg (by omega) (by omega)
                refine ⟨_, s.length - (k + 1), rfl, by omega, k + 1, ?_, by omega, rfl, hin2⟩
                rw [e1, e2, hor_snoc hlk, w64_id (x := _ * _) (by omega) (by omega), w64_id (by omega) (by omega), w64_id (by omega) (by omega)]
                simp
          · have : k = s.length := by omega
            subst this
            right
            have e3 : at_.take s.length = at_ := by rw [← hlen]; exact List.take_length
            rw [List.take_length, e3] at hin ⊢
            simp only [show decide ((s.length : Int) < (at_.length : Int)) = false from by simp [hlen], Bool.false_eq_true, if_false]
            refine ⟨_, rfl, .inr ⟨?_, hin⟩⟩
            rw [hor_eq hlen]; simp)
        s.length (0, 0) ⟨0, by simp [hor], by omega, by omega, by simp [inShape]⟩
      obtain ⟨b, hb, ⟨rfl, h⟩ | ⟨rfl, h⟩⟩ := key
      · rw [hb, if_neg (fun hh => h hh.2)]; rfl
      · rw [hb, if_pos ⟨hok, h⟩]; rfl
    · have : ((shSize s).2 == 0) = false := by simpa using he
      rw [this, if_pos (by rfl), if_neg (fun hh => hok hh.1)]
  · rw [if_pos (by simp; omega), if_neg (fun hh => hlen hh.2.len)]
    simp
theorem ref07_Size_eq {s : List Int} (hl : s.length ≤ 9223372036854775807) : M.anamnesisref07_Size s = some (if shOk s then prod s else -1) := by
  unfold M.anamnesisref07_Size
  by_cases h4 : s.length > 4
  · rw [if_pos (by simp; omega), if_neg (fun h => by have := h.1; omega)]
  · rw [if_neg (by simp; omega)]
    have key := wloop_ind (f := M.anamnesisref07_Size_L1 s) (fun n st => ∃ k : Nat, st = (prod (s.take k), (k : Int)) ∧ k ≤ s.length ∧ n = s.length - k ∧ ∀ x ∈ s.take k, 0 ≤ x ∧ x ≤ 10000)
      (fun b => (b = .next (prod s) ∧ ∀ x ∈ s, 0 ≤ x ∧ x ≤ 10000) ∨ (b = .done (-1) ∧ ¬ ∀ x ∈ s, 0 ≤ x ∧ x ≤ 10000)) (fun n st h => by
        obtain ⟨k, rfl, hk, rfl, hb⟩ := h
        unfold M.anamnesisref07_Size_L1
        by_cases hlt : k < s.length
        · simp only [show decide ((k : Int) < (s.length : Int)) = true from by simp; exact hlt, if_true, idx_get hlt, Option.bind_some]
          have e : (if decide (s[k] < 0) = true then some true else some (decide (s[k] > 10000))) = some (decide (s[k] < 0 ∨ s[k] > 10000)) := by
            by_cases h : s[k] < 0
            · rw [if_pos (by simpa using h), decide_eq_true (.inl h)]
            · rw [if_neg (by simpa using h)]; simp [h]
          rw [e]
          simp only [Option.bind_some]
          by_cases hbad : s[k] < 0 ∨ s[k] > 10000
          · right
            rw [if_pos (by simpa using hbad)]
            refine ⟨_, rfl, .inr ⟨rfl, fun h => ?_⟩⟩
            have := h _ (List.getElem_mem hlt)
            omega
          · left
            rw [if_neg (by simpa using hbad)]
            have e : prod (s.take k) * s[k] = prod (s.take (k + 1)) := by
              rw [List.take_succ_eq_append_getElem hlt, prod_append]; simp [prod]
            have hb' : ∀ x ∈ s.take (k + 1), 0 ≤ x ∧ x ≤ 10000 := by
              intro x hx
              rw [List.take_succ_eq_append_getElem hlt] at hx
              rcases List.mem_append.mp hx with hx | hx
              · exact hb x hx
              · obtain rfl := List.mem_singleton.mp hx; omega
            have hp := prod_bound (s.take (k + 1)) 4 (by rw [List.length_take]; omega) hb'
            refine ⟨_, s.length - (k + 1), rfl, by omega, k + 1, ?_, by omega, rfl, hb'⟩
            rw [e, w64_id (by omega) (by omega), w64_id (by omega) (by omega)]
            simp
        · have : k = s.length := by omega
          subst this
          right
          rw [List.take_length] at hb ⊢
          exact ⟨_, by simp, .inl ⟨rfl, hb⟩⟩)
      s.length (1, 0) ⟨0, by simp [prod], by omega, by omega, by simp⟩
    obtain ⟨b, hb, ⟨rfl, h⟩ | ⟨rfl, h⟩⟩ := key
    · rw [hb]
      simp only [Option.bind_some, joinK_next]
      by_cases hp : prod s > 10000
      · rw [if_pos (by simpa using hp), if_neg (fun h => by have := h.2.2; omega)]
      · rw [if_neg (by simpa using hp), if_pos ⟨by omega, h, by omega⟩]
    · rw [hb, if_neg (fun h' => h h'.2.1)]; rfl
theorem mod_split {k x P : Int} (hx : 0 < x) (hP : 0 < P) : k % (x * P) / P = k / P % x ∧ k % (x * P) % P = k % P := by
  have h1 : k % (x * P) % P = k % P := Int.emod_emod_of_dvd k ⟨x, Int.mul_comm x P⟩
  refine ⟨?_, h1⟩
  have e1 := Int.emod_add_mul_ediv k P
  have e2 := Int.emod_add_mul_ediv (k / P) x
  have r1 := Int.emod_nonneg k (show P ≠ 0 by omega)
  have r2 := Int.emod_lt_of_pos k hP
  have b1 := Int.emod_nonneg (k / P) (show x ≠ 0 by omega)
  have b2 := Int.emod_lt_of_pos (k / P) hx
  have e3 : k = k % P + P * (k / P % x) + x * P * (k / P / x) := by
    have : P * (k / P) = P * (k / P % x) + x * P * (k / P / x) := by
      rw [Int.mul_comm x P, Int.mul_assoc, ← Int.mul_add, e2]
    omega
  have lo : 0 ≤ P * (k / P % x) := Int.mul_nonneg (by omega) b1
  have hi : P * (k / P % x) + P ≤ x * P := by
    have := Int.mul_le_mul_of_nonneg_left (show k / P % x + 1 ≤ x by omega) (show 0 ≤ P by omega)
    rw [Int.mul_add, Int.mul_one, Int.mul_comm P x] at this
    exact this
  have e4 : k % (x * P) = k % P + P * (k / P % x) := by
    conv => lhs; rw [e3]
    rw [Int.add_mul_emod_self_left]
    exact Int.emod_eq_of_lt (by omega) (by omega)
  rw [e4, Int.add_mul_ediv_left _ _ (by omega), Int.ediv_eq_zero_of_lt r1 r2, Int.zero_add]
theorem ref07_At_eq {s : List Int} {k : Nat} (hs : shOk s) (hk : (k : Int) < prod s) : M.anamnesisref07_At s k = some (dig s k) := by
  have hpos : allPos s := allPos_of (fun x hx => (hs.2.1 x hx).1) (by omega)
  have h4 := hs.1
  have hp := hs.2.2
  unfold M.anamnesisref07_At
  rw [mk_ok (by omega) (by omega), w64_id (x := (s.length : Int) - 1) (by omega) (by omega)]
  simp only [Option.bind_some]
  obtain ⟨b, hb, rfl⟩ := wloop_ind (f := M.anamnesisref07_At_L1 s) (fun n st => ∃ j : Nat, j ≤ s.length ∧ n = j ∧ st = ((k : Int) / prod (s.drop j), (j : Int) - 1, List.replicate j 0 ++ dig (s.drop j) ((k : Int) % prod (s.drop j)))) (fun b => b = .next (dig s k)) (fun n st h => by
    obtain ⟨j, hj, rfl, rfl⟩ := h
    simp only [M.anamnesisref07_At_L1]
    cases n with
    | zero =>
      right
      rw [if_neg (by simp)]
      refine ⟨_, rfl, ?_⟩
      rw [List.drop_zero, Int.emod_eq_of_lt (by omega) hk]
      simp
    | succ i =>
      left
      have hi : i < s.length := by omega
      have hP : 0 < prod (s.drop (i + 1)) := allPos.pprod fun x hx => hpos x (List.mem_of_mem_drop hx)
      have hx := hpos _ (List.getElem_mem hi)
      have ed : s.drop i = s[i] :: s.drop (i + 1) := List.drop_eq_getElem_cons hi
      have ei : ((i + 1 : Nat) : Int) - 1 = (i : Int) := by omega
      generalize hPe : prod (s.drop (i + 1)) = P at *
      have q0 : 0 ≤ (k : Int) / P := Int.ediv_nonneg (by omega) (by omega)
      have q1 : (k : Int) / P ≤ k := Int.ediv_le_self _ (by omega)
      have q2 : 0 ≤ (k : Int) / P / s[i] := Int.ediv_nonneg q0 (by omega)
      have q3 : (k : Int) / P / s[i] ≤ (k : Int) / P := Int.ediv_le_self _ q0
      have hlen : (List.replicate (i + 1) (0 : Int) ++ dig (s.drop (i + 1)) ((k : Int) % P)).length = s.length := by
        rw [List.length_append, List.length_replicate, dig_len, List.length_drop]; omega
      rw [ei, if_pos (by simp), idx_get hi]
      simp only [Option.bind_some]
      have er : remI ((k : Int) / P) s[i] = some ((k : Int) / P % s[i]) := by
        unfold remI; rw [if_neg (by omega), Int.tmod_eq_emod_of_nonneg q0]
      have eq : quoI .i64 ((k : Int) / P) s[i] = some ((k : Int) / P / s[i]) := by
        unfold quoI; rw [if_neg (by omega), Int.tdiv_eq_ediv_of_nonneg q0, w64_id (by omega) (by omega)]
      rw [er, idx_get (by omega), eq]
      simp only [Option.bind_some]
      rw [upd_nat (by omega), w64_id (x := (i : Int) - 1) (by omega) (by omega)]
      simp only [Option.bind_some]
      refine ⟨_, i, rfl, by omega, i, by omega, rfl, ?_⟩
      have m := mod_split (k := (k : Int)) hx hP
      have eP : prod (s.drop i) = s[i] * P := by rw [ed]; simp [prod, hPe]
      have e1 : (k : Int) / prod (s.drop i) = (k : Int) / P / s[i] := by
        rw [eP, Int.mul_comm, Int.ediv_ediv_of_nonneg (by omega)]
      have e2 : dig (s.drop i) ((k : Int) % prod (s.drop i)) = ((k : Int) / P % s[i]) :: dig (s.drop (i + 1)) ((k : Int) % P) := by
        rw [eP, ed]
        show _ / prod (s.drop (i + 1)) :: dig _ (_ % prod (s.drop (i + 1))) = _
        rw [hPe, m.1, m.2]
      rw [e1, e2, List.set_append_left _ _ (by simp)]
      congr 2
      rw [List.replicate_succ', List.set_append_right _ _ (by simp)]
      simp) s.length ((k : Int), (s.length : Int) - 1, List.replicate s.length 0) ⟨s.length, by omega, rfl, by simp [prod, dig]⟩
  rw [hb]; rfl
theorem off_snoc : ∀ {a p : List Int} {x y : Int}, p.length = a.length → off (a ++ [x]) (p ++ [y]) = off a p * x + y
  | [], [], x, y, _ => by simp [off, prod]
  | a :: s, i :: p, x, y, h => by
    simp only [List.cons_append, off, prod_append]
    rw [off_snoc (by simpa using h)]
    simp [prod, Int.add_mul, Int.mul_assoc, Int.add_assoc]
theorem inShape_snoc2 : ∀ {a p : List Int} {x y : Int}, p.length = a.length → (inShape (a ++ [x]) (p ++ [y]) ↔ inShape a p ∧ 0 ≤ y ∧ y < x)
  | [], [], x, y, _ => by simp [inShape]
  | a :: s, i :: p, x, y, h => by
    simp only [List.cons_append, inShape]
    rw [inShape_snoc2 (by simpa using h)]
    constructor
    · rintro ⟨h1, h2, h3, h4, h5⟩; exact ⟨⟨h1, h2, h3⟩, h4, h5⟩
    · rintro ⟨⟨h1, h2, h3⟩, h4, h5⟩; exact ⟨h1, h2, h3, h4, h5⟩
theorem inShape_take2 : ∀ {a p : List Int} (n : Nat), inShape a p → inShape (a.take n) (p.take n)
  | [], [], n, _ => by simp [inShape]
  | a :: s, i :: p, 0, _ => by simp [inShape]
  | a :: s, i :: p, n + 1, ⟨h1, h2, h3⟩ => ⟨h1, h2, inShape_take2 n h3⟩
theorem prod_take_le {s : List Int} (hpos : allPos s) (n : Nat) : prod (s.take n) ≤ prod s := by
  have e : prod s = prod (s.take n) * prod (s.drop n) := by rw [← prod_append, List.take_append_drop]
  have h1 : 0 < prod (s.take n) := allPos.pprod fun x hx => hpos x (List.mem_of_mem_take hx)
  have h2 : 0 < prod (s.drop n) := allPos.pprod fun x hx => hpos x (List.mem_of_mem_drop hx)
  have := Int.mul_le_mul_of_nonneg_left (show 1 ≤ prod (s.drop n) by omega) (show 0 ≤ prod (s.take n) by omega)
  rw [Int.mul_one] at this
  omega
theorem ref07_Offset_eq {s p : List Int} (hs : shOk s) (hi : inShape s p) : M.anamnesisref07_Offset s p = some (off s p) := by
  have hpos : allPos s := allPos_of (fun x hx => (hs.2.1 x hx).1) (inShape.pos hi)
  have h4 := hs.1
  have hp := hs.2.2
  have hl := hi.len
  have bd : ∀ i, 0 ≤ off (s.take i) (p.take i) ∧ off (s.take i) (p.take i) < 10000 := fun i => by
    have := off_range (inShape_take2 i hi)
    have := prod_take_le hpos i
    omega
  unfold M.anamnesisref07_Offset
  rw [show wloop (M.anamnesisref07_Offset_L1 s p) (0, 0) = some (.next (off s p)) from by
    refine loop_fun (f := M.anamnesisref07_Offset_L1 s p) (fun k => (off (s.take k) (p.take k), (k : Int))) s.length (fun k hk => ?_) ?_
    · have hk2 : k < p.length := by omega
      simp only [M.anamnesisref07_Offset_L1]
      rw [if_pos (by simp; omega), idx_get hk, idx_get hk2]
      simp only [Option.bind_some]
      have b0 := bd k
      have b1 := bd (k + 1)
      have b2 := hs.2.1 _ (List.getElem_mem hk)
      have b3 := Int.mul_le_mul (show off (s.take k) (p.take k) ≤ 10000 by omega) b2.2 b2.1 (by omega)
      have b4 := Int.mul_nonneg b0.1 b2.1
      have e : off (s.take (k + 1)) (p.take (k + 1)) = off (s.take k) (p.take k) * s[k] + p[k] := by
        rw [List.take_succ_eq_append_getElem hk, List.take_succ_eq_append_getElem hk2, off_snoc (by rw [List.length_take, List.length_take]; omega)]
      rw [w64_id (x := off (s.take k) (p.take k) * s[k]) (by omega) (by omega), ← e, w64_id (by omega) (by omega), w64_id (x := (k : Int) + 1) (by omega) (by omega)]
      rfl
    · simp only [M.anamnesisref07_Offset_L1]
      rw [if_neg (by simp), List.take_of_length_le (by omega), List.take_of_length_le (by omega)]]
  rfl
theorem shOk_nonneg' {s : List Int} (h : shOk s) : 0 ≤ prod s := prod_nonneg (fun x hx => (h.2.1 x hx).1)
theorem inShape_bd : ∀ {s p : List Int}, inShape s p → (∀ x ∈ s, x ≤ 10000) → ∀ x ∈ p, 0 ≤ x ∧ x ≤ 10000
  | [], [], _, _, x, hx => by simp at hx
  | a :: s, i :: p, ⟨h0, h1, h⟩, hs, x, hx => by
    have ha := hs a (by simp)
    rcases List.mem_cons.mp hx with rfl | hx
    · omega
    · exact inShape_bd h (fun y hy => hs y (by simp [hy])) x hx
def pfill (b : Val) : Int := if b.Char = true then 32 else 0
theorem pFill_eq (v : Val) : M.value_Fill v = some (pfill v) := by
  unfold M.value_Fill pfill
  split <;> rfl
def countsF (a b : Val) : Int := if vRight a = false ∨ vRight b = false then 1 else if a.Shape.length > 1 then 24 else if a.Char = true ∧ a.Data.length > 0 then 23 else 0
theorem counts_eq {a b : Val} (ha : a.Data.length ≤ maxLen) (hb : b.Data.length ≤ maxLen) : M.pick_counts a b = some (countsF a b) := by
  have hm : maxLen = 9223372036854775807 := rfl
  unfold M.pick_counts countsF
  rw [value_Right_eq (by omega), value_Right_eq (by omega)]
  cases h1 : vRight a <;> cases h2 : vRight b <;> simp
  by_cases h3 : 1 < a.Shape.length
  · rw [if_pos h3, if_pos (show (1 : Int) < a.Shape.length by omega)]
  · rw [if_neg h3, if_neg (show ¬ (1 : Int) < a.Shape.length by omega)]
    cases a.Char <;> simp
    split <;> rfl
theorem pick_size_eq {s : List Int} (hl : s.length ≤ 1000000) : M.pick_size s = some ((shSize s).1, decide (shOk s)) := by
  unfold M.pick_size
  rw [shape_Size_eq (by unfold maxLen; omega)]
  simp only [Option.bind_some]
  rw [contains_int (s := s) (f := fun x0 => M.pick_size_1 x0) (g := fun x => decide (x > 10000)) (fun x _ => rfl) (by omega)]
  simp only [Option.bind_some]
  by_cases h : shOk s
  · have h2 := shSize_zero.mpr h
    rw [h2]
    have : s.any (fun x => decide (x > 10000)) = false := by
      rw [List.any_eq_false]
      intro x hx
      have := (h.2.1 x hx).2
      simp; omega
    rw [this]; simp [h]
  · have h2 : ¬ (shSize s).2 = 0 := fun e => h (shSize_zero.mp e)
    simp [h, h2]
def addL (p q : List Int) : List Int := List.zipWith (· + ·) p q
def winF (b : Val) (s mv : List Int) : Val :=
  ⟨b.Char, s, (List.range (prod s).toNat).map fun (k : Nat) => if inShape b.Shape (addL (dig s k) mv) then (b.Data[(off b.Shape (addL (dig s k) mv)).toNat]?).getD 0 else pfill b⟩
theorem window_L2 {mv r : List Int} (hl : mv.length = r.length) (hr : ∀ x ∈ r, 0 ≤ x ∧ x ≤ 10000) (hm : ∀ x ∈ mv, -100000 ≤ x ∧ x ≤ 100000) (h5 : r.length ≤ 10) :
    wloop (M.pick_window_L2 mv r) (0, r) = some (.next (addL r mv)) := by
  refine loop_fun (f := M.pick_window_L2 mv r) (fun k => ((k : Int), (addL r mv).take k ++ r.drop k)) r.length (fun k hk => ?_) ?_
  · have hk2 : k < mv.length := by omega
    have la : (addL r mv).length = r.length := by simp [addL]; omega
    have e0 : ((addL r mv).take k ++ r.drop k)[k]'(by rw [List.length_append, List.length_take, List.length_drop, la]; omega) = r[k] := by
      rw [List.getElem_append_right (by rw [List.length_take, la]; omega)]
      simp [la]
      congr 1; omega
    simp only [M.pick_window_L2]
    rw [if_pos (by simp; omega), idx_get (l := (addL r mv).take k ++ r.drop k) (by rw [List.length_append, List.length_take, List.length_drop, la]; omega), idx_get hk2, e0]
    simp only [Option.bind_some]
    rw [upd_nat (by rw [List.length_append, List.length_take, List.length_drop, la]; omega)]
    simp only [Option.bind_some]
    have b1 := hr _ (List.getElem_mem hk)
    have b2 := hm _ (List.getElem_mem hk2)
    rw [w64_id (x := r[k] + mv[k]) (by omega) (by omega), w64_id (x := (k : Int) + 1) (by omega) (by omega)]
    have e1 : ((addL r mv).take k ++ r.drop k).set k (r[k] + mv[k]) = (addL r mv).take (k + 1) ++ r.drop (k + 1) := by
      rw [List.take_succ_eq_append_getElem (by omega), List.drop_eq_getElem_cons hk, List.set_append_right _ _ (by rw [List.length_take]; omega)]
      have : k - ((addL r mv).take k).length = 0 := by rw [List.length_take]; omega
      rw [this, List.set_cons_zero, List.append_assoc]
      simp [addL]
    rw [e1]; rfl
  · have la : (addL r mv).length = r.length := by simp [addL]; omega
    simp only [M.pick_window_L2]
    rw [if_neg (by simp)]
    simp [la, List.take_of_length_le]
theorem window_eq {b : Val} {s mv : List Int} (hb : vRight b = true) (hs : shOk s) (hl : mv.length = s.length) (hm : ∀ x ∈ mv, -100000 ≤ x ∧ x ≤ 100000) : M.pick_window b s mv = some (winF b s mv) := by
  obtain ⟨hbs, hbp, _⟩ := vRight_iff.mp hb
  have hs4 := hs.1
  have hb4 := hbs.1
  have hp := hs.2.2
  have hp0 := shOk_nonneg' hs
  have hmx : maxLen = 9223372036854775807 := rfl
  obtain ⟨n, hn⟩ : ∃ n : Nat, prod s = n := ⟨(prod s).toNat, by omega⟩
  unfold M.pick_window
  rw [pick_size_eq (by omega), shSize_ok hs]
  simp only [Option.bind_some]
  rw [hn, mk_ok (by omega) (by omega)]
  simp only [Option.bind_some]
  obtain ⟨m, ⟨hml, hmi⟩, he⟩ := loop_up (f := M.pick_window_L1 b s mv (List.replicate n 0)) (fun k (m : List Int) => ((k : Int), m)) n
    (fun k m => m.length = n ∧ ∀ i : Nat, i < k → m[i]? = some (if inShape b.Shape (addL (dig s i) mv) then (b.Data[(off b.Shape (addL (dig s i) mv)).toNat]?).getD 0 else pfill b)) (fun m => .next m) (List.replicate n 0) ⟨by simp, fun i h => by omega⟩ (fun k m hk ⟨hml, hmi⟩ => by
      have hpos : allPos s := allPos_of (fun x hx => (hs.2.1 x hx).1) (by omega)
      have hin := dig_in (s := s) (k := (k : Int)) hpos (by omega) (by omega)
      have hdl := dig_len s (k : Int)
      have hdb : ∀ x ∈ dig s (k : Int), 0 ≤ x ∧ x ≤ 10000 := inShape_bd hin (fun x hx => (hs.2.1 x hx).2)
      have hal : (addL (dig s (k : Int)) mv).length = s.length := by simp [addL, hdl]; omega
      simp only [M.pick_window_L1]
      rw [if_pos (by simp; omega), shape_At_eq (by omega) (by omega), if_pos ⟨hs, by omega, by omega⟩]
      simp only [Option.bind_some]
      rw [window_L2 (by omega) hdb hm (by omega)]
      simp only [Option.bind_some, joinK]
      rw [pFill_eq]
      simp only [Option.bind_some]
      rw [idx_get (l := m) (by omega)]
      simp only [Option.bind_some]
      rw [upd_nat (by omega)]
      simp only [Option.bind_some]
      rw [shape_Offset_eq (by omega) (by omega)]
      have fin : ∀ v : Int, (if inShape b.Shape (addL (dig s k) mv) then (b.Data[(off b.Shape (addL (dig s k) mv)).toNat]?).getD 0 else pfill b) = v → ((m.set k v).length = n ∧ ∀ i : Nat, i < k + 1 → (m.set k v)[i]? = some (if inShape b.Shape (addL (dig s i) mv) then (b.Data[(off b.Shape (addL (dig s i) mv)).toNat]?).getD 0 else pfill b)) := fun v hv => by
        refine ⟨by simp [hml], fun i hi => ?_⟩
        by_cases e : i = k
        · subst e; rw [List.getElem?_set_self (by omega), hv]
        · rw [List.getElem?_set_ne (fun h => e h.symm)]; exact hmi i (by omega)
      by_cases hi : inShape b.Shape (addL (dig s (k : Int)) mv)
      · rw [if_pos ⟨hbs, hi⟩]
        simp only [Option.bind_some, if_true]
        have ho := off_range hi
        obtain ⟨o, ho2⟩ : ∃ o : Nat, off b.Shape (addL (dig s (k : Int)) mv) = o := ⟨(off b.Shape (addL (dig s (k : Int)) mv)).toNat, by omega⟩
        have hod : o < b.Data.length := by omega
        rw [ho2, idx_get hod]
        simp only [Option.bind_some]
        rw [idx_get (l := m.set k (pfill b)) (by simp; omega)]
        simp only [Option.bind_some]
        rw [upd_nat (by simp; omega), List.set_set]
        simp only [Option.bind_some]
        rw [w64_id (x := (k : Int) + 1) (by omega) (by omega)]
        refine ⟨_, rfl, fin _ ?_⟩
        rw [if_pos hi, ho2, Int.toNat_natCast, List.getElem?_eq_getElem hod]; rfl
      · rw [if_neg (fun h => hi h.2)]
        simp only [Option.bind_some, Bool.false_eq_true, if_false]
        rw [w64_id (x := (k : Int) + 1) (by omega) (by omega)]
        refine ⟨_, rfl, fin _ ?_⟩
        rw [if_neg hi]) (fun m ⟨hml, hmi⟩ => by
      simp only [M.pick_window_L1]
      rw [if_neg (by simp)])
  rw [show ((0 : Nat) : Int) = 0 from rfl] at he
  rw [he]
  simp only [Option.bind_some, joinK]
  congr 1
  unfold winF
  congr 1
  apply List.ext_getElem?
  intro i
  rw [hn, Int.toNat_natCast]
  by_cases hi : i < n
  · rw [hmi i hi, List.getElem?_map, List.getElem?_range hi]; rfl
  · rw [List.getElem?_eq_none (by omega), List.getElem?_eq_none (by simp; omega)]
theorem low32 {x : Int} (h0 : 0 ≤ x) (h1 : x < 4294967296) : (BitVec.ofInt IntKind.u64.bits x &&& BitVec.ofInt IntKind.u64.bits 4294967295).toNat = x.toNat := by
  show (BitVec.ofInt 64 x &&& BitVec.ofInt 64 4294967295).toNat = x.toNat
  rw [BitVec.toNat_and]
  have e1 : (BitVec.ofInt 64 x).toNat = x.toNat := by
    rw [BitVec.toNat_ofInt, Int.emod_eq_of_lt h0 (by omega)]
  have e2 : (BitVec.ofInt 64 4294967295).toNat = 2 ^ 32 - 1 := by decide
  rw [e1, e2, Nat.and_two_pow_sub_one_eq_mod]
  omega
theorem u64_id {x : Int} (h1 : 0 ≤ x) (h2 : x ≤ 18446744073709551615) : IntKind.u64.wrap x = x := by
  have : IntKind.u64.wrap x = x % 18446744073709551616 := by simp [IntKind.wrap, IntKind.bits, IntKind.signed]
  rw [this]; omega
theorem mul64_one {n : Int} (h0 : 0 ≤ n) (h1 : n ≤ 1000000) : M.math_bits_Mul 1 n = some (0, n) := by
  have s32 : ((2 : Int) ^ (min (Int.toNat 32) IntKind.u64.bits)) = 4294967296 := by decide
  have d0 : ∀ x : Int, 0 ≤ x → x < 4294967296 → Int.fdiv x 4294967296 = 0 := fun x a b => by
    rw [Int.fdiv_eq_ediv_of_nonneg _ (by omega)]; exact Int.ediv_eq_zero_of_lt a b
  have l1 : (BitVec.ofInt IntKind.u64.bits 1 &&& BitVec.ofInt IntKind.u64.bits 4294967295).toNat = 1 := low32 (by omega) (by omega)
  have l0 : (BitVec.ofInt IntKind.u64.bits 0 &&& BitVec.ofInt IntKind.u64.bits 4294967295).toNat = 0 := low32 (by omega) (by omega)
  unfold M.math_bits_Mul M.math_bits_Mul64
  rw [s32, low32 h0 (by omega), l1, d0 1 (by omega) (by omega), d0 n h0 (by omega), Int.toNat_of_nonneg h0]
  simp only [Int.zero_mul, Int.mul_zero, Int.natCast_one, Int.one_mul]
  rw [u64_id (x := 0) (by omega) (by omega), u64_id (x := 1) (by omega) (by omega), u64_id (x := n) (by omega) (by omega)]
  simp only [Int.one_mul]
  rw [u64_id (x := n) (by omega) (by omega), d0 n h0 (by omega)]
  have w0 : IntKind.u64.wrap 0 = 0 := by decide
  have l0' : ((BitVec.ofInt IntKind.u64.bits 0 &&& BitVec.ofInt IntKind.u64.bits 4294967295).toNat : Int) = 0 := by rw [l0]; rfl
  have z0 : Int.fdiv 0 4294967296 = 0 := by decide
  simp only [Int.add_zero, Int.zero_add, w0, l0', z0]
  rfl
def repL (k n : Nat) (x : Int) : List Int := List.replicate k x ++ List.replicate (n - k) 0
theorem repL_len {k n : Nat} (x : Int) (h : k ≤ n) : (repL k n x).length = n := by simp [repL]; omega
theorem repL_cpy {k n : Nat} (x : Int) (h : k ≤ n) : cpy (repL k n x) k (n - k) (List.replicate k x) = repL (k + min k (n - k)) n x := by
  unfold cpy repL
  rw [List.take_left' (by simp), List.take_replicate, List.length_replicate, List.drop_append, List.drop_of_length_le (by simp), List.nil_append, List.length_replicate, List.drop_replicate, List.replicate_append_replicate]
  congr 1
  · congr 1; omega
  · congr 1; omega
theorem Repeat_int_one {x : Int} {n : Nat} (h : n ≤ 1000000) : M.slices_Repeat__int [x] (n : Int) = some (List.replicate n x) := by
  have key := wloop_ind (f := M.slices_Repeat__int_L1) (fun m s => ∃ k : Nat, s = ((k : Int), repL k n x) ∧ k ≤ n ∧ (0 < n → 0 < k) ∧ m = n - k) (fun b => b = .next (List.replicate n x)) (fun m s hs => by
    obtain ⟨k, rfl, hk, h0, rfl⟩ := hs
    simp only [M.slices_Repeat__int_L1]
    rw [repL_len x hk]
    by_cases hlt : k < n
    · left
      rw [if_pos (by simp; omega)]
      have e1 : sub (repL k n x) (k : Int) (n : Int) = some ((repL k n x).drop k) := by
        have := sub_drop (l := repL k n x) (k := k) (by rw [repL_len x hk]; omega)
        rwa [repL_len x hk] at this
      have e2 : sub (repL k n x) 0 (k : Int) = some (List.replicate k x) := by
        unfold sub
        rw [if_pos ⟨by omega, by omega, by rw [repL_len x hk]; omega⟩]
        simp [repL]
      rw [e1, e2]
      simp only [Option.bind_some]
      have e3 : ((repL k n x).drop k).length = n - k := by rw [List.length_drop, repL_len x hk]
      rw [e3, List.length_replicate, Int.toNat_natCast, repL_cpy x hk, w64_id (by omega) (by omega)]
      refine ⟨_, n - (k + min k (n - k)), rfl, ?_, k + min k (n - k), ?_, by omega, by omega, rfl⟩
      · have := h0 (by omega); omega
      · congr 1
    · right
      rw [if_neg (by simp; omega)]
      obtain rfl : k = n := by omega
      exact ⟨_, rfl, by simp [repL]⟩)
  unfold M.slices_Repeat__int
  rw [if_neg (by simp), u64_id (x := ([x].length : Int)) (by simp) (by simp), u64_id (x := (n : Int)) (by omega) (by omega)]
  simp only [List.length_cons, List.length_nil, Nat.zero_add, Int.natCast_one]
  rw [mul64_one (by omega) (by omega)]
  simp only [Option.bind_some]
  rw [if_neg (by simp; omega), w64_id (x := (n : Int)) (by omega) (by omega), mk_ok (by omega) (by omega)]
  simp only [Option.bind_some]
  rcases Nat.eq_zero_or_pos n with rfl | hn
  · obtain ⟨b, hb, rfl⟩ := key 0 (0, []) ⟨0, rfl, by omega, by omega, rfl⟩
    show ((wloop (M.slices_Repeat__int_L1) (0, [])).bind fun k => joinK k fun l2 => some l2) = _
    rw [hb]; rfl
  · obtain ⟨b, hb, rfl⟩ := key (n - 1) (1, repL 1 n x) ⟨1, rfl, by omega, by omega, rfl⟩
    have e : (((min 1 (List.replicate n (0 : Int)).length : Nat) : Int), cpy (List.replicate n (0 : Int)) 0 (List.replicate n (0 : Int)).length [x]) = ((1 : Int), repL 1 n x) := by
      rw [List.length_replicate]
      congr 1
      · omega
      · unfold cpy repL
        obtain ⟨n', rfl⟩ : ∃ n', n = n' + 1 := ⟨n - 1, by omega⟩
        simp [List.replicate_succ]
    rw [e, hb]; rfl
theorem prod_ones : ∀ n : Nat, prod (List.replicate n 1) = 1
  | 0 => rfl
  | n + 1 => by rw [List.replicate_succ]; simp [prod, prod_ones n]
/-- an array with an axis for each number. -/
def rkS (a b : Val) : List Int := if b.Shape = [] then List.replicate a.Data.length 1 else b.Shape
def rkE (a b : Val) : Int := if b.Shape = [] ∧ a.Data.length > 4 then 24 else if (rkS a b).length ≠ a.Data.length then 25 else 0
theorem ranked_eq {a b : Val} (ha : a.Data.length ≤ 100000) : ∃ v, M.pick_ranked a b = some (v, rkE a b) ∧ (rkE a b = 0 → v = ⟨b.Char, rkS a b, b.Data⟩) := by
  unfold M.pick_ranked rkE
  by_cases h : b.Shape = []
  · rw [if_pos (by simp [h])]
    by_cases h4 : a.Data.length > 4
    · rw [if_pos (by simp; omega), if_pos ⟨h, h4⟩]
      exact ⟨b, rfl, fun h => by cases h⟩
    · rw [if_neg (by simp; omega), if_neg (fun hh => h4 hh.2), Repeat_int_one (by omega)]
      have e : rkS a b = List.replicate a.Data.length 1 := if_pos h
      simp only [Option.bind_some, joinK, List.length_replicate, bne_self_eq_false, Bool.false_eq_true, if_false]
      rw [e]
      refine ⟨_, ?_, fun _ => rfl⟩
      rw [if_neg (by simp)]
  · have e : rkS a b = b.Shape := if_neg h
    rw [if_neg (by simp [h]), if_neg (fun hh => h hh.1), e]
    simp only [Option.bind_some, joinK]
    by_cases hl : b.Shape.length = a.Data.length
    · rw [if_neg (by simp [hl]), if_neg (by simp [hl])]
      exact ⟨_, rfl, fun _ => rfl⟩
    · rw [if_pos (by simp; omega), if_pos hl]
      exact ⟨_, rfl, fun h => by cases h⟩
theorem rk_right {a b : Val} (hb : vRight b = true) (h : rkE a b = 0) : vRight ⟨b.Char, rkS a b, b.Data⟩ = true ∧ (rkS a b).length = a.Data.length ∧ shOk (rkS a b) := by
  obtain ⟨hs, hp, hc⟩ := vRight_iff.mp hb
  unfold rkE at h
  by_cases h4 : b.Shape = [] ∧ a.Data.length > 4
  · rw [if_pos h4] at h; cases h
  rw [if_neg h4] at h
  by_cases hl : (rkS a b).length = a.Data.length
  · have key : shOk (rkS a b) ∧ prod (rkS a b) = b.Data.length := by
      by_cases h0 : b.Shape = []
      · have e : rkS a b = List.replicate a.Data.length 1 := if_pos h0
        rw [e, prod_ones]
        rw [h0] at hp
        refine ⟨⟨by rw [List.length_replicate]; exact Nat.le_of_not_lt (fun hh => h4 ⟨h0, hh⟩), fun x hx => ?_, by rw [prod_ones]; omega⟩, hp⟩
        rw [List.mem_replicate] at hx; omega
      · have e : rkS a b = b.Shape := if_neg h0
        rw [e]; exact ⟨hs, hp⟩
    exact ⟨vRight_iff.mpr ⟨key.1, key.2, hc⟩, hl, key.1⟩
  · rw [if_pos hl] at h; cases h
def lenF (n : Int) : Int := if n < 0 then (if n < -10001 then 10001 else -n) else (if 10001 < n then 10001 else n)
theorem lenF_bd (n : Int) : 0 ≤ lenF n ∧ lenF n ≤ 10001 := by unfold lenF; split <;> split <;> omega
theorem length_eq (n : Int) : M.pick_length n = some (lenF n) := by
  unfold M.pick_length lenF
  by_cases h : n < 0
  · rw [if_pos (by simpa using h), if_pos h]
    by_cases h2 : n < -10001
    · rw [if_pos h2, if_pos h2]; rfl
    · rw [if_neg h2, if_neg h2, w64_id (by omega) (by omega)]
      simp only [Option.bind_some]
      rw [if_neg (by omega)]
      congr 1; omega
  · rw [if_neg (by simpa using h), if_neg h]; rfl
def tS (l : List Int) : List Int := l.map lenF
def tM (l sh : List Int) : List Int := List.zipWith (fun n x => if n < 0 then x - lenF n else 0) l sh
def takeF (a b : Val) : Val × Int :=
  if countsF a b ≠ 0 then (⟨false, [], []⟩, countsF a b) else if rkE a b ≠ 0 then (⟨false, [], []⟩, rkE a b) else
  if shOk (tS a.Data) then (winF ⟨b.Char, rkS a b, b.Data⟩ (tS a.Data) (tM a.Data (rkS a b)), 0) else (⟨false, [], []⟩, 27)
theorem counts_right {a b : Val} (h : countsF a b = 0) : vRight a = true ∧ vRight b = true ∧ a.Shape.length ≤ 1 := by
  unfold countsF at h
  split at h
  · cases h
  · rename_i h1
    split at h
    · cases h
    · cases ha : vRight a <;> cases hb : vRight b <;> simp_all
theorem pdata {a : Val} (h : vRight a = true) : a.Data.length ≤ 10000 := by
  obtain ⟨hs, hp, _⟩ := vRight_iff.mp h
  have := hs.2.2; omega
theorem tM_bd {l sh : List Int} (h : ∀ x ∈ sh, 0 ≤ x ∧ x ≤ 10000) : ∀ x ∈ tM l sh, -100000 ≤ x ∧ x ≤ 100000 := by
  intro x hx
  obtain ⟨i, hi, rfl⟩ := List.mem_iff_getElem.mp hx
  simp only [tM, List.length_zipWith] at hi
  simp only [tM, List.getElem_zipWith]
  have := h _ (List.getElem_mem (show i < sh.length by omega))
  have := lenF_bd (l[i]'(by omega))
  split <;> omega
theorem Take_L1_eq {a v : Val} (hl : v.Shape.length = a.Data.length) (ha : a.Data.length ≤ 10000) (hs : ∀ x ∈ v.Shape, 0 ≤ x ∧ x ≤ 10000) :
    wloop (M.pick_Take_L1 a v) ([], [], 0) = some (.next (tS a.Data, tM a.Data v.Shape)) := by
  have l1 : (tS a.Data).length = a.Data.length := by simp [tS]
  have l2 : (tM a.Data v.Shape).length = a.Data.length := by simp [tM]; omega
  have := loop_fun (f := M.pick_Take_L1 a v) (fun k => ((tS a.Data).take k, (tM a.Data v.Shape).take k, (k : Int))) a.Data.length (b := .next (tS a.Data, tM a.Data v.Shape)) (fun k hk => ?_) ?_
  · exact this
  · have hk2 : k < v.Shape.length := by omega
    have b1 := hs _ (List.getElem_mem hk2)
    have b2 := lenF_bd a.Data[k]
    simp only [M.pick_Take_L1]
    rw [if_pos (by simp; omega), idx_get hk]
    simp only [Option.bind_some]
    rw [length_eq]
    simp only [Option.bind_some]
    rw [app_ok (by rw [List.length_take]; simp; omega)]
    simp only [Option.bind_some]
    rw [List.take_succ_eq_append_getElem (by omega), List.take_succ_eq_append_getElem (by omega)]
    have e1 : (tS a.Data)[k]'(by omega) = lenF a.Data[k] := by simp [tS]
    have e2 : (tM a.Data v.Shape)[k]'(by omega) = if a.Data[k] < 0 then v.Shape[k] - lenF a.Data[k] else 0 := by simp [tM]
    rw [e1, e2]
    by_cases h : a.Data[k] < 0
    · rw [if_pos (by simpa using h), if_pos h, idx_get hk2]
      simp only [Option.bind_some]
      rw [app_ok (by rw [List.length_take]; simp; omega), w64_id (x := v.Shape[k] - lenF a.Data[k]) (by omega) (by omega), w64_id (x := (k : Int) + 1) (by omega) (by omega)]
      rfl
    · rw [if_neg (by simpa using h), if_neg h, app_ok (by rw [List.length_take]; simp; omega), w64_id (x := (k : Int) + 1) (by omega) (by omega)]
      rfl
  · simp only [M.pick_Take_L1]
    rw [if_neg (by simp), List.take_of_length_le (by omega), List.take_of_length_le (by omega)]
theorem Take_eq {a b : Val} (ha : a.Data.length ≤ maxLen) (hb : b.Data.length ≤ maxLen) : M.pick_Take a b = some (takeF a b) := by
  unfold M.pick_Take takeF
  rw [counts_eq ha hb]
  simp only [Option.bind_some]
  by_cases hc : countsF a b = 0
  · obtain ⟨ra, rb, _⟩ := counts_right hc
    have la := pdata ra
    rw [if_neg (by simp [hc]), if_neg (by simp [hc])]
    obtain ⟨v, e, hv⟩ := ranked_eq (a := a) (b := b) (by omega)
    rw [e]
    simp only [Option.bind_some]
    by_cases hr : rkE a b = 0
    · obtain ⟨r1, r2, r3⟩ := rk_right rb hr
      obtain rfl := hv hr
      rw [if_neg (by simp [hr]), if_neg (by simp [hr]), Take_L1_eq r2 la r3.2.1]
      simp only [Option.bind_some, joinK]
      rw [pick_size_eq (by simp [tS]; omega)]
      simp only [Option.bind_some]
      by_cases hs : shOk (tS a.Data)
      · rw [if_neg (by simp [hs]), if_pos hs, window_eq r1 hs (by simp [tS, tM]; omega) (tM_bd r3.2.1)]
        rfl
      · rw [if_pos (by simp [hs]), if_neg hs]
    · rw [if_pos (by simp [hr]), if_pos hr]
  · rw [if_pos (by simp [hc]), if_pos hc]
def dL (n x : Int) : Int := if x < lenF n then x else lenF n
def dS (l sh : List Int) : List Int := List.zipWith (fun n x => x - dL n x) l sh
def dM (l sh : List Int) : List Int := List.zipWith (fun n x => if n < 0 then 0 else dL n x) l sh
theorem dL_bd {n x : Int} (h : 0 ≤ x) : 0 ≤ dL n x ∧ dL n x ≤ x := by
  have := lenF_bd n
  unfold dL; split <;> omega
def dropF (a b : Val) : Val × Int :=
  if countsF a b ≠ 0 then (⟨false, [], []⟩, countsF a b) else if rkE a b ≠ 0 then (⟨false, [], []⟩, rkE a b) else
  (winF ⟨b.Char, rkS a b, b.Data⟩ (dS a.Data (rkS a b)) (dM a.Data (rkS a b)), 0)
theorem dM_bd {l sh : List Int} (h : ∀ x ∈ sh, 0 ≤ x ∧ x ≤ 10000) : ∀ x ∈ dM l sh, -100000 ≤ x ∧ x ≤ 100000 := by
  intro x hx
  obtain ⟨i, hi, rfl⟩ := List.mem_iff_getElem.mp hx
  simp only [dM, List.length_zipWith] at hi
  simp only [dM, List.getElem_zipWith]
  have h1 := h _ (List.getElem_mem (show i < sh.length by omega))
  have := dL_bd (n := l[i]'(by omega)) h1.1
  split <;> omega
theorem dS_ok : ∀ {l sh : List Int}, (∀ x ∈ sh, 0 ≤ x ∧ x ≤ 10000) → l.length = sh.length → (∀ x ∈ dS l sh, 0 ≤ x ∧ x ≤ 10000) ∧ 0 ≤ prod (dS l sh) ∧ prod (dS l sh) ≤ prod sh
  | [], [], _, _ => by simp [dS, prod]
  | n :: l, x :: sh, h, hl => by
    obtain ⟨h1, h2, h3⟩ := dS_ok (l := l) (sh := sh) (fun y hy => h y (by simp [hy])) (by simpa using hl)
    have hx := h x (by simp)
    have hd := dL_bd (n := n) hx.1
    simp only [dS, List.zipWith_cons_cons, prod] at *
    refine ⟨fun y hy => ?_, Int.mul_nonneg (by omega) h2, Int.mul_le_mul (by omega) h3 h2 hx.1⟩
    rcases List.mem_cons.mp hy with rfl | hy
    · omega
    · exact h1 y hy
theorem Drop_L1_eq {a v : Val} (hl : v.Shape.length = a.Data.length) (ha : a.Data.length ≤ 10000) (hs : ∀ x ∈ v.Shape, 0 ≤ x ∧ x ≤ 10000) :
    wloop (M.pick_Drop_L1 a v) ([], [], 0) = some (.next (dS a.Data v.Shape, dM a.Data v.Shape)) := by
  have l1 : (dS a.Data v.Shape).length = a.Data.length := by simp [dS]; omega
  have l2 : (dM a.Data v.Shape).length = a.Data.length := by simp [dM]; omega
  have := loop_fun (f := M.pick_Drop_L1 a v) (fun k => ((dS a.Data v.Shape).take k, (dM a.Data v.Shape).take k, (k : Int))) a.Data.length (b := .next (dS a.Data v.Shape, dM a.Data v.Shape)) (fun k hk => ?_) ?_
  · exact this
  · have hk2 : k < v.Shape.length := by omega
    have b1 := hs _ (List.getElem_mem hk2)
    have b2 := dL_bd (n := a.Data[k]) b1.1
    simp only [M.pick_Drop_L1]
    rw [if_pos (by simp; omega), idx_get hk]
    simp only [Option.bind_some]
    rw [length_eq]
    simp only [Option.bind_some]
    rw [idx_get hk2]
    simp only [Option.bind_some]
    rw [show (if v.Shape[k] < lenF a.Data[k] then v.Shape[k] else lenF a.Data[k]) = dL a.Data[k] v.Shape[k] from rfl, app_ok (by rw [List.length_take]; simp; omega)]
    simp only [Option.bind_some]
    rw [List.take_succ_eq_append_getElem (by omega), List.take_succ_eq_append_getElem (by omega), w64_id (x := v.Shape[k] - dL a.Data[k] v.Shape[k]) (by omega) (by omega), w64_id (x := (k : Int) + 1) (by omega) (by omega)]
    have e1 : (dS a.Data v.Shape)[k]'(by omega) = v.Shape[k] - dL a.Data[k] v.Shape[k] := by simp [dS]
    have e2 : (dM a.Data v.Shape)[k]'(by omega) = if a.Data[k] < 0 then 0 else dL a.Data[k] v.Shape[k] := by simp [dM]
    rw [e1, e2]
    by_cases h : a.Data[k] < 0
    · rw [if_pos (by simpa using h), if_pos h]
      simp only [Option.bind_some]
      rw [app_ok (by rw [List.length_take]; simp; omega)]
      rfl
    · rw [if_neg (by simpa using h), if_neg h]
      simp only [Option.bind_some]
      rw [app_ok (by rw [List.length_take]; simp; omega)]
      rfl
  · simp only [M.pick_Drop_L1]
    rw [if_neg (by simp), List.take_of_length_le (by omega), List.take_of_length_le (by omega)]
theorem Drop_eq {a b : Val} (ha : a.Data.length ≤ maxLen) (hb : b.Data.length ≤ maxLen) : M.pick_Drop a b = some (dropF a b) := by
  unfold M.pick_Drop dropF
  rw [counts_eq ha hb]
  simp only [Option.bind_some]
  by_cases hc : countsF a b = 0
  · obtain ⟨ra, rb, _⟩ := counts_right hc
    have la := pdata ra
    rw [if_neg (by simp [hc]), if_neg (by simp [hc])]
    obtain ⟨v, e, hv⟩ := ranked_eq (a := a) (b := b) (by omega)
    rw [e]
    simp only [Option.bind_some]
    by_cases hr : rkE a b = 0
    · obtain ⟨r1, r2, r3⟩ := rk_right rb hr
      obtain rfl := hv hr
      obtain ⟨o1, o2, o3⟩ := dS_ok (l := a.Data) r3.2.1 r2.symm
      have hok : shOk (dS a.Data (rkS a b)) := ⟨by have := r3.1; simp only [dS, List.length_zipWith]; omega, o1, by have := r3.2.2; omega⟩
      rw [if_neg (by simp [hr]), if_neg (by simp [hr]), Drop_L1_eq r2 la r3.2.1]
      simp only [Option.bind_some, joinK]
      rw [window_eq r1 hok (by simp [dS, dM]) (dM_bd r3.2.1)]
      rfl
    · rw [if_pos (by simp [hr]), if_pos hr]
  · rw [if_pos (by simp [hc]), if_pos hc]
theorem winF_mem {b : Val} {s mv : List Int} (hb : vRight b = true) : ∀ x ∈ (winF b s mv).Data, x = pfill b ∨ x ∈ b.Data := by
  intro x hx
  obtain ⟨_, hp, _⟩ := vRight_iff.mp hb
  simp only [winF, List.mem_map] at hx
  obtain ⟨k, _, rfl⟩ := hx
  by_cases hi : inShape b.Shape (addL (dig s k) mv)
  · rw [if_pos hi]
    right
    have ho := off_range hi
    rw [List.getElem?_eq_getElem (by omega)]
    exact List.getElem_mem _
  · rw [if_neg hi]; exact .inl rfl
theorem winF_len (b : Val) (s mv : List Int) : (winF b s mv).Data.length = (prod s).toNat := by simp [winF]
theorem pfill_ch (b : Val) : b.Char = true → chOk (pfill b) = true := fun h => by unfold pfill; rw [if_pos h]; decide
theorem winF_right {b : Val} {s mv : List Int} (hb : vRight b = true) (hs : shOk s) : vRight (winF b s mv) = true := by
  obtain ⟨_, _, hc⟩ := vRight_iff.mp hb
  have := shOk_nonneg' hs
  refine vRight_iff.mpr ⟨hs, by rw [winF_len]; show prod s = _; omega, fun h c hcm => ?_⟩
  rcases winF_mem hb c hcm with rfl | h2
  · exact pfill_ch b h
  · exact hc h c h2
theorem bad_eq {a b : Val} (ha : a.Data.length ≤ maxLen) (hb : b.Data.length ≤ maxLen) : M.anamnesisref09_bad a b = some (countsF a b) := by
  have hm : maxLen = 9223372036854775807 := rfl
  unfold M.anamnesisref09_bad countsF
  rw [ref02_Right_eq (by omega), ref02_Right_eq (by omega)]
  cases h1 : vRight a <;> cases h2 : vRight b <;> simp
  by_cases h3 : 1 < a.Shape.length
  · rw [if_pos h3, if_pos (show (1 : Int) < a.Shape.length by omega)]
  · rw [if_neg h3, if_neg (show ¬ (1 : Int) < a.Shape.length by omega)]
    cases a.Char <;> simp
    split <;> rfl
theorem rfill_eq (v : Val) : M.anamnesisref09_fill v = some (pfill v) := by
  unfold M.anamnesisref09_fill pfill
  split <;> rfl
theorem rranked_eq {a b : Val} (ha : a.Data.length ≤ 100000) : ∃ s, M.anamnesisref09_ranked a b = some (s, rkE a b) ∧ (rkE a b = 0 → s = rkS a b) := by
  unfold M.anamnesisref09_ranked rkE
  by_cases h : b.Shape = []
  · rw [if_neg (by simp [h])]
    by_cases h4 : a.Data.length > 4
    · rw [if_pos (by simp; omega), if_pos ⟨h, h4⟩]
      exact ⟨_, rfl, fun h => by cases h⟩
    · rw [if_neg (by simp; omega), if_neg (fun hh => h4 hh.2)]
      have e : rkS a b = List.replicate a.Data.length 1 := if_pos h
      rw [e, List.length_replicate, if_neg (by simp)]
      rw [show wloop (M.anamnesisref09_ranked_L1 a) ([], 0) = some (.next (List.replicate a.Data.length 1)) from by
        refine loop_fun (f := M.anamnesisref09_ranked_L1 a) (fun k => (List.replicate k 1, (k : Int))) a.Data.length (fun k hk => ?_) ?_
        · simp only [M.anamnesisref09_ranked_L1]
          rw [if_pos (by simp; omega), app_ok (by simp; omega), w64_id (x := (k : Int) + 1) (by omega) (by omega)]
          simp only [Option.bind_some]
          rw [List.replicate_succ']
          rfl
        · simp only [M.anamnesisref09_ranked_L1]
          rw [if_neg (by simp)]]
      exact ⟨_, rfl, fun _ => rfl⟩
  · have e : rkS a b = b.Shape := if_neg h
    have : b.Shape.length ≠ 0 := fun hh => h (List.length_eq_zero_iff.mp hh)
    rw [if_pos (by simp; omega), e]
    have hc : ¬ (b.Shape = [] ∧ a.Data.length > 4) := fun hh => h hh.1
    by_cases hl : b.Shape.length = a.Data.length
    · have e2 : (if b.Shape = [] ∧ a.Data.length > 4 then (24 : Int) else if b.Shape.length ≠ a.Data.length then 25 else 0) = 0 := by rw [if_neg hc, if_neg (by simp [hl])]
      rw [e2, if_neg (by simp [hl])]
      exact ⟨_, rfl, fun _ => rfl⟩
    · have e2 : (if b.Shape = [] ∧ a.Data.length > 4 then (24 : Int) else if b.Shape.length ≠ a.Data.length then 25 else 0) = 25 := by rw [if_neg hc, if_pos hl]
      rw [e2, if_pos (by simp; omega)]
      exact ⟨_, rfl, fun h => by cases h⟩
theorem cut_L2 {s mv r : List Int} (hl : mv.length = r.length) (hs : s.length = r.length) (hr : ∀ x ∈ r, 0 ≤ x ∧ x ≤ 10000) (hm : ∀ x ∈ mv, -100000 ≤ x ∧ x ≤ 100000) (h5 : r.length ≤ 10) :
    wloop (M.anamnesisref09_cut_L2 s mv) (true, 0, r) = some (.next (decide (inShape s (addL r mv)), addL r mv)) := by
  have la : (addL r mv).length = r.length := by simp [addL]; omega
  have h0 : ((true, 0, r) : Bool × Int × List Int) = (decide (inShape (s.take 0) ((addL r mv).take 0)), ((0 : Nat) : Int), (addL r mv).take 0 ++ r.drop 0) := by simp [inShape]
  rw [h0]
  refine loop_fun (f := M.anamnesisref09_cut_L2 s mv) (fun k => (decide (inShape (s.take k) ((addL r mv).take k)), (k : Int), (addL r mv).take k ++ r.drop k)) r.length (fun k hk => ?_) ?_
  · have hk2 : k < mv.length := by omega
    have hk3 : k < s.length := by omega
    have lk : ((addL r mv).take k ++ r.drop k).length = r.length := by rw [List.length_append, List.length_take, List.length_drop, la]; omega
    have e0 : ((addL r mv).take k ++ r.drop k)[k]'(by omega) = r[k] := by
      rw [List.getElem_append_right (by rw [List.length_take, la]; omega)]
      simp [la]
      congr 1; omega
    simp only [M.anamnesisref09_cut_L2]
    rw [if_pos (by rw [lk]; simp; omega), idx_get (l := (addL r mv).take k ++ r.drop k) (by omega), idx_get hk2, e0]
    simp only [Option.bind_some]
    rw [upd_nat (by omega)]
    simp only [Option.bind_some]
    have b1 := hr _ (List.getElem_mem hk)
    have b2 := hm _ (List.getElem_mem hk2)
    rw [w64_id (x := r[k] + mv[k]) (by omega) (by omega), w64_id (x := (k : Int) + 1) (by omega) (by omega)]
    have e1 : ((addL r mv).take k ++ r.drop k).set k (r[k] + mv[k]) = (addL r mv).take (k + 1) ++ r.drop (k + 1) := by
      rw [List.take_succ_eq_append_getElem (by omega), List.drop_eq_getElem_cons hk, List.set_append_right _ _ (by rw [List.length_take]; omega)]
      have : k - ((addL r mv).take k).length = 0 := by rw [List.length_take]; omega
      rw [this, List.set_cons_zero, List.append_assoc]
      simp [addL]
    have e2 : (addL r mv)[k]'(by omega) = r[k] + mv[k] := by simp [addL]
    have lk1 : ((addL r mv).take (k + 1) ++ r.drop (k + 1)).length = r.length := by rw [List.length_append, List.length_take, List.length_drop, la]; omega
    have e3 : ((addL r mv).take (k + 1) ++ r.drop (k + 1))[k]'(by omega) = r[k] + mv[k] := by
      rw [List.getElem_append_left (by rw [List.length_take]; omega), List.getElem_take, e2]
    rw [e1, idx_get (l := (addL r mv).take (k + 1) ++ r.drop (k + 1)) (by omega), e3, idx_get hk3]
    simp only [Option.bind_some]
    have e4 : inShape (s.take (k + 1)) ((addL r mv).take (k + 1)) ↔ inShape (s.take k) ((addL r mv).take k) ∧ 0 ≤ r[k] + mv[k] ∧ r[k] + mv[k] < s[k] := by
      rw [List.take_succ_eq_append_getElem hk3, List.take_succ_eq_append_getElem (by omega), inShape_snoc2 (by rw [List.length_take, List.length_take]; omega), e2]
    have e5 : decide (inShape (s.take (k + 1)) ((addL r mv).take (k + 1))) = (decide (inShape (s.take k) ((addL r mv).take k)) && decide (0 ≤ r[k] + mv[k]) && decide (r[k] + mv[k] < s[k])) := by
      rw [Bool.eq_iff_iff]
      simp only [decide_eq_true_eq, Bool.and_eq_true]
      rw [e4]
      constructor
      · rintro ⟨h1, h2, h3⟩; exact ⟨⟨h1, h2⟩, h3⟩
      · rintro ⟨⟨h1, h2⟩, h3⟩; exact ⟨h1, h2, h3⟩
    rw [e5]
    generalize decide (inShape (s.take k) ((addL r mv).take k)) = bb
    cases bb
    · rfl
    · by_cases h1 : 0 ≤ r[k] + mv[k]
      · by_cases h2 : r[k] + mv[k] < s[k]
        · simp [h1, h2]
        · simp [h1, h2]
      · simp [h1]
  · simp only [M.anamnesisref09_cut_L2]
    rw [if_neg (by simp [la])]
    simp [la, hs, List.take_of_length_le]
theorem cut_eq {b : Val} {s to mv : List Int} (hb : vRight ⟨b.Char, s, b.Data⟩ = true) (hs : shOk to) (hl : mv.length = to.length) (hl2 : s.length = to.length) (hm : ∀ x ∈ mv, -100000 ≤ x ∧ x ≤ 100000) :
    M.anamnesisref09_cut b s mv to = some (winF ⟨b.Char, s, b.Data⟩ to mv) := by
  obtain ⟨hbs, hbp, _⟩ := vRight_iff.mp hb
  simp only at hbs hbp
  have hs4 := hs.1
  have hp := hs.2.2
  have hp0 := shOk_nonneg' hs
  have hmx : maxLen = 9223372036854775807 := rfl
  have hsz : M.anamnesisref07_Size to = some (prod to) := by rw [ref07_Size_eq (by omega), if_pos hs]
  obtain ⟨n, hn⟩ : ∃ n : Nat, prod to = n := ⟨(prod to).toNat, by omega⟩
  unfold M.anamnesisref09_cut
  rw [show wloop (M.anamnesisref09_cut_L1 b s mv to) (0, []) = some (.next (winF ⟨b.Char, s, b.Data⟩ to mv).Data) from by
    have hW : (winF ⟨b.Char, s, b.Data⟩ to mv).Data = (List.range n).map fun (k : Nat) => if inShape s (addL (dig to k) mv) then (b.Data[(off s (addL (dig to k) mv)).toNat]?).getD 0 else pfill b := by
      simp only [winF, hn, Int.toNat_natCast]; rfl
    rw [hW]
    refine loop_fun (f := M.anamnesisref09_cut_L1 b s mv to) (fun k => ((k : Int), (List.range k).map fun (k : Nat) => if inShape s (addL (dig to k) mv) then (b.Data[(off s (addL (dig to k) mv)).toNat]?).getD 0 else pfill b)) n (fun k hk => ?_) ?_
    · have hpos : allPos to := allPos_of (fun x hx => (hs.2.1 x hx).1) (by omega)
      have hin := dig_in (s := to) (k := (k : Int)) hpos (by omega) (by omega)
      have hdl := dig_len to (k : Int)
      have hdb : ∀ x ∈ dig to (k : Int), 0 ≤ x ∧ x ≤ 10000 := inShape_bd hin (fun x hx => (hs.2.1 x hx).2)
      simp only [M.anamnesisref09_cut_L1]
      rw [hsz]
      simp only [Option.bind_some]
      rw [if_pos (by rw [hn]; simp; omega), ref07_At_eq hs (by omega)]
      simp only [Option.bind_some]
      rw [cut_L2 (by omega) (by omega) hdb hm (by omega)]
      simp only [Option.bind_some, joinK]
      rw [List.range_succ, List.map_append, w64_id (x := (k : Int) + 1) (by omega) (by omega)]
      by_cases hi : inShape s (addL (dig to (k : Int)) mv)
      · have ho := off_range hi
        obtain ⟨o, ho2⟩ : ∃ o : Nat, off s (addL (dig to (k : Int)) mv) = o := ⟨(off s (addL (dig to (k : Int)) mv)).toNat, by omega⟩
        have hod : o < b.Data.length := by omega
        rw [if_pos (by simpa using hi), ref07_Offset_eq hbs hi]
        simp only [Option.bind_some, List.map_cons, List.map_nil]
        rw [if_pos hi, ho2, idx_get hod, Int.toNat_natCast, List.getElem?_eq_getElem hod]
        simp only [Option.bind_some, Option.getD_some]
        rw [app_ok (by simp; omega)]
        rfl
      · rw [if_neg (by simpa using hi), rfill_eq]
        simp only [Option.bind_some, List.map_cons, List.map_nil]
        rw [if_neg hi, app_ok (by simp; omega)]
        rfl
    · simp only [M.anamnesisref09_cut_L1]
      rw [hsz]
      simp only [Option.bind_some]
      rw [if_neg (by rw [hn]; simp)]]
  rfl
theorem winF_zero {b : Val} {s m n : List Int} (h : prod s = 0) : winF b s m = winF b s n := by
  unfold winF; rw [h]; rfl
theorem ref09_Take_eq {a b : Val} (ha : a.Data.length ≤ maxLen) (hb : b.Data.length ≤ maxLen) : M.anamnesisref09_Take a b = some (takeF a b) := by
  unfold M.anamnesisref09_Take takeF
  rw [bad_eq ha hb]
  simp only [Option.bind_some]
  by_cases hc : countsF a b = 0
  · obtain ⟨ra, rb, _⟩ := counts_right hc
    have la := pdata ra
    rw [if_neg (by simp [hc]), if_neg (by simp [hc])]
    obtain ⟨v, e, hv⟩ := rranked_eq (a := a) (b := b) (by omega)
    rw [e]
    simp only [Option.bind_some]
    by_cases hr : rkE a b = 0
    · obtain ⟨r1, r2, r3⟩ := rk_right rb hr
      obtain rfl := hv hr
      rw [if_neg (by simp [hr]), if_neg (by simp [hr])]
      generalize hsh : rkS a b = sh at *
      have l1 : (tS a.Data).length = a.Data.length := by simp [tS]
      have l2 : (tM a.Data sh).length = a.Data.length := by simp [tM]; omega
      have hloop := loop_find (f := M.anamnesisref09_Take_L1 a sh) (fun k => ((tM a.Data sh).take k, (tS a.Data).take k, (k : Int))) sh.length (fun k => decide (((a.Data[k]?).getD 0) > 10000 ∨ ((a.Data[k]?).getD 0) < -10000)) (fun _ => .done (⟨false, [], []⟩, 27)) (c := .next (tM a.Data sh, tS a.Data)) (fun k hk => by
        have hk2 : k < a.Data.length := by omega
        have b1 := r3.2.1 _ (List.getElem_mem hk)
        simp only [M.anamnesisref09_Take_L1]
        rw [if_pos (by simp; omega), idx_get hk2, List.getElem?_eq_getElem hk2]
        simp only [Option.bind_some, Option.getD_some]
        by_cases hbad : a.Data[k] > 10000 ∨ a.Data[k] < -10000
        · rw [if_pos (by simpa using hbad), if_pos (by simpa using hbad)]
        · have hb1 : decide (a.Data[k] > 10000 ∨ a.Data[k] < -10000) = false := by rw [decide_eq_false_iff_not]; exact hbad
          have hb2 : (decide (a.Data[k] > 10000) || decide (a.Data[k] < -10000)) = false := by rw [← Bool.decide_or]; exact hb1
          simp only [hb1, hb2, Bool.false_eq_true, if_false]
          have e1 : (tS a.Data)[k]'(by omega) = lenF a.Data[k] := by simp [tS]
          have e2 : (tM a.Data sh)[k]'(by omega) = if a.Data[k] < 0 then sh[k] - lenF a.Data[k] else 0 := by simp [tM]
          rw [List.take_succ_eq_append_getElem (show k < (tS a.Data).length by omega), List.take_succ_eq_append_getElem (show k < (tM a.Data sh).length by omega), e1, e2, w64_id (x := (k : Int) + 1) (by omega) (by omega)]
          by_cases h : a.Data[k] < 0
          · have eL : lenF a.Data[k] = - a.Data[k] := by unfold lenF; rw [if_pos h, if_neg (by omega)]
            rw [if_neg (by simp; omega), idx_get hk, if_pos h, eL]
            simp only [Option.bind_some]
            rw [w64_id (x := sh[k] + a.Data[k]) (by omega) (by omega), w64_id (x := 0 - a.Data[k]) (by omega) (by omega), app_ok (by rw [List.length_take]; simp; omega)]
            simp only [Option.bind_some]
            rw [app_ok (by rw [List.length_take]; simp; omega)]
            simp only [Option.bind_some]
            rw [show sh[k] - -a.Data[k] = sh[k] + a.Data[k] by omega, show 0 - a.Data[k] = - a.Data[k] by omega]
            rfl
          · have eL : lenF a.Data[k] = a.Data[k] := by unfold lenF; rw [if_neg h, if_neg (by omega)]
            rw [if_pos (by simp; omega), if_neg h, eL, app_ok (by rw [List.length_take]; simp; omega)]
            simp only [Option.bind_some]
            rw [app_ok (by rw [List.length_take]; simp; omega)]
            rfl) (by
        simp only [M.anamnesisref09_Take_L1]
        rw [if_neg (by simp), List.take_of_length_le (by omega), List.take_of_length_le (by omega)])
      rcases hloop with ⟨k, hk, hbad, _, he⟩ | ⟨hgood, he⟩
      · have hk2 : k < a.Data.length := by omega
        have he' : wloop (M.anamnesisref09_Take_L1 a sh) ([], [], 0) = some (.done (⟨false, [], []⟩, 27)) := he
        rw [he']
        have hn : ¬ shOk (tS a.Data) := fun h => by
          have := h.2.1 (lenF a.Data[k]) (by simp only [tS, List.mem_map]; exact ⟨_, List.getElem_mem hk2, rfl⟩)
          rw [List.getElem?_eq_getElem hk2] at hbad
          simp at hbad
          unfold lenF at this
          split at this <;> split at this <;> omega
        rw [if_neg hn]; rfl
      · have he' : wloop (M.anamnesisref09_Take_L1 a sh) ([], [], 0) = some (.next (tM a.Data sh, tS a.Data)) := he
        rw [he']
        simp only [Option.bind_some, joinK]
        rw [ref07_Size_eq (by omega)]
        simp only [Option.bind_some]
        by_cases hs : shOk (tS a.Data)
        · have := shOk_nonneg' hs
          rw [if_pos hs, if_pos hs, if_neg (by simp; omega), cut_eq r1 hs (by omega) (by omega) (tM_bd r3.2.1)]
          rfl
        · rw [if_neg hs, if_neg hs, if_pos (by simp)]
    · rw [if_pos (by simp [hr]), if_pos hr]
  · rw [if_pos (by simp [hc]), if_pos hc]
def rM (l sh : List Int) : List Int := List.zipWith (fun n x => if n < 0 then 0 else if n < x then n else 0) l sh
theorem rM_bd {l sh : List Int} (h : ∀ x ∈ sh, 0 ≤ x ∧ x ≤ 10000) : ∀ x ∈ rM l sh, -100000 ≤ x ∧ x ≤ 100000 := by
  intro x hx
  obtain ⟨i, hi, rfl⟩ := List.mem_iff_getElem.mp hx
  simp only [rM, List.length_zipWith] at hi
  simp only [rM, List.getElem_zipWith]
  have h1 := h _ (List.getElem_mem (show i < sh.length by omega))
  split <;> (try split) <;> omega
theorem rM_dM : ∀ {l sh : List Int}, (∀ x ∈ sh, 0 ≤ x ∧ x ≤ 10000) → l.length = sh.length → prod (dS l sh) = 0 ∨ rM l sh = dM l sh
  | [], [], _, _ => .inr rfl
  | n :: l, x :: sh, h, hl => by
    have hx := h x (by simp)
    simp only [dS, dM, rM, List.zipWith_cons_cons, prod]
    rcases rM_dM (l := l) (sh := sh) (fun y hy => h y (by simp [hy])) (by simpa using hl) with h1 | h1
    · left; rw [dS] at h1; rw [h1, Int.mul_zero]
    · rw [dM, rM] at h1
      by_cases hz : x - dL n x = 0
      · left; rw [hz, Int.zero_mul]
      · right
        rw [h1]
        congr 1
        by_cases hn : n < 0
        · rw [if_pos hn, if_pos hn]
        · rw [if_neg hn, if_neg hn]
          unfold dL lenF at hz ⊢
          rw [if_neg hn] at hz ⊢
          by_cases h5 : 10001 < n
          · rw [if_pos h5] at hz; rw [if_pos (by omega)] at hz; omega
          · rw [if_neg h5] at hz ⊢
            by_cases h6 : x < n
            · rw [if_pos h6] at hz; omega
            · rw [if_neg h6] at hz ⊢; rw [if_pos (by omega)]
theorem ref09_Drop_eq {a b : Val} (ha : a.Data.length ≤ maxLen) (hb : b.Data.length ≤ maxLen) (hw : ∀ x ∈ a.Data, (Lit.int .i64 x).wf = true) : M.anamnesisref09_Drop a b = some (dropF a b) := by
  unfold M.anamnesisref09_Drop dropF
  rw [bad_eq ha hb]
  simp only [Option.bind_some]
  by_cases hc : countsF a b = 0
  · obtain ⟨ra, rb, _⟩ := counts_right hc
    have la := pdata ra
    rw [if_neg (by simp [hc]), if_neg (by simp [hc])]
    obtain ⟨v, e, hv⟩ := rranked_eq (a := a) (b := b) (by omega)
    rw [e]
    simp only [Option.bind_some]
    by_cases hr : rkE a b = 0
    · obtain ⟨r1, r2, r3⟩ := rk_right rb hr
      obtain rfl := hv hr
      rw [if_neg (by simp [hr]), if_neg (by simp [hr])]
      generalize hsh : rkS a b = sh at *
      have l1 : (dS a.Data sh).length = a.Data.length := by simp [dS]; omega
      have l2 : (rM a.Data sh).length = a.Data.length := by simp [rM]; omega
      have hloop := loop_fun (f := M.anamnesisref09_Drop_L1 a sh) (fun k => ((rM a.Data sh).take k, (dS a.Data sh).take k, (k : Int))) sh.length (b := .next (rM a.Data sh, dS a.Data sh)) (fun k hk => by
        have hk2 : k < a.Data.length := by omega
        have b1 := r3.2.1 _ (List.getElem_mem hk)
        have b2 := wf64 (hw _ (List.getElem_mem hk2))
        simp only [M.anamnesisref09_Drop_L1]
        rw [if_pos (by simp; omega), idx_get hk2, idx_get hk]
        simp only [Option.bind_some]
        have e1 : (dS a.Data sh)[k]'(by omega) = sh[k] - dL a.Data[k] sh[k] := by simp [dS]
        have e2 : (rM a.Data sh)[k]'(by omega) = if a.Data[k] < 0 then 0 else if a.Data[k] < sh[k] then a.Data[k] else 0 := by simp [rM]
        rw [List.take_succ_eq_append_getElem (show k < (dS a.Data sh).length by omega), List.take_succ_eq_append_getElem (show k < (rM a.Data sh).length by omega), e1, e2, w64_id (x := (k : Int) + 1) (by omega) (by omega)]
        have ap1 : app 8 ((rM a.Data sh).take k) [0] = some ((rM a.Data sh).take k ++ [0]) := app_ok (by rw [List.length_take]; simp; omega)
        have ap2 : ∀ z : Int, app 8 ((dS a.Data sh).take k) [z] = some ((dS a.Data sh).take k ++ [z]) := fun z => app_ok (by rw [List.length_take]; simp; omega)
        have tl : ((rM a.Data sh).take k).length = k := by rw [List.length_take]; omega
        by_cases h : a.Data[k] < 0
        · rw [if_neg (by simp; omega), if_pos h, ap1]
          simp only [Option.bind_some]
          rw [w64_id (x := 0 - sh[k]) (by omega) (by omega)]
          by_cases h2 : a.Data[k] > 0 - sh[k]
          · rw [if_pos (by simpa using h2)]
            simp only [Option.bind_some]
            rw [w64_id (x := sh[k] + a.Data[k]) (by omega) (by omega), ap2]
            have : dL a.Data[k] sh[k] = - a.Data[k] := by unfold dL lenF; rw [if_pos h, if_neg (by omega), if_neg (by omega)]
            rw [this, show sh[k] - -a.Data[k] = sh[k] + a.Data[k] by omega]
            rfl
          · rw [if_neg (by simpa using h2)]
            simp only [Option.bind_some]
            rw [ap2]
            have : dL a.Data[k] sh[k] = sh[k] := by unfold dL lenF; rw [if_pos h]; split <;> split <;> omega
            rw [this, Int.sub_self]
            rfl
        · rw [if_pos (by simp; omega), if_neg h, ap1]
          simp only [Option.bind_some]
          by_cases h2 : a.Data[k] < sh[k]
          · rw [if_pos (by simpa using h2), idx_get (by rw [List.length_append, tl]; simp), upd_nat (by rw [List.length_append, tl]; simp)]
            simp only [Option.bind_some]
            rw [w64_id (x := sh[k] - a.Data[k]) (by omega) (by omega), ap2]
            have : dL a.Data[k] sh[k] = a.Data[k] := by unfold dL lenF; rw [if_neg h, if_neg (by omega), if_neg (by omega)]
            rw [this, if_pos h2, List.set_append_right _ _ (by omega), tl, Nat.sub_self]
            rfl
          · rw [if_neg (by simpa using h2)]
            simp only [Option.bind_some]
            rw [ap2]
            have : dL a.Data[k] sh[k] = sh[k] := by unfold dL lenF; rw [if_neg h]; split <;> split <;> omega
            rw [this, if_neg h2, Int.sub_self]
            rfl) (by
        simp only [M.anamnesisref09_Drop_L1]
        rw [if_neg (by simp), List.take_of_length_le (by omega), List.take_of_length_le (by omega)])
      have he' : wloop (M.anamnesisref09_Drop_L1 a sh) ([], [], 0) = some (.next (rM a.Data sh, dS a.Data sh)) := hloop
      rw [he']
      obtain ⟨o1, o2, o3⟩ := dS_ok (l := a.Data) r3.2.1 r2.symm
      have hok : shOk (dS a.Data sh) := ⟨by have := r3.1; omega, o1, by have := r3.2.2; omega⟩
      simp only [Option.bind_some, joinK]
      rw [cut_eq r1 hok (by omega) (by omega) (rM_bd r3.2.1)]
      simp only [Option.bind_some]
      rcases rM_dM (l := a.Data) r3.2.1 r2.symm with h | h
      · rw [winF_zero h]
      · rw [h]
    · rw [if_pos (by simp [hr]), if_pos hr]
  · rw [if_pos (by simp [hc]), if_pos hc]
theorem told_same {v : Val} {e : Int} (hs : v.Shape.length ≤ maxLen) (hd : v.Data.length ≤ maxLen) : M.anamnesislaw09_told v e v e = some true := by
  unfold M.anamnesislaw09_told
  rw [if_pos (by simp), ref02_Same_eq hs hd, vSame_refl]
  rfl
theorem ref02_Copy_eq' {v : Val} (hs : v.Shape.length ≤ 1000000) (hd : v.Data.length ≤ 1000000) : M.anamnesisref02_Copy v = some v := by
  unfold M.anamnesisref02_Copy
  rw [app_ok (by simp; omega), app_ok (by simp; omega)]
  simp
theorem takeF_bd (a b : Val) : (takeF a b).1.Shape.length ≤ maxLen ∧ (takeF a b).1.Data.length ≤ maxLen := by
  have hm : maxLen = 9223372036854775807 := rfl
  unfold takeF
  split
  · simp [hm]
  · split
    · simp [hm]
    · split
      · rename_i h
        have h1 := h.1
        have h2 := h.2.2
        simp only [winF_len]
        simp only [winF]
        omega
      · simp [hm]
theorem dropF_bd (a b : Val) : (dropF a b).1.Shape.length ≤ maxLen ∧ (dropF a b).1.Data.length ≤ maxLen := by
  have hm : maxLen = 9223372036854775807 := rfl
  unfold dropF
  split
  · simp [hm]
  · split
    · simp [hm]
    · rename_i h1 h2
      obtain ⟨ra, rb, _⟩ := counts_right (Decidable.not_not.mp h1)
      obtain ⟨r1, r2, r3⟩ := rk_right rb (Decidable.not_not.mp h2)
      obtain ⟨o1, o2, o3⟩ := dS_ok (l := a.Data) r3.2.1 r2.symm
      have := r3.2.2
      have := r3.1
      simp only [winF_len]
      simp only [winF, dS, List.length_zipWith]
      simp only [dS] at o3
      omega
theorem pickEnds_true (a b : Val) (ga : (∀ x ∈ a.Shape, (Lit.int .i64 x).wf = true) ∧ (∀ x ∈ a.Data, (Lit.int .i64 x).wf = true) ∧ a.Shape.length ≤ maxLen ∧ a.Data.length ≤ maxLen)
    (gb : (∀ x ∈ b.Shape, (Lit.int .i64 x).wf = true) ∧ (∀ x ∈ b.Data, (Lit.int .i64 x).wf = true) ∧ b.Shape.length ≤ maxLen ∧ b.Data.length ≤ maxLen) : M.anamnesislaw09_PickEnds a b = some true := by
  have hm : maxLen = 9223372036854775807 := rfl
  unfold M.anamnesislaw09_PickEnds M.anamnesislaw07_Great
  simp only [Option.bind_some]
  by_cases h1 : a.Data.length > 2000 ∨ a.Shape.length > 10
  · rw [show (decide ((a.Data.length : Int) > 2000) || decide ((a.Shape.length : Int) > 10)) = true from by simp; omega]; rfl
  rw [show (decide ((a.Data.length : Int) > 2000) || decide ((a.Shape.length : Int) > 10)) = false from by simp; omega]
  simp only [Bool.false_eq_true, if_false, Option.bind_some]
  by_cases h2 : b.Data.length > 2000 ∨ b.Shape.length > 10
  · rw [show (decide ((b.Data.length : Int) > 2000) || decide ((b.Shape.length : Int) > 10)) = true from by simp; omega]; rfl
  rw [show (decide ((b.Data.length : Int) > 2000) || decide ((b.Shape.length : Int) > 10)) = false from by simp; omega]
  simp only [Bool.false_eq_true, if_false]
  rw [ref02_Copy_eq' (by omega) (by omega), ref02_Copy_eq' (by omega) (by omega), Take_eq (by omega) (by omega), ref09_Take_eq (by omega) (by omega)]
  simp only [Option.bind_some]
  rw [Drop_eq (by omega) (by omega), ref09_Drop_eq (by omega) (by omega) ga.2.1]
  simp only [Option.bind_some]
  have t := takeF_bd a b
  have d := dropF_bd a b
  rw [told_same t.1 t.2, told_same d.1 d.2]
  simp only [Option.bind_some, if_true]
  rw [ref02_Same_eq (by omega) (by omega), ref02_Same_eq (by omega) (by omega), vSame_refl, vSame_refl]
  rfl

end Go.Proofs.Ytmelmiffgkippaa.pickEnds
