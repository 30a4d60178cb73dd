/- PickKnown: what the code that the law reaches computes, as plain functions; and that the law comes to true. -/
import Derived.Test.YtmelmiffgkippaaAmU
set_option maxHeartbeats 4000000
set_option linter.unusedVariables false
set_option linter.unusedSimpArgs false
set_option maxRecDepth 100000
open Go Go.Am
namespace Go.Proofs.Ytmelmiffgkippaa.pickKnown
def str_97_32_98 : ByteArray := ⟨#[97, 32, 98]⟩
def str_97_98 : ByteArray := ⟨#[97, 98]⟩
def str_97_98_32_32_32 : ByteArray := ⟨#[97, 98, 32, 32, 32]⟩
noncomputable def M.value_Scalar (n1 : Int) : Option (Val) :=
  some (Val.mk false ([]) ([n1]))
noncomputable def M.slices_Clone__int64 (s1 : (List Int)) : Option ((List Int)) :=
  app 8 [] s1
noncomputable def M.value_Vector (l1 : (List Int)) : Option (Val) :=
  (sub l1 0 (if 10000 < (l1.length : Int) then 10000 else (l1.length : Int))).bind fun l2 =>
  (M.slices_Clone__int64 l2).bind fun r1 =>
  some (Val.mk false ([(r1.length : Int)]) r1)
noncomputable def M.slices_IndexFunc__int64_L1 (s1 : (List Int)) (f1 : (Int → Option (Bool))) (s : Int) : Option (Ctl (Int) (Ctl (Unit) (Int))) :=
  match s with
  | t1 =>
    if (decide (t1 < (s1.length : Int))) then
      (idx s1 t1).bind fun y1 =>
      (f1 y1).bind fun r1 =>
      if r1 then
        some (.done (.done t1))
      else
        some (.next (IntKind.i64.wrap (t1 + 1)))
    else
      some (.done (.next ()))
noncomputable def M.slices_IndexFunc__int64 (s1 : (List Int)) (f1 : (Int → Option (Bool))) : Option (Int) :=
  (wloop (M.slices_IndexFunc__int64_L1 s1 f1) 0).bind fun k => joinK k fun _ =>
  some (-1)
noncomputable def M.slices_ContainsFunc__int64 (s1 : (List Int)) (f1 : (Int → Option (Bool))) : Option (Bool) :=
  (M.slices_IndexFunc__int64 s1 f1).bind fun r1 =>
  some (decide (r1 ≥ 0))
noncomputable def M.unicode_utf8_ValidRune (r1 : Int) : Option (Bool) :=
  if ((decide (0 ≤ r1)) && (decide (r1 < 55296))) then
    some true
  else
    if ((decide (57343 < r1)) && (decide (r1 ≤ 1114111))) then
      some true
    else
      some false
noncomputable def M.value_character (n1 : Int) : Option (Bool) :=
  (if ((decide (n1 ≥ 0)) && (decide (n1 ≤ 1114111))) then
  (M.unicode_utf8_ValidRune (IntKind.i32.wrap n1)).bind fun r1 =>
  some r1 else
  some false).bind fun c2 =>
  some c2
noncomputable def M.value_Right_1 (n1 : Int) : Option (Bool) :=
  (M.value_character n1).bind fun r1 =>
  some (!r1)
noncomputable def M.value_Right_L1 (v1 : Val) (s : Int × Int) : Option (Ctl (Int × Int) (Ctl (Int) (Bool))) :=
  match s with
  | (size1, t1) =>
    if (decide (t1 < (v1.Shape.length : Int))) then
      (idx v1.Shape t1).bind fun y1 =>
      if ((decide (y1 < 0)) || (decide (y1 > 10000))) then
        some (.done (.done false))
      else
        some (.next ((IntKind.i64.wrap (size1 * y1)), (IntKind.i64.wrap (t1 + 1))))
    else
      some (.done (.next size1))
noncomputable def M.value_Right (v1 : Val) : Option (Bool) :=
  if (decide ((v1.Shape.length : Int) > 4)) then
    some false
  else
    (wloop (M.value_Right_L1 v1) (1, 0)).bind fun k => joinK k fun size1 =>
    if ((decide (size1 > 10000)) || (size1 != (v1.Data.length : Int))) then
      some false
    else
      (if (!v1.Char) then
      some true else
      (M.slices_ContainsFunc__int64 v1.Data (fun x0 => M.value_Right_1 x0)).bind fun r1 =>
      some (!r1)).bind fun c4 =>
      some c4
noncomputable def M.pick_counts (a1 : Val) (b1 : Val) : Option (Int) :=
  (M.value_Right a1).bind fun r1 =>
  (if (!r1) then
  some true else
  (M.value_Right b1).bind fun r2 =>
  some (!r2)).bind fun c1 =>
  if c1 then
    some 1
  else
    if (decide ((a1.Shape.length : Int) > 1)) then
      some 24
    else
      if (a1.Char && (decide ((a1.Data.length : Int) > 0))) then
        some 23
      else
        some 0
noncomputable def M.math_bits_Mul64 (x1 : Int) (y1 : Int) : Option (Int × Int) :=
  some ((IntKind.u64.wrap ((IntKind.u64.wrap ((IntKind.u64.wrap ((Int.fdiv x1 (2 ^ (min (Int.toNat 32) IntKind.u64.bits))) * (Int.fdiv y1 (2 ^ (min (Int.toNat 32) IntKind.u64.bits))))) + (Int.fdiv (IntKind.u64.wrap ((IntKind.u64.wrap ((Int.fdiv x1 (2 ^ (min (Int.toNat 32) IntKind.u64.bits))) * (IntKind.u64.wrap (BitVec.ofInt IntKind.u64.bits y1 &&& BitVec.ofInt IntKind.u64.bits 4294967295).toNat))) + (Int.fdiv (IntKind.u64.wrap ((IntKind.u64.wrap (BitVec.ofInt IntKind.u64.bits x1 &&& BitVec.ofInt IntKind.u64.bits 4294967295).toNat) * (IntKind.u64.wrap (BitVec.ofInt IntKind.u64.bits y1 &&& BitVec.ofInt IntKind.u64.bits 4294967295).toNat))) (2 ^ (min (Int.toNat 32) IntKind.u64.bits))))) (2 ^ (min (Int.toNat 32) IntKind.u64.bits))))) + (Int.fdiv (IntKind.u64.wrap ((IntKind.u64.wrap (BitVec.ofInt IntKind.u64.bits (IntKind.u64.wrap ((IntKind.u64.wrap ((Int.fdiv x1 (2 ^ (min (Int.toNat 32) IntKind.u64.bits))) * (IntKind.u64.wrap (BitVec.ofInt IntKind.u64.bits y1 &&& BitVec.ofInt IntKind.u64.bits 4294967295).toNat))) + (Int.fdiv (IntKind.u64.wrap ((IntKind.u64.wrap (BitVec.ofInt IntKind.u64.bits x1 &&& BitVec.ofInt IntKind.u64.bits 4294967295).toNat) * (IntKind.u64.wrap (BitVec.ofInt IntKind.u64.bits y1 &&& BitVec.ofInt IntKind.u64.bits 4294967295).toNat))) (2 ^ (min (Int.toNat 32) IntKind.u64.bits))))) &&& BitVec.ofInt IntKind.u64.bits 4294967295).toNat) + (IntKind.u64.wrap ((IntKind.u64.wrap (BitVec.ofInt IntKind.u64.bits x1 &&& BitVec.ofInt IntKind.u64.bits 4294967295).toNat) * (Int.fdiv y1 (2 ^ (min (Int.toNat 32) IntKind.u64.bits))))))) (2 ^ (min (Int.toNat 32) IntKind.u64.bits))))), (IntKind.u64.wrap (x1 * y1)))
noncomputable def M.math_bits_Mul (x1 : Int) (y1 : Int) : Option (Int × Int) :=
  (M.math_bits_Mul64 x1 y1).bind fun (r1, r2) =>
  some (r1, r2)
noncomputable def M.slices_Repeat__int_L1 (s : Int × (List Int)) : Option (Ctl (Int × (List Int)) (Ctl ((List Int)) ((List Int)))) :=
  match s with
  | (n1, l2) =>
    if (decide (n1 < (l2.length : Int))) then
      (sub l2 n1 l2.length).bind fun l3 =>
      (sub l2 0 n1).bind fun l4 =>
      some (.next ((IntKind.i64.wrap (n1 + ((min l4.length l3.length : Nat) : Int))), (cpy l2 (Int.toNat n1) l3.length l4)))
    else
      some (.done (.next l2))
noncomputable def M.slices_Repeat__int (x1 : (List Int)) (count1 : Int) : Option ((List Int)) :=
  if (decide (count1 < 0)) then
    none
  else
    (M.math_bits_Mul (IntKind.u64.wrap (x1.length : Int)) (IntKind.u64.wrap count1)).bind fun (r1, r2) =>
    if ((decide (r1 > 0)) || (decide (r2 > 9223372036854775807))) then
      none
    else
      (mk 8 (0 : Int) (IntKind.i64.wrap r2) (IntKind.i64.wrap r2)).bind fun l1 =>
      (wloop (M.slices_Repeat__int_L1) (((min x1.length l1.length : Nat) : Int), (cpy l1 0 l1.length x1))).bind fun k => joinK k fun l2 =>
      some l2
noncomputable def M.pick_ranked (a1 : Val) (b1 : Val) : Option (Val × Int) :=
  (if ((b1.Shape.length : Int) == 0) then
    if (decide ((a1.Data.length : Int) > 4)) then
      some (.done (b1, 24))
    else
      (M.slices_Repeat__int ([1]) (a1.Data.length : Int)).bind fun r1 =>
      some (.next r1)
  else
    some (.next b1.Shape)).bind fun k => joinK k fun Shape1 =>
  if ((Shape1.length : Int) != (a1.Data.length : Int)) then
    some ((Val.mk b1.Char Shape1 b1.Data), 25)
  else
    some ((Val.mk b1.Char Shape1 b1.Data), 0)
noncomputable def M.pick_length (n1 : Int) : Option (Int) :=
  (if (decide (n1 < 0)) then
    some (IntKind.i64.wrap (0 - (if n1 < (-10001) then (-10001) else n1)))
  else
    some n1).bind fun n2 =>
  some (if 10001 < n2 then 10001 else n2)
noncomputable def M.slices_IndexFunc__int_L1 (s1 : (List Int)) (f1 : (Int → Option (Bool))) (s : Int) : Option (Ctl (Int) (Ctl (Unit) (Int))) :=
  match s with
  | t1 =>
    if (decide (t1 < (s1.length : Int))) then
      (idx s1 t1).bind fun y1 =>
      (f1 y1).bind fun r1 =>
      if r1 then
        some (.done (.done t1))
      else
        some (.next (IntKind.i64.wrap (t1 + 1)))
    else
      some (.done (.next ()))
noncomputable def M.slices_IndexFunc__int (s1 : (List Int)) (f1 : (Int → Option (Bool))) : Option (Int) :=
  (wloop (M.slices_IndexFunc__int_L1 s1 f1) 0).bind fun k => joinK k fun _ =>
  some (-1)
noncomputable def M.slices_ContainsFunc__int (s1 : (List Int)) (f1 : (Int → Option (Bool))) : Option (Bool) :=
  (M.slices_IndexFunc__int s1 f1).bind fun r1 =>
  some (decide (r1 ≥ 0))
noncomputable def M.shape_Size_1 (n1 : Int) : Option (Bool) :=
  some (decide (n1 < 0))
noncomputable def M.shape_Size_2 (n1 : Int) : Option (Bool) :=
  some (decide (n1 > 10000))
noncomputable def M.shape_product_L1 (s1 : (List Int)) (s : Int × Int) : Option (Ctl (Int × Int) (Ctl (Int) (Int))) :=
  match s with
  | (p1, t1) =>
    if (decide (t1 < (s1.length : Int))) then
      (idx s1 t1).bind fun y1 =>
      some (.next ((IntKind.i64.wrap (p1 * y1)), (IntKind.i64.wrap (t1 + 1))))
    else
      some (.done (.next p1))
noncomputable def M.shape_product (s1 : (List Int)) : Option (Int) :=
  (wloop (M.shape_product_L1 s1) (1, 0)).bind fun k => joinK k fun p1 =>
  some p1
noncomputable def M.shape_Size (s1 : (List Int)) : Option (Int × Int) :=
  if (decide ((s1.length : Int) > 4)) then
    some (0, 24)
  else
    (M.slices_ContainsFunc__int s1 (fun x0 => M.shape_Size_1 x0)).bind fun r1 =>
    if r1 then
      some (0, 1)
    else
      ((M.slices_ContainsFunc__int s1 (fun x0 => M.shape_Size_2 x0)).bind fun r2 =>
      if r2 then
        some r2
      else
        (M.shape_product s1).bind fun r3 =>
        some (decide (r3 > 10000))).bind fun t1 =>
      if t1 then
        some (0, 27)
      else
        (M.shape_product s1).bind fun r4 =>
        some (r4, 0)
noncomputable def M.pick_size_1 (n1 : Int) : Option (Bool) :=
  some (decide (n1 > 10000))
noncomputable def M.pick_size (s1 : (List Int)) : Option (Int × Bool) :=
  (M.shape_Size s1).bind fun (r1, r2) =>
  (if (r2 == 0) then
  (M.slices_ContainsFunc__int s1 (fun x0 => M.pick_size_1 x0)).bind fun r3 =>
  some (!r3) else
  some false).bind fun c1 =>
  some (r1, c1)
noncomputable def M.shape_At_L1 (s1 : (List Int)) (s : Int × Int × (List Int)) : Option (Ctl (Int × Int × (List Int)) (Ctl ((List Int)) ((List Int) × Bool))) :=
  match s with
  | (k2, i1, l2) =>
    if (decide (i1 ≥ 0)) then
      (idx s1 i1).bind fun y1 =>
      (remI k2 y1).bind fun q1 =>
      (idx s1 i1).bind fun y2 =>
      (quoI .i64 k2 y2).bind fun q2 =>
      (idx l2 i1).bind fun y3 =>
      (upd l2 i1 q1).bind fun l3 =>
      some (.next (q2, (IntKind.i64.wrap (i1 - 1)), l3))
    else
      some (.done (.next l2))
noncomputable def M.shape_At (s1 : (List Int)) (k1 : Int) : Option ((List Int) × Bool) :=
  (M.shape_Size s1).bind fun (r1, r2) =>
  if (((r2 != 0) || (decide (k1 < 0))) || (decide (k1 ≥ r1))) then
    some ([], false)
  else
    (mk 8 (0 : Int) (s1.length : Int) (s1.length : Int)).bind fun l1 =>
    (wloop (M.shape_At_L1 s1) (k1, (IntKind.i64.wrap ((s1.length : Int) - 1)), l1)).bind fun k => joinK k fun l2 =>
    some (l2, true)
noncomputable def M.value_Fill (v1 : Val) : Option (Int) :=
  if v1.Char then
    some 32
  else
    some 0
noncomputable def M.shape_sized (s1 : (List Int)) : Option (Bool) :=
  (M.shape_Size s1).bind fun (r1, r2) =>
  some (r2 == 0)
noncomputable def M.shape_Offset_L1 (s1 : (List Int)) (at1 : (List Int)) (s : Int × Int) : Option (Ctl (Int × Int) (Ctl (Int) (Int × Bool))) :=
  match s with
  | (k1, t1) =>
    if (decide (t1 < (at1.length : Int))) then
      (idx at1 t1).bind fun y1 =>
      (if (decide (y1 < 0)) then
      some true else
      (idx s1 t1).bind fun y2 =>
      some (decide (y1 ≥ y2))).bind fun c3 =>
      if c3 then
        some (.done (.done (0, false)))
      else
        (idx s1 t1).bind fun y3 =>
        some (.next ((IntKind.i64.wrap ((IntKind.i64.wrap (k1 * y3)) + y1)), (IntKind.i64.wrap (t1 + 1))))
    else
      some (.done (.next k1))
noncomputable def M.shape_Offset (s1 : (List Int)) (at1 : (List Int)) : Option (Int × Bool) :=
  (if ((at1.length : Int) != (s1.length : Int)) then
  some true else
  (M.shape_sized s1).bind fun r1 =>
  some (!r1)).bind fun c1 =>
  if c1 then
    some (0, false)
  else
    (wloop (M.shape_Offset_L1 s1 at1) (0, 0)).bind fun k => joinK k fun k1 =>
    some (k1, true)
noncomputable def M.pick_window_L2 (move1 : (List Int)) (r3 : (List Int)) (s : Int × (List Int)) : Option (Ctl (Int × (List Int)) (Ctl ((List Int)) (Ctl (Int × (List Int)) (Ctl ((List Int)) (Val))))) :=
  match s with
  | (t2, l3) =>
    if (decide (t2 < (r3.length : Int))) then
      (idx l3 t2).bind fun y1 =>
      (idx move1 t2).bind fun y2 =>
      (idx l3 t2).bind fun y3 =>
      (upd l3 t2 (IntKind.i64.wrap (y1 + y2))).bind fun l4 =>
      some (.next ((IntKind.i64.wrap (t2 + 1)), l4))
    else
      some (.done (.next l3))
noncomputable def M.pick_window_L1 (b1 : Val) (s1 : (List Int)) (move1 : (List Int)) (l1 : List Int) (s : Int × (List Int)) : Option (Ctl (Int × (List Int)) (Ctl ((List Int)) (Val))) :=
  match s with
  | (t1, l2) =>
    if (decide (t1 < (l1.length : Int))) then
      (M.shape_At s1 t1).bind fun (r3, r4) =>
      (wloop (M.pick_window_L2 move1 r3) (0, r3)).bind fun k => joinK k fun l3 =>
      (M.value_Fill b1).bind fun r5 =>
      (idx l2 t1).bind fun y4 =>
      (upd l2 t1 r5).bind fun l5 =>
      (M.shape_Offset b1.Shape l3).bind fun (r6, r7) =>
      if r7 then
        (idx b1.Data r6).bind fun y5 =>
        (idx l5 t1).bind fun y6 =>
        (upd l5 t1 y5).bind fun l6 =>
        some (.next ((IntKind.i64.wrap (t1 + 1)), l6))
      else
        some (.next ((IntKind.i64.wrap (t1 + 1)), l5))
    else
      some (.done (.next l2))
noncomputable def M.pick_window (b1 : Val) (s1 : (List Int)) (move1 : (List Int)) : Option (Val) :=
  (M.pick_size s1).bind fun (r1, r2) =>
  (mk 8 (0 : Int) r1 r1).bind fun l1 =>
  (wloop (M.pick_window_L1 b1 s1 move1 l1) (0, l1)).bind fun k => joinK k fun l2 =>
  some (Val.mk b1.Char s1 l2)
noncomputable def M.pick_Take_L1 (a1 : Val) (r2 : Val) (s : (List Int) × (List Int) × Int) : Option (Ctl ((List Int) × (List Int) × Int) (Ctl ((List Int) × (List Int)) (Val × Int))) :=
  match s with
  | (s1, move1, t1) =>
    if (decide (t1 < (a1.Data.length : Int))) then
      (idx a1.Data t1).bind fun y1 =>
      (M.pick_length y1).bind fun r4 =>
      (app 8 s1 ([r4])).bind fun l1 =>
      if (decide (y1 < 0)) then
        (idx r2.Shape t1).bind fun y2 =>
        (app 8 move1 ([(IntKind.i64.wrap (y2 - r4))])).bind fun l2 =>
        some (.next (l1, l2, (IntKind.i64.wrap (t1 + 1))))
      else
        (app 8 move1 ([0])).bind fun l3 =>
        some (.next (l1, l3, (IntKind.i64.wrap (t1 + 1))))
    else
      some (.done (.next (s1, move1)))
noncomputable def M.pick_Take (a1 : Val) (b1 : Val) : Option (Val × Int) :=
  (M.pick_counts a1 b1).bind fun r1 =>
  if (r1 != 0) then
    some ((Val.mk false ([]) ([])), r1)
  else
    (M.pick_ranked a1 b1).bind fun (r2, r3) =>
    if (r3 != 0) then
      some ((Val.mk false ([]) ([])), r3)
    else
      (wloop (M.pick_Take_L1 a1 r2) (([] : List Int), ([] : List Int), 0)).bind fun k => joinK k fun (s1, move1) =>
      (M.pick_size s1).bind fun (r5, r6) =>
      if (!r6) then
        some ((Val.mk false ([]) ([])), 27)
      else
        (M.pick_window r2 s1 move1).bind fun r7 =>
        some (r7, 0)
noncomputable def M.value_Text_L1 (s1 : ByteArray) (s : (List Int) × Nat) : Option (Ctl ((List Int) × Nat) (Ctl ((List Int)) ((List Int)))) :=
  match s with
  | (Data2, pos1) =>
    if (decide (pos1 < s1.size)) then
      if ((Data2.length : Int) == 10000) then
        some (.done (.next Data2))
      else
        (app 8 Data2 ([(IntKind.i64.wrap (runeAt s1 pos1))])).bind fun l1 =>
        some (.next (l1, (nextP s1 pos1)))
    else
      some (.done (.next Data2))
noncomputable def M.value_Text (s1 : ByteArray) : Option (Val) :=
  ((wloop (M.value_Text_L1 s1) ([], 0)).bind fun k => joinK k fun jx =>
  some jx).bind fun Data1 =>
  some (Val.mk true ([(Data1.length : Int)]) Data1)
noncomputable def M.anamnesislaw07_Of (shape1 : (List Int)) (l1 : (List Int)) : Option (Val) :=
  some (Val.mk false shape1 l1)
noncomputable def M.anamnesislaw09_six : Option (Val) :=
  (M.anamnesislaw07_Of ([2, 3]) ([1, 2, 3, 4, 5, 6])).bind fun r1 =>
  some r1
noncomputable def M.pick_Drop_L1 (a1 : Val) (r2 : Val) (s : (List Int) × (List Int) × Int) : Option (Ctl ((List Int) × (List Int) × Int) (Ctl ((List Int) × (List Int)) (Val × Int))) :=
  match s with
  | (s1, move1, t1) =>
    if (decide (t1 < (a1.Data.length : Int))) then
      (idx a1.Data t1).bind fun y1 =>
      (M.pick_length y1).bind fun r4 =>
      (idx r2.Shape t1).bind fun y2 =>
      (idx r2.Shape t1).bind fun y3 =>
      (app 8 s1 ([(IntKind.i64.wrap (y3 - (if y2 < r4 then y2 else r4)))])).bind fun l1 =>
      (if (decide (y1 < 0)) then
        some 0
      else
        some (if y2 < r4 then y2 else r4)).bind fun m1 =>
      (app 8 move1 ([m1])).bind fun l2 =>
      some (.next (l1, l2, (IntKind.i64.wrap (t1 + 1))))
    else
      some (.done (.next (s1, move1)))
noncomputable def M.pick_Drop (a1 : Val) (b1 : Val) : Option (Val × Int) :=
  (M.pick_counts a1 b1).bind fun r1 =>
  if (r1 != 0) then
    some ((Val.mk false ([]) ([])), r1)
  else
    (M.pick_ranked a1 b1).bind fun (r2, r3) =>
    if (r3 != 0) then
      some ((Val.mk false ([]) ([])), r3)
    else
      (wloop (M.pick_Drop_L1 a1 r2) (([] : List Int), ([] : List Int), 0)).bind fun k => joinK k fun (s1, move1) =>
      (M.pick_window r2 s1 move1).bind fun r5 =>
      some (r5, 0)
noncomputable def M.anamnesisref02_Same_L2 (a1 : Val) (b1 : Val) (s : Int) : Option (Ctl (Int) (Ctl (Unit) (Bool))) :=
  match s with
  | i2 =>
    if (decide (i2 < (a1.Data.length : Int))) then
      (idx a1.Data i2).bind fun y3 =>
      (idx b1.Data i2).bind fun y4 =>
      if (y3 != y4) then
        some (.done (.done false))
      else
        some (.next (IntKind.i64.wrap (i2 + 1)))
    else
      some (.done (.next ()))
noncomputable def M.anamnesisref02_Same_L1 (a1 : Val) (b1 : Val) (s : Int) : Option (Ctl (Int) (Ctl (Unit) (Bool))) :=
  match s with
  | i1 =>
    if (decide (i1 < (a1.Shape.length : Int))) then
      (idx a1.Shape i1).bind fun y1 =>
      (idx b1.Shape i1).bind fun y2 =>
      if (y1 != y2) then
        some (.done (.done false))
      else
        some (.next (IntKind.i64.wrap (i1 + 1)))
    else
      some (.done (.next ()))
noncomputable def M.anamnesisref02_Same (a1 : Val) (b1 : Val) : Option (Bool) :=
  if (((!(a1.Char == b1.Char)) || ((a1.Shape.length : Int) != (b1.Shape.length : Int))) || ((a1.Data.length : Int) != (b1.Data.length : Int))) then
    some false
  else
    (wloop (M.anamnesisref02_Same_L1 a1 b1) 0).bind fun k => joinK k fun _ =>
    (wloop (M.anamnesisref02_Same_L2 a1 b1) 0).bind fun k => joinK k fun _ =>
    some true
noncomputable def M.anamnesislaw07_Is (v1 : Val) (e1 : Int) (want1 : Val) : Option (Bool) :=
  (if (e1 == 0) then
  (M.anamnesisref02_Same v1 want1).bind fun r1 =>
  some r1 else
  some false).bind fun c1 =>
  some c1
noncomputable def M.pick_lined (b1 : Val) (axis1 : Int) : Option (Val × Int × Bool) :=
  (if ((b1.Shape.length : Int) == 0) then
    some [1]
  else
    some b1.Shape).bind fun Shape1 =>
  (if (axis1 == (-1)) then
    some (IntKind.i64.wrap ((Shape1.length : Int) - 1))
  else
    some axis1).bind fun axis2 =>
  some ((Val.mk b1.Char Shape1 b1.Data), axis2, ((decide (axis2 ≥ 0)) && (decide (axis2 < (Shape1.length : Int)))))
noncomputable def M.pick_Compress_1 (n1 : Int) : Option (Bool) :=
  some (decide (n1 < 0))
noncomputable def M.slices_Repeat__int64_L1 (s : Int × (List Int)) : Option (Ctl (Int × (List Int)) (Ctl ((List Int)) ((List Int)))) :=
  match s with
  | (n1, l2) =>
    if (decide (n1 < (l2.length : Int))) then
      (sub l2 n1 l2.length).bind fun l3 =>
      (sub l2 0 n1).bind fun l4 =>
      some (.next ((IntKind.i64.wrap (n1 + ((min l4.length l3.length : Nat) : Int))), (cpy l2 (Int.toNat n1) l3.length l4)))
    else
      some (.done (.next l2))
noncomputable def M.slices_Repeat__int64 (x1 : (List Int)) (count1 : Int) : Option ((List Int)) :=
  if (decide (count1 < 0)) then
    none
  else
    (M.math_bits_Mul (IntKind.u64.wrap (x1.length : Int)) (IntKind.u64.wrap count1)).bind fun (r1, r2) =>
    if ((decide (r1 > 0)) || (decide (r2 > 9223372036854775807))) then
      none
    else
      (mk 8 (0 : Int) (IntKind.i64.wrap r2) (IntKind.i64.wrap r2)).bind fun l1 =>
      (wloop (M.slices_Repeat__int64_L1) (((min x1.length l1.length : Nat) : Int), (cpy l1 0 l1.length x1))).bind fun k => joinK k fun l2 =>
      some l2
noncomputable def M.slices_Clone__int (s1 : (List Int)) : Option ((List Int)) :=
  app 8 [] s1
noncomputable def M.shape_Split (s1 : (List Int)) (axis1 : Int) : Option (Int × Int × Int × Bool) :=
  (if ((decide (axis1 < 0)) || (decide (axis1 ≥ (s1.length : Int)))) then
  some true else
  (M.shape_sized s1).bind fun r1 =>
  some (!r1)).bind fun c2 =>
  if c2 then
    some (0, 0, 0, false)
  else
    (sub s1 0 axis1).bind fun l1 =>
    (M.shape_product l1).bind fun r2 =>
    (idx s1 axis1).bind fun y1 =>
    (sub s1 (IntKind.i64.wrap (axis1 + 1)) s1.length).bind fun l2 =>
    (M.shape_product l2).bind fun r3 =>
    some (r2, y1, r3, true)
noncomputable def M.pick_along_L2 (b1 : Val) (from1 : (List Int)) (r5 : Int) (r6 : Int) (i1 : Int) (s : Int × (List Int)) : Option (Ctl (Int × (List Int)) (Ctl ((List Int)) (Ctl (Int × (List Int)) (Ctl ((List Int)) (Val × Int))))) :=
  match s with
  | (t1, Data2) =>
    if (decide (t1 < (from1.length : Int))) then
      (idx from1 t1).bind fun y2 =>
      if (decide (y2 < 0)) then
        (M.value_Fill b1).bind fun r8 =>
        (M.slices_Repeat__int64 ([r8]) r6).bind fun r9 =>
        (app 8 Data2 r9).bind fun l3 =>
        some (.next ((IntKind.i64.wrap (t1 + 1)), l3))
      else
        (sub b1.Data (IntKind.i64.wrap ((IntKind.i64.wrap ((IntKind.i64.wrap (i1 * r5)) + y2)) * r6)) (IntKind.i64.wrap ((IntKind.i64.wrap ((IntKind.i64.wrap ((IntKind.i64.wrap (i1 * r5)) + y2)) * r6)) + r6))).bind fun l4 =>
        (app 8 Data2 l4).bind fun l5 =>
        some (.next ((IntKind.i64.wrap (t1 + 1)), l5))
    else
      some (.done (.next Data2))
noncomputable def M.pick_along_L1 (b1 : Val) (from1 : (List Int)) (r2 : Int) (r4 : Int) (r5 : Int) (r6 : Int) (s : Int × (List Int)) : Option (Ctl (Int × (List Int)) (Ctl ((List Int)) (Val × Int))) :=
  match s with
  | (i1, Data1) =>
    if ((decide (i1 < r4)) && (decide (r2 > 0))) then
      (wloop (M.pick_along_L2 b1 from1 r5 r6 i1) (0, Data1)).bind fun k => joinK k fun Data2 =>
      some (.next ((IntKind.i64.wrap (i1 + 1)), Data2))
    else
      some (.done (.next Data1))
noncomputable def M.pick_along (b1 : Val) (axis1 : Int) (from1 : (List Int)) : Option (Val × Int) :=
  (M.slices_Clone__int b1.Shape).bind fun r1 =>
  (idx r1 axis1).bind fun y1 =>
  (upd r1 axis1 (from1.length : Int)).bind fun l1 =>
  (M.pick_size l1).bind fun (r2, r3) =>
  if (!r3) then
    some ((Val.mk false ([]) ([])), 27)
  else
    (mk 8 (0 : Int) 0 r2).bind fun l2 =>
    (M.shape_Split b1.Shape axis1).bind fun (r4, r5, r6, r7) =>
    (wloop (M.pick_along_L1 b1 from1 r2 r4 r5 r6) (0, l2)).bind fun k => joinK k fun Data1 =>
    some ((Val.mk b1.Char l1 Data1), 0)
noncomputable def M.pick_Compress_L2 (y1 : Int) (t1 : Int) (y2 : Int) (s : (List Int) × Int) : Option (Ctl ((List Int) × Int) (Ctl ((List Int)) (Ctl ((List Int) × Int) (Ctl ((List Int)) (Val × Int))))) :=
  match s with
  | (from2, t2) =>
    if (decide (t2 < (if 10001 < y2 then 10001 else y2))) then
      if (decide ((from2.length : Int) > 10000)) then
        some (.done (.done (.done (.done ((Val.mk false ([]) ([])), 27)))))
      else
        (remI t1 y1).bind fun q1 =>
        (app 8 from2 ([q1])).bind fun l2 =>
        some (.next (l2, (IntKind.i64.wrap (t2 + 1))))
    else
      some (.done (.next from2))
noncomputable def M.pick_Compress_L1 (y1 : Int) (l1 : (List Int)) (s : (List Int) × Int) : Option (Ctl ((List Int) × Int) (Ctl ((List Int)) (Val × Int))) :=
  match s with
  | (from1, t1) =>
    if (decide (t1 < (l1.length : Int))) then
      (idx l1 t1).bind fun y2 =>
      (wloop (M.pick_Compress_L2 y1 t1 y2) (from1, 0)).bind fun k => joinK k fun from2 =>
      some (.next (from2, (IntKind.i64.wrap (t1 + 1))))
    else
      some (.done (.next from1))
noncomputable def M.pick_Compress (a1 : Val) (b1 : Val) (axis1 : Int) : Option (Val × Int) :=
  (M.pick_counts a1 b1).bind fun r1 =>
  if (r1 != 0) then
    some ((Val.mk false ([]) ([])), r1)
  else
    (M.pick_lined b1 axis1).bind fun (r2, r3, r4) =>
    if (!r4) then
      some ((Val.mk false ([]) ([])), 26)
    else
      (M.slices_ContainsFunc__int64 a1.Data (fun x0 => M.pick_Compress_1 x0)).bind fun r5 =>
      if r5 then
        some ((Val.mk false ([]) ([])), 23)
      else
        (idx r2.Shape r3).bind fun y1 =>
        (if ((a1.Data.length : Int) == 1) then
          (M.slices_Repeat__int64 a1.Data y1).bind fun r6 =>
          some r6
        else
          some a1.Data).bind fun l1 =>
        if ((y1 != 1) && ((l1.length : Int) != y1)) then
          some ((Val.mk false ([]) ([])), 25)
        else
          (wloop (M.pick_Compress_L1 y1 l1) (([] : List Int), 0)).bind fun k => joinK k fun from1 =>
          (M.pick_along r2 r3 from1).bind fun (r7, r8) =>
          some (r7, r8)
noncomputable def M.pick_Expand_1 (n1 : Int) : Option (Bool) :=
  some ((n1 != 0) && (n1 != 1))
noncomputable def M.pick_Expand_L1 (a1 : Val) (y1 : Int) (s : Int × (List Int) × Int) : Option (Ctl (Int × (List Int) × Int) (Ctl (Int × (List Int)) (Val × Int))) :=
  match s with
  | (next1, from1, t1) =>
    if (decide (t1 < (a1.Data.length : Int))) then
      (idx a1.Data t1).bind fun y2 =>
      if (y2 == 0) then
        (app 8 from1 ([(-1)])).bind fun l1 =>
        some (.next (next1, l1, (IntKind.i64.wrap (t1 + 1))))
      else
        (remI next1 (if y1 < 1 then 1 else y1)).bind fun q1 =>
        (app 8 from1 ([q1])).bind fun l2 =>
        some (.next ((IntKind.i64.wrap (next1 + 1)), l2, (IntKind.i64.wrap (t1 + 1))))
    else
      some (.done (.next (next1, from1)))
noncomputable def M.pick_Expand (a1 : Val) (b1 : Val) (axis1 : Int) : Option (Val × Int) :=
  (M.pick_counts a1 b1).bind fun r1 =>
  if (r1 != 0) then
    some ((Val.mk false ([]) ([])), r1)
  else
    (M.pick_lined b1 axis1).bind fun (r2, r3, r4) =>
    if (!r4) then
      some ((Val.mk false ([]) ([])), 26)
    else
      (M.slices_ContainsFunc__int64 a1.Data (fun x0 => M.pick_Expand_1 x0)).bind fun r5 =>
      if r5 then
        some ((Val.mk false ([]) ([])), 23)
      else
        (idx r2.Shape r3).bind fun y1 =>
        (wloop (M.pick_Expand_L1 a1 y1) (0, ([] : List Int), 0)).bind fun k => joinK k fun (next1, from1) =>
        if ((y1 != 1) && (next1 != y1)) then
          some ((Val.mk false ([]) ([])), 25)
        else
          (M.pick_along r2 r3 from1).bind fun (r6, r7) =>
          some (r6, r7)
noncomputable def M.anamnesislaw07_None (v1 : Val) (e1 : Int) (want1 : Int) : Option (Bool) :=
  (if (e1 == want1) then
  (M.anamnesisref02_Same v1 (Val.mk false ([]) ([]))).bind fun r1 =>
  some r1 else
  some false).bind fun c1 =>
  some c1
noncomputable def M.anamnesislaw09_PickKnown : Option (Bool) :=
  (M.value_Scalar (-2)).bind fun r1 =>
  (M.value_Vector ([1, 2, 3])).bind fun r2 =>
  (M.pick_Take r1 r2).bind fun (r3, r4) =>
  (M.value_Scalar 5).bind fun r5 =>
  (M.value_Text str_97_98).bind fun r6 =>
  (M.pick_Take r5 r6).bind fun (r7, r8) =>
  (M.value_Vector ([2, (-2)])).bind fun r9 =>
  (M.anamnesislaw09_six).bind fun r10 =>
  (M.pick_Take r9 r10).bind fun (r11, r12) =>
  (M.value_Scalar (-5)).bind fun r13 =>
  (M.value_Vector ([1, 2, 3])).bind fun r14 =>
  (M.pick_Drop r13 r14).bind fun (r15, r16) =>
  (M.value_Vector ([1, 1])).bind fun r17 =>
  (M.anamnesislaw09_six).bind fun r18 =>
  (M.pick_Drop r17 r18).bind fun (r19, r20) =>
  (M.value_Vector ([2, 2])).bind fun r21 =>
  (M.value_Scalar 9).bind fun r22 =>
  (M.pick_Take r21 r22).bind fun (r23, r24) =>
  (M.value_Vector ([])).bind fun r25 =>
  (M.value_Scalar 9).bind fun r26 =>
  (M.pick_Drop r25 r26).bind fun (r27, r28) =>
  (M.value_Vector ([2, 3])).bind fun r29 =>
  (M.anamnesislaw07_Is r3 r4 r29).bind fun r30 =>
  (if (!r30) then
  some true else
  (M.value_Text str_97_98_32_32_32).bind fun r31 =>
  (M.anamnesislaw07_Is r7 r8 r31).bind fun r32 =>
  some (!r32)).bind fun c1 =>
  (if c1 then
  some true else
  (M.anamnesislaw07_Of ([2, 2]) ([2, 3, 5, 6])).bind fun r33 =>
  (M.anamnesislaw07_Is r11 r12 r33).bind fun r34 =>
  some (!r34)).bind fun c2 =>
  (if c2 then
  some true else
  (M.value_Vector ([])).bind fun r35 =>
  (M.anamnesislaw07_Is r15 r16 r35).bind fun r36 =>
  some (!r36)).bind fun c3 =>
  (if c3 then
  some true else
  (M.anamnesislaw07_Of ([1, 2]) ([5, 6])).bind fun r37 =>
  (M.anamnesislaw07_Is r19 r20 r37).bind fun r38 =>
  some (!r38)).bind fun c4 =>
  (if c4 then
  some true else
  (M.anamnesislaw07_Of ([2, 2]) ([9, 0, 0, 0])).bind fun r39 =>
  (M.anamnesislaw07_Is r23 r24 r39).bind fun r40 =>
  some (!r40)).bind fun c5 =>
  (if c5 then
  some true else
  (M.value_Scalar 9).bind fun r41 =>
  (M.anamnesislaw07_Is r27 r28 r41).bind fun r42 =>
  some (!r42)).bind fun c6 =>
  if c6 then
    some false
  else
    (M.value_Scalar 2).bind fun r43 =>
    (M.value_Vector ([4, 5])).bind fun r44 =>
    (M.pick_Compress r43 r44 (-1)).bind fun (r45, r46) =>
    (M.value_Vector ([1, 0])).bind fun r47 =>
    (M.anamnesislaw09_six).bind fun r48 =>
    (M.pick_Compress r47 r48 0).bind fun (r49, r50) =>
    (M.value_Vector ([1, 0, 1])).bind fun r51 =>
    (M.value_Text str_97_98).bind fun r52 =>
    (M.pick_Expand r51 r52 (-1)).bind fun (r53, r54) =>
    (M.value_Vector ([1, 1])).bind fun r55 =>
    (M.value_Scalar 7).bind fun r56 =>
    (M.pick_Expand r55 r56 (-1)).bind fun (r57, r58) =>
    (M.value_Vector ([1, 0, 2])).bind fun r59 =>
    (M.value_Scalar 7).bind fun r60 =>
    (M.pick_Compress r59 r60 0).bind fun (r61, r62) =>
    (M.value_Vector ([4, 4, 5, 5])).bind fun r63 =>
    (M.anamnesislaw07_Is r45 r46 r63).bind fun r64 =>
    (if (!r64) then
    some true else
    (M.anamnesislaw07_Of ([1, 3]) ([1, 2, 3])).bind fun r65 =>
    (M.anamnesislaw07_Is r49 r50 r65).bind fun r66 =>
    some (!r66)).bind fun c7 =>
    (if c7 then
    some true else
    (M.value_Text str_97_32_98).bind fun r67 =>
    (M.anamnesislaw07_Is r53 r54 r67).bind fun r68 =>
    some (!r68)).bind fun c8 =>
    (if c8 then
    some true else
    (M.value_Vector ([7, 7])).bind fun r69 =>
    (M.anamnesislaw07_Is r57 r58 r69).bind fun r70 =>
    some (!r70)).bind fun c9 =>
    (if c9 then
    some true else
    (M.value_Vector ([7, 7, 7])).bind fun r71 =>
    (M.anamnesislaw07_Is r61 r62 r71).bind fun r72 =>
    some (!r72)).bind fun c10 =>
    if c10 then
      some false
    else
      (M.value_Vector ([1, 2])).bind fun r73 =>
      (M.value_Vector ([1, 2, 3])).bind fun r74 =>
      (M.pick_Take r73 r74).bind fun (r75, r76) =>
      (M.value_Vector ([1, 2])).bind fun r77 =>
      (M.value_Vector ([4, 5, 6])).bind fun r78 =>
      (M.pick_Compress r77 r78 (-1)).bind fun (r79, r80) =>
      (M.value_Scalar (-1)).bind fun r81 =>
      (M.value_Scalar 4).bind fun r82 =>
      (M.pick_Compress r81 r82 (-1)).bind fun (r83, r84) =>
      (M.value_Scalar 2).bind fun r85 =>
      (M.value_Scalar 4).bind fun r86 =>
      (M.pick_Expand r85 r86 (-1)).bind fun (r87, r88) =>
      (M.value_Scalar 1).bind fun r89 =>
      (M.value_Vector ([4, 5])).bind fun r90 =>
      (M.pick_Compress r89 r90 1).bind fun (r91, r92) =>
      (M.value_Scalar (-9223372036854775808)).bind fun r93 =>
      (M.value_Vector ([1])).bind fun r94 =>
      (M.pick_Take r93 r94).bind fun (r95, r96) =>
      (M.value_Scalar 10001).bind fun r97 =>
      (M.value_Scalar 1).bind fun r98 =>
      (M.pick_Compress r97 r98 (-1)).bind fun (r99, r100) =>
      (M.anamnesislaw07_None r75 r76 25).bind fun r101 =>
      (if r101 then
      (M.anamnesislaw07_None r79 r80 25).bind fun r102 =>
      some r102 else
      some false).bind fun c11 =>
      (if c11 then
      (M.anamnesislaw07_None r83 r84 23).bind fun r103 =>
      some r103 else
      some false).bind fun c12 =>
      (if c12 then
      (M.anamnesislaw07_None r87 r88 23).bind fun r104 =>
      some r104 else
      some false).bind fun c13 =>
      (if c13 then
      (M.anamnesislaw07_None r91 r92 26).bind fun r105 =>
      some r105 else
      some false).bind fun c14 =>
      (if c14 then
      (M.anamnesislaw07_None r95 r96 27).bind fun r106 =>
      some r106 else
      some false).bind fun c15 =>
      (if c15 then
      (M.anamnesislaw07_None r99 r100 27).bind fun r107 =>
      some r107 else
      some false).bind fun c16 =>
      some (c16 && true)
theorem w64_id {x : Int} (h1 : -9223372036854775808 ≤ x) (h2 : x ≤ 9223372036854775807) : IntKind.i64.wrap x = x := wrap_id h1 h2
theorem u8_mod (x : Int) : IntKind.u8.wrap x = x % 256 := by simp [IntKind.wrap, IntKind.bits, IntKind.signed]
theorem u8_id {x : Int} (h1 : 0 ≤ x) (h2 : x ≤ 255) : IntKind.u8.wrap x = x := by rw [u8_mod]; omega
theorem u32_id {x : Int} (h1 : 0 ≤ x) (h2 : x ≤ 1114111) : IntKind.u32.wrap x = x := by
  have : IntKind.u32.wrap x = x % 4294967296 := by simp [IntKind.wrap, IntKind.bits, IntKind.signed]
  rw [this]; omega
/-- A loop comes to an end in a state with Q: P holds ahead of each round, and its number falls. -/
theorem wloop_ind {σ β : Type} {f : σ → Option (Ctl σ β)} (P : Nat → σ → Prop) (Q : β → Prop)
    (h : ∀ n s, P n s → (∃ s' n', f s = some (.next s') ∧ n' < n ∧ P n' s') ∨ (∃ b, f s = some (.done b) ∧ Q b)) : ∀ n s, P n s → ∃ b, wloop f s = some b ∧ Q b := by
  intro n
  induction n using Nat.strongRecOn with
  | _ n ih =>
    intro s hp
    rcases h n s hp with ⟨s', n', hf, hn, hp'⟩ | ⟨b, hf, hq⟩
    · obtain ⟨b, hb, hq⟩ := ih n' hn s' hp'
      exact ⟨b, by rw [wloop_next hf]; exact hb, hq⟩
    · exact ⟨b, wloop_done hf, hq⟩
theorem idx_nat {α : Type} (l : List α) (k : Nat) : idx l (k : Int) = l[k]? := by
  unfold idx; rw [if_pos (by omega)]; rfl
theorem idx_get {α : Type} {l : List α} {k : Nat} (h : k < l.length) : idx l (k : Int) = some l[k] := by rw [idx_nat, List.getElem?_eq_getElem h]
theorem upd_nat {α : Type} {l : List α} {k : Nat} {x : α} (h : k < l.length) : upd l (k : Int) x = some (l.set k x) := by
  unfold upd; rw [if_pos ⟨by omega, by omega⟩]; rfl
theorem app_ok {α : Type} {b : Nat} {l m : List α} (h : (l.length + m.length) * b ≤ 140737488355328) : app b l m = some (l ++ m) := by
  unfold app; rw [if_pos (.inr h)]
theorem mk_ok {α : Type} {b : Nat} {z : α} {n : Nat} (h : b * n ≤ 140737488355328) (h' : n ≤ 140737488355328) : mk b z (n : Int) (n : Int) = some (List.replicate n z) := by
  unfold mk
  have : ((b : Int) * (n : Int)) ≤ 140737488355328 := by
    have h2 : ((b * n : Nat) : Int) ≤ 140737488355328 := by omega
    rwa [Int.natCast_mul] at h2
  rw [if_pos ⟨by omega, by omega, this, by omega⟩]; rfl
/-- the numbers that a kind has. -/
theorem wf64 {n : Int} (h : (Lit.int .i64 n).wf = true) : -9223372036854775808 ≤ n ∧ n ≤ 9223372036854775807 := by
  have h2 : (decide (IntKind.i64.min ≤ n) && decide (n ≤ IntKind.i64.max)) = true := h
  have e1 : IntKind.i64.min = -9223372036854775808 := by decide
  have e2 : IntKind.i64.max = 9223372036854775807 := by decide
  rw [e1, e2] at h2
  simpa using h2
theorem sub_drop {α : Type} {l : List α} {k : Nat} (h : k ≤ l.length) : sub l (k : Int) (l.length : Int) = some (l.drop k) := by
  unfold sub
  rw [if_pos ⟨by omega, by omega, by omega⟩]
  simp
theorem drop_cons {α : Type} {l : List α} {k : Nat} (h : k < l.length) : l.drop k = l[k] :: l.drop (k + 1) := List.drop_eq_getElem_cons h
theorem same_loop {f : Int → Option (Ctl Int (Ctl Unit Bool))} {a b : List Int} (hl : a.length = b.length) (hm : a.length ≤ maxLen)
    (hf : ∀ k : Nat, ∀ h : k < a.length, f k = if a[k] = b[k]'(hl ▸ h) then some (.next ((k : Int) + 1)) else some (.done (.done false))) (he : f a.length = some (.done (.next ()))) :
    wloop f 0 = some (if a = b then .next () else .done false) := by
  have key := wloop_ind (f := f) (fun n i => ∃ k : Nat, i = k ∧ k ≤ a.length ∧ n = a.length - k ∧ a.take k = b.take k)
    (fun c => (c = .done false ∧ a ≠ b) ∨ (c = .next () ∧ a = b)) (fun n i h => by
      obtain ⟨k, rfl, hk, rfl, hn⟩ := h
      by_cases hlt : k < a.length
      · rw [hf k hlt]
        by_cases he : a[k] = b[k]
        · rw [if_pos he]
          left
          refine ⟨_, a.length - (k + 1), rfl, by omega, k + 1, by omega, by omega, rfl, ?_⟩
          rw [List.take_succ_eq_append_getElem hlt, List.take_succ_eq_append_getElem (by omega), hn, he]
        · rw [if_neg he]
          right
          refine ⟨_, rfl, .inl ⟨rfl, fun h => he ?_⟩⟩
          subst h; rfl
      · have : k = a.length := by omega
        subst this
        right
        refine ⟨_, he, .inr ⟨rfl, ?_⟩⟩
        rw [List.take_length, hl, List.take_length] at hn
        exact hn) a.length 0 ⟨0, rfl, by omega, by omega, by simp⟩
  obtain ⟨c, hc, ⟨rfl, h⟩ | ⟨rfl, h⟩⟩ := key
  · rw [hc]; simp [h]
  · rw [hc]; simp [h]

theorem same_step {f : Int → Option (Ctl Int (Ctl Unit Bool))} {a b : List Int} (hl : a.length = b.length) (hm : a.length ≤ maxLen)
    (hf : ∀ k : Nat, ∀ h : k < a.length, f k = if a[k] = b[k]'(hl ▸ h) then some (.next ((k : Int) + 1)) else some (.done (.done false))) (he : f a.length = some (.done (.next ()))) :
    (wloop f 0).bind (fun k => joinK k fun _ => some true) = some (decide (a = b)) := by
  rw [same_loop hl hm hf he]
  by_cases h : a = b
  · rw [if_pos h, decide_eq_true h]; rfl
  · rw [if_neg h, decide_eq_false h]; rfl
/-- a loop that counts up. -/
theorem loop_up {S τ β : Type} {f : S → Option (Ctl S β)} (st : Nat → τ → S) (n : Nat) (I : Nat → τ → Prop) (out : τ → β) (a : τ) (h0 : I 0 a)
    (hf : ∀ k m, k < n → I k m → ∃ m', f (st k m) = some (.next (st (k + 1) m')) ∧ I (k + 1) m') (he : ∀ m, I n m → f (st n m) = some (.done (out m))) :
    ∃ m, I n m ∧ wloop f (st 0 a) = some (out m) := by
  have key := wloop_ind (f := f) (fun j s => ∃ k m, s = st k m ∧ j = n - k ∧ k ≤ n ∧ I k m) (fun b => ∃ m, b = out m ∧ I n m) (fun j s h => by
    obtain ⟨k, m, rfl, rfl, hk, hi⟩ := h
    by_cases hlt : k < n
    · left
      obtain ⟨m', h1, h2⟩ := hf k m hlt hi
      exact ⟨_, n - (k + 1), h1, by omega, k + 1, m', rfl, rfl, by omega, h2⟩
    · have : k = n := by omega
      subst this
      exact .inr ⟨_, he m hi, m, rfl, hi⟩) n (st 0 a) ⟨0, a, rfl, by omega, by omega, h0⟩
  obtain ⟨b, hb, m, rfl, hi⟩ := key
  exact ⟨m, hi, hb⟩
/-- a loop that counts up, each of whose states is told. -/
theorem loop_fun {S β : Type} {f : S → Option (Ctl S β)} (st : Nat → S) (n : Nat) {b : β} (hf : ∀ k, k < n → f (st k) = some (.next (st (k + 1)))) (he : f (st n) = some (.done b)) : wloop f (st 0) = some b := by
  obtain ⟨_, _, h⟩ := loop_up (f := f) (fun k (_ : Unit) => st k) n (fun _ _ => True) (fun _ => b) () trivial (fun k m hk _ => ⟨(), hf k hk, trivial⟩) (fun m _ => he)
  exact h
theorem lin_lt {i k R C : Nat} (h : i < R) (hk : k < C) : i * C + k < R * C := by
  have := Nat.mul_le_mul_right C (show i + 1 ≤ R from h)
  rw [Nat.succ_mul] at this; omega
theorem lin_inj {i k i' k' C : Nat} (hk : k < C) (hk' : k' < C) (h : i * C + k = i' * C + k') : i = i' ∧ k = k' := by
  have hc : 0 < C := by omega
  have e : ∀ (a b : Nat), b < C → (a * C + b) / C = a := fun a b hb => by
    rw [Nat.mul_comm, Nat.mul_add_div hc, Nat.div_eq_of_lt hb, Nat.add_zero]
  have h1 := e i k hk
  rw [h, e i' k' hk'] at h1
  subst h1; omega
/-- a matrix, row by row. -/
def tab (R C : Nat) (f : Nat → Nat → Int) : List Int := (List.range (R * C)).map fun p => f (p / C) (p % C)
theorem tab_len (R C : Nat) (f : Nat → Nat → Int) : (tab R C f).length = R * C := by simp [tab]
theorem tab_get {R C i k : Nat} (f : Nat → Nat → Int) (hi : i < R) (hk : k < C) : (tab R C f)[i * C + k]? = some (f i k) := by
  have hc : 0 < C := by omega
  unfold tab
  rw [List.getElem?_map, List.getElem?_range (lin_lt hi hk)]
  show some (f ((i * C + k) / C) ((i * C + k) % C)) = _
  rw [Nat.mul_comm, Nat.mul_add_div hc, Nat.div_eq_of_lt hk, Nat.mul_add_mod, Nat.mod_eq_of_lt hk, Nat.add_zero]
theorem tab_ext {R C : Nat} {f : Nat → Nat → Int} {l : List Int} (hl : l.length = R * C) (h : ∀ i k, i < R → k < C → l[i * C + k]? = some (f i k)) : l = tab R C f := by
  apply List.ext_getElem?
  intro p
  by_cases hp : p < R * C
  · have hc : 0 < C := by
      rcases Nat.eq_zero_or_pos C with h | h
      · subst h; simp at hp
      · exact h
    have h1 : p / C < R := by rw [Nat.div_lt_iff_lt_mul hc]; exact hp
    have h2 : p % C < C := Nat.mod_lt _ hc
    have e : p / C * C + p % C = p := by rw [Nat.mul_comm]; exact Nat.div_add_mod p C
    have a := h _ _ h1 h2
    have b := tab_get f h1 h2
    rw [e] at a b
    rw [a, b]
  · rw [List.getElem?_eq_none (by omega), List.getElem?_eq_none (by rw [tab_len]; omega)]
theorem contains_int {s : List Int} {f : Int → Option Bool} {g : Int → Bool} (hf : ∀ x ∈ s, f x = some (g x)) (hl : s.length ≤ 4611686018427387904) : M.slices_ContainsFunc__int s f = some (s.any g) := by
  have key := wloop_ind (f := M.slices_IndexFunc__int_L1 s f) (fun n i => ∃ k : Nat, i = k ∧ k ≤ s.length ∧ n = s.length - k ∧ (s.take k).any g = false)
    (fun b => (∃ i : Int, b = .done i ∧ 0 ≤ i ∧ s.any g = true) ∨ (b = .next () ∧ s.any g = false)) (fun n i h => by
      obtain ⟨k, rfl, hk, rfl, hn⟩ := h
      unfold M.slices_IndexFunc__int_L1
      by_cases hlt : k < s.length
      · simp only [show decide ((k : Int) < (s.length : Int)) = true from by simp; exact hlt, if_true, idx_get hlt, Option.bind_some, hf _ (List.getElem_mem hlt)]
        cases hg : g s[k] with
        | true =>
          right
          refine ⟨_, rfl, .inl ⟨_, rfl, by omega, ?_⟩⟩
          rw [List.any_eq_true]
          exact ⟨_, List.getElem_mem hlt, hg⟩
        | false =>
          left
          refine ⟨_, s.length - (k + 1), rfl, by omega, k + 1, ?_, by omega, rfl, ?_⟩
          · rw [w64_id (by omega) (by omega)]; omega
          · rw [List.take_succ_eq_append_getElem hlt, List.any_append, hn]; simp [hg]
      · have : k = s.length := by omega
        subst this
        right
        simp only [show decide ((s.length : Int) < (s.length : Int)) = false from by simp, Bool.false_eq_true, if_false]
        exact ⟨_, rfl, .inr ⟨rfl, by simpa using hn⟩⟩) s.length 0 ⟨0, rfl, by omega, by omega, by simp⟩
  unfold M.slices_ContainsFunc__int M.slices_IndexFunc__int
  obtain ⟨b, hb, ⟨i, rfl, h0, ha⟩ | ⟨rfl, ha⟩⟩ := key
  · rw [hb, ha]; simp [h0]
  · rw [hb, ha]; simp
theorem contains_int64 {s : List Int} {f : Int → Option Bool} {g : Int → Bool} (hf : ∀ x ∈ s, f x = some (g x)) (hl : s.length ≤ 9223372036854775807) : M.slices_ContainsFunc__int64 s f = some (s.any g) := by
  have key := wloop_ind (f := M.slices_IndexFunc__int64_L1 s f) (fun n i => ∃ k : Nat, i = k ∧ k ≤ s.length ∧ n = s.length - k ∧ (s.take k).any g = false)
    (fun b => (∃ i : Int, b = .done i ∧ 0 ≤ i ∧ s.any g = true) ∨ (b = .next () ∧ s.any g = false)) (fun n i h => by
      obtain ⟨k, rfl, hk, rfl, hn⟩ := h
      unfold M.slices_IndexFunc__int64_L1
      by_cases hlt : k < s.length
      · simp only [show decide ((k : Int) < (s.length : Int)) = true from by simp; exact hlt, if_true, idx_get hlt, Option.bind_some, hf _ (List.getElem_mem hlt)]
        cases hg : g s[k] with
        | true =>
          right
          refine ⟨_, rfl, .inl ⟨_, rfl, by omega, ?_⟩⟩
          rw [List.any_eq_true]
          exact ⟨_, List.getElem_mem hlt, hg⟩
        | false =>
          left
          refine ⟨_, s.length - (k + 1), rfl, by omega, k + 1, ?_, by omega, rfl, ?_⟩
          · rw [w64_id (by omega) (by omega)]; omega
          · rw [List.take_succ_eq_append_getElem hlt, List.any_append, hn]; simp [hg]
      · have : k = s.length := by omega
        subst this
        right
        simp only [show decide ((s.length : Int) < (s.length : Int)) = false from by simp, Bool.false_eq_true, if_false]
        exact ⟨_, rfl, .inr ⟨rfl, by simpa using hn⟩⟩) s.length 0 ⟨0, rfl, by omega, by omega, by simp⟩
  unfold M.slices_ContainsFunc__int64 M.slices_IndexFunc__int64
  obtain ⟨b, hb, ⟨i, rfl, h0, ha⟩ | ⟨rfl, ha⟩⟩ := key
  · rw [hb, ha]; simp [h0]
  · rw [hb, ha]; simp
def prod : List Int → Int
  | [] => 1
  | x :: s => x * prod s
def off : List Int → List Int → Int
  | x :: s, a :: at_ => a * prod s + off s at_
  | _, _ => 0
def dig : List Int → Int → List Int
  | [], _ => []
  | _ :: s, k => k / prod s :: dig s (k % prod s)
/-- is a place in a shape? -/
def inShape : List Int → List Int → Prop
  | [], [] => True
  | x :: s, a :: at_ => 0 ≤ a ∧ a < x ∧ inShape s at_
  | _, _ => False
instance : (s at_ : List Int) → Decidable (inShape s at_)
  | [], [] => isTrue trivial
  | x :: s, a :: at_ =>
    have := instDecidableInShape s at_
    by unfold inShape; exact inferInstance
  | [], _ :: _ => isFalse (fun h => h)
  | _ :: _, [] => isFalse (fun h => h)
theorem inShape.len : ∀ {s at_ : List Int}, inShape s at_ → at_.length = s.length
  | [], [], _ => rfl
  | x :: s, a :: at_, ⟨_, _, h⟩ => by simp [h.len]
  | [], _ :: _, h => h.elim
  | _ :: _, [], h => h.elim
theorem inShape.pos : ∀ {s at_ : List Int}, inShape s at_ → 0 < prod s
  | [], [], _ => by simp [prod]
  | x :: s, a :: at_, ⟨h0, h1, h⟩ => by
    have := h.pos
    exact Int.mul_pos (by omega) this
  | [], _ :: _, h => h.elim
  | _ :: _, [], h => h.elim
theorem off_range : ∀ {s at_ : List Int}, inShape s at_ → 0 ≤ off s at_ ∧ off s at_ < prod s
  | [], [], _ => by simp [prod, off]
  | x :: s, a :: at_, ⟨h0, h1, h⟩ => by
    have h2 := off_range h
    have h3 := h.pos
    have h4 : (a + 1) * prod s ≤ x * prod s := Int.mul_le_mul_of_nonneg_right (by omega) (by omega)
    have h5 : 0 ≤ a * prod s := Int.mul_nonneg h0 (by omega)
    rw [Int.add_mul] at h4
    simp only [prod, off]
    omega
  | [], _ :: _, h => h.elim
  | _ :: _, [], h => h.elim
theorem dig_off : ∀ {s at_ : List Int}, inShape s at_ → dig s (off s at_) = at_
  | [], [], _ => rfl
  | x :: s, a :: at_, ⟨h0, h1, h⟩ => by
    have h2 := off_range h
    have h3 := h.pos
    simp only [dig, off]
    rw [Int.add_comm, Int.mul_comm, Int.add_mul_ediv_left _ _ (by omega), Int.add_mul_emod_self_left, Int.emod_eq_of_lt h2.1 h2.2, dig_off h, Int.ediv_eq_zero_of_lt h2.1 h2.2]
    simp
  | [], _ :: _, h => h.elim
  | _ :: _, [], h => h.elim
def allPos (s : List Int) : Prop := ∀ x ∈ s, 0 < x
theorem allPos.pprod : ∀ {s : List Int}, allPos s → 0 < prod s
  | [], _ => by simp [prod]
  | x :: s, h => Int.mul_pos (h x List.mem_cons_self) (allPos.pprod fun y hy => h y (List.mem_cons_of_mem _ hy))
theorem allPos_of {s : List Int} (h : ∀ x ∈ s, 0 ≤ x) (hp : 0 < prod s) : allPos s := by
  intro x hx
  have h0 := h x hx
  rcases Int.lt_or_eq_of_le h0 with h1 | h1
  · exact h1
  · exfalso
    have : ∀ s : List Int, (0 : Int) ∈ s → prod s = 0 := by
      intro s
      induction s with
      | nil => intro h; simp at h
      | cons y s ih =>
        intro h
        rcases List.mem_cons.mp h with h | h
        · simp [prod, ← h]
        · simp [prod, ih h]
    rw [this s (h1 ▸ hx)] at hp
    omega
theorem dig_in : ∀ {s : List Int} {k : Int}, allPos s → 0 ≤ k → k < prod s → inShape s (dig s k)
  | [], k, _, h0, h1 => trivial
  | x :: s, k, h, h0, h1 => by
    have hs : allPos s := fun y hy => h y (List.mem_cons_of_mem _ hy)
    have hp := hs.pprod
    refine ⟨Int.ediv_nonneg h0 (by omega), ?_, dig_in hs (Int.emod_nonneg _ (by omega)) (Int.emod_lt_of_pos _ hp)⟩
    exact Int.ediv_lt_of_lt_mul hp h1
theorem off_dig : ∀ {s : List Int} {k : Int}, allPos s → 0 ≤ k → k < prod s → off s (dig s k) = k
  | [], k, _, h0, h1 => by simp [prod] at h1; simp [dig, off]; omega
  | x :: s, k, h, h0, h1 => by
    have hs : allPos s := fun y hy => h y (List.mem_cons_of_mem _ hy)
    have hp := hs.pprod
    simp only [dig, off]
    rw [off_dig hs (Int.emod_nonneg _ (by omega)) (Int.emod_lt_of_pos _ hp)]
    rw [Int.mul_comm]; exact Int.mul_ediv_add_emod k (prod s)
theorem dig_len : ∀ (s : List Int) (k : Int), (dig s k).length = s.length
  | [], _ => rfl
  | x :: s, k => by simp [dig, dig_len s]
theorem prod_nonneg : ∀ {s : List Int}, (∀ x ∈ s, 0 ≤ x) → 0 ≤ prod s
  | [], _ => by simp [prod]
  | x :: s, h => Int.mul_nonneg (h x List.mem_cons_self) (prod_nonneg fun y hy => h y (List.mem_cons_of_mem _ hy))
theorem prod_append : ∀ (s t : List Int), prod (s ++ t) = prod s * prod t
  | [], t => by simp [prod]
  | x :: s, t => by simp [prod, prod_append s t, Int.mul_assoc]

/-- the size of a shape, or the error. -/
def shSize (s : List Int) : Int × Int :=
  if 4 < s.length then (0, 24) else if s.any (fun x => decide (x < 0)) then (0, 1) else if s.any (fun x => decide (x > 10000)) || decide (prod s > 10000) then (0, 27) else (prod s, 0)
def shOk (s : List Int) : Prop := s.length ≤ 4 ∧ (∀ x ∈ s, 0 ≤ x ∧ x ≤ 10000) ∧ prod s ≤ 10000
instance (s : List Int) : Decidable (shOk s) := by unfold shOk; exact inferInstance
theorem shSize_ok {s : List Int} (h : shOk s) : shSize s = (prod s, 0) := by
  obtain ⟨h1, h2, h3⟩ := h
  unfold shSize
  rw [if_neg (by omega), if_neg, if_neg]
  · simp only [Bool.or_eq_true, List.any_eq_true, decide_eq_true_eq]
    rintro (⟨x, hx, h⟩ | h)
    · have := h2 x hx; omega
    · omega
  · simp only [List.any_eq_true, decide_eq_true_eq]
    rintro ⟨x, hx, h⟩
    have := h2 x hx; omega
theorem shSize_zero {s : List Int} : (shSize s).2 = 0 ↔ shOk s := by
  constructor
  · intro h
    unfold shSize at h
    split at h
    · cases h
    · rename_i h1
      split at h
      · cases h
      · rename_i h2
        split at h
        · cases h
        · rename_i h3
          simp only [List.any_eq_true, decide_eq_true_eq, not_exists, not_and] at h2
          simp only [Bool.or_eq_true, List.any_eq_true, decide_eq_true_eq, not_or, not_exists, not_and] at h3
          exact ⟨by omega, fun x hx => ⟨by have := h2 x hx; omega, by have := h3.1 x hx; omega⟩, by omega⟩
  · intro h; rw [shSize_ok h]
theorem shSize_cases (s : List Int) : (shOk s ∧ shSize s = (prod s, 0)) ∨ (¬ shOk s ∧ (shSize s).2 ≠ 0 ∧ (shSize s).1 = 0) := by
  by_cases h : shOk s
  · exact .inl ⟨h, shSize_ok h⟩
  · refine .inr ⟨h, fun hh => h (shSize_zero.mp hh), ?_⟩
    unfold shSize
    split
    · rfl
    · rename_i h1
      split
      · rfl
      · rename_i h2
        split
        · rfl
        · rename_i h3
          exfalso; apply h
          simp only [List.any_eq_true, decide_eq_true_eq, not_exists, not_and] at h2
          simp only [Bool.or_eq_true, List.any_eq_true, decide_eq_true_eq, not_or, not_exists, not_and] at h3
          exact ⟨by omega, fun x hx => ⟨by have := h2 x hx; omega, by have := h3.1 x hx; omega⟩, by omega⟩
theorem dig_bound {s : List Int} {k : Int} (hok : shOk s) (h0 : 0 ≤ k) (h1 : k < prod s) : ∀ x ∈ dig s k, 0 ≤ x ∧ x ≤ 10000 := by
  have hpos : allPos s := allPos_of (fun x hx => (hok.2.1 x hx).1) (by omega)
  have key : ∀ (s at_ : List Int), inShape s at_ → (∀ x ∈ s, 0 ≤ x ∧ x ≤ 10000) → ∀ x ∈ at_, 0 ≤ x ∧ x ≤ 10000 := by
    intro s
    induction s with
    | nil => intro at_ h _ x hx; cases at_ with | nil => simp at hx | cons _ _ => exact h.elim
    | cons y s ih =>
      intro at_ h hb x hx
      cases at_ with
      | nil => exact h.elim
      | cons a at_ =>
        obtain ⟨h1, h2, h3⟩ := h
        rcases List.mem_cons.mp hx with rfl | hx
        · have := hb y List.mem_cons_self; omega
        · exact ih at_ h3 (fun z hz => hb z (List.mem_cons_of_mem _ hz)) x hx
  exact key s _ (dig_in hpos h0 h1) hok.2.1
theorem dig_zero : ∀ {s : List Int}, allPos s → dig s 0 = List.replicate s.length 0
  | [], _ => rfl
  | x :: s, h => by
    have hs : allPos s := fun y hy => h y (List.mem_cons_of_mem _ hy)
    simp only [dig, Int.zero_ediv, Int.zero_emod, dig_zero hs]; rfl

theorem one_le_pow : ∀ k : Nat, (1 : Int) ≤ 10000 ^ k
  | 0 => by simp
  | k + 1 => by rw [Int.pow_succ]; have := one_le_pow k; omega
theorem prod_bound : ∀ (s : List Int) (k : Nat), s.length ≤ k → (∀ x ∈ s, 0 ≤ x ∧ x ≤ 10000) → 0 ≤ prod s ∧ prod s ≤ 10000 ^ k
  | [], k, _, _ => ⟨by simp [prod], one_le_pow k⟩
  | x :: s, k + 1, hl, h => by
    have h1 := h x List.mem_cons_self
    have h2 := prod_bound s k (by simpa using hl) (fun y hy => h y (List.mem_cons_of_mem _ hy))
    refine ⟨Int.mul_nonneg h1.1 h2.1, ?_⟩
    simp only [prod]
    have h3 : x * prod s ≤ 10000 * prod s := Int.mul_le_mul_of_nonneg_right h1.2 h2.1
    have h4 : (10000 : Int) ^ (k + 1) = 10000 ^ k * 10000 := Int.pow_succ _ _
    omega
  | x :: s, 0, hl, h => by simp at hl

theorem product_eq {s : List Int} (hl : s.length ≤ 4) (hb : ∀ x ∈ s, 0 ≤ x ∧ x ≤ 10000) : M.shape_product s = some (prod s) := by
  have key := wloop_ind (f := M.shape_product_L1 s) (fun n st => ∃ k : Nat, st = (prod (s.take k), (k : Int)) ∧ k ≤ s.length ∧ n = s.length - k)
    (fun b => b = .next (prod s)) (fun n st h => by
      obtain ⟨k, rfl, hk, rfl⟩ := h
      unfold M.shape_product_L1
      by_cases hlt : k < s.length
      · left
        simp only [show decide ((k : Int) < (s.length : Int)) = true from by simp; exact hlt, if_true, idx_get hlt, Option.bind_some]
        have e : prod (s.take k) * s[k] = prod (s.take (k + 1)) := by
          rw [List.take_succ_eq_append_getElem hlt, prod_append]; simp [prod]
        have hp := prod_bound (s.take (k + 1)) 4 (by rw [List.length_take]; omega) (fun x hx => hb x (List.mem_of_mem_take hx))
        refine ⟨_, s.length - (k + 1), rfl, by omega, k + 1, ?_, by omega, rfl⟩
        rw [e, w64_id (by omega) (by omega), w64_id (by omega) (by omega)]
        simp
      · have : k = s.length := by omega
        subst this
        right
        simp)
    s.length (1, 0) ⟨0, by simp [prod], by omega, by omega⟩
  obtain ⟨b, hb, rfl⟩ := key
  unfold M.shape_product
  rw [hb]; rfl

theorem shape_Size_eq {s : List Int} (hl : s.length ≤ maxLen) : M.shape_Size s = some (shSize s) := by
  have hm : maxLen = 9223372036854775807 := rfl
  unfold M.shape_Size shSize
  by_cases h4 : 4 < s.length
  · rw [if_pos h4, if_pos (by simp; omega)]
  · rw [if_neg h4, if_neg (by simp; omega)]
    rw [contains_int (s := s) (f := fun x0 => M.shape_Size_1 x0) (g := fun x => decide (x < 0)) (fun x _ => rfl) (by omega), Option.bind_some]
    cases hneg : s.any (fun x => decide (x < 0)) with
    | true => simp
    | false =>
      simp only [Bool.false_eq_true, if_false]
      rw [contains_int (s := s) (f := fun x0 => M.shape_Size_2 x0) (g := fun x => decide (x > 10000)) (fun x _ => rfl) (by omega), Option.bind_some]
      cases hbig : s.any (fun x => decide (x > 10000)) with
      | true => simp
      | false =>
        have hb : ∀ x ∈ s, 0 ≤ x ∧ x ≤ 10000 := by
          intro x hx
          simp only [List.any_eq_false, decide_eq_true_eq] at hneg hbig
          have := hneg x hx; have := hbig x hx; omega
        simp only [Bool.false_eq_true, if_false, product_eq (by omega) hb, Option.bind_some, Bool.false_or]
        split <;> simp_all
theorem sized_eq {s : List Int} (hl : s.length ≤ maxLen) : M.shape_sized s = some ((shSize s).2 == 0) := by
  unfold M.shape_sized; rw [shape_Size_eq hl]; rfl
/-- is a number a character? -/
def chOk (c : Int) : Bool := decide (0 ≤ c ∧ c ≤ 1114111) && !decide (55296 ≤ c ∧ c ≤ 57343)
/-- may an array be? -/
def vRight (v : Val) : Bool := decide (shOk v.Shape) && decide (prod v.Shape = v.Data.length) && (!v.Char || v.Data.all chOk)
def vSame (a b : Val) : Bool := (a.Char == b.Char) && decide (a.Shape = b.Shape) && decide (a.Data = b.Data)
theorem vSame_iff {a b : Val} : vSame a b = true ↔ a = b := by
  obtain ⟨c, s, d⟩ := a
  obtain ⟨c', s', d'⟩ := b
  simp only [vSame, Bool.and_eq_true, beq_iff_eq, decide_eq_true_eq, Val.mk.injEq]
  constructor
  · rintro ⟨⟨h1, h2⟩, h3⟩; exact ⟨h1, h2, h3⟩
  · rintro ⟨h1, h2, h3⟩; exact ⟨⟨h1, h2⟩, h3⟩
theorem vSame_refl (a : Val) : vSame a a = true := vSame_iff.mpr rfl
theorem vSame_eq (a b : Val) : vSame a b = true ∧ a = b ∨ vSame a b = false ∧ a ≠ b := by
  cases h : vSame a b with
  | true => exact .inl ⟨rfl, vSame_iff.mp h⟩
  | false => exact .inr ⟨rfl, fun hh => by rw [vSame_iff.mpr hh] at h; cases h⟩
theorem vRight_iff {v : Val} : vRight v = true ↔ shOk v.Shape ∧ prod v.Shape = v.Data.length ∧ (v.Char = true → ∀ c ∈ v.Data, chOk c = true) := by
  simp only [vRight, Bool.and_eq_true, decide_eq_true_eq, Bool.or_eq_true, Bool.not_eq_true', List.all_eq_true]
  constructor
  · rintro ⟨⟨h1, h2⟩, h3⟩
    refine ⟨h1, h2, fun h => ?_⟩
    rcases h3 with h3 | h3
    · rw [h3] at h; cases h
    · exact h3
  · rintro ⟨h1, h2, h3⟩
    refine ⟨⟨h1, h2⟩, ?_⟩
    cases h : v.Char with
    | true => exact .inr (h3 h)
    | false => exact .inl rfl

theorem right_loop {f : Int × Int → Option (Ctl (Int × Int) (Ctl Int Bool))} {s : List Int} (h4 : s.length ≤ 4)
    (hf : ∀ k : Nat, ∀ h : k < s.length, ∀ z, f (z, (k : Int)) = if s[k] < 0 ∨ s[k] > 10000 then some (.done (.done false)) else some (.next (IntKind.i64.wrap (z * s[k]), (k : Int) + 1)))
    (he : ∀ z, f (z, (s.length : Int)) = some (.done (.next z))) :
    ((∀ x ∈ s, 0 ≤ x ∧ x ≤ 10000) ∧ wloop f (1, 0) = some (.next (prod s))) ∨ (¬ (∀ x ∈ s, 0 ≤ x ∧ x ≤ 10000) ∧ wloop f (1, 0) = some (.done false)) := by
  have key := wloop_ind (f := f) (fun n st => ∃ k : Nat, n = s.length - k ∧ k ≤ s.length ∧ st = (prod (s.take k), (k : Int)) ∧ ∀ x ∈ s.take k, 0 ≤ x ∧ x ≤ 10000)
    (fun b => (b = .next (prod s) ∧ ∀ x ∈ s, 0 ≤ x ∧ x ≤ 10000) ∨ (b = .done false ∧ ¬ ∀ x ∈ s, 0 ≤ x ∧ x ≤ 10000)) (fun n st h => by
      obtain ⟨k, rfl, hk, rfl, hall⟩ := h
      by_cases hlt : k < s.length
      · rw [hf k hlt]
        by_cases hb : s[k] < 0 ∨ s[k] > 10000
        · rw [if_pos hb]
          right
          refine ⟨_, rfl, .inr ⟨rfl, fun hh => ?_⟩⟩
          have := hh _ (List.getElem_mem hlt); omega
        · rw [if_neg hb]
          left
          have e := List.take_succ_eq_append_getElem hlt
          have hall2 : ∀ x ∈ s.take (k + 1), 0 ≤ x ∧ x ≤ 10000 := by
            intro x hx
            rw [e] at hx
            rcases List.mem_append.mp hx with hx | hx
            · exact hall x hx
            · rw [List.mem_singleton.mp hx]; omega
          have hp := prod_bound (s.take (k + 1)) 4 (by rw [List.length_take]; omega) hall2
          have e2 : prod (s.take (k + 1)) = prod (s.take k) * s[k] := by rw [e, prod_append]; simp [prod]
          refine ⟨_, s.length - (k + 1), rfl, by omega, k + 1, rfl, by omega, ?_, hall2⟩
          rw [← e2, w64_id (by omega) (by omega)]; simp
      · have : k = s.length := by omega
        subst this
        rw [he]
        rw [List.take_length] at hall ⊢
        exact .inr ⟨_, rfl, .inl ⟨rfl, hall⟩⟩)
    s.length (1, 0) ⟨0, by omega, by omega, by simp [prod], by simp⟩
  obtain ⟨b, hb, ⟨rfl, h⟩ | ⟨rfl, h⟩⟩ := key
  · exact .inl ⟨h, hb⟩
  · exact .inr ⟨h, hb⟩
theorem all_loop {f : Int → Option (Ctl Int (Ctl Unit Bool))} {l : List Int} {p : Int → Bool}
    (hf : ∀ k : Nat, ∀ h : k < l.length, f k = if p l[k] = true then some (.next ((k : Int) + 1)) else some (.done (.done false))) (he : f l.length = some (.done (.next ()))) :
    wloop f 0 = some (if l.all p = true then .next () else .done false) := by
  have key := wloop_ind (f := f) (fun n i => ∃ k : Nat, i = k ∧ k ≤ l.length ∧ n = l.length - k ∧ (l.take k).all p = true)
    (fun c => (c = .done false ∧ l.all p = false) ∨ (c = .next () ∧ l.all p = true)) (fun n i h => by
      obtain ⟨k, rfl, hk, rfl, hn⟩ := h
      by_cases hlt : k < l.length
      · rw [hf k hlt]
        by_cases hp : p l[k] = true
        · rw [if_pos hp]
          left
          refine ⟨_, l.length - (k + 1), rfl, by omega, k + 1, by omega, by omega, rfl, ?_⟩
          rw [List.take_succ_eq_append_getElem hlt, List.all_append, hn]; simp [hp]
        · rw [if_neg hp]
          right
          refine ⟨_, rfl, .inl ⟨rfl, ?_⟩⟩
          rw [List.all_eq_false]
          exact ⟨_, List.getElem_mem hlt, hp⟩
      · have : k = l.length := by omega
        subst this
        right
        rw [List.take_length] at hn
        exact ⟨_, he, .inr ⟨rfl, hn⟩⟩) l.length 0 ⟨0, rfl, by omega, by omega, by simp⟩
  obtain ⟨c, hc, ⟨rfl, h⟩ | ⟨rfl, h⟩⟩ := key
  · rw [hc, h]; simp
  · rw [hc, h]; simp
theorem w32_id {x : Int} (h1 : 0 ≤ x) (h2 : x ≤ 1114111) : IntKind.i32.wrap x = x := by
  have e : IntKind.i32.wrap x = if x % 4294967296 ≥ 2147483648 then x % 4294967296 - 4294967296 else x % 4294967296 := by
    simp [IntKind.wrap, IntKind.bits, IntKind.signed]
  rw [e]
  split <;> omega
theorem character_eq (c : Int) : M.value_character c = some (chOk c) := by
  unfold M.value_character chOk
  by_cases h : 0 ≤ c ∧ c ≤ 1114111
  · have e : (decide (c ≥ 0) && decide (c ≤ 1114111)) = true := by simp; omega
    simp only [e, if_true, h, and_self, decide_true, Bool.true_and]
    rw [w32_id h.1 h.2]
    unfold M.unicode_utf8_ValidRune
    by_cases h1 : c < 55296
    · have e1 : (decide (0 ≤ c) && decide (c < 55296)) = true := by simp; omega
      have e2 : decide (55296 ≤ c ∧ c ≤ 57343) = false := decide_eq_false (by omega)
      simp only [e1, e2, if_true, Option.bind_some, Bool.not_false]
    · have e1 : (decide (0 ≤ c) && decide (c < 55296)) = false := by simp; omega
      simp only [e1, Bool.false_eq_true, if_false]
      by_cases h2 : 57343 < c
      · have e3 : (decide (57343 < c) && decide (c ≤ 1114111)) = true := by simp; omega
        have e2 : decide (55296 ≤ c ∧ c ≤ 57343) = false := decide_eq_false (by omega)
        simp only [e3, e2, if_true, Option.bind_some, Bool.not_false]
      · have e3 : (decide (57343 < c) && decide (c ≤ 1114111)) = false := by simp; omega
        have e2 : decide (55296 ≤ c ∧ c ≤ 57343) = true := decide_eq_true (by omega)
        simp only [e3, e2, Bool.false_eq_true, if_false, Option.bind_some, Bool.not_true]
  · have e : (decide (c ≥ 0) && decide (c ≤ 1114111)) = false := by simp; omega
    simp only [e, Bool.false_eq_true, if_false, h, decide_false, Bool.false_and, Option.bind_some]
theorem value_Right_eq {v : Val} (hd : v.Data.length ≤ 9223372036854775807) : M.value_Right v = some (vRight v) := by
  unfold M.value_Right
  by_cases h4 : 4 < v.Shape.length
  · rw [if_pos (by simp; omega)]
    have : vRight v = false := by
      cases h : vRight v with
      | false => rfl
      | true => have := (vRight_iff.mp h).1.1; omega
    rw [this]
  · rw [if_neg (by simp; omega)]
    have hloop := right_loop (f := M.value_Right_L1 v) (s := v.Shape) (by omega) (fun k h z => by
      unfold M.value_Right_L1
      simp only [show decide ((k : Int) < (v.Shape.length : Int)) = true from decide_eq_true (by omega), if_true, idx_get h, Option.bind_some]
      by_cases hb : v.Shape[k] < 0 ∨ v.Shape[k] > 10000
      · rw [if_pos hb, if_pos (by simpa using hb)]
      · rw [if_neg hb, if_neg (by simpa using hb), w64_id (x := (k : Int) + 1) (by omega) (by omega)]) (fun z => by unfold M.value_Right_L1; simp)
    rcases hloop with ⟨hall, hw⟩ | ⟨hall, hw⟩
    · rw [hw]
      simp only [Option.bind_some, joinK_next]
      have hp0 : 0 ≤ prod v.Shape := prod_nonneg fun x hx => (hall x hx).1
      by_cases hsz : prod v.Shape ≤ 10000 ∧ prod v.Shape = v.Data.length
      · have e : (decide (prod v.Shape > 10000) || (prod v.Shape != (v.Data.length : Int))) = false := by simp; omega
        simp only [e, Bool.false_eq_true, if_false]
        have hok : shOk v.Shape := ⟨by omega, hall, hsz.1⟩
        have hv : vRight v = (!v.Char || v.Data.all chOk) := by unfold vRight; simp [hok, hsz.2]
        rw [hv]
        cases hc : v.Char with
        | false => simp
        | true =>
          simp only [Bool.not_true, Bool.false_eq_true, if_false, Bool.false_or]
          rw [contains_int64 (s := v.Data) (f := fun x0 => M.value_Right_1 x0) (g := fun x => !chOk x) (fun x _ => by unfold M.value_Right_1; rw [character_eq]; rfl) hd]
          simp only [Option.bind_some]
          congr 1
          rw [List.not_any_eq_all_not]; simp
      · have e : (decide (prod v.Shape > 10000) || (prod v.Shape != (v.Data.length : Int))) = true := by
          simp; omega
        simp only [e, if_true]
        have : vRight v = false := by
          cases h : vRight v with
          | false => rfl
          | true => have := vRight_iff.mp h; exact absurd ⟨this.1.2.2, this.2.1⟩ hsz
        rw [this]
    · rw [hw]
      have : vRight v = false := by
        cases h : vRight v with
        | false => rfl
        | true => exact absurd (vRight_iff.mp h).1.2.1 hall
      rw [this]; rfl
theorem ref02_Same_eq {a b : Val} (hs : a.Shape.length ≤ maxLen) (hd : a.Data.length ≤ maxLen) : M.anamnesisref02_Same a b = some (vSame a b) := by
  have hm : maxLen = 9223372036854775807 := rfl
  unfold M.anamnesisref02_Same
  by_cases hl : (a.Char = b.Char ∧ a.Shape.length = b.Shape.length) ∧ a.Data.length = b.Data.length
  · obtain ⟨⟨h1, h2⟩, h3⟩ := hl
    rw [if_neg (by simp [h1, h2, h3])]
    have l1 := same_loop (f := M.anamnesisref02_Same_L1 a b) h2 hs (fun k h => by
      unfold M.anamnesisref02_Same_L1
      simp only [show decide ((k : Int) < (a.Shape.length : Int)) = true from decide_eq_true (by omega), if_true, idx_get h, idx_get (show k < b.Shape.length by omega), Option.bind_some]
      by_cases he : a.Shape[k] = b.Shape[k]
      · rw [if_pos he, if_neg (by simp [he]), w64_id (by omega) (by omega)]
      · rw [if_neg he, if_pos (by simp [he])]) (by unfold M.anamnesisref02_Same_L1; simp)
    have l2 := same_loop (f := M.anamnesisref02_Same_L2 a b) h3 hd (fun k h => by
      unfold M.anamnesisref02_Same_L2
      simp only [show decide ((k : Int) < (a.Data.length : Int)) = true from decide_eq_true (by omega), if_true, idx_get h, idx_get (show k < b.Data.length by omega), Option.bind_some]
      by_cases he : a.Data[k] = b.Data[k]
      · rw [if_pos he, if_neg (by simp [he]), w64_id (by omega) (by omega)]
      · rw [if_neg he, if_pos (by simp [he])]) (by unfold M.anamnesisref02_Same_L2; simp)
    rw [l1, l2]
    unfold vSame
    simp only [h1, BEq.rfl, Bool.true_and]
    by_cases he : a.Shape = b.Shape
    · rw [if_pos he, decide_eq_true he]
      by_cases hd : a.Data = b.Data
      · rw [if_pos hd, decide_eq_true hd]; rfl
      · rw [if_neg hd, decide_eq_false hd]; rfl
    · rw [if_neg he, decide_eq_false he]; rfl
  · have e : ((!(a.Char == b.Char) || ((a.Shape.length : Int) != (b.Shape.length : Int))) || ((a.Data.length : Int) != (b.Data.length : Int))) = true := by
      cases hq : ((!(a.Char == b.Char) || ((a.Shape.length : Int) != (b.Shape.length : Int))) || ((a.Data.length : Int) != (b.Data.length : Int))) with
      | true => rfl
      | false =>
        exfalso; apply hl
        simp only [Bool.or_eq_false_iff, Bool.not_eq_false', beq_iff_eq, bne_eq_false_iff_eq] at hq
        obtain ⟨⟨q1, q2⟩, q3⟩ := hq
        exact ⟨⟨q1, by omega⟩, by omega⟩
    rw [if_pos e]
    have : vSame a b = false := by
      cases hq : vSame a b with
      | false => rfl
      | true => have := vSame_iff.mp hq; subst this; simp at hl
    rw [this]
theorem emod_mul_ediv {k x P : Int} (hx : 0 < x) (hP : 0 < P) : k % (x * P) / P = k / P % x := by
  have h1 := Int.mul_ediv_add_emod k P
  have h2 := Int.mul_ediv_add_emod (k / P) x
  have h3 := Int.emod_nonneg k (show P ≠ 0 by omega)
  have h4 := Int.emod_lt_of_pos k hP
  have h5 := Int.emod_nonneg (k / P) (show x ≠ 0 by omega)
  have h6 := Int.emod_lt_of_pos (k / P) hx
  have e : k % (x * P) = (k / P % x) * P + k % P := by
    have e0 : k = ((k / P % x) * P + k % P) + (x * P) * (k / P / x) := by
      generalize k / P % x = u at *
      generalize k / P / x = t at *
      generalize k / P = q at *
      generalize k % P = r at *
      grind
    have hlt : (k / P % x) * P + k % P < x * P := by
      have : (k / P % x + 1) * P ≤ x * P := Int.mul_le_mul_of_nonneg_right (by omega) (by omega)
      rw [Int.add_mul] at this; omega
    have h0 : 0 ≤ (k / P % x) * P := Int.mul_nonneg h5 (by omega)
    conv => lhs; rw [e0]
    rw [Int.add_mul_emod_self_left]
    exact Int.emod_eq_of_lt (by omega) hlt
  rw [e, Int.add_comm, Int.add_mul_ediv_right _ _ (by omega), Int.ediv_eq_zero_of_lt h3 h4]
  simp
theorem shape_At_eq {s : List Int} {k : Int} (hl : s.length ≤ maxLen) (hk : -9223372036854775808 ≤ k ∧ k ≤ 9223372036854775807) :
    M.shape_At s k = some (if shOk s ∧ 0 ≤ k ∧ k < prod s then (dig s k, true) else ([], false)) := by
  have hm : maxLen = 9223372036854775807 := rfl
  unfold M.shape_At
  rw [shape_Size_eq hl]
  simp only [Option.bind_some]
  rcases shSize_cases s with ⟨hok, he⟩ | ⟨hok, he, _⟩
  · rw [he]
    by_cases hk0 : 0 ≤ k ∧ k < prod s
    · rw [if_neg (by simp; omega), if_pos ⟨hok, hk0⟩]
      have hpos : allPos s := allPos_of (fun x hx => (hok.2.1 x hx).1) (by omega)
      rw [mk_ok (by have := hok.1; omega) (by have := hok.1; omega), Option.bind_some]
      have key := wloop_ind (f := M.shape_At_L1 s)
        (fun n st => ∃ j : Nat, n = j ∧ j ≤ s.length ∧ st = (k / prod (s.drop j), (j : Int) - 1, List.replicate j 0 ++ dig (s.drop j) (k % prod (s.drop j))))
        (fun b => b = .next (dig s k)) (fun n st h => by
          obtain ⟨j, rfl, hj, rfl⟩ := h
          unfold M.shape_At_L1
          cases n with
          | zero =>
            right
            simp only [List.drop_zero, List.replicate_zero, List.nil_append]
            refine ⟨_, ?_, rfl⟩
            simp [Int.emod_eq_of_lt hk0.1 hk0.2]
          | succ j =>
            left
            have hlt : j < s.length := by omega
            have hjj : ((j + 1 : Nat) : Int) - 1 = (j : Int) := by omega
            have hP : 0 < prod (s.drop (j + 1)) := allPos.pprod (fun x hx => hpos x (List.mem_of_mem_drop hx))
            have hx : 0 < s[j] := hpos _ (List.getElem_mem hlt)
            have hq : 0 ≤ k / prod (s.drop (j + 1)) := Int.ediv_nonneg hk0.1 (by omega)
            have hq2 : k / prod (s.drop (j + 1)) ≤ k := Int.ediv_le_self _ hk0.1
            have hlen : j < (List.replicate (j + 1) (0 : Int) ++ dig (s.drop (j + 1)) (k % prod (s.drop (j + 1)))).length := by simp; omega
            have hprod : prod (s.drop j) = s[j] * prod (s.drop (j + 1)) := by rw [drop_cons hlt]; rfl
            rw [hjj]
            simp only [show decide ((j : Int) ≥ 0) = true from decide_eq_true (by omega), if_true, idx_get hlt, idx_get hlen, upd_nat hlen, Option.bind_some]
            have e1 : remI (k / prod (s.drop (j + 1))) s[j] = some ((k / prod (s.drop (j + 1))) % s[j]) := by
              unfold remI; rw [if_neg (by omega), Int.tmod_eq_emod_of_nonneg hq]
            have e2 : quoI .i64 (k / prod (s.drop (j + 1))) s[j] = some ((k / prod (s.drop (j + 1))) / s[j]) := by
              have h3 : (k / prod (s.drop (j + 1))) / s[j] ≤ k / prod (s.drop (j + 1)) := Int.ediv_le_self _ hq
              have h4 : 0 ≤ (k / prod (s.drop (j + 1))) / s[j] := Int.ediv_nonneg hq (by omega)
              unfold quoI; rw [if_neg (by omega), Int.tdiv_eq_ediv_of_nonneg hq, w64_id (by omega) (by omega)]
            rw [e1, e2]
            simp only [Option.bind_some]
            refine ⟨_, j, rfl, by omega, j, rfl, by omega, ?_⟩
            rw [w64_id (by omega) (by omega), hprod]
            refine Prod.ext ?_ (Prod.ext rfl ?_)
            · simp only
              rw [Int.ediv_ediv_of_nonneg (by omega), Int.mul_comm]
            · simp only
              rw [List.set_append_left _ _ (by simp), List.replicate_succ', List.set_append_right _ _ (by simp), List.length_replicate, Nat.sub_self]
              simp only [List.set_cons_zero, List.append_assoc, List.singleton_append]
              congr 1
              rw [drop_cons hlt]
              simp only [dig]
              have e3 : k % (s[j] * prod (s.drop (j + 1))) / prod (s.drop (j + 1)) = k / prod (s.drop (j + 1)) % s[j] := by
                exact emod_mul_ediv hx hP
              have e4 : k % (s[j] * prod (s.drop (j + 1))) % prod (s.drop (j + 1)) = k % prod (s.drop (j + 1)) := Int.emod_emod_of_dvd _ ⟨s[j], Int.mul_comm _ _⟩
              rw [e3, e4])
        s.length (k, (s.length : Int) - 1, List.replicate s.length 0) ⟨s.length, rfl, by omega, by simp [prod, dig]⟩
      obtain ⟨b, hb, rfl⟩ := key
      rw [w64_id (by have := hok.1; omega) (by have := hok.1; omega), hb]; rfl
    · rw [if_pos (by simp; omega), if_neg (fun h => hk0 h.2)]
  · have : ((shSize s).2 != 0) = true := by simpa using he
    rw [if_pos (by rw [this]; rfl), if_neg (fun h => hok h.1)]
/-- by Horner. -/
def hor : List Int → List Int → Int → Int
  | x :: s, a :: at_, acc => hor s at_ (acc * x + a)
  | _, _, acc => acc
theorem hor_eq : ∀ {s at_ : List Int}, at_.length = s.length → ∀ acc, hor s at_ acc = acc * prod s + off s at_
  | [], [], _, acc => by simp [hor, prod, off]
  | x :: s, a :: at_, h, acc => by
    simp only [hor, prod, off]
    rw [hor_eq (by simpa using h), Int.add_mul, Int.mul_assoc, Int.add_assoc]
  | [], _ :: _, h, _ => by simp at h
  | _ :: _, [], h, _ => by simp at h
theorem hor_snoc : ∀ {s at_ : List Int} {x a acc : Int}, at_.length = s.length → hor (s ++ [x]) (at_ ++ [a]) acc = hor s at_ acc * x + a
  | [], [], x, a, acc, _ => by simp [hor]
  | y :: s, b :: at_, x, a, acc, h => by
    simp only [List.cons_append, hor]
    exact hor_snoc (by simpa using h)
  | [], _ :: _, _, _, _, h => by simp at h
  | _ :: _, [], _, _, _, h => by simp at h
theorem inShape_snoc : ∀ {s at_ : List Int} {x a : Int}, at_.length = s.length → (inShape (s ++ [x]) (at_ ++ [a]) ↔ inShape s at_ ∧ 0 ≤ a ∧ a < x)
  | [], [], x, a, _ => by simp [inShape]
  | y :: s, b :: at_, x, a, h => by
    simp only [List.cons_append, inShape]
    rw [inShape_snoc (by simpa using h)]
    constructor
    · rintro ⟨h1, h2, h3, h4, h5⟩; exact ⟨⟨h1, h2, h3⟩, h4, h5⟩
    · rintro ⟨⟨h1, h2, h3⟩, h4, h5⟩; exact ⟨h1, h2, h3, h4, h5⟩
  | [], _ :: _, _, _, h => by simp at h
  | _ :: _, [], _, _, h => by simp at h
theorem inShape_take {s at_ : List Int} (h : inShape s at_) : ∀ k, inShape (s.take k) (at_.take k) := by
  intro k
  induction k generalizing s at_ with
  | zero => simp [inShape]
  | succ k ih =>
    match s, at_, h with
    | [], [], _ => simp [inShape]
    | x :: s, a :: at_, ⟨h1, h2, h3⟩ => exact ⟨h1, h2, ih h3⟩
theorem prod_le_take {s : List Int} (h : shOk s) (k : Nat) : 0 ≤ prod (s.take k) ∧ prod (s.take k) ≤ 10000 ^ 4 :=
  prod_bound (s.take k) 4 (by have := h.1; rw [List.length_take]; omega) (fun x hx => h.2.1 x (List.mem_of_mem_take hx))

theorem shape_Offset_eq {s at_ : List Int} (hl : s.length ≤ maxLen) (hl' : at_.length ≤ maxLen) :
    M.shape_Offset s at_ = some (if shOk s ∧ inShape s at_ then (off s at_, true) else (0, false)) := by
  have hm : maxLen = 9223372036854775807 := rfl
  unfold M.shape_Offset
  by_cases hlen : at_.length = s.length
  · rw [if_neg (by simp [hlen]), sized_eq hl]
    simp only [Option.bind_some]
    rcases shSize_cases s with ⟨hok, he⟩ | ⟨hok, he, _⟩
    · rw [he]
      simp only [beq_self_eq_true, Bool.not_true, Bool.false_eq_true, if_false]
      have key := wloop_ind (f := M.shape_Offset_L1 s at_)
        (fun n st => ∃ k : Nat, st = (hor (s.take k) (at_.take k) 0, (k : Int)) ∧ k ≤ s.length ∧ n = s.length - k ∧ inShape (s.take k) (at_.take k))
        (fun b => (b = .done (0, false) ∧ ¬ inShape s at_) ∨ (b = .next (off s at_) ∧ inShape s at_)) (fun n st h => by
          obtain ⟨k, rfl, hk, rfl, hin⟩ := h
          unfold M.shape_Offset_L1
          by_cases hlt : k < s.length
          · have hlt' : k < at_.length := by omega
            have e1 := List.take_succ_eq_append_getElem hlt
            have e2 := List.take_succ_eq_append_getElem hlt'
            have hlk : (at_.take k).length = (s.take k).length := by simp [hlen]
            simp only [show decide ((k : Int) < (at_.length : Int)) = true from by simp; exact hlt', if_true, idx_get hlt, idx_get hlt', Option.bind_some]
            have hx := hok.2.1 _ (List.getElem_mem hlt)
            by_cases h0 : at_[k] < 0
            · right
              simp only [show decide (at_[k] < 0) = true from by simpa using h0, if_true, Option.bind_some]
              refine ⟨_, rfl, .inl ⟨rfl, fun hh => ?_⟩⟩
              have := inShape_take hh (k + 1)
              rw [e1, e2, inShape_snoc hlk] at this
              omega
            · simp only [show decide (at_[k] < 0) = false from by simpa using h0, Bool.false_eq_true, if_false, Option.bind_some]
              by_cases h1 : at_[k] ≥ s[k]
              · right
                simp only [show decide (at_[k] ≥ s[k]) = true from by simpa using h1, if_true]
                refine ⟨_, rfl, .inl ⟨rfl, fun hh => ?_⟩⟩
                have := inShape_take hh (k + 1)
                rw [e1, e2, inShape_snoc hlk] at this
                omega
              · left
                simp only [show decide (at_[k] ≥ s[k]) = false from by simpa using h1, Bool.false_eq_true, if_false]
                have hin2 : inShape (s.take (k + 1)) (at_.take (k + 1)) := by rw [e1, e2, inShape_snoc hlk]; exact ⟨hin, by omega, by omega⟩
                have r1 := off_range hin
                have p1 := prod_bound (s.take k) 3 (by have := hok.1; rw [List.length_take]; omega) (fun x hx => hok.2.1 x (List.mem_of_mem_take hx))
                have h6 : hor (s.take k) (at_.take k) 0 * s[k] ≤ 10000 ^ 3 * 10000 := by
                  rw [hor_eq hlk]
                  exact Int.mul_le_mul (by omega) (by omega) (by omega) (by omega)
                have h7 : 0 ≤ hor (s.take k) (at_.take k) 0 * s[k] := by
                  rw [hor_eq hlk]
                  exact Int.mul_nonneg (by omega) (by omega)
                refine ⟨_, s.length - (k + 1), rfl, by omega, k + 1, ?_, by omega, rfl, hin2⟩
                rw [e1, e2, hor_snoc hlk, w64_id (x := _ * _) (by omega) (by omega), w64_id (by omega) (by omega), w64_id (by omega) (by omega)]
                simp
          · have : k = s.length := by omega
            subst this
            right
            have e3 : at_.take s.length = at_ := by rw [← hlen]; exact List.take_length
            rw [List.take_length, e3] at hin ⊢
            simp only [show decide ((s.length : Int) < (at_.length : Int)) = false from by simp [hlen], Bool.false_eq_true, if_false]
            refine ⟨_, rfl, .inr ⟨?_, hin⟩⟩
            rw [hor_eq hlen]; simp)
        s.length (0, 0) ⟨0, by simp [hor], by omega, by omega, by simp [inShape]⟩
      obtain ⟨b, hb, ⟨rfl, h⟩ | ⟨rfl, h⟩⟩ := key
      · rw [hb, if_neg (fun hh => h hh.2)]; rfl
      · rw [hb, if_pos ⟨hok, h⟩]; rfl
    · have : ((shSize s).2 == 0) = false := by simpa using he
      rw [this, if_pos (by rfl), if_neg (fun hh => hok hh.1)]
  · rw [if_pos (by simp; omega), if_neg (fun hh => hlen hh.2.len)]
    simp
theorem sub_take {α : Type} {l : List α} {k : Nat} (h : k ≤ l.length) : sub l 0 (k : Int) = some (l.take k) := by
  unfold sub
  rw [if_pos ⟨by omega, by omega, by omega⟩]
  simp
/-- what is ahead of an axis, it, what is behind. -/
def splitOf (s : List Int) (axis : Int) : Int × Int × Int × Bool :=
  if h : shOk s ∧ 0 ≤ axis ∧ axis < s.length then (prod (s.take axis.toNat), s[axis.toNat]'(by omega), prod (s.drop (axis.toNat + 1)), true) else (0, 0, 0, false)
theorem shape_Split_eq {s : List Int} {axis : Int} (hl : s.length ≤ maxLen) (ha : -9223372036854775808 ≤ axis ∧ axis ≤ 9223372036854775807) : M.shape_Split s axis = some (splitOf s axis) := by
  have hm : maxLen = 9223372036854775807 := rfl
  unfold M.shape_Split splitOf
  by_cases hr : 0 ≤ axis ∧ axis < s.length
  · have e : (decide (axis < 0) || decide (axis ≥ (s.length : Int))) = false := by
      rw [decide_eq_false (by omega), decide_eq_false (by omega)]; rfl
    rw [e, sized_eq hl]
    simp only [Bool.false_eq_true, if_false, Option.bind_some]
    rcases shSize_cases s with ⟨hok, he⟩ | ⟨hok, he, _⟩
    · obtain ⟨k, rfl⟩ : ∃ k : Nat, axis = k := ⟨axis.toNat, by omega⟩
      have hk : k < s.length := by omega
      have h4 := hok.1
      rw [he, dif_pos ⟨hok, hr⟩]
      simp only [beq_self_eq_true, Bool.not_true, Bool.false_eq_true, if_false]
      rw [sub_take (by omega), Option.bind_some, product_eq (by rw [List.length_take]; omega) (fun x hx => hok.2.1 x (List.mem_of_mem_take hx)), Option.bind_some, idx_get hk, Option.bind_some, w64_id (by omega) (by omega),
        show (k : Int) + 1 = ((k + 1 : Nat) : Int) by omega, sub_drop (by omega), Option.bind_some, product_eq (by rw [List.length_drop]; omega) (fun x hx => hok.2.1 x (List.mem_of_mem_drop hx))]
      rfl
    · have : ((shSize s).2 == 0) = false := by simpa using he
      rw [this, dif_neg (fun h => hok h.1)]
      rfl
  · have e : (decide (axis < 0) || decide (axis ≥ (s.length : Int))) = true := by
      simp; omega
    rw [e, dif_neg (fun h => hr h.2)]
    rfl
/-- a shape without an axis. -/
def wo (s : List Int) (axis : Int) : List Int := if 0 ≤ axis ∧ axis < s.length then s.take axis.toNat ++ s.drop (axis.toNat + 1) else s
theorem wo_prod {s : List Int} {k : Nat} (h : k < s.length) : prod (wo s k) = prod (s.take k) * prod (s.drop (k + 1)) := by
  unfold wo
  rw [if_pos ⟨by omega, by omega⟩, prod_append]; simp
theorem prod_split {s : List Int} {k : Nat} (h : k < s.length) : prod s = prod (s.take k) * s[k] * prod (s.drop (k + 1)) := by
  conv => lhs; rw [← List.take_append_drop k s, drop_cons h, prod_append]
  simp only [prod]
  rw [Int.mul_assoc]
theorem off_app : ∀ {a p : List Int} {b q : List Int}, p.length = a.length → off (a ++ b) (p ++ q) = off a p * prod b + off b q
  | [], [], b, q, _ => by simp [off]
  | x :: a, y :: p, b, q, h => by
    simp only [List.cons_append, off]
    rw [off_app (by simpa using h), prod_append, Int.add_mul, Int.mul_assoc, Int.add_assoc]
  | [], _ :: _, _, _, h => by simp at h
  | _ :: _, [], _, _, h => by simp at h
theorem inShape_app : ∀ {a p b q : List Int}, inShape a p → inShape b q → inShape (a ++ b) (p ++ q)
  | [], [], _, _, _, h => h
  | _ :: _, _ :: _, _, _, ⟨h1, h2, h3⟩, h => ⟨h1, h2, inShape_app h3 h⟩
  | [], _ :: _, _, _, h, _ => h.elim
  | _ :: _, [], _, _, h, _ => h.elim
theorem at_axis : ∀ {s p : List Int} {x : Nat}, inShape s p → (hx : x < s.length) → ∃ p1 i p2, p = p1 ++ i :: p2 ∧ p1.length = x ∧ inShape (s.take x) p1 ∧ 0 ≤ i ∧ i < s[x] ∧ inShape (s.drop (x + 1)) p2
  | y :: s, a :: p, 0, ⟨h1, h2, h3⟩, _ => ⟨[], a, p, rfl, rfl, trivial, h1, h2, h3⟩
  | y :: s, a :: p, x + 1, ⟨h1, h2, h3⟩, hx => by
    obtain ⟨p1, i, p2, rfl, e, k1, k2, k3, k4⟩ := at_axis h3 (by simpa using hx : x < s.length)
    exact ⟨a :: p1, i, p2, rfl, by simp [e], ⟨h1, h2, k1⟩, k2, by simpa using k3, by simpa using k4⟩
  | [], _, _, _, hx => by simp at hx
  | _ :: _, [], _, h, _ => h.elim
theorem take_mid (s : List Int) {x : Nat} (hx : x < s.length) : s = s.take x ++ s[x] :: s.drop (x + 1) := by
  rw [← List.drop_eq_getElem_cons hx, List.take_append_drop]
theorem allPos_in {s p : List Int} (h : inShape s p) : allPos s := by
  induction s generalizing p with
  | nil => intro x hx; simp at hx
  | cons y s ih => cases p with
    | nil => exact h.elim
    | cons a p =>
      obtain ⟨h1, h2, h3⟩ := h
      intro x hx
      rcases List.mem_cons.mp hx with rfl | hx
      · omega
      · exact ih h3 x hx
/-- what an offset tells of a place, at an axis. -/
theorem off_axis {s p1 p2 : List Int} {x : Nat} {i : Int} (hx : x < s.length) (h1 : inShape (s.take x) p1) (hi : 0 ≤ i ∧ i < s[x]) (h2 : inShape (s.drop (x + 1)) p2) :
    off s (p1 ++ i :: p2) = (off (s.take x) p1 * s[x] + i) * prod (s.drop (x + 1)) + off (s.drop (x + 1)) p2 := by
  conv => lhs; rw [take_mid s hx]
  rw [off_app h1.len]
  simp only [off, prod]
  rw [Int.add_mul, Int.mul_assoc, Int.add_assoc]
theorem axis_facts {h n i B j k : Int} (hn : 0 ≤ i ∧ i < n) (hB : 0 ≤ j ∧ j < B) (hk : k = (h * n + i) * B + j) :
    k / B % n = i ∧ k / (n * B) = h ∧ k % B = j := by
  have e1 : k / B = h * n + i := by
    rw [hk, Int.add_comm, Int.add_mul_ediv_right _ _ (by omega), Int.ediv_eq_zero_of_lt hB.1 hB.2, Int.zero_add]
  refine ⟨?_, ?_, ?_⟩
  · rw [e1, Int.add_comm, Int.add_mul_emod_self_right, Int.emod_eq_of_lt hn.1 hn.2]
  · rw [Int.mul_comm, ← Int.ediv_ediv_of_nonneg (by omega : (0 : Int) ≤ B), e1, Int.add_comm, Int.add_mul_ediv_right _ _ (by omega), Int.ediv_eq_zero_of_lt hn.1 hn.2, Int.zero_add]
  · rw [hk, Int.add_comm, Int.add_mul_emod_self_right, Int.emod_eq_of_lt hB.1 hB.2]
theorem shOk_nonneg' {s : List Int} (h : shOk s) : 0 ≤ prod s := prod_nonneg (fun x hx => (h.2.1 x hx).1)
theorem inShape_bd : ∀ {s p : List Int}, inShape s p → (∀ x ∈ s, x ≤ 10000) → ∀ x ∈ p, 0 ≤ x ∧ x ≤ 10000
  | [], [], _, _, x, hx => by simp at hx
  | a :: s, i :: p, ⟨h0, h1, h⟩, hs, x, hx => by
    have ha := hs a (by simp)
    rcases List.mem_cons.mp hx with rfl | hx
    · omega
    · exact inShape_bd h (fun y hy => hs y (by simp [hy])) x hx
def pfill (b : Val) : Int := if b.Char = true then 32 else 0
theorem pFill_eq (v : Val) : M.value_Fill v = some (pfill v) := by
  unfold M.value_Fill pfill
  split <;> rfl
def countsF (a b : Val) : Int := if vRight a = false ∨ vRight b = false then 1 else if a.Shape.length > 1 then 24 else if a.Char = true ∧ a.Data.length > 0 then 23 else 0
theorem counts_eq {a b : Val} (ha : a.Data.length ≤ maxLen) (hb : b.Data.length ≤ maxLen) : M.pick_counts a b = some (countsF a b) := by
  have hm : maxLen = 9223372036854775807 := rfl
  unfold M.pick_counts countsF
  rw [value_Right_eq (by omega), value_Right_eq (by omega)]
  cases h1 : vRight a <;> cases h2 : vRight b <;> simp
  by_cases h3 : 1 < a.Shape.length
  · rw [if_pos h3, if_pos (show (1 : Int) < a.Shape.length by omega)]
  · rw [if_neg h3, if_neg (show ¬ (1 : Int) < a.Shape.length by omega)]
    cases a.Char <;> simp
    split <;> rfl
theorem pick_size_eq {s : List Int} (hl : s.length ≤ 1000000) : M.pick_size s = some ((shSize s).1, decide (shOk s)) := by
  unfold M.pick_size
  rw [shape_Size_eq (by unfold maxLen; omega)]
  simp only [Option.bind_some]
  rw [contains_int (s := s) (f := fun x0 => M.pick_size_1 x0) (g := fun x => decide (x > 10000)) (fun x _ => rfl) (by omega)]
  simp only [Option.bind_some]
  by_cases h : shOk s
  · have h2 := shSize_zero.mpr h
    rw [h2]
    have : s.any (fun x => decide (x > 10000)) = false := by
      rw [List.any_eq_false]
      intro x hx
      have := (h.2.1 x hx).2
      simp; omega
    rw [this]; simp [h]
  · have h2 : ¬ (shSize s).2 = 0 := fun e => h (shSize_zero.mp e)
    simp [h, h2]
def addL (p q : List Int) : List Int := List.zipWith (· + ·) p q
def winF (b : Val) (s mv : List Int) : Val :=
  ⟨b.Char, s, (List.range (prod s).toNat).map fun (k : Nat) => if inShape b.Shape (addL (dig s k) mv) then (b.Data[(off b.Shape (addL (dig s k) mv)).toNat]?).getD 0 else pfill b⟩
theorem window_L2 {mv r : List Int} (hl : mv.length = r.length) (hr : ∀ x ∈ r, 0 ≤ x ∧ x ≤ 10000) (hm : ∀ x ∈ mv, -100000 ≤ x ∧ x ≤ 100000) (h5 : r.length ≤ 10) :
    wloop (M.pick_window_L2 mv r) (0, r) = some (.next (addL r mv)) := by
  refine loop_fun (f := M.pick_window_L2 mv r) (fun k => ((k : Int), (addL r mv).take k ++ r.drop k)) r.length (fun k hk => ?_) ?_
  · have hk2 : k < mv.length := by omega
    have la : (addL r mv).length = r.length := by simp [addL]; omega
    have e0 : ((addL r mv).take k ++ r.drop k)[k]'(by rw [List.length_append, List.length_take, List.length_drop, la]; omega) = r[k] := by
      rw [List.getElem_append_right (by rw [List.length_take, la]; omega)]
      simp [la]
      congr 1; omega
    simp only [M.pick_window_L2]
    rw [if_pos (by simp; omega), idx_get (l := (addL r mv).take k ++ r.drop k) (by rw [List.length_append, List.length_take, List.length_drop, la]; omega), idx_get hk2, e0]
    simp only [Option.bind_some]
    rw [upd_nat (by rw [List.length_append, List.length_take, List.length_drop, la]; omega)]
    simp only [Option.bind_some]
    have b1 := hr _ (List.getElem_mem hk)
    have b2 := hm _ (List.getElem_mem hk2)
    rw [w64_id (x := r[k] + mv[k]) (by omega) (by omega), w64_id (x := (k : Int) + 1) (by omega) (by omega)]
    have e1 : ((addL r mv).take k ++ r.drop k).set k (r[k] + mv[k]) = (addL r mv).take (k + 1) ++ r.drop (k + 1) := by
      rw [List.take_succ_eq_append_getElem (by omega), List.drop_eq_getElem_cons hk, List.set_append_right _ _ (by rw [List.length_take]; omega)]
      have : k - ((addL r mv).take k).length = 0 := by rw [List.length_take]; omega
      rw [this, List.set_cons_zero, List.append_assoc]
      simp [addL]
    rw [e1]; rfl
  · have la : (addL r mv).length = r.length := by simp [addL]; omega
    simp only [M.pick_window_L2]
    rw [if_neg (by simp)]
    simp [la, List.take_of_length_le]
theorem window_eq {b : Val} {s mv : List Int} (hb : vRight b = true) (hs : shOk s) (hl : mv.length = s.length) (hm : ∀ x ∈ mv, -100000 ≤ x ∧ x ≤ 100000) : M.pick_window b s mv = some (winF b s mv) := by
  obtain ⟨hbs, hbp, _⟩ := vRight_iff.mp hb
  have hs4 := hs.1
  have hb4 := hbs.1
  have hp := hs.2.2
  have hp0 := shOk_nonneg' hs
  have hmx : maxLen = 9223372036854775807 := rfl
  obtain ⟨n, hn⟩ : ∃ n : Nat, prod s = n := ⟨(prod s).toNat, by omega⟩
  unfold M.pick_window
  rw [pick_size_eq (by omega), shSize_ok hs]
  simp only [Option.bind_some]
  rw [hn, mk_ok (by omega) (by omega)]
  simp only [Option.bind_some]
  obtain ⟨m, ⟨hml, hmi⟩, he⟩ := loop_up (f := M.pick_window_L1 b s mv (List.replicate n 0)) (fun k (m : List Int) => ((k : Int), m)) n
    (fun k m => m.length = n ∧ ∀ i : Nat, i < k → m[i]? = some (if inShape b.Shape (addL (dig s i) mv) then (b.Data[(off b.Shape (addL (dig s i) mv)).toNat]?).getD 0 else pfill b)) (fun m => .next m) (List.replicate n 0) ⟨by simp, fun i h => by omega⟩ (fun k m hk ⟨hml, hmi⟩ => by
      have hpos : allPos s := allPos_of (fun x hx => (hs.2.1 x hx).1) (by omega)
      have hin := dig_in (s := s) (k := (k : Int)) hpos (by omega) (by omega)
      have hdl := dig_len s (k : Int)
      have hdb : ∀ x ∈ dig s (k : Int), 0 ≤ x ∧ x ≤ 10000 := inShape_bd hin (fun x hx => (hs.2.1 x hx).2)
      have hal : (addL (dig s (k : Int)) mv).length = s.length := by simp [addL, hdl]; omega
      simp only [M.pick_window_L1]
      rw [if_pos (by simp; omega), shape_At_eq (by omega) (by omega), if_pos ⟨hs, by omega, by omega⟩]
      simp only [Option.bind_some]
      rw [window_L2 (by omega) hdb hm (by omega)]
      simp only [Option.bind_some, joinK]
      rw [pFill_eq]
      simp only [Option.bind_some]
      rw [idx_get (l := m) (by omega)]
      simp only [Option.bind_some]
      rw [upd_nat (by omega)]
      simp only [Option.bind_some]
      rw [shape_Offset_eq (by omega) (by omega)]
      have fin : ∀ v : Int, (if inShape b.Shape (addL (dig s k) mv) then (b.Data[(off b.Shape (addL (dig s k) mv)).toNat]?).getD 0 else pfill b) = v → ((m.set k v).length = n ∧ ∀ i : Nat, i < k + 1 → (m.set k v)[i]? = some (if inShape b.Shape (addL (dig s i) mv) then (b.Data[(off b.Shape (addL (dig s i) mv)).toNat]?).getD 0 else pfill b)) := fun v hv => by
        refine ⟨by simp [hml], fun i hi => ?_⟩
        by_cases e : i = k
        · subst e; rw [List.getElem?_set_self (by omega), hv]
        · rw [List.getElem?_set_ne (fun h => e h.symm)]; exact hmi i (by omega)
      by_cases hi : inShape b.Shape (addL (dig s (k : Int)) mv)
      · rw [if_pos ⟨hbs, hi⟩]
        simp only [Option.bind_some, if_true]
        have ho := off_range hi
        obtain ⟨o, ho2⟩ : ∃ o : Nat, off b.Shape (addL (dig s (k : Int)) mv) = o := ⟨(off b.Shape (addL (dig s (k : Int)) mv)).toNat, by omega⟩
        have hod : o < b.Data.length := by omega
        rw [ho2, idx_get hod]
        simp only [Option.bind_some]
        rw [idx_get (l := m.set k (pfill b)) (by simp; omega)]
        simp only [Option.bind_some]
        rw [upd_nat (by simp; omega), List.set_set]
        simp only [Option.bind_some]
        rw [w64_id (x := (k : Int) + 1) (by omega) (by omega)]
        refine ⟨_, rfl, fin _ ?_⟩
        rw [if_pos hi, ho2, Int.toNat_natCast, List.getElem?_eq_getElem hod]; rfl
      · rw [if_neg (fun h => hi h.2)]
        simp only [Option.bind_some, Bool.false_eq_true, if_false]
        rw [w64_id (x := (k : Int) + 1) (by omega) (by omega)]
        refine ⟨_, rfl, fin _ ?_⟩
        rw [if_neg hi]) (fun m ⟨hml, hmi⟩ => by
      simp only [M.pick_window_L1]
      rw [if_neg (by simp)])
  rw [show ((0 : Nat) : Int) = 0 from rfl] at he
  rw [he]
  simp only [Option.bind_some, joinK]
  congr 1
  unfold winF
  congr 1
  apply List.ext_getElem?
  intro i
  rw [hn, Int.toNat_natCast]
  by_cases hi : i < n
  · rw [hmi i hi, List.getElem?_map, List.getElem?_range hi]; rfl
  · rw [List.getElem?_eq_none (by omega), List.getElem?_eq_none (by simp; omega)]
theorem low32 {x : Int} (h0 : 0 ≤ x) (h1 : x < 4294967296) : (BitVec.ofInt IntKind.u64.bits x &&& BitVec.ofInt IntKind.u64.bits 4294967295).toNat = x.toNat := by
  show (BitVec.ofInt 64 x &&& BitVec.ofInt 64 4294967295).toNat = x.toNat
  rw [BitVec.toNat_and]
  have e1 : (BitVec.ofInt 64 x).toNat = x.toNat := by
    rw [BitVec.toNat_ofInt, Int.emod_eq_of_lt h0 (by omega)]
  have e2 : (BitVec.ofInt 64 4294967295).toNat = 2 ^ 32 - 1 := by decide
  rw [e1, e2, Nat.and_two_pow_sub_one_eq_mod]
  omega
theorem u64_id {x : Int} (h1 : 0 ≤ x) (h2 : x ≤ 18446744073709551615) : IntKind.u64.wrap x = x := by
  have : IntKind.u64.wrap x = x % 18446744073709551616 := by simp [IntKind.wrap, IntKind.bits, IntKind.signed]
  rw [this]; omega
theorem mul64_one {n : Int} (h0 : 0 ≤ n) (h1 : n ≤ 1000000) : M.math_bits_Mul 1 n = some (0, n) := by
  have s32 : ((2 : Int) ^ (min (Int.toNat 32) IntKind.u64.bits)) = 4294967296 := by decide
  have d0 : ∀ x : Int, 0 ≤ x → x < 4294967296 → Int.fdiv x 4294967296 = 0 := fun x a b => by
    rw [Int.fdiv_eq_ediv_of_nonneg _ (by omega)]; exact Int.ediv_eq_zero_of_lt a b
  have l1 : (BitVec.ofInt IntKind.u64.bits 1 &&& BitVec.ofInt IntKind.u64.bits 4294967295).toNat = 1 := low32 (by omega) (by omega)
  have l0 : (BitVec.ofInt IntKind.u64.bits 0 &&& BitVec.ofInt IntKind.u64.bits 4294967295).toNat = 0 := low32 (by omega) (by omega)
  unfold M.math_bits_Mul M.math_bits_Mul64
  rw [s32, low32 h0 (by omega), l1, d0 1 (by omega) (by omega), d0 n h0 (by omega), Int.toNat_of_nonneg h0]
  simp only [Int.zero_mul, Int.mul_zero, Int.natCast_one, Int.one_mul]
  rw [u64_id (x := 0) (by omega) (by omega), u64_id (x := 1) (by omega) (by omega), u64_id (x := n) (by omega) (by omega)]
  simp only [Int.one_mul]
  rw [u64_id (x := n) (by omega) (by omega), d0 n h0 (by omega)]
  have w0 : IntKind.u64.wrap 0 = 0 := by decide
  have l0' : ((BitVec.ofInt IntKind.u64.bits 0 &&& BitVec.ofInt IntKind.u64.bits 4294967295).toNat : Int) = 0 := by rw [l0]; rfl
  have z0 : Int.fdiv 0 4294967296 = 0 := by decide
  simp only [Int.add_zero, Int.zero_add, w0, l0', z0]
  rfl
def repL (k n : Nat) (x : Int) : List Int := List.replicate k x ++ List.replicate (n - k) 0
theorem repL_len {k n : Nat} (x : Int) (h : k ≤ n) : (repL k n x).length = n := by simp [repL]; omega
theorem repL_cpy {k n : Nat} (x : Int) (h : k ≤ n) : cpy (repL k n x) k (n - k) (List.replicate k x) = repL (k + min k (n - k)) n x := by
  unfold cpy repL
  rw [List.take_left' (by simp), List.take_replicate, List.length_replicate, List.drop_append, List.drop_of_length_le (by simp), List.nil_append, List.length_replicate, List.drop_replicate, List.replicate_append_replicate]
  congr 1
  · congr 1; omega
  · congr 1; omega
theorem Repeat_int_one {x : Int} {n : Nat} (h : n ≤ 1000000) : M.slices_Repeat__int [x] (n : Int) = some (List.replicate n x) := by
  have key := wloop_ind (f := M.slices_Repeat__int_L1) (fun m s => ∃ k : Nat, s = ((k : Int), repL k n x) ∧ k ≤ n ∧ (0 < n → 0 < k) ∧ m = n - k) (fun b => b = .next (List.replicate n x)) (fun m s hs => by
    obtain ⟨k, rfl, hk, h0, rfl⟩ := hs
    simp only [M.slices_Repeat__int_L1]
    rw [repL_len x hk]
    by_cases hlt : k < n
    · left
      rw [if_pos (by simp; omega)]
      have e1 : sub (repL k n x) (k : Int) (n : Int) = some ((repL k n x).drop k) := by
        have := sub_drop (l := repL k n x) (k := k) (by rw [repL_len x hk]; omega)
        rwa [repL_len x hk] at this
      have e2 : sub (repL k n x) 0 (k : Int) = some (List.replicate k x) := by
        unfold sub
        rw [if_pos ⟨by omega, by omega, by rw [repL_len x hk]; omega⟩]
        simp [repL]
      rw [e1, e2]
      simp only [Option.bind_some]
      have e3 : ((repL k n x).drop k).length = n - k := by rw [List.length_drop, repL_len x hk]
      rw [e3, List.length_replicate, Int.toNat_natCast, repL_cpy x hk, w64_id (by omega) (by omega)]
      refine ⟨_, n - (k + min k (n - k)), rfl, ?_, k + min k (n - k), ?_, by omega, by omega, rfl⟩
      · have := h0 (by omega); omega
      · congr 1
    · right
      rw [if_neg (by simp; omega)]
      obtain rfl : k = n := by omega
      exact ⟨_, rfl, by simp [repL]⟩)
  unfold M.slices_Repeat__int
  rw [if_neg (by simp), u64_id (x := ([x].length : Int)) (by simp) (by simp), u64_id (x := (n : Int)) (by omega) (by omega)]
  simp only [List.length_cons, List.length_nil, Nat.zero_add, Int.natCast_one]
  rw [mul64_one (by omega) (by omega)]
  simp only [Option.bind_some]
  rw [if_neg (by simp; omega), w64_id (x := (n : Int)) (by omega) (by omega), mk_ok (by omega) (by omega)]
  simp only [Option.bind_some]
  rcases Nat.eq_zero_or_pos n with rfl | hn
  · obtain ⟨b, hb, rfl⟩ := key 0 (0, []) ⟨0, rfl, by omega, by omega, rfl⟩
    show ((wloop (M.slices_Repeat__int_L1) (0, [])).bind fun k => joinK k fun l2 => some l2) = _
    rw [hb]; rfl
  · obtain ⟨b, hb, rfl⟩ := key (n - 1) (1, repL 1 n x) ⟨1, rfl, by omega, by omega, rfl⟩
    have e : (((min 1 (List.replicate n (0 : Int)).length : Nat) : Int), cpy (List.replicate n (0 : Int)) 0 (List.replicate n (0 : Int)).length [x]) = ((1 : Int), repL 1 n x) := by
      rw [List.length_replicate]
      congr 1
      · omega
      · unfold cpy repL
        obtain ⟨n', rfl⟩ : ∃ n', n = n' + 1 := ⟨n - 1, by omega⟩
        simp [List.replicate_succ]
    rw [e, hb]; rfl
theorem Repeat_int64_one {x : Int} {n : Nat} (h : n ≤ 1000000) : M.slices_Repeat__int64 [x] (n : Int) = some (List.replicate n x) := by
  have key := wloop_ind (f := M.slices_Repeat__int64_L1) (fun m s => ∃ k : Nat, s = ((k : Int), repL k n x) ∧ k ≤ n ∧ (0 < n → 0 < k) ∧ m = n - k) (fun b => b = .next (List.replicate n x)) (fun m s hs => by
    obtain ⟨k, rfl, hk, h0, rfl⟩ := hs
    simp only [M.slices_Repeat__int64_L1]
    rw [repL_len x hk]
    by_cases hlt : k < n
    · left
      rw [if_pos (by simp; omega)]
      have e1 : sub (repL k n x) (k : Int) (n : Int) = some ((repL k n x).drop k) := by
        have := sub_drop (l := repL k n x) (k := k) (by rw [repL_len x hk]; omega)
        rwa [repL_len x hk] at this
      have e2 : sub (repL k n x) 0 (k : Int) = some (List.replicate k x) := by
        unfold sub
        rw [if_pos ⟨by omega, by omega, by rw [repL_len x hk]; omega⟩]
        simp [repL]
      rw [e1, e2]
      simp only [Option.bind_some]
      have e3 : ((repL k n x).drop k).length = n - k := by rw [List.length_drop, repL_len x hk]
      rw [e3, List.length_replicate, Int.toNat_natCast, repL_cpy x hk, w64_id (by omega) (by omega)]
      refine ⟨_, n - (k + min k (n - k)), rfl, ?_, k + min k (n - k), ?_, by omega, by omega, rfl⟩
      · have := h0 (by omega); omega
      · congr 1
    · right
      rw [if_neg (by simp; omega)]
      obtain rfl : k = n := by omega
      exact ⟨_, rfl, by simp [repL]⟩)
  unfold M.slices_Repeat__int64
  rw [if_neg (by simp), u64_id (x := ([x].length : Int)) (by simp) (by simp), u64_id (x := (n : Int)) (by omega) (by omega)]
  simp only [List.length_cons, List.length_nil, Nat.zero_add, Int.natCast_one]
  rw [mul64_one (by omega) (by omega)]
  simp only [Option.bind_some]
  rw [if_neg (by simp; omega), w64_id (x := (n : Int)) (by omega) (by omega), mk_ok (by omega) (by omega)]
  simp only [Option.bind_some]
  rcases Nat.eq_zero_or_pos n with rfl | hn
  · obtain ⟨b, hb, rfl⟩ := key 0 (0, []) ⟨0, rfl, by omega, by omega, rfl⟩
    show ((wloop (M.slices_Repeat__int64_L1) (0, [])).bind fun k => joinK k fun l2 => some l2) = _
    rw [hb]; rfl
  · obtain ⟨b, hb, rfl⟩ := key (n - 1) (1, repL 1 n x) ⟨1, rfl, by omega, by omega, rfl⟩
    have e : (((min 1 (List.replicate n (0 : Int)).length : Nat) : Int), cpy (List.replicate n (0 : Int)) 0 (List.replicate n (0 : Int)).length [x]) = ((1 : Int), repL 1 n x) := by
      rw [List.length_replicate]
      congr 1
      · omega
      · unfold cpy repL
        obtain ⟨n', rfl⟩ : ∃ n', n = n' + 1 := ⟨n - 1, by omega⟩
        simp [List.replicate_succ]
    rw [e, hb]; rfl
theorem prod_ones : ∀ n : Nat, prod (List.replicate n 1) = 1
  | 0 => rfl
  | n + 1 => by rw [List.replicate_succ]; simp [prod, prod_ones n]
/-- an array with an axis for each number. -/
def rkS (a b : Val) : List Int := if b.Shape = [] then List.replicate a.Data.length 1 else b.Shape
def rkE (a b : Val) : Int := if b.Shape = [] ∧ a.Data.length > 4 then 24 else if (rkS a b).length ≠ a.Data.length then 25 else 0
theorem ranked_eq {a b : Val} (ha : a.Data.length ≤ 100000) : ∃ v, M.pick_ranked a b = some (v, rkE a b) ∧ (rkE a b = 0 → v = ⟨b.Char, rkS a b, b.Data⟩) := by
  unfold M.pick_ranked rkE
  by_cases h : b.Shape = []
  · rw [if_pos (by simp [h])]
    by_cases h4 : a.Data.length > 4
    · rw [if_pos (by simp; omega), if_pos ⟨h, h4⟩]
      exact ⟨b, rfl, fun h => by cases h⟩
    · rw [if_neg (by simp; omega), if_neg (fun hh => h4 hh.2), Repeat_int_one (by omega)]
      have e : rkS a b = List.replicate a.Data.length 1 := if_pos h
      simp only [Option.bind_some, joinK, List.length_replicate, bne_self_eq_false, Bool.false_eq_true, if_false]
      rw [e]
      refine ⟨_, ?_, fun _ => rfl⟩
      rw [if_neg (by simp)]
  · have e : rkS a b = b.Shape := if_neg h
    rw [if_neg (by simp [h]), if_neg (fun hh => h hh.1), e]
    simp only [Option.bind_some, joinK]
    by_cases hl : b.Shape.length = a.Data.length
    · rw [if_neg (by simp [hl]), if_neg (by simp [hl])]
      exact ⟨_, rfl, fun _ => rfl⟩
    · rw [if_pos (by simp; omega), if_pos hl]
      exact ⟨_, rfl, fun h => by cases h⟩
theorem rk_right {a b : Val} (hb : vRight b = true) (h : rkE a b = 0) : vRight ⟨b.Char, rkS a b, b.Data⟩ = true ∧ (rkS a b).length = a.Data.length ∧ shOk (rkS a b) := by
  obtain ⟨hs, hp, hc⟩ := vRight_iff.mp hb
  unfold rkE at h
  by_cases h4 : b.Shape = [] ∧ a.Data.length > 4
  · rw [if_pos h4] at h; cases h
  rw [if_neg h4] at h
  by_cases hl : (rkS a b).length = a.Data.length
  · have key : shOk (rkS a b) ∧ prod (rkS a b) = b.Data.length := by
      by_cases h0 : b.Shape = []
      · have e : rkS a b = List.replicate a.Data.length 1 := if_pos h0
        rw [e, prod_ones]
        rw [h0] at hp
        refine ⟨⟨by rw [List.length_replicate]; exact Nat.le_of_not_lt (fun hh => h4 ⟨h0, hh⟩), fun x hx => ?_, by rw [prod_ones]; omega⟩, hp⟩
        rw [List.mem_replicate] at hx; omega
      · have e : rkS a b = b.Shape := if_neg h0
        rw [e]; exact ⟨hs, hp⟩
    exact ⟨vRight_iff.mpr ⟨key.1, key.2, hc⟩, hl, key.1⟩
  · rw [if_pos hl] at h; cases h
def lenF (n : Int) : Int := if n < 0 then (if n < -10001 then 10001 else -n) else (if 10001 < n then 10001 else n)
theorem lenF_bd (n : Int) : 0 ≤ lenF n ∧ lenF n ≤ 10001 := by unfold lenF; split <;> split <;> omega
theorem length_eq (n : Int) : M.pick_length n = some (lenF n) := by
  unfold M.pick_length lenF
  by_cases h : n < 0
  · rw [if_pos (by simpa using h), if_pos h]
    by_cases h2 : n < -10001
    · rw [if_pos h2, if_pos h2]; rfl
    · rw [if_neg h2, if_neg h2, w64_id (by omega) (by omega)]
      simp only [Option.bind_some]
      rw [if_neg (by omega)]
      congr 1; omega
  · rw [if_neg (by simpa using h), if_neg h]; rfl
def tS (l : List Int) : List Int := l.map lenF
def tM (l sh : List Int) : List Int := List.zipWith (fun n x => if n < 0 then x - lenF n else 0) l sh
def takeF (a b : Val) : Val × Int :=
  if countsF a b ≠ 0 then (⟨false, [], []⟩, countsF a b) else if rkE a b ≠ 0 then (⟨false, [], []⟩, rkE a b) else
  if shOk (tS a.Data) then (winF ⟨b.Char, rkS a b, b.Data⟩ (tS a.Data) (tM a.Data (rkS a b)), 0) else (⟨false, [], []⟩, 27)
theorem counts_right {a b : Val} (h : countsF a b = 0) : vRight a = true ∧ vRight b = true ∧ a.Shape.length ≤ 1 := by
  unfold countsF at h
  split at h
  · cases h
  · rename_i h1
    split at h
    · cases h
    · cases ha : vRight a <;> cases hb : vRight b <;> simp_all
theorem pdata {a : Val} (h : vRight a = true) : a.Data.length ≤ 10000 := by
  obtain ⟨hs, hp, _⟩ := vRight_iff.mp h
  have := hs.2.2; omega
theorem tM_bd {l sh : List Int} (h : ∀ x ∈ sh, 0 ≤ x ∧ x ≤ 10000) : ∀ x ∈ tM l sh, -100000 ≤ x ∧ x ≤ 100000 := by
  intro x hx
  obtain ⟨i, hi, rfl⟩ := List.mem_iff_getElem.mp hx
  simp only [tM, List.length_zipWith] at hi
  simp only [tM, List.getElem_zipWith]
  have := h _ (List.getElem_mem (show i < sh.length by omega))
  have := lenF_bd (l[i]'(by omega))
  split <;> omega
theorem Take_L1_eq {a v : Val} (hl : v.Shape.length = a.Data.length) (ha : a.Data.length ≤ 10000) (hs : ∀ x ∈ v.Shape, 0 ≤ x ∧ x ≤ 10000) :
    wloop (M.pick_Take_L1 a v) ([], [], 0) = some (.next (tS a.Data, tM a.Data v.Shape)) := by
  have l1 : (tS a.Data).length = a.Data.length := by simp [tS]
  have l2 : (tM a.Data v.Shape).length = a.Data.length := by simp [tM]; omega
  have := loop_fun (f := M.pick_Take_L1 a v) (fun k => ((tS a.Data).take k, (tM a.Data v.Shape).take k, (k : Int))) a.Data.length (b := .next (tS a.Data, tM a.Data v.Shape)) (fun k hk => ?_) ?_
  · exact this
  · have hk2 : k < v.Shape.length := by omega
    have b1 := hs _ (List.getElem_mem hk2)
    have b2 := lenF_bd a.Data[k]
    simp only [M.pick_Take_L1]
    rw [if_pos (by simp; omega), idx_get hk]
    simp only [Option.bind_some]
    rw [length_eq]
    simp only [Option.bind_some]
    rw [app_ok (by rw [List.length_take]; simp; omega)]
    simp only [Option.bind_some]
    rw [List.take_succ_eq_append_getElem (by omega), List.take_succ_eq_append_getElem (by omega)]
    have e1 : (tS a.Data)[k]'(by omega) = lenF a.Data[k] := by simp [tS]
    have e2 : (tM a.Data v.Shape)[k]'(by omega) = if a.Data[k] < 0 then v.Shape[k] - lenF a.Data[k] else 0 := by simp [tM]
    rw [e1, e2]
    by_cases h : a.Data[k] < 0
    · rw [if_pos (by simpa using h), if_pos h, idx_get hk2]
      simp only [Option.bind_some]
      rw [app_ok (by rw [List.length_take]; simp; omega), w64_id (x := v.Shape[k] - lenF a.Data[k]) (by omega) (by omega), w64_id (x := (k : Int) + 1) (by omega) (by omega)]
      rfl
    · rw [if_neg (by simpa using h), if_neg h, app_ok (by rw [List.length_take]; simp; omega), w64_id (x := (k : Int) + 1) (by omega) (by omega)]
      rfl
  · simp only [M.pick_Take_L1]
    rw [if_neg (by simp), List.take_of_length_le (by omega), List.take_of_length_le (by omega)]
theorem Take_eq {a b : Val} (ha : a.Data.length ≤ maxLen) (hb : b.Data.length ≤ maxLen) : M.pick_Take a b = some (takeF a b) := by
  unfold M.pick_Take takeF
  rw [counts_eq ha hb]
  simp only [Option.bind_some]
  by_cases hc : countsF a b = 0
  · obtain ⟨ra, rb, _⟩ := counts_right hc
    have la := pdata ra
    rw [if_neg (by simp [hc]), if_neg (by simp [hc])]
    obtain ⟨v, e, hv⟩ := ranked_eq (a := a) (b := b) (by omega)
    rw [e]
    simp only [Option.bind_some]
    by_cases hr : rkE a b = 0
    · obtain ⟨r1, r2, r3⟩ := rk_right rb hr
      obtain rfl := hv hr
      rw [if_neg (by simp [hr]), if_neg (by simp [hr]), Take_L1_eq r2 la r3.2.1]
      simp only [Option.bind_some, joinK]
      rw [pick_size_eq (by simp [tS]; omega)]
      simp only [Option.bind_some]
      by_cases hs : shOk (tS a.Data)
      · rw [if_neg (by simp [hs]), if_pos hs, window_eq r1 hs (by simp [tS, tM]; omega) (tM_bd r3.2.1)]
        rfl
      · rw [if_pos (by simp [hs]), if_neg hs]
    · rw [if_pos (by simp [hr]), if_pos hr]
  · rw [if_pos (by simp [hc]), if_pos hc]
def dL (n x : Int) : Int := if x < lenF n then x else lenF n
def dS (l sh : List Int) : List Int := List.zipWith (fun n x => x - dL n x) l sh
def dM (l sh : List Int) : List Int := List.zipWith (fun n x => if n < 0 then 0 else dL n x) l sh
theorem dL_bd {n x : Int} (h : 0 ≤ x) : 0 ≤ dL n x ∧ dL n x ≤ x := by
  have := lenF_bd n
  unfold dL; split <;> omega
def dropF (a b : Val) : Val × Int :=
  if countsF a b ≠ 0 then (⟨false, [], []⟩, countsF a b) else if rkE a b ≠ 0 then (⟨false, [], []⟩, rkE a b) else
  (winF ⟨b.Char, rkS a b, b.Data⟩ (dS a.Data (rkS a b)) (dM a.Data (rkS a b)), 0)
theorem dM_bd {l sh : List Int} (h : ∀ x ∈ sh, 0 ≤ x ∧ x ≤ 10000) : ∀ x ∈ dM l sh, -100000 ≤ x ∧ x ≤ 100000 := by
  intro x hx
  obtain ⟨i, hi, rfl⟩ := List.mem_iff_getElem.mp hx
  simp only [dM, List.length_zipWith] at hi
  simp only [dM, List.getElem_zipWith]
  have h1 := h _ (List.getElem_mem (show i < sh.length by omega))
  have := dL_bd (n := l[i]'(by omega)) h1.1
  split <;> omega
theorem dS_ok : ∀ {l sh : List Int}, (∀ x ∈ sh, 0 ≤ x ∧ x ≤ 10000) → l.length = sh.length → (∀ x ∈ dS l sh, 0 ≤ x ∧ x ≤ 10000) ∧ 0 ≤ prod (dS l sh) ∧ prod (dS l sh) ≤ prod sh
  | [], [], _, _ => by simp [dS, prod]
  | n :: l, x :: sh, h, hl => by
    obtain ⟨h1, h2, h3⟩ := dS_ok (l := l) (sh := sh) (fun y hy => h y (by simp [hy])) (by simpa using hl)
    have hx := h x (by simp)
    have hd := dL_bd (n := n) hx.1
    simp only [dS, List.zipWith_cons_cons, prod] at *
    refine ⟨fun y hy => ?_, Int.mul_nonneg (by omega) h2, Int.mul_le_mul (by omega) h3 h2 hx.1⟩
    rcases List.mem_cons.mp hy with rfl | hy
    · omega
    · exact h1 y hy
theorem Drop_L1_eq {a v : Val} (hl : v.Shape.length = a.Data.length) (ha : a.Data.length ≤ 10000) (hs : ∀ x ∈ v.Shape, 0 ≤ x ∧ x ≤ 10000) :
    wloop (M.pick_Drop_L1 a v) ([], [], 0) = some (.next (dS a.Data v.Shape, dM a.Data v.Shape)) := by
  have l1 : (dS a.Data v.Shape).length = a.Data.length := by simp [dS]; omega
  have l2 : (dM a.Data v.Shape).length = a.Data.length := by simp [dM]; omega
  have := loop_fun (f := M.pick_Drop_L1 a v) (fun k => ((dS a.Data v.Shape).take k, (dM a.Data v.Shape).take k, (k : Int))) a.Data.length (b := .next (dS a.Data v.Shape, dM a.Data v.Shape)) (fun k hk => ?_) ?_
  · exact this
  · have hk2 : k < v.Shape.length := by omega
    have b1 := hs _ (List.getElem_mem hk2)
    have b2 := dL_bd (n := a.Data[k]) b1.1
    simp only [M.pick_Drop_L1]
    rw [if_pos (by simp; omega), idx_get hk]
    simp only [Option.bind_some]
    rw [length_eq]
    simp only [Option.bind_some]
    rw [idx_get hk2]
    simp only [Option.bind_some]
    rw [show (if v.Shape[k] < lenF a.Data[k] then v.Shape[k] else lenF a.Data[k]) = dL a.Data[k] v.Shape[k] from rfl, app_ok (by rw [List.length_take]; simp; omega)]
    simp only [Option.bind_some]
    rw [List.take_succ_eq_append_getElem (by omega), List.take_succ_eq_append_getElem (by omega), w64_id (x := v.Shape[k] - dL a.Data[k] v.Shape[k]) (by omega) (by omega), w64_id (x := (k : Int) + 1) (by omega) (by omega)]
    have e1 : (dS a.Data v.Shape)[k]'(by omega) = v.Shape[k] - dL a.Data[k] v.Shape[k] := by simp [dS]
    have e2 : (dM a.Data v.Shape)[k]'(by omega) = if a.Data[k] < 0 then 0 else dL a.Data[k] v.Shape[k] := by simp [dM]
    rw [e1, e2]
    by_cases h : a.Data[k] < 0
    · rw [if_pos (by simpa using h), if_pos h]
      simp only [Option.bind_some]
      rw [app_ok (by rw [List.length_take]; simp; omega)]
      rfl
    · rw [if_neg (by simpa using h), if_neg h]
      simp only [Option.bind_some]
      rw [app_ok (by rw [List.length_take]; simp; omega)]
      rfl
  · simp only [M.pick_Drop_L1]
    rw [if_neg (by simp), List.take_of_length_le (by omega), List.take_of_length_le (by omega)]
theorem Drop_eq {a b : Val} (ha : a.Data.length ≤ maxLen) (hb : b.Data.length ≤ maxLen) : M.pick_Drop a b = some (dropF a b) := by
  unfold M.pick_Drop dropF
  rw [counts_eq ha hb]
  simp only [Option.bind_some]
  by_cases hc : countsF a b = 0
  · obtain ⟨ra, rb, _⟩ := counts_right hc
    have la := pdata ra
    rw [if_neg (by simp [hc]), if_neg (by simp [hc])]
    obtain ⟨v, e, hv⟩ := ranked_eq (a := a) (b := b) (by omega)
    rw [e]
    simp only [Option.bind_some]
    by_cases hr : rkE a b = 0
    · obtain ⟨r1, r2, r3⟩ := rk_right rb hr
      obtain rfl := hv hr
      obtain ⟨o1, o2, o3⟩ := dS_ok (l := a.Data) r3.2.1 r2.symm
      have hok : shOk (dS a.Data (rkS a b)) := ⟨by have := r3.1; simp only [dS, List.length_zipWith]; omega, o1, by have := r3.2.2; omega⟩
      rw [if_neg (by simp [hr]), if_neg (by simp [hr]), Drop_L1_eq r2 la r3.2.1]
      simp only [Option.bind_some, joinK]
      rw [window_eq r1 hok (by simp [dS, dM]) (dM_bd r3.2.1)]
      rfl
    · rw [if_pos (by simp [hr]), if_pos hr]
  · rw [if_pos (by simp [hc]), if_pos hc]
theorem clone_int_eq' {s : List Int} (h : s.length ≤ 1000000000) : M.slices_Clone__int s = some s := by
  unfold M.slices_Clone__int
  rw [app_ok (by simp; omega)]; rfl
theorem sub_mid {l : List Int} {lo n : Nat} (h : lo + n ≤ l.length) : sub l (lo : Int) ((lo + n : Nat) : Int) = some ((l.drop lo).take n) := by
  unfold sub
  rw [if_pos ⟨by omega, by omega, by omega⟩]
  simp only [Int.toNat_natCast]
  congr 1
  first
    | (rw [List.drop_take]; congr 1; omega)
    | (congr 1; omega)
def alF (b : Val) (x : Nat) (fr : List Int) (k : Int) : Int :=
  if (fr[((dig (b.Shape.set x fr.length) k).getD x 0).toNat]?).getD 0 < 0 then pfill b else
    (b.Data[(off b.Shape ((dig (b.Shape.set x fr.length) k).set x ((fr[((dig (b.Shape.set x fr.length) k).getD x 0).toNat]?).getD 0))).toNat]?).getD 0
def alongF (b : Val) (x : Nat) (fr : List Int) : Val := ⟨b.Char, b.Shape.set x fr.length, (List.range (prod (b.Shape.set x fr.length)).toNat).map fun (k : Nat) => alF b x fr k⟩
theorem set_take (s : List Int) (x : Nat) (v : Int) : (s.set x v).take x = s.take x := by rw [List.take_set_of_le (Nat.le_refl _)]
theorem set_drop (s : List Int) (x : Nat) (v : Int) : (s.set x v).drop (x + 1) = s.drop (x + 1) := by rw [List.drop_set_of_lt (by omega)]
theorem prod_set {s : List Int} {x : Nat} (hx : x < s.length) (v : Int) : prod (s.set x v) = prod (s.take x) * v * prod (s.drop (x + 1)) := by
  have := prod_split (s := s.set x v) (k := x) (by simpa using hx)
  rw [set_take, set_drop, List.getElem_set_self] at this
  exact this
theorem alF_at {b : Val} {x : Nat} {fr : List Int} (hb : vRight b = true) (hx : x < b.Shape.length) (hs : shOk (b.Shape.set x fr.length)) (hf : ∀ e ∈ fr, e < b.Shape[x])
    {i t c : Nat} (hi : (i : Int) < prod (b.Shape.take x)) (ht : t < fr.length) (hc : (c : Int) < prod (b.Shape.drop (x + 1))) :
    alF b x fr (((i : Int) * fr.length + t) * prod (b.Shape.drop (x + 1)) + c) = if fr[t] < 0 then pfill b else (b.Data[(((i : Int) * b.Shape[x] + fr[t]) * prod (b.Shape.drop (x + 1)) + c).toNat]?).getD 0 := by
  have hx' : x < (b.Shape.set x fr.length).length := by simpa using hx
  have hA : 0 < prod (b.Shape.take x) := by omega
  have hB : 0 < prod (b.Shape.drop (x + 1)) := by omega
  generalize hK : ((i : Int) * fr.length + t) * prod (b.Shape.drop (x + 1)) + c = K
  have hP := prod_set hx (fr.length : Int)
  have hlt : (i : Int) * fr.length + t < prod (b.Shape.take x) * fr.length := by
    have := Int.mul_le_mul_of_nonneg_right (show (i : Int) + 1 ≤ prod (b.Shape.take x) by omega) (show (0 : Int) ≤ fr.length by omega)
    rw [Int.add_mul, Int.one_mul] at this
    omega
  have h0 : 0 ≤ (i : Int) * fr.length := Int.mul_nonneg (by omega) (by omega)
  have hK1 : K < prod (b.Shape.set x fr.length) := by
    rw [hP]
    have := Int.mul_le_mul_of_nonneg_right (show (i : Int) * fr.length + t + 1 ≤ prod (b.Shape.take x) * fr.length by omega) (show 0 ≤ prod (b.Shape.drop (x + 1)) by omega)
    rw [Int.add_mul, Int.one_mul] at this
    omega
  have hK0 : 0 ≤ K := by
    have := Int.mul_nonneg (show 0 ≤ (i : Int) * fr.length + t by omega) (show 0 ≤ prod (b.Shape.drop (x + 1)) by omega)
    omega
  have hpos : allPos (b.Shape.set x fr.length) := allPos_of (fun y hy => (hs.2.1 y hy).1) (by omega)
  have hin := dig_in hpos hK0 hK1
  have hod := off_dig hpos hK0 hK1
  unfold alF
  generalize dig (b.Shape.set x fr.length) K = p at *
  obtain ⟨p1, j, p2, rfl, e1, k1, k2, k3, k4⟩ := at_axis hin hx'
  rw [List.getElem_set_self] at k3
  have hoa := off_axis hx' k1 ⟨k2, by rw [List.getElem_set_self]; exact k3⟩ k4
  rw [set_take] at k1 hoa
  rw [set_drop] at k4 hoa
  rw [List.getElem_set_self, hod] at hoa
  have r1 := off_range k1
  have r2 := off_range k4
  have a1 := axis_facts (h := off (b.Shape.take x) p1) (n := (fr.length : Int)) (i := j) (B := prod (b.Shape.drop (x + 1))) (j := off (b.Shape.drop (x + 1)) p2) (k := K) ⟨k2, k3⟩ r2 hoa
  have a2 := axis_facts (h := (i : Int)) (n := (fr.length : Int)) (i := (t : Int)) (B := prod (b.Shape.drop (x + 1))) (j := (c : Int)) (k := K) ⟨by omega, by omega⟩ ⟨by omega, hc⟩ hK.symm
  have ej : j = t := by rw [← a1.1, ← a2.1]
  have ei : off (b.Shape.take x) p1 = i := by rw [← a1.2.1, ← a2.2.1]
  have ec : off (b.Shape.drop (x + 1)) p2 = c := by rw [← a1.2.2, ← a2.2.2]
  subst ej
  have eg : (p1 ++ (t : Int) :: p2).getD x 0 = t := by
    rw [← e1]; simp
  rw [eg, Int.toNat_natCast, List.getElem?_eq_getElem ht]
  simp only [Option.getD_some]
  by_cases hneg : fr[t] < 0
  · rw [if_pos hneg, if_pos hneg]
  · rw [if_neg hneg, if_neg hneg]
    have es : (p1 ++ (t : Int) :: p2).set x fr[t] = p1 ++ fr[t] :: p2 := by
      rw [List.set_append_right _ _ (by omega), e1, Nat.sub_self]; rfl
    rw [es, off_axis hx k1 ⟨by omega, hf _ (List.getElem_mem ht)⟩ k4, ei, ec]
theorem along_eq {b : Val} {x : Nat} {fr : List Int} (hb : vRight b = true) (hx : x < b.Shape.length) (hf : ∀ e ∈ fr, -1 ≤ e ∧ e < b.Shape[x]) (hfl : fr.length ≤ 100000) :
    M.pick_along b x fr = some (if shOk (b.Shape.set x fr.length) then (alongF b x fr, 0) else (⟨false, [], []⟩, 27)) := by
  obtain ⟨hbs, hbp, _⟩ := vRight_iff.mp hb
  have h4 := hbs.1
  have hmx : maxLen = 9223372036854775807 := rfl
  unfold M.pick_along
  rw [clone_int_eq' (by omega)]
  simp only [Option.bind_some]
  rw [idx_get hx]
  simp only [Option.bind_some]
  rw [upd_nat hx]
  simp only [Option.bind_some]
  rw [pick_size_eq (by rw [List.length_set]; omega)]
  simp only [Option.bind_some]
  by_cases hs : shOk (b.Shape.set x fr.length)
  · rw [if_neg (by simp [hs]), if_pos hs, shSize_ok hs]
    have hp0 := shOk_nonneg' hs
    have hp1 := hs.2.2
    have hfl2 : fr.length ≤ 10000 := by
      have := (hs.2.1 (fr.length : Int) (List.mem_iff_getElem.mpr ⟨x, by simpa using hx, List.getElem_set_self _⟩)).2
      omega
    have hxb := hbs.2.1 _ (List.getElem_mem hx)
    obtain ⟨N, hN⟩ : ∃ N : Nat, prod (b.Shape.set x fr.length) = N := ⟨(prod (b.Shape.set x fr.length)).toNat, by omega⟩
    simp only
    have hmk : mk 8 (0 : Int) 0 (prod (b.Shape.set x fr.length)) = some [] := by
      unfold mk; rw [if_pos ⟨by omega, by omega, by omega, by omega⟩]; rfl
    rw [hmk, shape_Split_eq (by omega) (by omega)]
    simp only [Option.bind_some]
    have hsp : splitOf b.Shape (x : Int) = (prod (b.Shape.take x), b.Shape[x], prod (b.Shape.drop (x + 1)), true) := by
      unfold splitOf; rw [dif_pos ⟨hbs, by omega, by omega⟩]; simp
    rw [hsp]
    simp only
    have hP := prod_set hx (fr.length : Int)
    have hQ := prod_split hx
    have gA := prod_nonneg (s := b.Shape.take x) (fun y hy => (hbs.2.1 y (List.mem_of_mem_take hy)).1)
    have gB := prod_nonneg (s := b.Shape.drop (x + 1)) (fun y hy => (hbs.2.1 y (List.mem_of_mem_drop hy)).1)
    obtain ⟨A, hA⟩ : ∃ A : Nat, prod (b.Shape.take x) = A := ⟨_, (Int.toNat_of_nonneg gA).symm⟩
    obtain ⟨B, hB⟩ : ∃ B : Nat, prod (b.Shape.drop (x + 1)) = B := ⟨_, (Int.toNat_of_nonneg gB).symm⟩
    obtain ⟨m, hm⟩ : ∃ m : Nat, b.Shape[x] = m := ⟨_, (Int.toNat_of_nonneg hxb.1).symm⟩
    have alat := fun {i t c : Nat} (hi : (i : Int) < prod (b.Shape.take x)) (ht : t < fr.length) (hc : (c : Int) < prod (b.Shape.drop (x + 1))) => alF_at hb hx hs (fun e he => (hf e he).2) hi ht hc
    have hT : (alongF b x fr).Data = (List.range N).map fun (k : Nat) => alF b x fr k := by simp [alongF, hN]
    have hres : alongF b x fr = ⟨b.Char, b.Shape.set x fr.length, (List.range N).map fun (k : Nat) => alF b x fr k⟩ := by rw [← hT]; rfl
    rw [hres]
    generalize hTe : ((List.range N).map fun (k : Nat) => alF b x fr k) = T at *
    have hTl : T.length = N := by rw [← hTe]; simp
    have hTg : ∀ k (h : k < T.length), T[k] = alF b x fr k := fun k h => by simp only [← hTe]; simp
    rw [hA, hB] at hP
    rw [hA, hB, hm] at hQ
    simp only [hA, hB, hm] at alat
    rw [hN, hA, hB, hm]
    have hN2 : N = A * fr.length * B := by
      have : (N : Int) = ((A * fr.length * B : Nat) : Int) := by rw [← hN, hP]; simp
      omega
    have hD : b.Data.length = A * m * B := by
      have : (b.Data.length : Int) = ((A * m * B : Nat) : Int) := by rw [← hbp, hQ]; simp
      omega
    rw [show wloop (M.pick_along_L1 b fr (N : Int) (A : Int) (m : Int) (B : Int)) (0, []) = some (.next T) from by
      by_cases hz : N = 0
      · rw [wloop_done (b := .next [])]
        · rw [List.eq_nil_of_length_eq_zero (l := T) (by omega)]
        · simp only [M.pick_along_L1]
          rw [if_neg (by simp; omega)]
      have fpos : 0 < fr.length := by
        rcases Nat.eq_zero_or_pos fr.length with h | h
        · rw [h] at hN2; simp at hN2; omega
        · exact h
      have Bpos : 0 < B := by
        rcases Nat.eq_zero_or_pos B with h | h
        · rw [h] at hN2; simp at hN2; omega
        · exact h
      have hAf : A * fr.length ≤ N := by rw [hN2]; exact Nat.le_mul_of_pos_right _ Bpos
      have hAle : A ≤ N := Nat.le_trans (Nat.le_mul_of_pos_right _ fpos) hAf
      have hBle : B ≤ N := by
        have : 0 < A * fr.length := by
          rcases Nat.eq_zero_or_pos (A * fr.length) with h | h
          · rw [h] at hN2; simp at hN2; omega
          · exact h
        rw [hN2]; exact Nat.le_mul_of_pos_left _ this
      have hN10 : N ≤ 10000 := by omega
      have := loop_fun (f := M.pick_along_L1 b fr (N : Int) (A : Int) (m : Int) (B : Int)) (fun i => ((i : Int), T.take (i * fr.length * B))) A (b := .next T) (fun i hi => ?_) ?_
      · simpa using this
      · have hin : wloop (M.pick_along_L2 b fr (m : Int) (B : Int) (i : Int)) (0, T.take (i * fr.length * B)) = some (.next (T.take ((i + 1) * fr.length * B))) := by
          have := loop_fun (f := M.pick_along_L2 b fr (m : Int) (B : Int) (i : Int)) (fun t => ((t : Int), T.take ((i * fr.length + t) * B))) fr.length (b := .next (T.take ((i + 1) * fr.length * B))) (fun t ht => ?_) ?_
          · simpa using this
          · have hft := hf _ (List.getElem_mem ht)
            have hrow : i * fr.length + t + 1 ≤ A * fr.length := by
              have := Nat.mul_le_mul_right fr.length (show i + 1 ≤ A by omega)
              rw [Nat.succ_mul] at this; omega
            have hend : (i * fr.length + t) * B + B ≤ N := by
              have := Nat.mul_le_mul_right B hrow
              rw [Nat.succ_mul] at this; omega
            have hblk : T.take ((i * fr.length + (t + 1)) * B) = T.take ((i * fr.length + t) * B) ++ (T.drop ((i * fr.length + t) * B)).take B := by
              rw [show (i * fr.length + (t + 1)) * B = (i * fr.length + t) * B + B from Nat.succ_mul _ _, List.take_add]
            have hget : ∀ c (h : c < B), (T[(i * fr.length + t) * B + c]'(by omega)) = if fr[t] < 0 then pfill b else (b.Data[(((i : Int) * m + fr[t]) * B + c).toNat]?).getD 0 := fun c h => by
              rw [hTg]
              have := alat (i := i) (t := t) (c := c) (by omega) ht (by omega)
              rw [← this]
              congr 1
            simp only [M.pick_along_L2]
            rw [if_pos (by simp; omega), idx_get ht]
            simp only [Option.bind_some]
            rw [w64_id (x := (t : Int) + 1) (by omega) (by omega), hblk]
            have hap : ∀ z : List Int, z.length = B → app 8 (T.take ((i * fr.length + t) * B)) z = some (T.take ((i * fr.length + t) * B) ++ z) := fun z hz => app_ok (by rw [List.length_take, hz]; omega)
            by_cases hneg : fr[t] < 0
            · rw [if_pos (by simpa using hneg), pFill_eq]
              simp only [Option.bind_some]
              rw [Repeat_int64_one (by omega)]
              simp only [Option.bind_some]
              rw [hap _ (by simp)]
              have : List.replicate B (pfill b) = (T.drop ((i * fr.length + t) * B)).take B := by
                apply List.ext_getElem
                · rw [List.length_replicate, List.length_take, List.length_drop]; omega
                · intro c h1 h2
                  rw [List.getElem_replicate, List.getElem_take, List.getElem_drop, hget c (by simpa using h1), if_pos hneg]
              rw [this]; rfl
            · rw [if_neg (by simpa using hneg)]
              obtain ⟨e, he⟩ : ∃ e : Nat, fr[t] = e := ⟨fr[t].toNat, by omega⟩
              have hem : e < m := by omega
              have hrow2 : i * m + e + 1 ≤ A * m := by
                have := Nat.mul_le_mul_right m (show i + 1 ≤ A by omega)
                rw [Nat.succ_mul] at this; omega
              have hend2 : (i * m + e) * B + B ≤ b.Data.length := by
                have := Nat.mul_le_mul_right B hrow2
                rw [Nat.succ_mul] at this; omega
              have hdl := (vRight_iff.mp hb).1.2.2
              have b1 : i * m ≤ 100000000 := by
                have := Nat.mul_le_mul (show i ≤ 10000 by omega) (show m ≤ 10000 by omega)
                omega
              have eim : ((i : Int) * m) = ((i * m : Nat) : Int) := by simp
              have b2 : (i * m + e) * B ≤ 10000 := by
                have : (b.Data.length : Int) ≤ 10000 := by rw [← hbp]; exact hdl
                omega
              rw [he, eim, w64_id (x := ((i * m : Nat) : Int)) (by omega) (by omega), w64_id (x := ((i * m : Nat) : Int) + (e : Int)) (by omega) (by omega),
                show (((i * m : Nat) : Int) + (e : Int)) * (B : Int) = (((i * m + e) * B : Nat) : Int) by simp, w64_id (x := (((i * m + e) * B : Nat) : Int)) (by omega) (by omega),
                show (((i * m + e) * B : Nat) : Int) + (B : Int) = (((i * m + e) * B + B : Nat) : Int) by omega, w64_id (x := (((i * m + e) * B + B : Nat) : Int)) (by omega) (by omega), sub_mid hend2]
              simp only [Option.bind_some]
              rw [hap _ (by rw [List.length_take, List.length_drop]; omega)]
              have : (b.Data.drop ((i * m + e) * B)).take B = (T.drop ((i * fr.length + t) * B)).take B := by
                apply List.ext_getElem
                · rw [List.length_take, List.length_drop, List.length_take, List.length_drop]; omega
                · intro c h1 h2
                  have hcB : c < B := by rw [List.length_take] at h1; omega
                  rw [List.getElem_take, List.getElem_drop, List.getElem_take, List.getElem_drop, hget c hcB, if_neg hneg, he,
                    show (((i : Int) * m + (e : Int)) * B + c).toNat = (i * m + e) * B + c by
                      rw [show ((i : Int) * m + (e : Int)) * B + c = (((i * m + e) * B + c : Nat) : Int) by simp, Int.toNat_natCast], List.getElem?_eq_getElem (by omega)]
                  rfl
              rw [this]; rfl
          · simp only [M.pick_along_L2]
            rw [if_neg (by simp), Nat.succ_mul]
        simp only [M.pick_along_L1]
        rw [if_pos (by simp; omega), hin]
        simp only [Option.bind_some, joinK]
        rw [w64_id (x := (i : Int) + 1) (by omega) (by omega)]
        rfl
      · simp only [M.pick_along_L1]
        rw [if_neg (by simp), ← hN2, List.take_of_length_le (by omega)]]
    rfl
  · rw [if_pos (by simp [hs]), if_neg hs]
def lnS (b : Val) : List Int := if b.Shape = [] then [1] else b.Shape
def pX (s : List Int) (axis : Int) : Nat := if axis = -1 then s.length - 1 else axis.toNat
def pOk (s : List Int) (axis : Int) : Bool := decide (axis = -1) || (decide (0 ≤ axis) && decide (axis < s.length))
theorem lnS_pos (b : Val) : 0 < (lnS b).length := by
  unfold lnS; split
  · simp
  · rename_i h; exact Nat.pos_of_ne_zero fun hh => h (List.length_eq_zero_iff.mp hh)
theorem lnS_right {b : Val} (hb : vRight b = true) : vRight ⟨b.Char, lnS b, b.Data⟩ = true := by
  obtain ⟨hs, hp, hc⟩ := vRight_iff.mp hb
  unfold lnS
  by_cases h : b.Shape = []
  · rw [if_pos h]
    rw [h] at hp
    exact vRight_iff.mpr ⟨⟨by simp, by simp, by simp [prod]⟩, by simp only [prod] at hp ⊢; omega, hc⟩
  · rw [if_neg h]; exact vRight_iff.mpr ⟨hs, hp, hc⟩
theorem pX_lt {s : List Int} {axis : Int} (h0 : 0 < s.length) (h : pOk s axis = true) : pX s axis < s.length := by
  unfold pOk at h
  unfold pX
  simp at h
  split <;> omega
theorem lined_eq {b : Val} {axis : Int} (hl : b.Shape.length ≤ 10) : ∃ x : Int, M.pick_lined b axis = some (⟨b.Char, lnS b, b.Data⟩, x, pOk (lnS b) axis) ∧ (pOk (lnS b) axis = true → x = (pX (lnS b) axis : Int)) := by
  have h0 := lnS_pos b
  have hll : (lnS b).length ≤ 10 := by unfold lnS; split <;> simp_all
  unfold M.pick_lined
  rw [show (if ((b.Shape.length : Int) == 0) = true then some [1] else some b.Shape) = some (lnS b) from by
    unfold lnS
    by_cases h : b.Shape = []
    · rw [if_pos h, if_pos (by simp [h])]
    · rw [if_neg h, if_neg (by simp [h])]]
  simp only [Option.bind_some]
  by_cases ha : axis = -1
  · subst ha
    rw [if_pos (by rfl), w64_id (x := ((lnS b).length : Int) - 1) (by omega) (by omega)]
    simp only [Option.bind_some]
    have e : pOk (lnS b) (-1) = true := by unfold pOk; rfl
    rw [e, show (decide (((lnS b).length : Int) - 1 ≥ 0) && decide (((lnS b).length : Int) - 1 < (lnS b).length)) = true from by simp; omega]
    exact ⟨_, rfl, fun _ => by unfold pX; rw [if_pos rfl]; omega⟩
  · rw [if_neg (by simpa using ha)]
    simp only [Option.bind_some]
    have e : pOk (lnS b) axis = (decide (axis ≥ 0) && decide (axis < (lnS b).length)) := by
      unfold pOk; rw [decide_eq_false ha]; rfl
    rw [e]
    exact ⟨_, rfl, fun h => by unfold pX; rw [if_neg ha]; simp at h; omega⟩
/-- which rows: each as often as a number says. -/
def cl (l : List Int) (n : Int) : Nat → List Int
  | 0 => []
  | k + 1 => cl l n k ++ List.replicate ((l[k]?).getD 0).toNat ((k : Int) % n)
def rowsF (b : Val) (x : Nat) (fr : List Int) : Val × Int := if shOk (b.Shape.set x fr.length) then (alongF b x fr, 0) else (⟨false, [], []⟩, 27)
def compL (a : Val) (n : Int) : List Int := if a.Data.length = 1 then List.replicate n.toNat ((a.Data[0]?).getD 0) else a.Data
def lnN (s : List Int) (x : Nat) : Int := (s[x]?).getD 0
def compF (a b : Val) (axis : Int) : Val × Int :=
  if countsF a b ≠ 0 then (⟨false, [], []⟩, countsF a b) else
  if pOk (lnS b) axis = false then (⟨false, [], []⟩, 26) else
  if a.Data.any (fun n => decide (n < 0)) = true then (⟨false, [], []⟩, 23) else
  if lnN (lnS b) (pX (lnS b) axis) ≠ 1 ∧ ((compL a (lnN (lnS b) (pX (lnS b) axis))).length : Int) ≠ lnN (lnS b) (pX (lnS b) axis) then (⟨false, [], []⟩, 25) else
  rowsF ⟨b.Char, lnS b, b.Data⟩ (pX (lnS b) axis) (cl (compL a (lnN (lnS b) (pX (lnS b) axis))) (lnN (lnS b) (pX (lnS b) axis)) (compL a (lnN (lnS b) (pX (lnS b) axis))).length)
theorem set_big {b : Val} {x : Nat} {k : Nat} (hx : x < b.Shape.length) (h : 10000 < k) : ¬ shOk (b.Shape.set x k) := fun hs => by
  have := (hs.2.1 (k : Int) (List.mem_iff_getElem.mpr ⟨x, by simpa using hx, List.getElem_set_self _⟩)).2
  omega
theorem cl_mem {l : List Int} {n : Int} (hn : 0 < n) : ∀ k, ∀ e ∈ cl l n k, 0 ≤ e ∧ e < n
  | 0, e, h => by simp [cl] at h
  | k + 1, e, h => by
    simp only [cl, List.mem_append] at h
    rcases h with h | h
    · exact cl_mem hn k e h
    · rw [List.mem_replicate] at h
      rw [h.2]
      exact ⟨Int.emod_nonneg _ (by omega), Int.emod_lt_of_pos _ hn⟩
theorem Compress_L2_eq {n t m : Int} {F : List Int} (hn : 0 < n) (ht : 0 ≤ t) (hF : F.length ≤ 10001) (hm : 0 ≤ m) :
    (∃ k : Nat, k = (min m 10001).toNat ∧ F.length + k ≤ 10001 ∧ wloop (M.pick_Compress_L2 n t m) (F, 0) = some (.next (F ++ List.replicate k (t % n)))) ∨
    (10001 < F.length + (min m 10001).toNat ∧ wloop (M.pick_Compress_L2 n t m) (F, 0) = some (.done (.done (.done (⟨false, [], []⟩, 27))))) := by
  have hq : remI t n = some (t % n) := by unfold remI; rw [if_neg (by omega), Int.tmod_eq_emod_of_nonneg ht]
  have hmm : (if 10001 < m then 10001 else m) = min m 10001 := by split <;> omega
  obtain ⟨K, hK⟩ : ∃ K : Nat, min m 10001 = K := ⟨(min m 10001).toNat, by omega⟩
  obtain ⟨b, hb, hQ⟩ := wloop_ind (f := M.pick_Compress_L2 n t m) (fun j st => ∃ k : Nat, st = (F ++ List.replicate k (t % n), (k : Int)) ∧ k ≤ K ∧ j = K - k ∧ F.length + k ≤ 10001)
    (fun b => (F.length + K ≤ 10001 ∧ b = .next (F ++ List.replicate K (t % n))) ∨ (10001 < F.length + K ∧ b = .done (.done (.done (⟨false, [], []⟩, 27))))) (fun j st h => by
      obtain ⟨k, rfl, hk, rfl, hl⟩ := h
      simp only [M.pick_Compress_L2]
      rw [hmm, hK]
      by_cases hlt : k < K
      · rw [if_pos (by simp; omega)]
        by_cases hbig : F.length + k > 10000
        · right
          rw [if_pos (by simp; omega)]
          exact ⟨_, rfl, .inr ⟨by omega, rfl⟩⟩
        · left
          rw [if_neg (by simp; omega), hq]
          simp only [Option.bind_some]
          rw [app_ok (by simp; omega), w64_id (x := (k : Int) + 1) (by omega) (by omega)]
          refine ⟨_, K - (k + 1), rfl, by omega, k + 1, ?_, by omega, rfl, by omega⟩
          rw [List.replicate_succ', ← List.append_assoc]; rfl
      · right
        rw [if_neg (by simp; omega)]
        obtain rfl : k = K := by omega
        exact ⟨_, rfl, .inl ⟨hl, rfl⟩⟩) K (F, 0) ⟨0, by simp, by omega, by omega, by omega⟩
  rw [hb, hK]
  rcases hQ with ⟨h1, rfl⟩ | ⟨h1, rfl⟩
  · exact .inl ⟨K, by omega, h1, rfl⟩
  · exact .inr ⟨by omega, rfl⟩
theorem Compress_L1_eq {n : Int} {l : List Int} (hn : l ≠ [] → 0 < n) (hl : l.length ≤ 10000) (hm : ∀ x ∈ l, 0 ≤ x) :
    (wloop (M.pick_Compress_L1 n l) ([], 0) = some (.next (cl l n l.length)) ∧ (cl l n l.length).length ≤ 10000) ∨
    ((cl l n l.length).length > 10000 ∧ ((∃ F, wloop (M.pick_Compress_L1 n l) ([], 0) = some (.next F) ∧ F.length = 10001 ∧ ∀ e ∈ F, 0 ≤ e ∧ e < n) ∨ wloop (M.pick_Compress_L1 n l) ([], 0) = some (.done (⟨false, [], []⟩, 27)))) := by
  obtain ⟨b, hb, hQ⟩ := wloop_ind (f := M.pick_Compress_L1 n l) (fun j st => ∃ k : Nat, ∃ F, st = (F, (k : Int)) ∧ k ≤ l.length ∧ j = l.length - k ∧ ((F = cl l n k ∧ F.length ≤ 10000) ∨ (F.length = 10001 ∧ (cl l n k).length > 10000 ∧ ∀ e ∈ F, 0 ≤ e ∧ e < n)))
    (fun b => (b = .next (cl l n l.length) ∧ (cl l n l.length).length ≤ 10000) ∨ ((cl l n l.length).length > 10000 ∧ ((∃ F, b = .next F ∧ F.length = 10001 ∧ ∀ e ∈ F, 0 ≤ e ∧ e < n) ∨ b = .done (⟨false, [], []⟩, 27)))) (fun j st h => by
      obtain ⟨k, F, rfl, hk, rfl, hF⟩ := h
      simp only [M.pick_Compress_L1]
      by_cases hlt : k < l.length
      · rw [if_pos (by simp; omega), idx_get hlt]
        simp only [Option.bind_some]
        have hm0 := hm _ (List.getElem_mem hlt)
        have hn0 := hn (fun h => by rw [h] at hlt; simp at hlt)
        have hcl : cl l n (k + 1) = cl l n k ++ List.replicate (l[k].toNat) ((k : Int) % n) := by
          simp only [cl]; rw [List.getElem?_eq_getElem hlt]; rfl
        have hcll : (cl l n (k + 1)).length = (cl l n k).length + l[k].toNat := by rw [hcl, List.length_append, List.length_replicate]
        have hmono : ∀ j, k + 1 ≤ j → (cl l n (k + 1)).length ≤ (cl l n j).length := fun j hj => by
          induction j with
          | zero => omega
          | succ j ih =>
            by_cases e : k = j
            · subst e; exact Nat.le_refl _
            · have := ih (by omega)
              have : (cl l n (j + 1)).length = (cl l n j).length + ((l[j]?).getD 0).toNat := by simp only [cl]; rw [List.length_append, List.length_replicate]
              omega
        have hle := hmono l.length (by omega)
        have hFl : F.length ≤ 10001 := by rcases hF with h | h <;> omega
        rcases Compress_L2_eq (n := n) (t := (k : Int)) (m := l[k]) (F := F) hn0 (by omega) hFl hm0 with ⟨c, hc, hfc, e⟩ | ⟨hc, e⟩
        · left
          rw [e]
          simp only [Option.bind_some, joinK]
          rw [w64_id (x := (k : Int) + 1) (by omega) (by omega)]
          refine ⟨_, l.length - (k + 1), rfl, by omega, k + 1, _, rfl, by omega, rfl, ?_⟩
          rcases hF with ⟨rfl, hl2⟩ | ⟨h1, h2, h3⟩
          · by_cases hsm : (cl l n k).length + l[k].toNat ≤ 10000
            · left
              have : c = l[k].toNat := by omega
              rw [hcl, this]
              exact ⟨rfl, by rw [List.length_append, List.length_replicate]; omega⟩
            · right
              refine ⟨by rw [List.length_append, List.length_replicate]; omega, by omega, fun e he => ?_⟩
              rcases List.mem_append.mp he with he | he
              · exact cl_mem hn0 k e he
              · rw [List.mem_replicate] at he
                rw [he.2]; exact ⟨Int.emod_nonneg _ (by omega), Int.emod_lt_of_pos _ hn0⟩
          · right
            have : c = 0 := by omega
            subst this
            simp only [List.replicate_zero, List.append_nil]
            exact ⟨h1, by omega, h3⟩
        · right
          rw [e]
          refine ⟨_, rfl, .inr ⟨?_, .inr rfl⟩⟩
          rcases hF with ⟨rfl, hl2⟩ | ⟨h1, h2, h3⟩ <;> omega
      · right
        rw [if_neg (by simp; omega)]
        obtain rfl : k = l.length := by omega
        rcases hF with ⟨rfl, hl2⟩ | ⟨h1, h2, h3⟩
        · exact ⟨_, rfl, .inl ⟨rfl, hl2⟩⟩
        · exact ⟨_, rfl, .inr ⟨h2, .inl ⟨F, rfl, h1, h3⟩⟩⟩) l.length ([], 0) ⟨0, [], rfl, by omega, rfl, .inl ⟨rfl, by simp⟩⟩
  rw [hb]
  rcases hQ with ⟨rfl, h⟩ | ⟨h, ⟨F, rfl, h2⟩ | rfl⟩
  · exact .inl ⟨rfl, h⟩
  · exact .inr ⟨h, .inl ⟨F, rfl, h2⟩⟩
  · exact .inr ⟨h, .inr rfl⟩
theorem Compress_eq {a b : Val} {axis : Int} (ha : a.Data.length ≤ maxLen) (hb : b.Data.length ≤ maxLen) : M.pick_Compress a b axis = some (compF a b axis) := by
  unfold M.pick_Compress compF
  rw [counts_eq ha hb]
  simp only [Option.bind_some]
  by_cases hc : countsF a b = 0
  · obtain ⟨ra, rb, _⟩ := counts_right hc
    have la := pdata ra
    rw [if_neg (by simp [hc]), if_neg (by simp [hc])]
    have hb4 := (vRight_iff.mp rb).1.1
    obtain ⟨x, e, hx⟩ := lined_eq (b := b) (axis := axis) (by omega)
    rw [e]
    simp only [Option.bind_some]
    cases hok : pOk (lnS b) axis with
    | false => rfl
    | true =>
      obtain rfl := hx hok
      have hxl := pX_lt (lnS_pos b) hok
      have hr := lnS_right rb
      obtain ⟨hs, hp, _⟩ := vRight_iff.mp hr
      simp only [Bool.not_true, Bool.false_eq_true, if_false]
      rw [if_neg (by simp)]
      rw [contains_int64 (s := a.Data) (f := fun x0 => M.pick_Compress_1 x0) (g := fun n => decide (n < 0)) (fun x _ => rfl) (by omega)]
      simp only [Option.bind_some]
      cases hneg : a.Data.any (fun n => decide (n < 0)) with
      | true => rfl
      | false =>
        simp only [Bool.false_eq_true, if_false]
        rw [idx_get hxl]
        simp only [Option.bind_some]
        have hN : lnN (lnS b) (pX (lnS b) axis) = (lnS b)[pX (lnS b) axis] := by unfold lnN; rw [List.getElem?_eq_getElem hxl]; rfl
        have hnb := hs.2.1 _ (List.getElem_mem hxl)
        replace hnb : 0 ≤ (lnS b)[pX (lnS b) axis] ∧ (lnS b)[pX (lnS b) axis] ≤ 10000 := hnb
        rw [hN]
        generalize hge : (lnS b)[pX (lnS b) axis] = n at *
        have hL : (if ((a.Data.length : Int) == 1) = true then (M.slices_Repeat__int64 a.Data n).bind fun r6 => some r6 else some a.Data) = some (compL a n) := by
          unfold compL
          by_cases h1 : a.Data.length = 1
          · rw [if_pos (by simp [h1]), if_pos h1]
            obtain ⟨y, hy⟩ := List.length_eq_one_iff.mp h1
            rw [hy, show n = ((n.toNat : Nat) : Int) by omega, Repeat_int64_one (by omega)]
            rfl
          · rw [if_neg (by simp; omega), if_neg h1]
        rw [hL]
        simp only [Option.bind_some]
        have hLl : (compL a n).length ≤ 10000 := by
          unfold compL; split
          · rw [List.length_replicate]; omega
          · exact la
        have hnn : ∀ y ∈ a.Data, 0 ≤ y := fun y hy => by
          have := List.any_eq_false.mp hneg y hy
          simpa using this
        have hLm : ∀ y ∈ compL a n, 0 ≤ y := fun y hy => by
          unfold compL at hy
          split at hy
          · rename_i h1
            rw [List.mem_replicate] at hy
            rw [hy.2, List.getElem?_eq_getElem (by omega)]
            exact hnn _ (List.getElem_mem _)
          · exact hnn y hy
        by_cases hbad : n ≠ 1 ∧ ((compL a n).length : Int) ≠ n
        · rw [if_pos (by simpa using hbad), if_pos hbad]
        · rw [if_neg (by simpa using hbad), if_neg hbad]
          have hn0 : compL a n ≠ [] → 0 < n := fun hne => by
            have : 0 < (compL a n).length := Nat.pos_of_ne_zero fun hh => hne (List.length_eq_zero_iff.mp hh)
            by_cases h1 : n = 1
            · omega
            · have : ((compL a n).length : Int) = n := Classical.byContradiction fun h => hbad ⟨h1, h⟩
              omega
          generalize compL a n = l at *
          have hmem : ∀ F : List Int, (∀ e ∈ F, 0 ≤ e ∧ e < n) → ∀ e ∈ F, -1 ≤ e ∧ e < (⟨b.Char, lnS b, b.Data⟩ : Val).Shape[pX (lnS b) axis] := fun F h e he => by
            have := h e he
            simp only [hge]; omega
          have hclm : ∀ e ∈ cl l n l.length, 0 ≤ e ∧ e < n := by
            by_cases hne : l = []
            · subst hne; simp [cl]
            · exact cl_mem (hn0 hne) _
          have hfin : ∀ F : List Int, (∀ e ∈ F, 0 ≤ e ∧ e < n) → F.length ≤ 10001 → M.pick_along ⟨b.Char, lnS b, b.Data⟩ (pX (lnS b) axis : Int) F = some (rowsF ⟨b.Char, lnS b, b.Data⟩ (pX (lnS b) axis) F) := fun F h1 h2 => along_eq hr hxl (hmem F h1) (by omega)
          rcases Compress_L1_eq (n := n) (l := l) hn0 hLl hLm with ⟨e1, h1⟩ | ⟨h1, ⟨F, e1, h2, h3⟩ | e1⟩
          · rw [e1]
            simp only [Option.bind_some, joinK]
            rw [hfin _ hclm (by omega)]
            rfl
          · rw [e1]
            simp only [Option.bind_some, joinK]
            rw [hfin F h3 (by omega)]
            unfold rowsF
            rw [if_neg (set_big hxl (by omega)), if_neg (set_big hxl (by omega))]
            rfl
          · rw [e1]
            unfold rowsF
            rw [if_neg (set_big hxl (by omega))]
            rfl
  · rw [if_pos (by simp [hc]), if_pos hc]
/-- how many of the first ones are not 0; and which rows. -/
def exN (l : List Int) : Nat → Nat
  | 0 => 0
  | k + 1 => exN l k + (if (l[k]?).getD 0 = 0 then 0 else 1)
def exL (l : List Int) (n : Int) : Nat → List Int
  | 0 => []
  | k + 1 => exL l n k ++ [if (l[k]?).getD 0 = 0 then -1 else (exN l k : Int) % (if n < 1 then 1 else n)]
theorem exL_len (l : List Int) (n : Int) : ∀ k, (exL l n k).length = k
  | 0 => rfl
  | k + 1 => by simp [exL, exL_len l n k]
theorem exN_le (l : List Int) : ∀ k, exN l k ≤ k
  | 0 => Nat.le_refl _
  | k + 1 => by have := exN_le l k; simp only [exN]; split <;> omega
theorem exN_mono (l : List Int) {k : Nat} : ∀ j, k ≤ j → exN l k ≤ exN l j
  | 0, h => by obtain rfl : k = 0 := by omega
               exact Nat.le_refl _
  | j + 1, h => by
    by_cases e : k = j + 1
    · subst e; exact Nat.le_refl _
    · have := exN_mono l (k := k) j (by omega)
      simp only [exN]; omega
theorem exL_mem (l : List Int) (n : Int) : ∀ k, ∀ e ∈ exL l n k, e = -1 ∨ (0 ≤ e ∧ e < (if n < 1 then 1 else n) ∧ 0 < exN l k)
  | 0, e, h => by simp [exL] at h
  | k + 1, e, h => by
    simp only [exL, List.mem_append, List.mem_singleton] at h
    have hm := exN_mono l (k := k) (k + 1) (by omega)
    rcases h with h | h
    · rcases exL_mem l n k e h with h | ⟨h1, h2, h3⟩
      · exact .inl h
      · exact .inr ⟨h1, h2, by omega⟩
    · by_cases hz : (l[k]?).getD 0 = 0
      · rw [if_pos hz] at h; exact .inl h
      · rw [if_neg hz] at h
        have hp : 0 < (if n < 1 then 1 else n) := by split <;> omega
        rw [h]
        refine .inr ⟨Int.emod_nonneg _ (by omega), Int.emod_lt_of_pos _ hp, ?_⟩
        simp only [exN]; rw [if_neg hz]; omega
def expF (a b : Val) (axis : Int) : Val × Int :=
  if countsF a b ≠ 0 then (⟨false, [], []⟩, countsF a b) else
  if pOk (lnS b) axis = false then (⟨false, [], []⟩, 26) else
  if a.Data.any (fun n => decide (n ≠ 0 ∧ n ≠ 1)) = true then (⟨false, [], []⟩, 23) else
  if lnN (lnS b) (pX (lnS b) axis) ≠ 1 ∧ (exN a.Data a.Data.length : Int) ≠ lnN (lnS b) (pX (lnS b) axis) then (⟨false, [], []⟩, 25) else
  rowsF ⟨b.Char, lnS b, b.Data⟩ (pX (lnS b) axis) (exL a.Data (lnN (lnS b) (pX (lnS b) axis)) a.Data.length)
theorem Expand_L1_eq {a : Val} {n : Int} (ha : a.Data.length ≤ 10000) : wloop (M.pick_Expand_L1 a n) (0, [], 0) = some (.next ((exN a.Data a.Data.length : Int), exL a.Data n a.Data.length)) := by
  refine loop_fun (f := M.pick_Expand_L1 a n) (fun k => ((exN a.Data k : Int), exL a.Data n k, (k : Int))) a.Data.length (fun k hk => ?_) ?_
  · have hb := exN_le a.Data k
    have hl := exL_len a.Data n k
    simp only [M.pick_Expand_L1]
    rw [if_pos (by simp; omega), idx_get hk]
    simp only [Option.bind_some]
    have e1 : exN a.Data (k + 1) = exN a.Data k + (if a.Data[k] = 0 then 0 else 1) := by simp only [exN]; rw [List.getElem?_eq_getElem hk]; rfl
    have e2 : exL a.Data n (k + 1) = exL a.Data n k ++ [if a.Data[k] = 0 then -1 else (exN a.Data k : Int) % (if n < 1 then 1 else n)] := by simp only [exL]; rw [List.getElem?_eq_getElem hk]; rfl
    rw [e1, e2, w64_id (x := (k : Int) + 1) (by omega) (by omega)]
    by_cases hz : a.Data[k] = 0
    · rw [if_pos (by simpa using hz), if_pos hz, if_pos hz, app_ok (by simp; omega)]
      rfl
    · have hp : (if n < 1 then 1 else n) ≠ 0 := by split <;> omega
      have hr : remI (exN a.Data k : Int) (if n < 1 then 1 else n) = some ((exN a.Data k : Int) % (if n < 1 then 1 else n)) := by
        unfold remI; rw [if_neg hp, Int.tmod_eq_emod_of_nonneg (by omega)]
      rw [if_neg (by simpa using hz), if_neg hz, if_neg hz, hr]
      simp only [Option.bind_some]
      rw [app_ok (by simp; omega), w64_id (x := (exN a.Data k : Int) + 1) (by omega) (by omega)]
      rfl
  · simp only [M.pick_Expand_L1]
    rw [if_neg (by simp)]
theorem exL_ok {l : List Int} {n : Int} (hn : 0 ≤ n) (h : ¬ (n ≠ 1 ∧ (exN l l.length : Int) ≠ n)) : ∀ e ∈ exL l n l.length, -1 ≤ e ∧ e < n := fun e he => by
  rcases exL_mem l n _ e he with rfl | ⟨h1, h2, h3⟩
  · omega
  · by_cases h5 : n < 1
    · have : ¬ (exN l l.length : Int) ≠ n := fun hh => h ⟨by omega, hh⟩
      omega
    · rw [if_neg h5] at h2; omega
theorem Expand_eq {a b : Val} {axis : Int} (ha : a.Data.length ≤ maxLen) (hb : b.Data.length ≤ maxLen) : M.pick_Expand a b axis = some (expF a b axis) := by
  unfold M.pick_Expand expF
  rw [counts_eq ha hb]
  simp only [Option.bind_some]
  by_cases hc : countsF a b = 0
  · obtain ⟨ra, rb, _⟩ := counts_right hc
    have la := pdata ra
    rw [if_neg (by simp [hc]), if_neg (by simp [hc])]
    have hb4 := (vRight_iff.mp rb).1.1
    obtain ⟨x, e, hx⟩ := lined_eq (b := b) (axis := axis) (by omega)
    rw [e]
    simp only [Option.bind_some]
    cases hok : pOk (lnS b) axis with
    | false => rfl
    | true =>
      obtain rfl := hx hok
      have hxl := pX_lt (lnS_pos b) hok
      have hr := lnS_right rb
      obtain ⟨hs, hp, _⟩ := vRight_iff.mp hr
      simp only [Bool.not_true, Bool.false_eq_true, if_false]
      rw [if_neg (by simp)]
      rw [contains_int64 (s := a.Data) (f := fun x0 => M.pick_Expand_1 x0) (g := fun n => decide (n ≠ 0 ∧ n ≠ 1)) (fun x _ => by
        unfold M.pick_Expand_1
        congr 1
        rw [Bool.eq_iff_iff]; simp) (by omega)]
      simp only [Option.bind_some]
      cases hneg : a.Data.any (fun n => decide (n ≠ 0 ∧ n ≠ 1)) with
      | true => rfl
      | false =>
        simp only [Bool.false_eq_true, if_false]
        rw [idx_get hxl]
        simp only [Option.bind_some]
        have hN : lnN (lnS b) (pX (lnS b) axis) = (lnS b)[pX (lnS b) axis] := by unfold lnN; rw [List.getElem?_eq_getElem hxl]; rfl
        have hnb := hs.2.1 _ (List.getElem_mem hxl)
        replace hnb : 0 ≤ (lnS b)[pX (lnS b) axis] ∧ (lnS b)[pX (lnS b) axis] ≤ 10000 := hnb
        rw [hN]
        generalize hge : (lnS b)[pX (lnS b) axis] = n at *
        rw [Expand_L1_eq la]
        simp only [Option.bind_some, joinK]
        by_cases hbad : n ≠ 1 ∧ (exN a.Data a.Data.length : Int) ≠ n
        · rw [if_pos (by simpa using hbad), if_pos hbad]
        · rw [if_neg (by simpa using hbad), if_neg hbad]
          rw [along_eq hr hxl (fun e he => by simp only [hge]; exact exL_ok hnb.1 hbad e he) (by rw [exL_len]; omega)]
          rfl
  · rw [if_pos (by simp [hc]), if_pos hc]
/-- the byte at a place of a text. -/
def byteAt (s : ByteArray) (k : Nat) : Nat := (s.get! k).toNat
theorem byteAt_lt (s : ByteArray) (k : Nat) : byteAt s k < 256 := (s.get! k).toNat_lt
theorem sidx_get {s : ByteArray} {k : Nat} (h : k < s.size) : sidx s (k : Int) = some (byteAt s k : Int) := by
  unfold sidx byteAt
  rw [if_pos (by omega), Int.toNat_natCast, getElem?_pos s k h]
  show some (((s[k]).toNat : Nat) : Int) = _
  have : s.get! k = s[k] := by
    show s.data[k]! = s.data[k]
    rw [getElem!_pos s.data k h]
  rw [this]
def isCont (b : Nat) : Bool := b / 64 == 2
/-- the characters of a text from a place on, not more than so many. -/
def runes (s : ByteArray) : Nat → Nat → List Int
  | 0, _ => []
  | n + 1, p => if p < s.size then runeAt s p :: runes s n (p + (Utf8.decode s p).2) else []
theorem runes_len (s : ByteArray) : ∀ (n p : Nat), (runes s n p).length ≤ n
  | 0, _ => by simp [runes]
  | n + 1, p => by
    rw [runes]; split
    · have := runes_len s n (p + (Utf8.decode s p).2); simp; omega
    · simp
theorem decode_bounds (s : ByteArray) (i : Nat) : (Utf8.decode s i).1 ≤ 1114111 ∧ 1 ≤ (Utf8.decode s i).2 ∧ (Utf8.decode s i).2 ≤ 4 := by
  have b0 := byteAt_lt s i
  unfold Utf8.decode
  unfold byteAt at b0
  simp only [Nat.add_zero]
  split
  · rename_i h; refine ⟨?_, by omega, by omega⟩; simp only []; omega
  · split
    · split
      · refine ⟨by simp only []; omega, by simp only []; omega, by simp only []; omega⟩
      · exact ⟨by decide, by decide, by decide⟩
    · split
      · split
        · refine ⟨by simp only []; omega, by simp only []; omega, by simp only []; omega⟩
        · exact ⟨by decide, by decide, by decide⟩
      · split
        · split
          · rename_i h
            rw [Bool.and_eq_true] at h
            have h2 := h.2
            unfold Utf8.valid at h2
            simp at h2
            refine ⟨by simp only []; omega, by simp only []; omega, by simp only []; omega⟩
          · exact ⟨by decide, by decide, by decide⟩
        · exact ⟨by decide, by decide, by decide⟩
theorem value_Text_eq (s : ByteArray) : M.value_Text s = some ⟨true, [((runes s 10000 0).length : Int)], runes s 10000 0⟩ := by
  have key := wloop_ind (f := M.value_Text_L1 s) (fun n st => ∃ (l : List Int) (p : Nat), st = (l, p) ∧ n = s.size + 1 - p ∧ l.length ≤ 10000 ∧ l ++ runes s (10000 - l.length) p = runes s 10000 0)
    (fun b => b = .next (runes s 10000 0)) (fun n st h => by
      obtain ⟨l, p, rfl, rfl, hl, he⟩ := h
      obtain ⟨d1, d2, d3⟩ := decode_bounds s p
      unfold M.value_Text_L1
      by_cases hp : p < s.size
      · simp only [decide_eq_true hp, if_true]
        by_cases h4 : l.length = 10000
        · right
          rw [if_pos (by simp [h4])]
          refine ⟨_, rfl, ?_⟩
          rw [h4, Nat.sub_self, runes, List.append_nil] at he
          rw [he]
        · left
          have hr : runeAt s p ≤ 1114111 := by unfold runeAt; omega
          have hr0 : 0 ≤ runeAt s p := by unfold runeAt; omega
          rw [if_neg (by simp <;> omega), w64_id (by omega) (by omega), app_ok (by simp <;> omega)]
          refine ⟨_, s.size + 1 - nextP s p, rfl, by unfold nextP; rw [if_pos hp]; omega, _, _, rfl, rfl, by simp; omega, ?_⟩
          rw [← he, show 10000 - l.length = (10000 - (l ++ [runeAt s p]).length) + 1 by simp; omega, runes, if_pos hp, List.append_assoc]
          unfold nextP; rw [if_pos hp]; rfl
      · right
        simp only [decide_eq_false hp, Bool.false_eq_true, if_false]
        refine ⟨_, rfl, ?_⟩
        have : runes s (10000 - l.length) p = [] := by
          cases hm : 10000 - l.length with
          | zero => rfl
          | succ m => rw [runes, if_neg hp]
        rw [this, List.append_nil] at he
        rw [he]) (s.size + 1) ([], 0) ⟨[], 0, rfl, by omega, by simp, by simp⟩
  obtain ⟨b, hb, rfl⟩ := key
  unfold M.value_Text
  rw [hb]; rfl
theorem value_Vector_eq {l : List Int} (h : l.length ≤ 10000) : M.value_Vector l = some ⟨false, [(l.length : Int)], l⟩ := by
  unfold M.value_Vector M.slices_Clone__int64
  rw [if_neg (by omega), show sub l 0 (l.length : Int) = some l from by rw [show (0 : Int) = ((0 : Nat) : Int) from rfl, sub_drop (by omega)]; rfl]
  simp only [Option.bind_some]
  rw [app_ok (by simp; omega)]; rfl
theorem pk0 : M.pick_Take ⟨false, [], [-2]⟩ ⟨false, [3], [1, 2, 3]⟩ = some (⟨false, [2], [2, 3]⟩, 0) := by
  rw [Take_eq (by decide) (by decide)]
  exact congrArg some (by kernel_rfl)
theorem pk1 : M.pick_Take ⟨false, [], [5]⟩ ⟨true, [2], [97, 98]⟩ = some (⟨true, [5], [97, 98, 32, 32, 32]⟩, 0) := by
  rw [Take_eq (by decide) (by decide)]
  exact congrArg some (by kernel_rfl)
theorem pk2 : M.pick_Take ⟨false, [2], [2, -2]⟩ ⟨false, [2, 3], [1, 2, 3, 4, 5, 6]⟩ = some (⟨false, [2, 2], [2, 3, 5, 6]⟩, 0) := by
  rw [Take_eq (by decide) (by decide)]
  exact congrArg some (by kernel_rfl)
theorem pk3 : M.pick_Drop ⟨false, [], [-5]⟩ ⟨false, [3], [1, 2, 3]⟩ = some (⟨false, [0], []⟩, 0) := by
  rw [Drop_eq (by decide) (by decide)]
  exact congrArg some (by kernel_rfl)
theorem pk4 : M.pick_Drop ⟨false, [2], [1, 1]⟩ ⟨false, [2, 3], [1, 2, 3, 4, 5, 6]⟩ = some (⟨false, [1, 2], [5, 6]⟩, 0) := by
  rw [Drop_eq (by decide) (by decide)]
  exact congrArg some (by kernel_rfl)
theorem pk5 : M.pick_Take ⟨false, [2], [2, 2]⟩ ⟨false, [], [9]⟩ = some (⟨false, [2, 2], [9, 0, 0, 0]⟩, 0) := by
  rw [Take_eq (by decide) (by decide)]
  exact congrArg some (by kernel_rfl)
theorem pk6 : M.pick_Drop ⟨false, [0], []⟩ ⟨false, [], [9]⟩ = some (⟨false, [], [9]⟩, 0) := by
  rw [Drop_eq (by decide) (by decide)]
  exact congrArg some (by kernel_rfl)
theorem pk7 : M.pick_Compress ⟨false, [], [2]⟩ ⟨false, [2], [4, 5]⟩ (-1) = some (⟨false, [4], [4, 4, 5, 5]⟩, 0) := by
  rw [Compress_eq (by decide) (by decide)]
  exact congrArg some (by kernel_rfl)
theorem pk8 : M.pick_Compress ⟨false, [2], [1, 0]⟩ ⟨false, [2, 3], [1, 2, 3, 4, 5, 6]⟩ (0) = some (⟨false, [1, 3], [1, 2, 3]⟩, 0) := by
  rw [Compress_eq (by decide) (by decide)]
  exact congrArg some (by kernel_rfl)
theorem pk9 : M.pick_Expand ⟨false, [3], [1, 0, 1]⟩ ⟨true, [2], [97, 98]⟩ (-1) = some (⟨true, [3], [97, 32, 98]⟩, 0) := by
  rw [Expand_eq (by decide) (by decide)]
  exact congrArg some (by kernel_rfl)
theorem pk10 : M.pick_Expand ⟨false, [2], [1, 1]⟩ ⟨false, [], [7]⟩ (-1) = some (⟨false, [2], [7, 7]⟩, 0) := by
  rw [Expand_eq (by decide) (by decide)]
  exact congrArg some (by kernel_rfl)
theorem pk11 : M.pick_Compress ⟨false, [3], [1, 0, 2]⟩ ⟨false, [], [7]⟩ (0) = some (⟨false, [3], [7, 7, 7]⟩, 0) := by
  rw [Compress_eq (by decide) (by decide)]
  exact congrArg some (by kernel_rfl)
theorem pk12 : M.pick_Take ⟨false, [2], [1, 2]⟩ ⟨false, [3], [1, 2, 3]⟩ = some (⟨false, [], []⟩, 25) := by
  rw [Take_eq (by decide) (by decide)]
  exact congrArg some (by kernel_rfl)
theorem pk13 : M.pick_Compress ⟨false, [2], [1, 2]⟩ ⟨false, [3], [4, 5, 6]⟩ (-1) = some (⟨false, [], []⟩, 25) := by
  rw [Compress_eq (by decide) (by decide)]
  exact congrArg some (by kernel_rfl)
theorem pk14 : M.pick_Compress ⟨false, [], [-1]⟩ ⟨false, [], [4]⟩ (-1) = some (⟨false, [], []⟩, 23) := by
  rw [Compress_eq (by decide) (by decide)]
  exact congrArg some (by kernel_rfl)
theorem pk15 : M.pick_Expand ⟨false, [], [2]⟩ ⟨false, [], [4]⟩ (-1) = some (⟨false, [], []⟩, 23) := by
  rw [Expand_eq (by decide) (by decide)]
  exact congrArg some (by kernel_rfl)
theorem pk16 : M.pick_Compress ⟨false, [], [1]⟩ ⟨false, [2], [4, 5]⟩ (1) = some (⟨false, [], []⟩, 26) := by
  rw [Compress_eq (by decide) (by decide)]
  exact congrArg some (by kernel_rfl)
theorem pk17 : M.pick_Take ⟨false, [], [-9223372036854775808]⟩ ⟨false, [1], [1]⟩ = some (⟨false, [], []⟩, 27) := by
  rw [Take_eq (by decide) (by decide)]
  exact congrArg some (by kernel_rfl)
theorem pkBig : M.pick_Compress ⟨false, [], [10001]⟩ ⟨false, [], [1]⟩ (-1) = some (⟨false, [], []⟩, 27) := by
  rw [Compress_eq (by decide) (by decide)]
  exact congrArg some (by kernel_rfl)
theorem vec1_2_3 : M.value_Vector [1, 2, 3] = some ⟨false, [3], [1, 2, 3]⟩ := value_Vector_eq (l := [1, 2, 3]) (by decide)
theorem vec2_m2 : M.value_Vector [2, (-2)] = some ⟨false, [2], [2, -2]⟩ := value_Vector_eq (l := [2, -2]) (by decide)
theorem vec1_1 : M.value_Vector [1, 1] = some ⟨false, [2], [1, 1]⟩ := value_Vector_eq (l := [1, 1]) (by decide)
theorem vec2_2 : M.value_Vector [2, 2] = some ⟨false, [2], [2, 2]⟩ := value_Vector_eq (l := [2, 2]) (by decide)
theorem vec : M.value_Vector [] = some ⟨false, [0], []⟩ := value_Vector_eq (l := []) (by decide)
theorem vec2_3 : M.value_Vector [2, 3] = some ⟨false, [2], [2, 3]⟩ := value_Vector_eq (l := [2, 3]) (by decide)
theorem vec4_5 : M.value_Vector [4, 5] = some ⟨false, [2], [4, 5]⟩ := value_Vector_eq (l := [4, 5]) (by decide)
theorem vec1_0 : M.value_Vector [1, 0] = some ⟨false, [2], [1, 0]⟩ := value_Vector_eq (l := [1, 0]) (by decide)
theorem vec1_0_1 : M.value_Vector [1, 0, 1] = some ⟨false, [3], [1, 0, 1]⟩ := value_Vector_eq (l := [1, 0, 1]) (by decide)
theorem vec1_0_2 : M.value_Vector [1, 0, 2] = some ⟨false, [3], [1, 0, 2]⟩ := value_Vector_eq (l := [1, 0, 2]) (by decide)
theorem vec4_4_5_5 : M.value_Vector [4, 4, 5, 5] = some ⟨false, [4], [4, 4, 5, 5]⟩ := value_Vector_eq (l := [4, 4, 5, 5]) (by decide)
theorem vec7_7 : M.value_Vector [7, 7] = some ⟨false, [2], [7, 7]⟩ := value_Vector_eq (l := [7, 7]) (by decide)
theorem vec7_7_7 : M.value_Vector [7, 7, 7] = some ⟨false, [3], [7, 7, 7]⟩ := value_Vector_eq (l := [7, 7, 7]) (by decide)
theorem vec1_2 : M.value_Vector [1, 2] = some ⟨false, [2], [1, 2]⟩ := value_Vector_eq (l := [1, 2]) (by decide)
theorem vec4_5_6 : M.value_Vector [4, 5, 6] = some ⟨false, [3], [4, 5, 6]⟩ := value_Vector_eq (l := [4, 5, 6]) (by decide)
theorem vec1 : M.value_Vector [1] = some ⟨false, [1], [1]⟩ := value_Vector_eq (l := [1]) (by decide)
theorem txt_97_98 : M.value_Text str_97_98 = some ⟨true, [2], [97, 98]⟩ := by
  rw [value_Text_eq]
  exact congrArg some (by kernel_rfl)
theorem txt_97_98_32_32_32 : M.value_Text str_97_98_32_32_32 = some ⟨true, [5], [97, 98, 32, 32, 32]⟩ := by
  rw [value_Text_eq]
  exact congrArg some (by kernel_rfl)
theorem txt_97_32_98 : M.value_Text str_97_32_98 = some ⟨true, [3], [97, 32, 98]⟩ := by
  rw [value_Text_eq]
  exact congrArg some (by kernel_rfl)
theorem is_same {v : Val} (hs : v.Shape.length ≤ maxLen) (hd : v.Data.length ≤ maxLen) : M.anamnesislaw07_Is v 0 v = some true := by
  unfold M.anamnesislaw07_Is
  rw [if_pos (by rfl), ref02_Same_eq hs hd, vSame_refl]; rfl
theorem none_same (e : Int) : M.anamnesislaw07_None ⟨false, [], []⟩ e e = some true := by
  unfold M.anamnesislaw07_None
  rw [if_pos (by simp), ref02_Same_eq (by decide) (by decide), vSame_refl]; rfl
theorem pickKnown_true : M.anamnesislaw09_PickKnown = some true := by
  unfold M.anamnesislaw09_PickKnown M.anamnesislaw09_six M.anamnesislaw07_Of M.value_Scalar
  simp only [Option.bind_some, pk0, pk1, pk2, pk3, pk4, pk5, pk6, pk7, pk8, pk9, pk10, pk11, pk12, pk13, pk14, pk15, pk16, pk17, pkBig, vec, vec1, vec1_0, vec1_0_1, vec1_0_2, vec1_1, vec1_2, vec1_2_3, vec2_2, vec2_3, vec2_m2, vec4_4_5_5, vec4_5, vec4_5_6, vec7_7, vec7_7_7, txt_97_98, txt_97_98_32_32_32, txt_97_32_98]
  have i0 := is_same (v := ⟨false, [0], []⟩) (by decide) (by decide)
  have i1 := is_same (v := ⟨false, [1, 2], [5, 6]⟩) (by decide) (by decide)
  have i2 := is_same (v := ⟨false, [1, 3], [1, 2, 3]⟩) (by decide) (by decide)
  have i3 := is_same (v := ⟨false, [2, 2], [2, 3, 5, 6]⟩) (by decide) (by decide)
  have i4 := is_same (v := ⟨false, [2, 2], [9, 0, 0, 0]⟩) (by decide) (by decide)
  have i5 := is_same (v := ⟨false, [2], [2, 3]⟩) (by decide) (by decide)
  have i6 := is_same (v := ⟨false, [2], [7, 7]⟩) (by decide) (by decide)
  have i7 := is_same (v := ⟨false, [3], [7, 7, 7]⟩) (by decide) (by decide)
  have i8 := is_same (v := ⟨false, [4], [4, 4, 5, 5]⟩) (by decide) (by decide)
  have i9 := is_same (v := ⟨false, [], [9]⟩) (by decide) (by decide)
  have i10 := is_same (v := ⟨true, [3], [97, 32, 98]⟩) (by decide) (by decide)
  have i11 := is_same (v := ⟨true, [5], [97, 98, 32, 32, 32]⟩) (by decide) (by decide)
  simp only [i0, i1, i2, i3, i4, i5, i6, i7, i8, i9, i10, i11, none_same, Option.bind_some, Bool.not_true, Bool.false_eq_true, if_false, if_true, Bool.and_self]

end Go.Proofs.Ytmelmiffgkippaa.pickKnown
