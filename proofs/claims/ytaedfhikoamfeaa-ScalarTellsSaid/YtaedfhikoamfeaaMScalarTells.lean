/- ScalarTells: what the code that the law reaches computes, as plain functions; and that the law comes to true. -/
import Derived.Test.YtaedfhikoamfeaaAmU
set_option maxHeartbeats 4000000
set_option linter.unusedVariables false
set_option linter.unusedSimpArgs false
set_option maxRecDepth 100000
open Go Go.Am
namespace Go.Proofs.Ytaedfhikoamfeaa.scalarTells
def str_0_1_2_2_3_3_3_3_4_4_4_4_4_4_4_4_5_5_5_5_5_5_5_5_5_5_5_5_5_5_5_5_6_6_6_6_6_6_6_6_6_6_6_6_6_6_6_6_6_6_6_6_6_6_6_6_6_6_6_6_6_6_6_6_7_7_7_7_7_7_7_7_7_7_7_7_7_7_7_7_7_7_7_7_7_7_7_7_7_7_7_7_7_7_7_7_7_7_7_7_7_7_7_7_7_7_7_7_7_7_7_7_7_7_7_7_7_7_7_7_7_7_7_7_7_7_7_7_8_8_8_8_8_8_8_8_8_8_8_8_8_8_8_8_8_8_8_8_8_8_8_8_8_8_8_8_8_8_8_8_8_8_8_8_8_8_8_8_8_8_8_8_8_8_8_8_8_8_8_8_8_8_8_8_8_8_8_8_8_8_8_8_8_8_8_8_8_8_8_8_8_8_8_8_8_8_8_8_8_8_8_8_8_8_8_8_8_8_8_8_8_8_8_8_8_8_8_8_8_8_8_8_8_8_8_8_8_8_8_8_8_8_8_8_8_8_8_8_8_8_8_8_8_8_8_8 : ByteArray := ⟨#[0, 1, 2, 2, 3, 3, 3, 3, 4, 4, 4, 4, 4, 4, 4, 4, 5, 5, 5, 5, 5, 5, 5, 5, 5, 5, 5, 5, 5, 5, 5, 5, 6, 6, 6, 6, 6, 6, 6, 6, 6, 6, 6, 6, 6, 6, 6, 6, 6, 6, 6, 6, 6, 6, 6, 6, 6, 6, 6, 6, 6, 6, 6, 6, 7, 7, 7, 7, 7, 7, 7, 7, 7, 7, 7, 7, 7, 7, 7, 7, 7, 7, 7, 7, 7, 7, 7, 7, 7, 7, 7, 7, 7, 7, 7, 7, 7, 7, 7, 7, 7, 7, 7, 7, 7, 7, 7, 7, 7, 7, 7, 7, 7, 7, 7, 7, 7, 7, 7, 7, 7, 7, 7, 7, 7, 7, 7, 7, 8, 8, 8, 8, 8, 8, 8, 8, 8, 8, 8, 8, 8, 8, 8, 8, 8, 8, 8, 8, 8, 8, 8, 8, 8, 8, 8, 8, 8, 8, 8, 8, 8, 8, 8, 8, 8, 8, 8, 8, 8, 8, 8, 8, 8, 8, 8, 8, 8, 8, 8, 8, 8, 8, 8, 8, 8, 8, 8, 8, 8, 8, 8, 8, 8, 8, 8, 8, 8, 8, 8, 8, 8, 8, 8, 8, 8, 8, 8, 8, 8, 8, 8, 8, 8, 8, 8, 8, 8, 8, 8, 8, 8, 8, 8, 8, 8, 8, 8, 8, 8, 8, 8, 8, 8, 8, 8, 8, 8, 8, 8, 8, 8, 8, 8, 8, 8, 8, 8, 8, 8, 8, 8, 8, 8, 8, 8, 8]⟩
def str_124 : ByteArray := ⟨#[124]⟩
def str_126 : ByteArray := ⟨#[126]⟩
def str_195_151 : ByteArray := ⟨#[195, 151]⟩
def str_195_183 : ByteArray := ⟨#[195, 183]⟩
def str_226_136_167 : ByteArray := ⟨#[226, 136, 167]⟩
def str_226_136_168 : ByteArray := ⟨#[226, 136, 168]⟩
def str_226_137_160 : ByteArray := ⟨#[226, 137, 160]⟩
def str_226_137_164 : ByteArray := ⟨#[226, 137, 164]⟩
def str_226_137_165 : ByteArray := ⟨#[226, 137, 165]⟩
def str_226_140_136 : ByteArray := ⟨#[226, 140, 136]⟩
def str_226_140_138 : ByteArray := ⟨#[226, 140, 138]⟩
def str_226_141_177 : ByteArray := ⟨#[226, 141, 177]⟩
def str_226_141_178 : ByteArray := ⟨#[226, 141, 178]⟩
def str_33 : ByteArray := ⟨#[33]⟩
def str_42 : ByteArray := ⟨#[42]⟩
def str_43 : ByteArray := ⟨#[43]⟩
def str_45 : ByteArray := ⟨#[45]⟩
def str_60 : ByteArray := ⟨#[60]⟩
def str_61 : ByteArray := ⟨#[61]⟩
def str_62 : ByteArray := ⟨#[62]⟩
noncomputable def M.anamnesislaw06_Great (v1 : Val) : Option (Bool) :=
 some ((decide ((v1.Data.length : Int) > 200)) || (decide ((v1.Shape.length : Int) > 8)))
noncomputable def M.anamnesisref01_Dyads : Option ((List ByteArray)) :=
 some ([str_43, str_45, str_195_151, str_195_183, str_42, str_124, str_33, str_226_140_136, str_226_140_138, str_60, str_226_137_164, str_61, str_226_137_165, str_62, str_226_137_160, str_226_136_167, str_226_136_168, str_226_141_178, str_226_141_177])
noncomputable def M.ints_monads : Option (Unit) :=
 some ()
noncomputable def M.ints_same (b1 : Int) : Option (Int × Bool) :=
 some (b1, true)
noncomputable def M.ints_told (c1 : Int) (ok1 : Bool) : Option (Int × Int) :=
 if (!ok1) then
  some (0, 23)
 else
  some (c1, 0)
noncomputable def M.ints_monads_1 (b1 : Int) : Option (Int × Bool) :=
 some ((IntKind.i64.wrap (0 - b1)), (b1 != (-9223372036854775808)))
noncomputable def M.ints_sign (b1 : Int) : Option (Int) :=
 if (decide (b1 < 0)) then
  some (-1)
 else
  if (decide (b1 > 0)) then
   some 1
  else
   some 0
noncomputable def M.ints_monads_2 (b1 : Int) : Option (Int × Bool) :=
 (M.ints_sign b1).bind fun r1 =>
 some (r1, true)
noncomputable def M.ints_monads_3 (b1 : Int) : Option (Int × Bool) :=
 some (b1, ((b1 == 1) || (b1 == (-1))))
noncomputable def M.ints_monads_4 (b1 : Int) : Option (Int × Bool) :=
 some (1, (b1 == 0))
noncomputable def M.ints_monads_5 (b1 : Int) : Option (Int × Bool) :=
 some ((if b1 < (IntKind.i64.wrap (0 - b1)) then (IntKind.i64.wrap (0 - b1)) else b1), (b1 != (-9223372036854775808)))
noncomputable def M.ints_factorial_L1 (b1 : Int) (s : Int × Int) : Option (Ctl (Int × Int) (Ctl (Int) (Int × Bool))) :=
 match s with
 | (c2, i1) =>
  if (decide (i1 ≤ b1)) then
   some (.next ((IntKind.i64.wrap (c2 * i1)), (IntKind.i64.wrap (i1 + 1))))
  else
   some (.done (.next c2))
noncomputable def M.ints_factorial (b1 : Int) : Option (Int × Bool) :=
 if ((decide (b1 < 0)) || (decide (b1 > 20))) then
  some (0, false)
 else
  (wloop (M.ints_factorial_L1 b1) (1, 2)).bind fun k => joinK k fun c2 =>
  some (c2, true)
noncomputable def M.ints_bit (b1 : Int) : Option (Bool) :=
 some ((b1 == 0) || (b1 == 1))
noncomputable def M.ints_monads_6 (b1 : Int) : Option (Int × Bool) :=
 (M.ints_bit b1).bind fun r1 =>
 some ((IntKind.i64.wrap (1 - b1)), r1)
noncomputable def M.ints_Monad (fn1 : ByteArray) (b1 : Int) : Option (Int × Int) :=
 (M.ints_monads).bind fun r1 =>
 if (fn1 == str_43) then
  (M.ints_same b1).bind fun (r2, r3) =>
  (M.ints_told r2 r3).bind fun (r4, r5) =>
  some (r4, r5)
 else if (fn1 == str_226_140_136) then
  (M.ints_same b1).bind fun (r6, r7) =>
  (M.ints_told r6 r7).bind fun (r8, r9) =>
  some (r8, r9)
 else if (fn1 == str_226_140_138) then
  (M.ints_same b1).bind fun (r10, r11) =>
  (M.ints_told r10 r11).bind fun (r12, r13) =>
  some (r12, r13)
 else if (fn1 == str_45) then
  (M.ints_monads_1 b1).bind fun (r14, r15) =>
  (M.ints_told r14 r15).bind fun (r16, r17) =>
  some (r16, r17)
 else if (fn1 == str_195_151) then
  (M.ints_monads_2 b1).bind fun (r18, r19) =>
  (M.ints_told r18 r19).bind fun (r20, r21) =>
  some (r20, r21)
 else if (fn1 == str_195_183) then
  (M.ints_monads_3 b1).bind fun (r22, r23) =>
  (M.ints_told r22 r23).bind fun (r24, r25) =>
  some (r24, r25)
 else if (fn1 == str_42) then
  (M.ints_monads_4 b1).bind fun (r26, r27) =>
  (M.ints_told r26 r27).bind fun (r28, r29) =>
  some (r28, r29)
 else if (fn1 == str_124) then
  (M.ints_monads_5 b1).bind fun (r30, r31) =>
  (M.ints_told r30 r31).bind fun (r32, r33) =>
  some (r32, r33)
 else if (fn1 == str_33) then
  (M.ints_factorial b1).bind fun (r34, r35) =>
  (M.ints_told r34 r35).bind fun (r36, r37) =>
  some (r36, r37)
 else if (fn1 == str_126) then
  (M.ints_monads_6 b1).bind fun (r38, r39) =>
  (M.ints_told r38 r39).bind fun (r40, r41) =>
  some (r40, r41)
 else 
 some (0, 4)
noncomputable def M.slices_IndexFunc__int64_L1 (s1 : (List Int)) (f1 : (Int → Option (Bool))) (s : Int) : Option (Ctl (Int) (Ctl (Unit) (Int))) :=
 match s with
 | t1 =>
  if (decide (t1 < (s1.length : Int))) then
   (idx s1 t1).bind fun y1 =>
   (f1 y1).bind fun r1 =>
   if r1 then
    some (.done (.done t1))
   else
    some (.next (IntKind.i64.wrap (t1 + 1)))
  else
   some (.done (.next ()))
noncomputable def M.slices_IndexFunc__int64 (s1 : (List Int)) (f1 : (Int → Option (Bool))) : Option (Int) :=
 (wloop (M.slices_IndexFunc__int64_L1 s1 f1) 0).bind fun k => joinK k fun _ =>
 some (-1)
noncomputable def M.slices_ContainsFunc__int64 (s1 : (List Int)) (f1 : (Int → Option (Bool))) : Option (Bool) :=
 (M.slices_IndexFunc__int64 s1 f1).bind fun r1 =>
 some (decide (r1 ≥ 0))
noncomputable def M.unicode_utf8_ValidRune (r1 : Int) : Option (Bool) :=
 if ((decide (0 ≤ r1)) && (decide (r1 < 55296))) then
  some true
 else
  if ((decide (57343 < r1)) && (decide (r1 ≤ 1114111))) then
   some true
  else
   some false
noncomputable def M.value_character (n1 : Int) : Option (Bool) :=
 (if ((decide (n1 ≥ 0)) && (decide (n1 ≤ 1114111))) then
 (M.unicode_utf8_ValidRune (IntKind.i32.wrap n1)).bind fun r1 =>
 some r1 else
 some false).bind fun c2 =>
 some c2
noncomputable def M.value_Right_1 (n1 : Int) : Option (Bool) :=
 (M.value_character n1).bind fun r1 =>
 some (!r1)
noncomputable def M.value_Right_L1 (v1 : Val) (s : Int × Int) : Option (Ctl (Int × Int) (Ctl (Int) (Bool))) :=
 match s with
 | (size1, t1) =>
  if (decide (t1 < (v1.Shape.length : Int))) then
   (idx v1.Shape t1).bind fun y1 =>
   if ((decide (y1 < 0)) || (decide (y1 > 10000))) then
    some (.done (.done false))
   else
    some (.next ((IntKind.i64.wrap (size1 * y1)), (IntKind.i64.wrap (t1 + 1))))
  else
   some (.done (.next size1))
noncomputable def M.value_Right (v1 : Val) : Option (Bool) :=
 if (decide ((v1.Shape.length : Int) > 4)) then
  some false
 else
  (wloop (M.value_Right_L1 v1) (1, 0)).bind fun k => joinK k fun size1 =>
  if ((decide (size1 > 10000)) || (size1 != (v1.Data.length : Int))) then
   some false
  else
   (if (!v1.Char) then
   some true else
   (M.slices_ContainsFunc__int64 v1.Data (fun x0 => M.value_Right_1 x0)).bind fun r1 =>
   some (!r1)).bind fun c4 =>
   some c4
noncomputable def M.scalar_Monad_1 (k1 : Int) (x1 : ByteArray) (x2 : Val) : Option (Int × Int) :=
 (idx x2.Data k1).bind fun y1 =>
 (M.ints_Monad x1 y1).bind fun (r1, r2) =>
 some (r1, r2)
noncomputable def M.slices_Clone__int (s1 : (List Int)) : Option ((List Int)) :=
 app 8 [] s1
noncomputable def M.scalar_made_L1 (n1 : Int) (told1 : (Int → Option (Int × Int))) (s : Int × (List Int)) : Option (Ctl (Int × (List Int)) (Ctl ((List Int)) (Val × Int))) :=
 match s with
 | (t1, l2) =>
  if (decide (t1 < n1)) then
   (told1 t1).bind fun (r2, r3) =>
   if (r3 != 0) then
    some (.done (.done ((Val.mk false ([]) ([])), r3)))
   else
    (idx l2 t1).bind fun y1 =>
    (upd l2 t1 r2).bind fun l3 =>
    some (.next ((IntKind.i64.wrap (t1 + 1)), l3))
  else
   some (.done (.next l2))
noncomputable def M.scalar_made (shape1 : (List Int)) (n1 : Int) (told1 : (Int → Option (Int × Int))) : Option (Val × Int) :=
 (M.slices_Clone__int shape1).bind fun r1 =>
 (mk 8 (0 : Int) n1 n1).bind fun l1 =>
 (wloop (M.scalar_made_L1 n1 told1) (0, l1)).bind fun k => joinK k fun l2 =>
 some ((Val.mk false r1 l2), 0)
noncomputable def M.scalar_Monad (fn1 : ByteArray) (b1 : Val) : Option (Val × Int) :=
 (M.ints_Monad fn1 0).bind fun (r1, r2) =>
 if (r2 == 4) then
  some ((Val.mk false ([]) ([])), r2)
 else
  (M.value_Right b1).bind fun r3 =>
  if (!r3) then
   some ((Val.mk false ([]) ([])), 1)
  else
   if b1.Char then
    some ((Val.mk false ([]) ([])), 23)
   else
    (M.scalar_made b1.Shape (b1.Data.length : Int) (fun x0 => M.scalar_Monad_1 x0 fn1 b1)).bind fun (r4, r5) =>
    some (r4, r5)
noncomputable def M.anamnesisref01_Monads : Option ((List ByteArray)) :=
 some ([str_43, str_45, str_195_151, str_195_183, str_42, str_124, str_226_140_136, str_226_140_138, str_33, str_126])
noncomputable def M.anamnesisref01_In_L1 (l1 : (List ByteArray)) (fn1 : ByteArray) (s : Int) : Option (Ctl (Int) (Ctl (Unit) (Bool))) :=
 match s with
 | i1 =>
  if (decide (i1 < (l1.length : Int))) then
   (idx l1 i1).bind fun y1 =>
   if (y1.toList == fn1.toList) then
    some (.done (.done true))
   else
    some (.next (IntKind.i64.wrap (i1 + 1)))
  else
   some (.done (.next ()))
noncomputable def M.anamnesisref01_In (l1 : (List ByteArray)) (fn1 : ByteArray) : Option (Bool) :=
 (wloop (M.anamnesisref01_In_L1 l1 fn1) 0).bind fun k => joinK k fun _ =>
 some false
noncomputable def M.anamnesisref03_Size_L1 (s1 : (List Int)) (s : Int × Bool × Int) : Option (Ctl (Int × Bool × Int) (Ctl (Int × Bool) (Int × Int))) :=
 match s with
 | (size1, long1, i1) =>
  if (decide (i1 < (s1.length : Int))) then
   (idx s1 i1).bind fun y1 =>
   if (decide (y1 < 0)) then
    some (.done (.done (0, 1)))
   else
    ((idx s1 i1).bind fun y2 =>
    if (decide (y2 > 10000)) then
     some (0, true)
    else
     some (size1, long1)).bind fun (size2, long2) =>
    (idx s1 i1).bind fun y3 =>
    some (.next ((IntKind.i64.wrap (size2 * y3)), long2, (IntKind.i64.wrap (i1 + 1))))
  else
   some (.done (.next (size1, long1)))
noncomputable def M.anamnesisref03_Size (s1 : (List Int)) : Option (Int × Int) :=
 if (decide ((s1.length : Int) > 4)) then
  some (0, 24)
 else
  (wloop (M.anamnesisref03_Size_L1 s1) (1, false, 0)).bind fun k => joinK k fun (size1, long1) =>
  if (long1 || (decide (size1 > 10000))) then
   some (0, 27)
  else
   some (size1, 0)
noncomputable def M.anamnesisref06_Right_L1 (v1 : Val) (s : Int) : Option (Ctl (Int) (Ctl (Unit) (Bool))) :=
 match s with
 | i1 =>
  if ((decide (i1 < (v1.Data.length : Int))) && v1.Char) then
   (idx v1.Data i1).bind fun y1 =>
   (if (decide (y1 < 0)) then
   some true else
   (idx v1.Data i1).bind fun y2 =>
   some (decide (y2 > 1114111))).bind fun c4 =>
   (if c4 then
   some true else
   (idx v1.Data i1).bind fun y3 =>
   (if (decide (y3 ≥ 55296)) then
   (idx v1.Data i1).bind fun y4 =>
   some (decide (y4 ≤ 57343)) else
   some false).bind fun c5 =>
   some c5).bind fun c5 =>
   if c5 then
    some (.done (.done false))
   else
    some (.next (IntKind.i64.wrap (i1 + 1)))
  else
   some (.done (.next ()))
noncomputable def M.anamnesisref06_Right (v1 : Val) : Option (Bool) :=
 (M.anamnesisref03_Size v1.Shape).bind fun (r1, r2) =>
 if ((r2 != 0) || (r1 != (v1.Data.length : Int))) then
  some false
 else
  (wloop (M.anamnesisref06_Right_L1 v1) 0).bind fun k => joinK k fun _ =>
  some true
noncomputable def M.anamnesisref01_truth (b1 : Bool) : Option (Int) :=
 if b1 then
  some 1
 else
  some 0
noncomputable def M.anamnesisref01_Monad_L1 (b1 : Int) (s : Int × Int) : Option (Ctl (Int × Int) (Ctl (Int) (Int × Bool))) :=
 match s with
 | (c3, i1) =>
  if (decide (i1 ≤ b1)) then
   some (.next ((IntKind.i64.wrap (c3 * i1)), (IntKind.i64.wrap (i1 + 1))))
  else
   some (.done (.next c3))
noncomputable def M.anamnesisref01_Monad (fn1 : ByteArray) (b1 : Int) : Option (Int × Bool) :=
 (if (fn1.toList == str_43.toList) then
  some (fn1.toList == str_43.toList)
 else
  if (fn1.toList == str_226_140_136.toList) then
   some (fn1.toList == str_226_140_136.toList)
  else
   some (fn1.toList == str_226_140_138.toList)).bind fun t1 =>
 if t1 then
  some (b1, true)
 else
  if (fn1.toList == str_45.toList) then
   if (b1 == (-9223372036854775808)) then
    some (0, false)
   else
    some ((IntKind.i64.wrap (0 - b1)), true)
  else
   if (fn1.toList == str_195_151.toList) then
    (M.anamnesisref01_truth (decide (b1 > 0))).bind fun r1 =>
    (M.anamnesisref01_truth (decide (b1 < 0))).bind fun r2 =>
    some ((IntKind.i64.wrap (r1 - r2)), true)
   else
    if (fn1.toList == str_195_183.toList) then
     if ((b1 == 1) || (b1 == (-1))) then
      some (b1, true)
     else
      some (0, false)
    else
     if (fn1.toList == str_42.toList) then
      (M.anamnesisref01_truth (b1 == 0)).bind fun r3 =>
      some (r3, (b1 == 0))
     else
      if (fn1.toList == str_124.toList) then
       if (b1 == (-9223372036854775808)) then
        some (0, false)
       else
        if (decide (b1 < 0)) then
         some ((IntKind.i64.wrap (0 - b1)), true)
        else
         some (b1, true)
      else
       if (fn1.toList == str_33.toList) then
        if ((decide (b1 < 0)) || (decide (b1 > 20))) then
         some (0, false)
        else
         (wloop (M.anamnesisref01_Monad_L1 b1) (1, 1)).bind fun k => joinK k fun c3 =>
         some (c3, true)
       else
        if ((b1 == 0) || (b1 == 1)) then
         some ((IntKind.i64.wrap (1 - b1)), true)
        else
         some (0, false)
noncomputable def M.anamnesisref06_Monad_L1 (fn1 : ByteArray) (b1 : Val) (s : Int × (List Int)) : Option (Ctl (Int × (List Int)) (Ctl ((List Int)) (Val × Int))) :=
 match s with
 | (i1, Data1) =>
  if (decide (i1 < (b1.Data.length : Int))) then
   (idx b1.Data i1).bind fun y1 =>
   (M.anamnesisref01_Monad fn1 y1).bind fun (r4, r5) =>
   if (!r5) then
    some (.done (.done ((Val.mk false ([]) ([])), 23)))
   else
    (app 8 Data1 ([r4])).bind fun l2 =>
    some (.next ((IntKind.i64.wrap (i1 + 1)), l2))
  else
   some (.done (.next Data1))
noncomputable def M.anamnesisref06_Monad (fn1 : ByteArray) (b1 : Val) : Option (Val × Int) :=
 (M.anamnesisref01_Monads).bind fun r1 =>
 (M.anamnesisref01_In r1 fn1).bind fun r2 =>
 if (!r2) then
  some ((Val.mk false ([]) ([])), 4)
 else
  (M.anamnesisref06_Right b1).bind fun r3 =>
  if (!r3) then
   some ((Val.mk false ([]) ([])), 1)
  else
   if b1.Char then
    some ((Val.mk false ([]) ([])), 23)
   else
    (app 8 ([] : List Int) b1.Shape).bind fun l1 =>
    (wloop (M.anamnesisref06_Monad_L1 fn1 b1) (0, [])).bind fun k => joinK k fun Data1 =>
    some ((Val.mk false l1 Data1), 0)
noncomputable def M.ints_Identity (fn1 : ByteArray) : Option (Int × Int) :=
 (if (fn1.toList == str_43.toList) then
  some (fn1.toList == str_43.toList)
 else
  if (fn1.toList == str_45.toList) then
   some (fn1.toList == str_45.toList)
  else
   if (fn1.toList == str_124.toList) then
    some (fn1.toList == str_124.toList)
   else
    if (fn1.toList == str_60.toList) then
     some (fn1.toList == str_60.toList)
    else
     if (fn1.toList == str_62.toList) then
      some (fn1.toList == str_62.toList)
     else
      if (fn1.toList == str_226_137_160.toList) then
       some (fn1.toList == str_226_137_160.toList)
      else
       some (fn1.toList == str_226_136_168.toList)).bind fun t1 =>
 if t1 then
  some (0, 0)
 else
  (if (fn1.toList == str_195_151.toList) then
   some (fn1.toList == str_195_151.toList)
  else
   if (fn1.toList == str_195_183.toList) then
    some (fn1.toList == str_195_183.toList)
   else
    if (fn1.toList == str_42.toList) then
     some (fn1.toList == str_42.toList)
    else
     if (fn1.toList == str_33.toList) then
      some (fn1.toList == str_33.toList)
     else
      if (fn1.toList == str_226_137_164.toList) then
       some (fn1.toList == str_226_137_164.toList)
      else
       if (fn1.toList == str_61.toList) then
        some (fn1.toList == str_61.toList)
       else
        if (fn1.toList == str_226_137_165.toList) then
         some (fn1.toList == str_226_137_165.toList)
        else
         some (fn1.toList == str_226_136_167.toList)).bind fun t2 =>
  if t2 then
   some (1, 0)
  else
   if (fn1.toList == str_226_140_136.toList) then
    some ((-9223372036854775808), 0)
   else
    if (fn1.toList == str_226_140_138.toList) then
     some (9223372036854775807, 0)
    else
     (if (fn1.toList == str_226_141_178.toList) then
      some (fn1.toList == str_226_141_178.toList)
     else
      some (fn1.toList == str_226_141_177.toList)).bind fun t3 =>
     if t3 then
      some (0, 23)
     else
      some (0, 4)
noncomputable def M.scalar_Is (fn1 : ByteArray) : Option (Bool) :=
 (M.ints_Identity fn1).bind fun (r1, r2) =>
 some (r2 != 4)
noncomputable def M.slices_Equal__int_L1 (s1 : (List Int)) (s2 : (List Int)) (s : Int) : Option (Ctl (Int) (Ctl (Unit) (Bool))) :=
 match s with
 | t1 =>
  if (decide (t1 < (s1.length : Int))) then
   (idx s1 t1).bind fun y1 =>
   (idx s2 t1).bind fun y2 =>
   if (y1 != y2) then
    some (.done (.done false))
   else
    some (.next (IntKind.i64.wrap (t1 + 1)))
  else
   some (.done (.next ()))
noncomputable def M.slices_Equal__int (s1 : (List Int)) (s2 : (List Int)) : Option (Bool) :=
 if ((s1.length : Int) != (s2.length : Int)) then
  some false
 else
  (wloop (M.slices_Equal__int_L1 s1 s2) 0).bind fun k => joinK k fun _ =>
  some true
noncomputable def M.scalar_alike (a1 : Val) (b1 : Val) : Option ((List Int) × Int × Int) :=
 if (((a1.Data.length : Int) == 1) && ((!((b1.Data.length : Int) == 1)) || (decide ((b1.Shape.length : Int) > (a1.Shape.length : Int))))) then
  some (b1.Shape, (b1.Data.length : Int), 0)
 else
  (if ((b1.Data.length : Int) == 1) then
   some ((b1.Data.length : Int) == 1)
  else
   (M.slices_Equal__int a1.Shape b1.Shape).bind fun r1 =>
   some r1).bind fun t1 =>
  if t1 then
   some (a1.Shape, (a1.Data.length : Int), 0)
  else
   if ((a1.Shape.length : Int) != (b1.Shape.length : Int)) then
    some ([], 0, 24)
   else
    some ([], 0, 25)
noncomputable def M.ints_dyads : Option (Unit) :=
 some ()
noncomputable def M.ints_add (a1 : Int) (b1 : Int) : Option (Int × Bool) :=
 some ((IntKind.i64.wrap (a1 + b1)), (((decide ((IntKind.i64.wrap (a1 + b1)) > a1)) == (decide (b1 > 0))) || (b1 == 0)))
noncomputable def M.ints_sub (a1 : Int) (b1 : Int) : Option (Int × Bool) :=
 some ((IntKind.i64.wrap (a1 - b1)), (((decide ((IntKind.i64.wrap (a1 - b1)) < a1)) == (decide (b1 > 0))) || (b1 == 0)))
noncomputable def M.ints_size (a1 : Int) : Option (Int) :=
 if (decide (a1 < 0)) then
  some (IntKind.u64.wrap (0 - (IntKind.u64.wrap a1)))
 else
  some (IntKind.u64.wrap a1)
noncomputable def M.math_bits_Mul64 (x1 : Int) (y1 : Int) : Option (Int × Int) :=
 some ((IntKind.u64.wrap ((IntKind.u64.wrap ((IntKind.u64.wrap ((Int.fdiv x1 (2 ^ (min (Int.toNat 32) IntKind.u64.bits))) * (Int.fdiv y1 (2 ^ (min (Int.toNat 32) IntKind.u64.bits))))) + (Int.fdiv (IntKind.u64.wrap ((IntKind.u64.wrap ((Int.fdiv x1 (2 ^ (min (Int.toNat 32) IntKind.u64.bits))) * (IntKind.u64.wrap (BitVec.ofInt IntKind.u64.bits y1 &&& BitVec.ofInt IntKind.u64.bits 4294967295).toNat))) + (Int.fdiv (IntKind.u64.wrap ((IntKind.u64.wrap (BitVec.ofInt IntKind.u64.bits x1 &&& BitVec.ofInt IntKind.u64.bits 4294967295).toNat) * (IntKind.u64.wrap (BitVec.ofInt IntKind.u64.bits y1 &&& BitVec.ofInt IntKind.u64.bits 4294967295).toNat))) (2 ^ (min (Int.toNat 32) IntKind.u64.bits))))) (2 ^ (min (Int.toNat 32) IntKind.u64.bits))))) + (Int.fdiv (IntKind.u64.wrap ((IntKind.u64.wrap (BitVec.ofInt IntKind.u64.bits (IntKind.u64.wrap ((IntKind.u64.wrap ((Int.fdiv x1 (2 ^ (min (Int.toNat 32) IntKind.u64.bits))) * (IntKind.u64.wrap (BitVec.ofInt IntKind.u64.bits y1 &&& BitVec.ofInt IntKind.u64.bits 4294967295).toNat))) + (Int.fdiv (IntKind.u64.wrap ((IntKind.u64.wrap (BitVec.ofInt IntKind.u64.bits x1 &&& BitVec.ofInt IntKind.u64.bits 4294967295).toNat) * (IntKind.u64.wrap (BitVec.ofInt IntKind.u64.bits y1 &&& BitVec.ofInt IntKind.u64.bits 4294967295).toNat))) (2 ^ (min (Int.toNat 32) IntKind.u64.bits))))) &&& BitVec.ofInt IntKind.u64.bits 4294967295).toNat) + (IntKind.u64.wrap ((IntKind.u64.wrap (BitVec.ofInt IntKind.u64.bits x1 &&& BitVec.ofInt IntKind.u64.bits 4294967295).toNat) * (Int.fdiv y1 (2 ^ (min (Int.toNat 32) IntKind.u64.bits))))))) (2 ^ (min (Int.toNat 32) IntKind.u64.bits))))), (IntKind.u64.wrap (x1 * y1)))
noncomputable def M.ints_mul (a1 : Int) (b1 : Int) : Option (Int × Bool) :=
 (M.ints_size a1).bind fun r1 =>
 (M.ints_size b1).bind fun r2 =>
 (M.math_bits_Mul64 r1 r2).bind fun (r3, r4) =>
 if (!((decide (a1 < 0)) == (decide (b1 < 0)))) then
  some ((IntKind.i64.wrap (0 - (IntKind.i64.wrap r4))), ((r3 == 0) && (decide (r4 ≤ 9223372036854775808))))
 else
  some ((IntKind.i64.wrap r4), ((r3 == 0) && (decide (r4 < 9223372036854775808))))
noncomputable def M.ints_div (a1 : Int) (b1 : Int) : Option (Int × Bool) :=
 if ((a1 == 0) && (b1 == 0)) then
  some (1, true)
 else
  (if (b1 == 0) then
   some (b1 == 0)
  else
   some ((a1 == (-9223372036854775808)) && (b1 == (-1)))).bind fun t1 =>
  if t1 then
   some (0, false)
  else
   (quoI .i64 a1 b1).bind fun q1 =>
   (remI a1 b1).bind fun q2 =>
   some (q1, (q2 == 0))
noncomputable def M.ints_power_L1 (a1 : Int) (b1 : Int) (s : Int × Bool × Int) : Option (Ctl (Int × Bool × Int) (Ctl (Int × Bool) (Int × Bool))) :=
 match s with
 | (c3, ok1, i1) =>
  if ((decide (i1 < b1)) && ok1) then
   (M.ints_mul c3 a1).bind fun (r1, r2) =>
   some (.next (r1, r2, (IntKind.i64.wrap (i1 + 1))))
  else
   some (.done (.next (c3, ok1)))
noncomputable def M.ints_power (a1 : Int) (b1 : Int) : Option (Int × Bool) :=
 if (b1 == 0) then
  some (1, true)
 else
  (if (a1 == 1) then
   some (a1 == 1)
  else
   some ((a1 == 0) && (decide (b1 > 0)))).bind fun t1 =>
  if t1 then
   some (a1, true)
  else
   if (a1 == (-1)) then
    some ((IntKind.i64.wrap (1 - (IntKind.i64.wrap (2 * (IntKind.i64.wrap (BitVec.ofInt IntKind.i64.bits b1 &&& BitVec.ofInt IntKind.i64.bits 1).toNat))))), true)
   else
    if ((decide (b1 < 0)) || (decide (b1 > 63))) then
     some (0, false)
    else
     (wloop (M.ints_power_L1 a1 b1) (a1, true, 1)).bind fun k => joinK k fun (c3, ok1) =>
     some (c3, ok1)
noncomputable def M.ints_residue (a1 : Int) (b1 : Int) : Option (Int × Bool) :=
 if (a1 == 0) then
  some (b1, true)
 else
  if (a1 == (-1)) then
   some (0, true)
  else
   (remI b1 a1).bind fun q1 =>
   (if ((q1 != 0) && (!((decide (q1 < 0)) == (decide (a1 < 0))))) then
    some (IntKind.i64.wrap (q1 + a1))
   else
    some q1).bind fun r1 =>
   some (r1, true)
noncomputable def M.math_bits_Len64 (x1 : Int) : Option (Int) :=
 (if (decide (x1 ≥ 4294967296)) then
  some ((Int.fdiv x1 (2 ^ (min (Int.toNat 32) IntKind.u64.bits))), 32)
 else
  some (x1, 0)).bind fun (x2, n1) =>
 (if (decide (x2 ≥ 65536)) then
  some ((Int.fdiv x2 (2 ^ (min (Int.toNat 16) IntKind.u64.bits))), (IntKind.i64.wrap (n1 + 16)))
 else
  some (x2, n1)).bind fun (x3, n2) =>
 (if (decide (x3 ≥ 256)) then
  some ((Int.fdiv x3 (2 ^ (min (Int.toNat 8) IntKind.u64.bits))), (IntKind.i64.wrap (n2 + 8)))
 else
  some (x3, n2)).bind fun (x4, n3) =>
 (sidx str_0_1_2_2_3_3_3_3_4_4_4_4_4_4_4_4_5_5_5_5_5_5_5_5_5_5_5_5_5_5_5_5_6_6_6_6_6_6_6_6_6_6_6_6_6_6_6_6_6_6_6_6_6_6_6_6_6_6_6_6_6_6_6_6_7_7_7_7_7_7_7_7_7_7_7_7_7_7_7_7_7_7_7_7_7_7_7_7_7_7_7_7_7_7_7_7_7_7_7_7_7_7_7_7_7_7_7_7_7_7_7_7_7_7_7_7_7_7_7_7_7_7_7_7_7_7_7_7_8_8_8_8_8_8_8_8_8_8_8_8_8_8_8_8_8_8_8_8_8_8_8_8_8_8_8_8_8_8_8_8_8_8_8_8_8_8_8_8_8_8_8_8_8_8_8_8_8_8_8_8_8_8_8_8_8_8_8_8_8_8_8_8_8_8_8_8_8_8_8_8_8_8_8_8_8_8_8_8_8_8_8_8_8_8_8_8_8_8_8_8_8_8_8_8_8_8_8_8_8_8_8_8_8_8_8_8_8_8_8_8_8_8_8_8_8_8_8_8_8_8_8_8_8_8_8_8 (IntKind.u8.wrap x4)).bind fun y1 =>
 some (IntKind.i64.wrap (n3 + (IntKind.i64.wrap y1)))
noncomputable def M.math_bits_LeadingZeros64 (x1 : Int) : Option (Int) :=
 (M.math_bits_Len64 x1).bind fun r1 =>
 some (IntKind.i64.wrap (64 - r1))
noncomputable def M.math_bits_Div64_L1 (q3 : Int) (q6 : Int) (s : Int × Int) : Option (Ctl (Int × Int) (Ctl (Int) (Int))) :=
 match s with
 | (q9, rhat1) =>
  if ((decide (q9 ≥ 4294967296)) || (decide ((IntKind.u64.wrap (q9 * (IntKind.u64.wrap (BitVec.ofInt IntKind.u64.bits q3 &&& BitVec.ofInt IntKind.u64.bits 4294967295).toNat))) > (IntKind.u64.wrap ((IntKind.u64.wrap (4294967296 * rhat1)) + (Int.fdiv q6 (2 ^ (min (Int.toNat 32) IntKind.u64.bits)))))))) then
   if (decide ((IntKind.u64.wrap (rhat1 + (Int.fdiv q3 (2 ^ (min (Int.toNat 32) IntKind.u64.bits))))) ≥ 4294967296)) then
    some (.done (.next (IntKind.u64.wrap (q9 - 1))))
   else
    some (.next ((IntKind.u64.wrap (q9 - 1)), (IntKind.u64.wrap (rhat1 + (Int.fdiv q3 (2 ^ (min (Int.toNat 32) IntKind.u64.bits)))))))
  else
   some (.done (.next q9))
noncomputable def M.math_bits_Div64_L2 (q3 : Int) (q6 : Int) (s : Int × Int) : Option (Ctl (Int × Int) (Ctl (Int) (Int))) :=
 match s with
 | (rhat2, q12) =>
  if ((decide (q12 ≥ 4294967296)) || (decide ((IntKind.u64.wrap (q12 * (IntKind.u64.wrap (BitVec.ofInt IntKind.u64.bits q3 &&& BitVec.ofInt IntKind.u64.bits 4294967295).toNat))) > (IntKind.u64.wrap ((IntKind.u64.wrap (4294967296 * rhat2)) + (IntKind.u64.wrap (BitVec.ofInt IntKind.u64.bits q6 &&& BitVec.ofInt IntKind.u64.bits 4294967295).toNat)))))) then
   if (decide ((IntKind.u64.wrap (rhat2 + (Int.fdiv q3 (2 ^ (min (Int.toNat 32) IntKind.u64.bits))))) ≥ 4294967296)) then
    some (.done (.next (IntKind.u64.wrap (q12 - 1))))
   else
    some (.next ((IntKind.u64.wrap (rhat2 + (Int.fdiv q3 (2 ^ (min (Int.toNat 32) IntKind.u64.bits))))), (IntKind.u64.wrap (q12 - 1))))
  else
   some (.done (.next q12))
noncomputable def M.math_bits_Div64 (hi1 : Int) (lo1 : Int) (y1 : Int) : Option (Int × Int) :=
 if (y1 == 0) then
  none
 else
  if (decide (y1 ≤ hi1)) then
   none
  else
   if (hi1 == 0) then
    (quoI .u64 lo1 y1).bind fun q1 =>
    (remI lo1 y1).bind fun q2 =>
    some (q1, q2)
   else
    (M.math_bits_LeadingZeros64 y1).bind fun r1 =>
    (shlI .u64 y1 (IntKind.u64.wrap r1)).bind fun q3 =>
    (shlI .u64 hi1 (IntKind.u64.wrap r1)).bind fun q4 =>
    (shrI .u64 lo1 (IntKind.u64.wrap (64 - (IntKind.u64.wrap r1)))).bind fun q5 =>
    (shlI .u64 lo1 (IntKind.u64.wrap r1)).bind fun q6 =>
    (quoI .u64 (IntKind.u64.wrap (BitVec.ofInt IntKind.u64.bits q4 ||| BitVec.ofInt IntKind.u64.bits q5).toNat) (Int.fdiv q3 (2 ^ (min (Int.toNat 32) IntKind.u64.bits)))).bind fun q7 =>
    ((wloop (M.math_bits_Div64_L1 q3 q6) (q7, (IntKind.u64.wrap ((IntKind.u64.wrap (BitVec.ofInt IntKind.u64.bits q4 ||| BitVec.ofInt IntKind.u64.bits q5).toNat) - (IntKind.u64.wrap (q7 * (Int.fdiv q3 (2 ^ (min (Int.toNat 32) IntKind.u64.bits))))))))).bind fun k => joinK k fun jx =>
    some jx).bind fun q8 =>
    (quoI .u64 (IntKind.u64.wrap ((IntKind.u64.wrap ((IntKind.u64.wrap ((IntKind.u64.wrap (BitVec.ofInt IntKind.u64.bits q4 ||| BitVec.ofInt IntKind.u64.bits q5).toNat) * 4294967296)) + (Int.fdiv q6 (2 ^ (min (Int.toNat 32) IntKind.u64.bits))))) - (IntKind.u64.wrap (q8 * q3)))) (Int.fdiv q3 (2 ^ (min (Int.toNat 32) IntKind.u64.bits)))).bind fun q10 =>
    ((wloop (M.math_bits_Div64_L2 q3 q6) ((IntKind.u64.wrap ((IntKind.u64.wrap ((IntKind.u64.wrap ((IntKind.u64.wrap ((IntKind.u64.wrap (BitVec.ofInt IntKind.u64.bits q4 ||| BitVec.ofInt IntKind.u64.bits q5).toNat) * 4294967296)) + (Int.fdiv q6 (2 ^ (min (Int.toNat 32) IntKind.u64.bits))))) - (IntKind.u64.wrap (q8 * q3)))) - (IntKind.u64.wrap (q10 * (Int.fdiv q3 (2 ^ (min (Int.toNat 32) IntKind.u64.bits))))))), q10)).bind fun k => joinK k fun jx =>
    some jx).bind fun q11 =>
    (shrI .u64 (IntKind.u64.wrap ((IntKind.u64.wrap ((IntKind.u64.wrap ((IntKind.u64.wrap ((IntKind.u64.wrap ((IntKind.u64.wrap ((IntKind.u64.wrap (BitVec.ofInt IntKind.u64.bits q4 ||| BitVec.ofInt IntKind.u64.bits q5).toNat) * 4294967296)) + (Int.fdiv q6 (2 ^ (min (Int.toNat 32) IntKind.u64.bits))))) - (IntKind.u64.wrap (q8 * q3)))) * 4294967296)) + (IntKind.u64.wrap (BitVec.ofInt IntKind.u64.bits q6 &&& BitVec.ofInt IntKind.u64.bits 4294967295).toNat))) - (IntKind.u64.wrap (q11 * q3)))) (IntKind.u64.wrap r1)).bind fun q13 =>
    some ((IntKind.u64.wrap ((IntKind.u64.wrap (q8 * 4294967296)) + q11)), q13)
noncomputable def M.ints_choose_L1 (a1 : Int) (b1 : Int) (s : Int × Int) : Option (Ctl (Int × Int) (Ctl (Int) (Int × Bool))) :=
 match s with
 | (c2, t1) =>
  if (decide (t1 < (IntKind.u64.wrap (if (IntKind.i64.wrap (b1 - a1)) < a1 then (IntKind.i64.wrap (b1 - a1)) else a1)))) then
   (M.math_bits_Mul64 c2 (IntKind.u64.wrap ((IntKind.u64.wrap b1) - t1))).bind fun (r1, r2) =>
   if (decide (r1 > t1)) then
    some (.done (.done (0, false)))
   else
    (M.math_bits_Div64 r1 r2 (IntKind.u64.wrap (t1 + 1))).bind fun (r3, r4) =>
    if (decide (r3 > 9223372036854775807)) then
     some (.done (.done (0, false)))
    else
     some (.next (r3, (IntKind.u64.wrap (t1 + 1))))
  else
   some (.done (.next c2))
noncomputable def M.ints_choose (a1 : Int) (b1 : Int) : Option (Int × Bool) :=
 if ((decide (a1 < 0)) || (decide (b1 < 0))) then
  some (0, false)
 else
  if (decide (a1 > b1)) then
   some (0, true)
  else
   (wloop (M.ints_choose_L1 a1 b1) (1, 0)).bind fun k => joinK k fun c2 =>
   some ((IntKind.i64.wrap c2), true)
noncomputable def M.ints_dyads_1 (a1 : Int) (b1 : Int) : Option (Int × Bool) :=
 some ((if a1 < b1 then b1 else a1), true)
noncomputable def M.ints_dyads_2 (a1 : Int) (b1 : Int) : Option (Int × Bool) :=
 some ((if b1 < a1 then b1 else a1), true)
noncomputable def M.ints_truth (b1 : Bool) : Option (Int × Bool) :=
 if b1 then
  some (1, true)
 else
  some (0, true)
noncomputable def M.ints_dyads_3 (a1 : Int) (b1 : Int) : Option (Int × Bool) :=
 (M.ints_truth (decide (a1 < b1))).bind fun (r1, r2) =>
 some (r1, r2)
noncomputable def M.ints_dyads_4 (a1 : Int) (b1 : Int) : Option (Int × Bool) :=
 (M.ints_truth (decide (a1 ≤ b1))).bind fun (r1, r2) =>
 some (r1, r2)
noncomputable def M.ints_dyads_5 (a1 : Int) (b1 : Int) : Option (Int × Bool) :=
 (M.ints_truth (a1 == b1)).bind fun (r1, r2) =>
 some (r1, r2)
noncomputable def M.ints_dyads_6 (a1 : Int) (b1 : Int) : Option (Int × Bool) :=
 (M.ints_truth (decide (a1 ≥ b1))).bind fun (r1, r2) =>
 some (r1, r2)
noncomputable def M.ints_dyads_7 (a1 : Int) (b1 : Int) : Option (Int × Bool) :=
 (M.ints_truth (decide (a1 > b1))).bind fun (r1, r2) =>
 some (r1, r2)
noncomputable def M.ints_dyads_8 (a1 : Int) (b1 : Int) : Option (Int × Bool) :=
 (M.ints_truth (a1 != b1)).bind fun (r1, r2) =>
 some (r1, r2)
noncomputable def M.ints_dyads_9 (a1 : Int) (b1 : Int) : Option (Int × Bool) :=
 (M.ints_bit a1).bind fun r1 =>
 (if r1 then
 (M.ints_bit b1).bind fun r2 =>
 some r2 else
 some false).bind fun c1 =>
 some ((IntKind.i64.wrap (BitVec.ofInt IntKind.i64.bits a1 &&& BitVec.ofInt IntKind.i64.bits b1).toNat), c1)
noncomputable def M.ints_dyads_10 (a1 : Int) (b1 : Int) : Option (Int × Bool) :=
 (M.ints_bit a1).bind fun r1 =>
 (if r1 then
 (M.ints_bit b1).bind fun r2 =>
 some r2 else
 some false).bind fun c1 =>
 some ((IntKind.i64.wrap (BitVec.ofInt IntKind.i64.bits a1 ||| BitVec.ofInt IntKind.i64.bits b1).toNat), c1)
noncomputable def M.ints_dyads_11 (a1 : Int) (b1 : Int) : Option (Int × Bool) :=
 (M.ints_bit a1).bind fun r1 =>
 (if r1 then
 (M.ints_bit b1).bind fun r2 =>
 some r2 else
 some false).bind fun c1 =>
 some ((IntKind.i64.wrap (1 - (IntKind.i64.wrap (BitVec.ofInt IntKind.i64.bits a1 &&& BitVec.ofInt IntKind.i64.bits b1).toNat))), c1)
noncomputable def M.ints_dyads_12 (a1 : Int) (b1 : Int) : Option (Int × Bool) :=
 (M.ints_bit a1).bind fun r1 =>
 (if r1 then
 (M.ints_bit b1).bind fun r2 =>
 some r2 else
 some false).bind fun c1 =>
 some ((IntKind.i64.wrap (1 - (IntKind.i64.wrap (BitVec.ofInt IntKind.i64.bits a1 ||| BitVec.ofInt IntKind.i64.bits b1).toNat))), c1)
noncomputable def M.ints_Dyad (fn1 : ByteArray) (a1 : Int) (b1 : Int) : Option (Int × Int) :=
 (M.ints_dyads).bind fun r1 =>
 if (fn1 == str_43) then
  (M.ints_add a1 b1).bind fun (r2, r3) =>
  (M.ints_told r2 r3).bind fun (r4, r5) =>
  some (r4, r5)
 else if (fn1 == str_45) then
  (M.ints_sub a1 b1).bind fun (r6, r7) =>
  (M.ints_told r6 r7).bind fun (r8, r9) =>
  some (r8, r9)
 else if (fn1 == str_195_151) then
  (M.ints_mul a1 b1).bind fun (r10, r11) =>
  (M.ints_told r10 r11).bind fun (r12, r13) =>
  some (r12, r13)
 else if (fn1 == str_195_183) then
  (M.ints_div a1 b1).bind fun (r14, r15) =>
  (M.ints_told r14 r15).bind fun (r16, r17) =>
  some (r16, r17)
 else if (fn1 == str_42) then
  (M.ints_power a1 b1).bind fun (r18, r19) =>
  (M.ints_told r18 r19).bind fun (r20, r21) =>
  some (r20, r21)
 else if (fn1 == str_124) then
  (M.ints_residue a1 b1).bind fun (r22, r23) =>
  (M.ints_told r22 r23).bind fun (r24, r25) =>
  some (r24, r25)
 else if (fn1 == str_33) then
  (M.ints_choose a1 b1).bind fun (r26, r27) =>
  (M.ints_told r26 r27).bind fun (r28, r29) =>
  some (r28, r29)
 else if (fn1 == str_226_140_136) then
  (M.ints_dyads_1 a1 b1).bind fun (r30, r31) =>
  (M.ints_told r30 r31).bind fun (r32, r33) =>
  some (r32, r33)
 else if (fn1 == str_226_140_138) then
  (M.ints_dyads_2 a1 b1).bind fun (r34, r35) =>
  (M.ints_told r34 r35).bind fun (r36, r37) =>
  some (r36, r37)
 else if (fn1 == str_60) then
  (M.ints_dyads_3 a1 b1).bind fun (r38, r39) =>
  (M.ints_told r38 r39).bind fun (r40, r41) =>
  some (r40, r41)
 else if (fn1 == str_226_137_164) then
  (M.ints_dyads_4 a1 b1).bind fun (r42, r43) =>
  (M.ints_told r42 r43).bind fun (r44, r45) =>
  some (r44, r45)
 else if (fn1 == str_61) then
  (M.ints_dyads_5 a1 b1).bind fun (r46, r47) =>
  (M.ints_told r46 r47).bind fun (r48, r49) =>
  some (r48, r49)
 else if (fn1 == str_226_137_165) then
  (M.ints_dyads_6 a1 b1).bind fun (r50, r51) =>
  (M.ints_told r50 r51).bind fun (r52, r53) =>
  some (r52, r53)
 else if (fn1 == str_62) then
  (M.ints_dyads_7 a1 b1).bind fun (r54, r55) =>
  (M.ints_told r54 r55).bind fun (r56, r57) =>
  some (r56, r57)
 else if (fn1 == str_226_137_160) then
  (M.ints_dyads_8 a1 b1).bind fun (r58, r59) =>
  (M.ints_told r58 r59).bind fun (r60, r61) =>
  some (r60, r61)
 else if (fn1 == str_226_136_167) then
  (M.ints_dyads_9 a1 b1).bind fun (r62, r63) =>
  (M.ints_told r62 r63).bind fun (r64, r65) =>
  some (r64, r65)
 else if (fn1 == str_226_136_168) then
  (M.ints_dyads_10 a1 b1).bind fun (r66, r67) =>
  (M.ints_told r66 r67).bind fun (r68, r69) =>
  some (r68, r69)
 else if (fn1 == str_226_141_178) then
  (M.ints_dyads_11 a1 b1).bind fun (r70, r71) =>
  (M.ints_told r70 r71).bind fun (r72, r73) =>
  some (r72, r73)
 else if (fn1 == str_226_141_177) then
  (M.ints_dyads_12 a1 b1).bind fun (r74, r75) =>
  (M.ints_told r74 r75).bind fun (r76, r77) =>
  some (r76, r77)
 else 
 some (0, 4)
noncomputable def M.scalar_at (v1 : Val) (k1 : Int) : Option (Int) :=
 if ((v1.Data.length : Int) == 1) then
  (idx v1.Data 0).bind fun y1 =>
  some y1
 else
  (idx v1.Data k1).bind fun y2 =>
  some y2
noncomputable def M.scalar_of (fn1 : ByteArray) (a1 : Val) (b1 : Val) (k1 : Int) : Option (Int × Int) :=
 if (!(a1.Char == b1.Char)) then
  (M.ints_Dyad fn1 0 1).bind fun (r1, r2) =>
  some (r1, r2)
 else
  (M.scalar_at a1 k1).bind fun r3 =>
  (M.scalar_at b1 k1).bind fun r4 =>
  (M.ints_Dyad fn1 r3 r4).bind fun (r5, r6) =>
  some (r5, r6)
noncomputable def M.scalar_Dyad_1 (k1 : Int) (x1 : ByteArray) (x2 : Val) (x3 : Val) : Option (Int × Int) :=
 (M.scalar_of x1 x2 x3 k1).bind fun (r1, r2) =>
 some (r1, r2)
noncomputable def M.scalar_Dyad (fn1 : ByteArray) (a1 : Val) (b1 : Val) : Option (Val × Int) :=
 (M.scalar_Is fn1).bind fun r1 =>
 if (!r1) then
  some ((Val.mk false ([]) ([])), 4)
 else
  (M.value_Right a1).bind fun r2 =>
  (if (!r2) then
  some true else
  (M.value_Right b1).bind fun r3 =>
  some (!r3)).bind fun c1 =>
  if c1 then
   some ((Val.mk false ([]) ([])), 1)
  else
   (M.scalar_alike a1 b1).bind fun (r4, r5, r6) =>
   if (r6 != 0) then
    some ((Val.mk false ([]) ([])), r6)
   else
    if (((a1.Char || b1.Char) && (!(fn1.toList == str_61.toList))) && (!(fn1.toList == str_226_137_160.toList))) then
     some ((Val.mk false ([]) ([])), 23)
    else
     (M.scalar_made r4 r5 (fun x0 => M.scalar_Dyad_1 x0 fn1 a1 b1)).bind fun (r7, r8) =>
     some (r7, r8)
noncomputable def M.anamnesisref06_like_L1 (a1 : (List Int)) (b1 : (List Int)) (s : Int) : Option (Ctl (Int) (Ctl (Unit) (Bool))) :=
 match s with
 | i1 =>
  if (decide (i1 < (a1.length : Int))) then
   (idx a1 i1).bind fun y1 =>
   (idx b1 i1).bind fun y2 =>
   if (y1 != y2) then
    some (.done (.done false))
   else
    some (.next (IntKind.i64.wrap (i1 + 1)))
  else
   some (.done (.next ()))
noncomputable def M.anamnesisref06_like (a1 : (List Int)) (b1 : (List Int)) : Option (Bool) :=
 if ((a1.length : Int) != (b1.length : Int)) then
  some false
 else
  (wloop (M.anamnesisref06_like_L1 a1 b1) 0).bind fun k => joinK k fun _ =>
  some true
noncomputable def M.anamnesisref01_times (a1 : Int) (b1 : Int) : Option (Int × Bool) :=
 if ((a1 == 0) || (b1 == 0)) then
  some (0, true)
 else
  if (((a1 == (-1)) && (b1 == (-9223372036854775808))) || ((b1 == (-1)) && (a1 == (-9223372036854775808)))) then
   some (0, false)
  else
   (quoI .i64 (IntKind.i64.wrap (a1 * b1)) a1).bind fun q1 =>
   if (q1 != b1) then
    some (0, false)
   else
    some ((IntKind.i64.wrap (a1 * b1)), true)
noncomputable def M.anamnesisref01_power_L1 (a1 : Int) (b1 : Int) (s : Int × Int) : Option (Ctl (Int × Int) (Ctl (Int) (Int × Bool))) :=
 match s with
 | (c2, i1) =>
  if (decide (i1 < b1)) then
   (M.anamnesisref01_times c2 a1).bind fun (r1, r2) =>
   if (!r2) then
    some (.done (.done (0, false)))
   else
    some (.next (r1, (IntKind.i64.wrap (i1 + 1))))
  else
   some (.done (.next c2))
noncomputable def M.anamnesisref01_power (a1 : Int) (b1 : Int) : Option (Int × Bool) :=
 if ((a1 == 0) || (a1 == 1)) then
  some (a1, true)
 else
  if (a1 == (-1)) then
   if ((Int.tmod b1 2) == 0) then
    some (1, true)
   else
    some ((-1), true)
  else
   (wloop (M.anamnesisref01_power_L1 a1 b1) (1, 0)).bind fun k => joinK k fun c2 =>
   some (c2, true)
noncomputable def M.anamnesisref01_gcd_L1 (s : Int × Int) : Option (Ctl (Int × Int) (Ctl (Int) (Int))) :=
 match s with
 | (a2, b2) =>
  if (decide (b2 > 0)) then
   (remI a2 b2).bind fun q1 =>
   some (.next (b2, q1))
  else
   some (.done (.next a2))
noncomputable def M.anamnesisref01_gcd (a1 : Int) (b1 : Int) : Option (Int) :=
 (wloop (M.anamnesisref01_gcd_L1) (a1, b1)).bind fun k => joinK k fun a2 =>
 some a2
noncomputable def M.anamnesisref01_choose_L1 (b1 : Int) (n1 : Int) (s : Int × Int) : Option (Ctl (Int × Int) (Ctl (Int) (Int × Bool))) :=
 match s with
 | (c1, i1) =>
  if (decide (i1 < n1)) then
   (M.anamnesisref01_gcd c1 (IntKind.i64.wrap (i1 + 1))).bind fun r1 =>
   (quoI .i64 c1 r1).bind fun q1 =>
   (quoI .i64 (IntKind.i64.wrap (i1 + 1)) r1).bind fun q2 =>
   (quoI .i64 (IntKind.i64.wrap (b1 - i1)) q2).bind fun q3 =>
   (M.anamnesisref01_times q1 q3).bind fun (r2, r3) =>
   if (!r3) then
    some (.done (.done (0, false)))
   else
    some (.next (r2, (IntKind.i64.wrap (i1 + 1))))
  else
   some (.done (.next c1))
noncomputable def M.anamnesisref01_choose (a1 : Int) (b1 : Int) : Option (Int × Bool) :=
 if (decide (a1 > b1)) then
  some (0, true)
 else
  (if (decide ((IntKind.i64.wrap (b1 - a1)) < a1)) then
   some (IntKind.i64.wrap (b1 - a1))
  else
   some a1).bind fun n1 =>
  (wloop (M.anamnesisref01_choose_L1 b1 n1) (1, 0)).bind fun k => joinK k fun c1 =>
  some (c1, true)
noncomputable def M.anamnesisref01_logic (fn1 : ByteArray) (a1 : Int) (b1 : Int) : Option (Int × Bool) :=
 if (((a1 != 0) && (a1 != 1)) || ((b1 != 0) && (b1 != 1))) then
  some (0, false)
 else
  if (fn1.toList == str_226_136_167.toList) then
   some ((IntKind.i64.wrap (a1 * b1)), true)
  else
   if (fn1.toList == str_226_136_168.toList) then
    some ((IntKind.i64.wrap ((IntKind.i64.wrap (a1 + b1)) - (IntKind.i64.wrap (a1 * b1)))), true)
   else
    if (fn1.toList == str_226_141_178.toList) then
     some ((IntKind.i64.wrap (1 - (IntKind.i64.wrap (a1 * b1)))), true)
    else
     some ((IntKind.i64.wrap (1 - (IntKind.i64.wrap ((IntKind.i64.wrap (a1 + b1)) - (IntKind.i64.wrap (a1 * b1)))))), true)
noncomputable def M.anamnesisref01_Dyad (fn1 : ByteArray) (a1 : Int) (b1 : Int) : Option (Int × Bool) :=
 if (fn1.toList == str_43.toList) then
  if (((decide (b1 > 0)) && (decide (a1 > (IntKind.i64.wrap (9223372036854775807 - b1))))) || ((decide (b1 < 0)) && (decide (a1 < (IntKind.i64.wrap ((-9223372036854775808) - b1)))))) then
   some (0, false)
  else
   some ((IntKind.i64.wrap (a1 + b1)), true)
 else
  if (fn1.toList == str_45.toList) then
   if (((decide (b1 < 0)) && (decide (a1 > (IntKind.i64.wrap (9223372036854775807 + b1))))) || ((decide (b1 > 0)) && (decide (a1 < (IntKind.i64.wrap ((-9223372036854775808) + b1)))))) then
    some (0, false)
   else
    some ((IntKind.i64.wrap (a1 - b1)), true)
  else
   if (fn1.toList == str_195_151.toList) then
    (M.anamnesisref01_times a1 b1).bind fun (r1, r2) =>
    some (r1, r2)
   else
    if (fn1.toList == str_195_183.toList) then
     if ((a1 == 0) && (b1 == 0)) then
      some (1, true)
     else
      (if ((b1 == 0) || ((a1 == (-9223372036854775808)) && (b1 == (-1)))) then
      some true else
      (remI a1 b1).bind fun q1 =>
      some (q1 != 0)).bind fun c10 =>
      if c10 then
       some (0, false)
      else
       (quoI .i64 a1 b1).bind fun q2 =>
       some (q2, true)
    else
     if (fn1.toList == str_42.toList) then
      if (b1 == 0) then
       some (1, true)
      else
       if (decide (b1 > 0)) then
        (M.anamnesisref01_power a1 b1).bind fun (r3, r4) =>
        some (r3, r4)
       else
        if ((a1 == 1) || (a1 == (-1))) then
         (M.anamnesisref01_power a1 (IntKind.i64.wrap (2 - (Int.tmod b1 2)))).bind fun (r5, r6) =>
         some (r5, r6)
        else
         some (0, false)
     else
      if (fn1.toList == str_124.toList) then
       if (a1 == 0) then
        some (b1, true)
       else
        if ((a1 == (-1)) || (a1 == 1)) then
         some (0, true)
        else
         (remI b1 a1).bind fun q3 =>
         (if (((decide (q3 < 0)) && (decide (a1 > 0))) || ((decide (q3 > 0)) && (decide (a1 < 0)))) then
          some (IntKind.i64.wrap (q3 + a1))
         else
          some q3).bind fun r7 =>
         some (r7, true)
      else
       if (fn1.toList == str_33.toList) then
        if ((decide (a1 < 0)) || (decide (b1 < 0))) then
         some (0, false)
        else
         (M.anamnesisref01_choose a1 b1).bind fun (r8, r9) =>
         some (r8, r9)
       else
        if (fn1.toList == str_226_140_136.toList) then
         if (decide (a1 > b1)) then
          some (a1, true)
         else
          some (b1, true)
        else
         if (fn1.toList == str_226_140_138.toList) then
          if (decide (a1 < b1)) then
           some (a1, true)
          else
           some (b1, true)
         else
          if (fn1.toList == str_60.toList) then
           (M.anamnesisref01_truth (decide (a1 < b1))).bind fun r10 =>
           some (r10, true)
          else
           if (fn1.toList == str_226_137_164.toList) then
            (M.anamnesisref01_truth (decide (a1 ≤ b1))).bind fun r11 =>
            some (r11, true)
           else
            if (fn1.toList == str_61.toList) then
             (M.anamnesisref01_truth (a1 == b1)).bind fun r12 =>
             some (r12, true)
            else
             if (fn1.toList == str_226_137_165.toList) then
              (M.anamnesisref01_truth (decide (a1 ≥ b1))).bind fun r13 =>
              some (r13, true)
             else
              if (fn1.toList == str_62.toList) then
               (M.anamnesisref01_truth (decide (a1 > b1))).bind fun r14 =>
               some (r14, true)
              else
               if (fn1.toList == str_226_137_160.toList) then
                (M.anamnesisref01_truth (a1 != b1)).bind fun r15 =>
                some (r15, true)
               else
                (M.anamnesisref01_logic fn1 a1 b1).bind fun (r16, r17) =>
                some (r16, r17)
noncomputable def M.anamnesisref06_Dyad_L1 (fn1 : ByteArray) (a1 : Val) (b1 : Val) (n1 : Int) (s : Int × (List Int)) : Option (Ctl (Int × (List Int)) (Ctl ((List Int)) (Val × Int))) :=
 match s with
 | (i1, Data1) =>
  if (decide (i1 < n1)) then
   (remI i1 (a1.Data.length : Int)).bind fun q1 =>
   (idx a1.Data q1).bind fun y1 =>
   (remI i1 (b1.Data.length : Int)).bind fun q2 =>
   (idx b1.Data q2).bind fun y2 =>
   (if (!(a1.Char == b1.Char)) then
    some (0, 1)
   else
    some (y1, y2)).bind fun (x1, y3) =>
   (M.anamnesisref01_Dyad fn1 x1 y3).bind fun (r6, r7) =>
   if (!r7) then
    some (.done (.done ((Val.mk false ([]) ([])), 23)))
   else
    (app 8 Data1 ([r6])).bind fun l2 =>
    some (.next ((IntKind.i64.wrap (i1 + 1)), l2))
  else
   some (.done (.next Data1))
noncomputable def M.anamnesisref06_Dyad (fn1 : ByteArray) (a1 : Val) (b1 : Val) : Option (Val × Int) :=
 (M.anamnesisref01_Dyads).bind fun r1 =>
 (M.anamnesisref01_In r1 fn1).bind fun r2 =>
 if (!r2) then
  some ((Val.mk false ([]) ([])), 4)
 else
  (M.anamnesisref06_Right a1).bind fun r3 =>
  (if (!r3) then
  some true else
  (M.anamnesisref06_Right b1).bind fun r4 =>
  some (!r4)).bind fun c1 =>
  if c1 then
   some ((Val.mk false ([]) ([])), 1)
  else
   (if (((a1.Data.length : Int) == 1) && ((b1.Data.length : Int) == 1)) then
    if (decide ((b1.Shape.length : Int) > (a1.Shape.length : Int))) then
     some (.next (b1.Shape, 1))
    else
     some (.next (a1.Shape, 1))
   else
    if ((a1.Data.length : Int) == 1) then
     some (.next (b1.Shape, (b1.Data.length : Int)))
    else
     (if ((b1.Data.length : Int) == 1) then
     some true else
     (M.anamnesisref06_like a1.Shape b1.Shape).bind fun r5 =>
     some r5).bind fun c3 =>
     if c3 then
      some (.next (a1.Shape, (a1.Data.length : Int)))
     else
      if ((a1.Shape.length : Int) != (b1.Shape.length : Int)) then
       some (.done ((Val.mk false ([]) ([])), 24))
      else
       some (.done ((Val.mk false ([]) ([])), 25))).bind fun k => joinK k fun (s1, n1) =>
   if ((a1.Char || b1.Char) && (!((fn1.toList == str_61.toList) || (fn1.toList == str_226_137_160.toList)))) then
    some ((Val.mk false ([]) ([])), 23)
   else
    (app 8 ([] : List Int) s1).bind fun l1 =>
    (wloop (M.anamnesisref06_Dyad_L1 fn1 a1 b1 n1) (0, [])).bind fun k => joinK k fun Data1 =>
    some ((Val.mk false l1 Data1), 0)
noncomputable def M.anamnesisref06_Same_L2 (a1 : Val) (b1 : Val) (s : Int) : Option (Ctl (Int) (Ctl (Unit) (Bool))) :=
 match s with
 | i2 =>
  if (decide (i2 < (a1.Data.length : Int))) then
   (idx a1.Data i2).bind fun y3 =>
   (idx b1.Data i2).bind fun y4 =>
   if (y3 != y4) then
    some (.done (.done false))
   else
    some (.next (IntKind.i64.wrap (i2 + 1)))
  else
   some (.done (.next ()))
noncomputable def M.anamnesisref06_Same_L1 (a1 : Val) (b1 : Val) (s : Int) : Option (Ctl (Int) (Ctl (Unit) (Bool))) :=
 match s with
 | i1 =>
  if (decide (i1 < (a1.Shape.length : Int))) then
   (idx a1.Shape i1).bind fun y1 =>
   (idx b1.Shape i1).bind fun y2 =>
   if (y1 != y2) then
    some (.done (.done false))
   else
    some (.next (IntKind.i64.wrap (i1 + 1)))
  else
   some (.done (.next ()))
noncomputable def M.anamnesisref06_Same (a1 : Val) (b1 : Val) : Option (Bool) :=
 if (((!(a1.Char == b1.Char)) || ((a1.Shape.length : Int) != (b1.Shape.length : Int))) || ((a1.Data.length : Int) != (b1.Data.length : Int))) then
  some false
 else
  (wloop (M.anamnesisref06_Same_L1 a1 b1) 0).bind fun k => joinK k fun _ =>
  (wloop (M.anamnesisref06_Same_L2 a1 b1) 0).bind fun k => joinK k fun _ =>
  some true
noncomputable def M.anamnesislaw06_ScalarTells_L4 (b1 : Val) (l3 : List Int) (s : Int) : Option (Ctl (Int) (Ctl (Unit) (Bool))) :=
 match s with
 | i4 =>
  if (decide (i4 < (l3.length : Int))) then
   (idx l3 i4).bind fun y6 =>
   (idx b1.Data i4).bind fun y7 =>
   if (y6 != y7) then
    some (.done (.done false))
   else
    some (.next (IntKind.i64.wrap (i4 + 1)))
  else
   some (.done (.next ()))
noncomputable def M.anamnesislaw06_ScalarTells_L3 (a1 : Val) (l2 : List Int) (s : Int) : Option (Ctl (Int) (Ctl (Unit) (Bool))) :=
 match s with
 | i3 =>
  if (decide (i3 < (l2.length : Int))) then
   (idx l2 i3).bind fun y4 =>
   (idx a1.Data i3).bind fun y5 =>
   if (y4 != y5) then
    some (.done (.done false))
   else
    some (.next (IntKind.i64.wrap (i3 + 1)))
  else
   some (.done (.next ()))
noncomputable def M.anamnesislaw06_ScalarTells_L2 (s : Int × (List Int)) : Option (Ctl (Int × (List Int)) (Ctl (Unit) (Bool))) :=
 match s with
 | (i2, l6) =>
  if (decide (i2 < (l6.length : Int))) then
   (idx l6 i2).bind fun y3 =>
   (upd l6 i2 9).bind fun l7 =>
   some (.next ((IntKind.i64.wrap (i2 + 1)), l7))
  else
   some (.done (.next ()))
noncomputable def M.anamnesislaw06_ScalarTells_L1 (s : Int × (List Int)) : Option (Ctl (Int × (List Int)) (Ctl (Unit) (Bool))) :=
 match s with
 | (i1, l4) =>
  if (decide (i1 < (l4.length : Int))) then
   (idx l4 i1).bind fun y2 =>
   (upd l4 i1 7).bind fun l5 =>
   some (.next ((IntKind.i64.wrap (i1 + 1)), l5))
  else
   some (.done (.next ()))
noncomputable def M.anamnesislaw06_ScalarTells (which1 : Int) (other1 : ByteArray) (a1 : Val) (b1 : Val) : Option (Bool) :=
 (M.anamnesislaw06_Great a1).bind fun r1 =>
 (if r1 then
 some true else
 (M.anamnesislaw06_Great b1).bind fun r2 =>
 some r2).bind fun c1 =>
 if c1 then
  some true
 else
  (M.anamnesisref01_Dyads).bind fun r3 =>
  (app 16 r3 ([str_126, other1])).bind fun l1 =>
  (remI (IntKind.i64.wrap which1) (l1.length : Int)).bind fun q1 =>
  (idx l1 q1).bind fun y1 =>
  (app 8 ([] : List Int) a1.Data).bind fun l2 =>
  (app 8 ([] : List Int) b1.Data).bind fun l3 =>
  (M.scalar_Monad y1 b1).bind fun (r4, r5) =>
  (M.anamnesisref06_Monad y1 b1).bind fun (r6, r7) =>
  (M.scalar_Dyad y1 a1 b1).bind fun (r8, r9) =>
  (M.anamnesisref06_Dyad y1 a1 b1).bind fun (r10, r11) =>
  (if ((r5 != r7) || (r9 != r11)) then
  some true else
  (M.anamnesisref06_Same r4 r6).bind fun r12 =>
  some (!r12)).bind fun c3 =>
  (if c3 then
  some true else
  (M.anamnesisref06_Same r8 r10).bind fun r13 =>
  some (!r13)).bind fun c4 =>
  (if c4 then
  some true else
  (M.scalar_Is y1).bind fun r14 =>
  (M.anamnesisref01_Dyads).bind fun r15 =>
  (M.anamnesisref01_In r15 y1).bind fun r16 =>
  some (!(r14 == r16))).bind fun c5 =>
  if c5 then
   some false
  else
   (wloop (M.anamnesislaw06_ScalarTells_L1) (0, r4.Data)).bind fun k => joinK k fun _ =>
   (wloop (M.anamnesislaw06_ScalarTells_L2) (0, r8.Data)).bind fun k => joinK k fun _ =>
   (wloop (M.anamnesislaw06_ScalarTells_L3 a1 l2) 0).bind fun k => joinK k fun _ =>
   (wloop (M.anamnesislaw06_ScalarTells_L4 b1 l3) 0).bind fun k => joinK k fun _ =>
   some true
theorem w64_id {x : Int} (h1 : -9223372036854775808 ≤ x) (h2 : x ≤ 9223372036854775807) : IntKind.i64.wrap x = x := wrap_id h1 h2
theorem u8_mod (x : Int) : IntKind.u8.wrap x = x % 256 := by simp [IntKind.wrap, IntKind.bits, IntKind.signed]
theorem u8_id {x : Int} (h1 : 0 ≤ x) (h2 : x ≤ 255) : IntKind.u8.wrap x = x := by rw [u8_mod]; omega
theorem u32_id {x : Int} (h1 : 0 ≤ x) (h2 : x ≤ 1114111) : IntKind.u32.wrap x = x := by
 have : IntKind.u32.wrap x = x % 4294967296 := by simp [IntKind.wrap, IntKind.bits, IntKind.signed]
 rw [this]; omega
/-- A loop comes to an end in a state with Q: P holds ahead of each round, and its number falls. -/
theorem wloop_ind {σ β : Type} {f : σ → Option (Ctl σ β)} (P : Nat → σ → Prop) (Q : β → Prop)
  (h : ∀ n s, P n s → (∃ s' n', f s = some (.next s') ∧ n' < n ∧ P n' s') ∨ (∃ b, f s = some (.done b) ∧ Q b)) : ∀ n s, P n s → ∃ b, wloop f s = some b ∧ Q b := by
 intro n
 induction n using Nat.strongRecOn with
 | _ n ih =>
  intro s hp
  rcases h n s hp with ⟨s', n', hf, hn, hp'⟩ | ⟨b, hf, hq⟩
  ·obtain ⟨b, hb, hq⟩ := ih n' hn s' hp'
   exact ⟨b, by rw [wloop_next hf]; exact hb, hq⟩
  ·exact ⟨b, wloop_done hf, hq⟩
theorem idx_nat {α : Type} (l : List α) (k : Nat) : idx l (k : Int) = l[k]? := by
 unfold idx; rw [if_pos (by omega)]; rfl
theorem idx_get {α : Type} {l : List α} {k : Nat} (h : k < l.length) : idx l (k : Int) = some l[k] := by rw [idx_nat, List.getElem?_eq_getElem h]
theorem upd_nat {α : Type} {l : List α} {k : Nat} {x : α} (h : k < l.length) : upd l (k : Int) x = some (l.set k x) := by
 unfold upd; rw [if_pos ⟨by omega, by omega⟩]; rfl
theorem app_ok {α : Type} {b : Nat} {l m : List α} (h : (l.length + m.length) * b ≤ 140737488355328) : app b l m = some (l ++ m) := by
 unfold app; rw [if_pos (.inr h)]
theorem mk_ok {α : Type} {b : Nat} {z : α} {n : Nat} (h : b * n ≤ 140737488355328) (h' : n ≤ 140737488355328) : mk b z (n : Int) (n : Int) = some (List.replicate n z) := by
 unfold mk
 have : ((b : Int) * (n : Int)) ≤ 140737488355328 := by
  have h2 : ((b * n : Nat) : Int) ≤ 140737488355328 := by omega
  rwa [Int.natCast_mul] at h2
 rw [if_pos ⟨by omega, by omega, this, by omega⟩]; rfl
/-- the numbers that a kind has. -/
theorem wf64 {n : Int} (h : (Lit.int .i64 n).wf = true) : -9223372036854775808 ≤ n ∧ n ≤ 9223372036854775807 := by
 have h2 : (decide (IntKind.i64.min ≤ n) && decide (n ≤ IntKind.i64.max)) = true := h
 have e1 : IntKind.i64.min = -9223372036854775808 := by decide
 have e2 : IntKind.i64.max = 9223372036854775807 := by decide
 rw [e1, e2] at h2
 simpa using h2
theorem sub_drop {α : Type} {l : List α} {k : Nat} (h : k ≤ l.length) : sub l (k : Int) (l.length : Int) = some (l.drop k) := by
 unfold sub
 rw [if_pos ⟨by omega, by omega, by omega⟩]
 simp
theorem drop_cons {α : Type} {l : List α} {k : Nat} (h : k < l.length) : l.drop k = l[k] :: l.drop (k + 1) := List.drop_eq_getElem_cons h
theorem same_loop {f : Int → Option (Ctl Int (Ctl Unit Bool))} {a b : List Int} (hl : a.length = b.length) (hm : a.length ≤ maxLen)
  (hf : ∀ k : Nat, ∀ h : k < a.length, f k = if a[k] = b[k]'(hl ▸ h) then some (.next ((k : Int) + 1)) else some (.done (.done false))) (he : f a.length = some (.done (.next ()))) :
  wloop f 0 = some (if a = b then .next () else .done false) := by
 have key := wloop_ind (f := f) (fun n i => ∃ k : Nat, i = k ∧ k ≤ a.length ∧ n = a.length - k ∧ a.take k = b.take k)
  (fun c => (c = .done false ∧ a ≠ b) ∨ (c = .next () ∧ a = b)) (fun n i h => by
   obtain ⟨k, rfl, hk, rfl, hn⟩ := h
   by_cases hlt : k < a.length
   ·rw [hf k hlt]
    by_cases he : a[k] = b[k]
    ·rw [if_pos he]
     left
     refine ⟨_, a.length - (k + 1), rfl, by omega, k + 1, by omega, by omega, rfl, ?_⟩
     rw [List.take_succ_eq_append_getElem hlt, List.take_succ_eq_append_getElem (by omega), hn, he]
    ·rw [if_neg he]
     right
     refine ⟨_, rfl, .inl ⟨rfl, fun h => he ?_⟩⟩
     subst h; rfl
   ·have : k = a.length := by omega
    subst this
    right
    refine ⟨_, he, .inr ⟨rfl, ?_⟩⟩
    rw [List.take_length, hl, List.take_length] at hn
    exact hn) a.length 0 ⟨0, rfl, by omega, by omega, by simp⟩
 obtain ⟨c, hc, ⟨rfl, h⟩ | ⟨rfl, h⟩⟩ := key
 ·rw [hc]; simp [h]
 ·rw [hc]; simp [h]

theorem same_step {f : Int → Option (Ctl Int (Ctl Unit Bool))} {a b : List Int} (hl : a.length = b.length) (hm : a.length ≤ maxLen)
  (hf : ∀ k : Nat, ∀ h : k < a.length, f k = if a[k] = b[k]'(hl ▸ h) then some (.next ((k : Int) + 1)) else some (.done (.done false))) (he : f a.length = some (.done (.next ()))) :
  (wloop f 0).bind (fun k => joinK k fun _ => some true) = some (decide (a = b)) := by
 rw [same_loop hl hm hf he]
 by_cases h : a = b
 ·rw [if_pos h, decide_eq_true h]; rfl
 ·rw [if_neg h, decide_eq_false h]; rfl
/-- a loop that counts up. -/
theorem loop_up {S τ β : Type} {f : S → Option (Ctl S β)} (st : Nat → τ → S) (n : Nat) (I : Nat → τ → Prop) (out : τ → β) (a : τ) (h0 : I 0 a)
  (hf : ∀ k m, k < n → I k m → ∃ m', f (st k m) = some (.next (st (k + 1) m')) ∧ I (k + 1) m') (he : ∀ m, I n m → f (st n m) = some (.done (out m))) :
  ∃ m, I n m ∧ wloop f (st 0 a) = some (out m) := by
 have key := wloop_ind (f := f) (fun j s => ∃ k m, s = st k m ∧ j = n - k ∧ k ≤ n ∧ I k m) (fun b => ∃ m, b = out m ∧ I n m) (fun j s h => by
  obtain ⟨k, m, rfl, rfl, hk, hi⟩ := h
  by_cases hlt : k < n
  ·left
   obtain ⟨m', h1, h2⟩ := hf k m hlt hi
   exact ⟨_, n - (k + 1), h1, by omega, k + 1, m', rfl, rfl, by omega, h2⟩
  ·have : k = n := by omega
   subst this
   exact .inr ⟨_, he m hi, m, rfl, hi⟩) n (st 0 a) ⟨0, a, rfl, by omega, by omega, h0⟩
 obtain ⟨b, hb, m, rfl, hi⟩ := key
 exact ⟨m, hi, hb⟩
/-- a loop that counts up, each of whose states is told. -/
theorem loop_fun {S β : Type} {f : S → Option (Ctl S β)} (st : Nat → S) (n : Nat) {b : β} (hf : ∀ k, k < n → f (st k) = some (.next (st (k + 1)))) (he : f (st n) = some (.done b)) : wloop f (st 0) = some b := by
 obtain ⟨_, _, h⟩ := loop_up (f := f) (fun k (_ : Unit) => st k) n (fun _ _ => True) (fun _ => b) () trivial (fun k m hk _ => ⟨(), hf k hk, trivial⟩) (fun m _ => he)
 exact h
theorem lin_lt {i k R C : Nat} (h : i < R) (hk : k < C) : i * C + k < R * C := by
 have := Nat.mul_le_mul_right C (show i + 1 ≤ R from h)
 rw [Nat.succ_mul] at this; omega
theorem lin_inj {i k i' k' C : Nat} (hk : k < C) (hk' : k' < C) (h : i * C + k = i' * C + k') : i = i' ∧ k = k' := by
 have hc : 0 < C := by omega
 have e : ∀ (a b : Nat), b < C → (a * C + b) / C = a := fun a b hb => by
  rw [Nat.mul_comm, Nat.mul_add_div hc, Nat.div_eq_of_lt hb, Nat.add_zero]
 have h1 := e i k hk
 rw [h, e i' k' hk'] at h1
 subst h1; omega
/-- a matrix, row by row. -/
def tab (R C : Nat) (f : Nat → Nat → Int) : List Int := (List.range (R * C)).map fun p => f (p / C) (p % C)
theorem tab_len (R C : Nat) (f : Nat → Nat → Int) : (tab R C f).length = R * C := by simp [tab]
theorem tab_get {R C i k : Nat} (f : Nat → Nat → Int) (hi : i < R) (hk : k < C) : (tab R C f)[i * C + k]? = some (f i k) := by
 have hc : 0 < C := by omega
 unfold tab
 rw [List.getElem?_map, List.getElem?_range (lin_lt hi hk)]
 show some (f ((i * C + k) / C) ((i * C + k) % C)) = _
 rw [Nat.mul_comm, Nat.mul_add_div hc, Nat.div_eq_of_lt hk, Nat.mul_add_mod, Nat.mod_eq_of_lt hk, Nat.add_zero]
theorem tab_ext {R C : Nat} {f : Nat → Nat → Int} {l : List Int} (hl : l.length = R * C) (h : ∀ i k, i < R → k < C → l[i * C + k]? = some (f i k)) : l = tab R C f := by
 apply List.ext_getElem?
 intro p
 by_cases hp : p < R * C
 ·have hc : 0 < C := by
   rcases Nat.eq_zero_or_pos C with h | h
   ·subst h; simp at hp
   ·exact h
  have h1 : p / C < R := by rw [Nat.div_lt_iff_lt_mul hc]; exact hp
  have h2 : p % C < C := Nat.mod_lt _ hc
  have e : p / C * C + p % C = p := by rw [Nat.mul_comm]; exact Nat.div_add_mod p C
  have a := h _ _ h1 h2
  have b := tab_get f h1 h2
  rw [e] at a b
  rw [a, b]
 ·rw [List.getElem?_eq_none (by omega), List.getElem?_eq_none (by rw [tab_len]; omega)]
/-- a loop that counts up, and may end ahead of time. -/
theorem loop_find {S β : Type} {f : S → Option (Ctl S β)} (st : Nat → S) (n : Nat) (bad : Nat → Bool) (b : Nat → β) {c : β}
  (hf : ∀ k, k < n → f (st k) = if bad k then some (.done (b k)) else some (.next (st (k + 1)))) (he : f (st n) = some (.done c)) :
  (∃ k, k < n ∧ bad k = true ∧ (∀ j, j < k → bad j = false) ∧ wloop f (st 0) = some (b k)) ∨ ((∀ k, k < n → bad k = false) ∧ wloop f (st 0) = some c) := by
 obtain ⟨r, hr, hq⟩ := wloop_ind (f := f) (fun m s => ∃ k, s = st k ∧ m = n - k ∧ k ≤ n ∧ ∀ j, j < k → bad j = false)
  (fun r => (∃ k, k < n ∧ bad k = true ∧ (∀ j, j < k → bad j = false) ∧ r = b k) ∨ ((∀ k, k < n → bad k = false) ∧ r = c)) (fun m s h => by
   obtain ⟨k, rfl, rfl, hk, hj⟩ := h
   by_cases hlt : k < n
   ·have := hf k hlt
    cases hb : bad k
    ·rw [hb] at this
     refine .inl ⟨_, n - (k + 1), this, by omega, k + 1, rfl, rfl, by omega, fun j hj' => ?_⟩
     by_cases he : j = k
     ·subst he; exact hb
     ·exact hj j (by omega)
    ·rw [hb] at this
     exact .inr ⟨_, this, .inl ⟨k, hlt, hb, hj, rfl⟩⟩
   ·have : k = n := by omega
    subst this
    exact .inr ⟨_, he, .inr ⟨hj, rfl⟩⟩) n (st 0) ⟨0, rfl, by omega, by omega, fun j h => by omega⟩
 rcases hq with ⟨k, h1, h2, h3, rfl⟩ | ⟨h1, rfl⟩
 ·exact .inl ⟨k, h1, h2, h3, hr⟩
 ·exact .inr ⟨h1, hr⟩
theorem contains_int64 {s : List Int} {f : Int → Option Bool} {g : Int → Bool} (hf : ∀ x ∈ s, f x = some (g x)) (hl : s.length ≤ 9223372036854775807) : M.slices_ContainsFunc__int64 s f = some (s.any g) := by
 have key := wloop_ind (f := M.slices_IndexFunc__int64_L1 s f) (fun n i => ∃ k : Nat, i = k ∧ k ≤ s.length ∧ n = s.length - k ∧ (s.take k).any g = false)
  (fun b => (∃ i : Int, b = .done i ∧ 0 ≤ i ∧ s.any g = true) ∨ (b = .next () ∧ s.any g = false)) (fun n i h => by
   obtain ⟨k, rfl, hk, rfl, hn⟩ := h
   unfold M.slices_IndexFunc__int64_L1
   by_cases hlt : k < s.length
   ·simp only [show decide ((k : Int) < (s.length : Int)) = true from by simp; exact hlt, if_true, idx_get hlt, Option.bind_some, hf _ (List.getElem_mem hlt)]
    cases hg : g s[k] with
    | true =>
     right
     refine ⟨_, rfl, .inl ⟨_, rfl, by omega, ?_⟩⟩
     rw [List.any_eq_true]
     exact ⟨_, List.getElem_mem hlt, hg⟩
    | false =>
     left
     refine ⟨_, s.length - (k + 1), rfl, by omega, k + 1, ?_, by omega, rfl, ?_⟩
     ·rw [w64_id (by omega) (by omega)]; omega
     ·rw [List.take_succ_eq_append_getElem hlt, List.any_append, hn]; simp [hg]
   ·have : k = s.length := by omega
    subst this
    right
    simp only [show decide ((s.length : Int) < (s.length : Int)) = false from by simp, Bool.false_eq_true, if_false]
    exact ⟨_, rfl, .inr ⟨rfl, by simpa using hn⟩⟩) s.length 0 ⟨0, rfl, by omega, by omega, by simp⟩
 unfold M.slices_ContainsFunc__int64 M.slices_IndexFunc__int64
 obtain ⟨b, hb, ⟨i, rfl, h0, ha⟩ | ⟨rfl, ha⟩⟩ := key
 ·rw [hb, ha]; simp [h0]
 ·rw [hb, ha]; simp
def prod : List Int → Int
 | [] => 1
 | x :: s => x * prod s
def off : List Int → List Int → Int
 | x :: s, a :: at_ => a * prod s + off s at_
 | _, _ => 0
def dig : List Int → Int → List Int
 | [], _ => []
 | _ :: s, k => k / prod s :: dig s (k % prod s)
/-- is a place in a shape? -/
def inShape : List Int → List Int → Prop
 | [], [] => True
 | x :: s, a :: at_ => 0 ≤ a ∧ a < x ∧ inShape s at_
 | _, _ => False
instance : (s at_ : List Int) → Decidable (inShape s at_)
 | [], [] => isTrue trivial
 | x :: s, a :: at_ =>
  have := instDecidableInShape s at_
  by unfold inShape; exact inferInstance
 | [], _ :: _ => isFalse (fun h => h)
 | _ :: _, [] => isFalse (fun h => h)
theorem inShape.len : ∀ {s at_ : List Int}, inShape s at_ → at_.length = s.length
 | [], [], _ => rfl
 | x :: s, a :: at_, ⟨_, _, h⟩ => by simp [h.len]
 | [], _ :: _, h => h.elim
 | _ :: _, [], h => h.elim
theorem inShape.pos : ∀ {s at_ : List Int}, inShape s at_ → 0 < prod s
 | [], [], _ => by simp [prod]
 | x :: s, a :: at_, ⟨h0, h1, h⟩ => by
  have := h.pos
  exact Int.mul_pos (by omega) this
 | [], _ :: _, h => h.elim
 | _ :: _, [], h => h.elim
theorem off_range : ∀ {s at_ : List Int}, inShape s at_ → 0 ≤ off s at_ ∧ off s at_ < prod s
 | [], [], _ => by simp [prod, off]
 | x :: s, a :: at_, ⟨h0, h1, h⟩ => by
  have h2 := off_range h
  have h3 := h.pos
  have h4 : (a + 1) * prod s ≤ x * prod s := Int.mul_le_mul_of_nonneg_right (by omega) (by omega)
  have h5 : 0 ≤ a * prod s := Int.mul_nonneg h0 (by omega)
  rw [Int.add_mul] at h4
  simp only [prod, off]
  omega
 | [], _ :: _, h => h.elim
 | _ :: _, [], h => h.elim
theorem dig_off : ∀ {s at_ : List Int}, inShape s at_ → dig s (off s at_) = at_
 | [], [], _ => rfl
 | x :: s, a :: at_, ⟨h0, h1, h⟩ => by
  have h2 := off_range h
  have h3 := h.pos
  simp only [dig, off]
  rw [Int.add_comm, Int.mul_comm, Int.add_mul_ediv_left _ _ (by omega), Int.add_mul_emod_self_left, Int.emod_eq_of_lt h2.1 h2.2, dig_off h, Int.ediv_eq_zero_of_lt h2.1 h2.2]
  simp
 | [], _ :: _, h => h.elim
 | _ :: _, [], h => h.elim
def allPos (s : List Int) : Prop := ∀ x ∈ s, 0 < x
theorem allPos.pprod : ∀ {s : List Int}, allPos s → 0 < prod s
 | [], _ => by simp [prod]
 | x :: s, h => Int.mul_pos (h x List.mem_cons_self) (allPos.pprod fun y hy => h y (List.mem_cons_of_mem _ hy))
theorem allPos_of {s : List Int} (h : ∀ x ∈ s, 0 ≤ x) (hp : 0 < prod s) : allPos s := by
 intro x hx
 have h0 := h x hx
 rcases Int.lt_or_eq_of_le h0 with h1 | h1
 ·exact h1
 ·exfalso
  have : ∀ s : List Int, (0 : Int) ∈ s → prod s = 0 := by
   intro s
   induction s with
   | nil => intro h; simp at h
   | cons y s ih =>
    intro h
    rcases List.mem_cons.mp h with h | h
    ·simp [prod, ← h]
    ·simp [prod, ih h]
  rw [this s (h1 ▸ hx)] at hp
  omega
theorem dig_in : ∀ {s : List Int} {k : Int}, allPos s → 0 ≤ k → k < prod s → inShape s (dig s k)
 | [], k, _, h0, h1 => trivial
 | x :: s, k, h, h0, h1 => by
  have hs : allPos s := fun y hy => h y (List.mem_cons_of_mem _ hy)
  have hp := hs.pprod
  refine ⟨Int.ediv_nonneg h0 (by omega), ?_, dig_in hs (Int.emod_nonneg _ (by omega)) (Int.emod_lt_of_pos _ hp)⟩
  exact Int.ediv_lt_of_lt_mul hp h1
theorem off_dig : ∀ {s : List Int} {k : Int}, allPos s → 0 ≤ k → k < prod s → off s (dig s k) = k
 | [], k, _, h0, h1 => by simp [prod] at h1; simp [dig, off]; omega
 | x :: s, k, h, h0, h1 => by
  have hs : allPos s := fun y hy => h y (List.mem_cons_of_mem _ hy)
  have hp := hs.pprod
  simp only [dig, off]
  rw [off_dig hs (Int.emod_nonneg _ (by omega)) (Int.emod_lt_of_pos _ hp)]
  rw [Int.mul_comm]; exact Int.mul_ediv_add_emod k (prod s)
theorem dig_len : ∀ (s : List Int) (k : Int), (dig s k).length = s.length
 | [], _ => rfl
 | x :: s, k => by simp [dig, dig_len s]
theorem prod_nonneg : ∀ {s : List Int}, (∀ x ∈ s, 0 ≤ x) → 0 ≤ prod s
 | [], _ => by simp [prod]
 | x :: s, h => Int.mul_nonneg (h x List.mem_cons_self) (prod_nonneg fun y hy => h y (List.mem_cons_of_mem _ hy))
theorem prod_append : ∀ (s t : List Int), prod (s ++ t) = prod s * prod t
 | [], t => by simp [prod]
 | x :: s, t => by simp [prod, prod_append s t, Int.mul_assoc]

/-- the size of a shape, or the error. -/
def shSize (s : List Int) : Int × Int :=
 if 4 < s.length then (0, 24) else if s.any (fun x => decide (x < 0)) then (0, 1) else if s.any (fun x => decide (x > 10000)) || decide (prod s > 10000) then (0, 27) else (prod s, 0)
def shOk (s : List Int) : Prop := s.length ≤ 4 ∧ (∀ x ∈ s, 0 ≤ x ∧ x ≤ 10000) ∧ prod s ≤ 10000
instance (s : List Int) : Decidable (shOk s) := by unfold shOk; exact inferInstance
theorem shSize_ok {s : List Int} (h : shOk s) : shSize s = (prod s, 0) := by
 obtain ⟨h1, h2, h3⟩ := h
 unfold shSize
 rw [if_neg (by omega), if_neg, if_neg]
 ·simp only [Bool.or_eq_true, List.any_eq_true, decide_eq_true_eq]
  rintro (⟨x, hx, h⟩ | h)
  ·have := h2 x hx; omega
  ·omega
 ·simp only [List.any_eq_true, decide_eq_true_eq]
  rintro ⟨x, hx, h⟩
  have := h2 x hx; omega
theorem shSize_zero {s : List Int} : (shSize s).2 = 0 ↔ shOk s := by
 constructor
 ·intro h
  unfold shSize at h
  split at h
  ·cases h
  ·rename_i h1
   split at h
   ·cases h
   ·rename_i h2
    split at h
    ·cases h
    ·rename_i h3
     simp only [List.any_eq_true, decide_eq_true_eq, not_exists, not_and] at h2
     simp only [Bool.or_eq_true, List.any_eq_true, decide_eq_true_eq, not_or, not_exists, not_and] at h3
     exact ⟨by omega, fun x hx => ⟨by have := h2 x hx; omega, by have := h3.1 x hx; omega⟩, by omega⟩
 ·intro h; rw [shSize_ok h]
theorem shSize_cases (s : List Int) : (shOk s ∧ shSize s = (prod s, 0)) ∨ (¬ shOk s ∧ (shSize s).2 ≠ 0 ∧ (shSize s).1 = 0) := by
 by_cases h : shOk s
 ·exact .inl ⟨h, shSize_ok h⟩
 ·refine .inr ⟨h, fun hh => h (shSize_zero.mp hh), ?_⟩
  unfold shSize
  split
  ·rfl
  ·rename_i h1
   split
   ·rfl
   ·rename_i h2
    split
    ·rfl
    ·rename_i h3
     exfalso; apply h
     simp only [List.any_eq_true, decide_eq_true_eq, not_exists, not_and] at h2
     simp only [Bool.or_eq_true, List.any_eq_true, decide_eq_true_eq, not_or, not_exists, not_and] at h3
     exact ⟨by omega, fun x hx => ⟨by have := h2 x hx; omega, by have := h3.1 x hx; omega⟩, by omega⟩
theorem dig_bound {s : List Int} {k : Int} (hok : shOk s) (h0 : 0 ≤ k) (h1 : k < prod s) : ∀ x ∈ dig s k, 0 ≤ x ∧ x ≤ 10000 := by
 have hpos : allPos s := allPos_of (fun x hx => (hok.2.1 x hx).1) (by omega)
 have key : ∀ (s at_ : List Int), inShape s at_ → (∀ x ∈ s, 0 ≤ x ∧ x ≤ 10000) → ∀ x ∈ at_, 0 ≤ x ∧ x ≤ 10000 := by
  intro s
  induction s with
  | nil => intro at_ h _ x hx; cases at_ with | nil => simp at hx | cons _ _ => exact h.elim
  | cons y s ih =>
   intro at_ h hb x hx
   cases at_ with
   | nil => exact h.elim
   | cons a at_ =>
    obtain ⟨h1, h2, h3⟩ := h
    rcases List.mem_cons.mp hx with rfl | hx
    ·have := hb y List.mem_cons_self; omega
    ·exact ih at_ h3 (fun z hz => hb z (List.mem_cons_of_mem _ hz)) x hx
 exact key s _ (dig_in hpos h0 h1) hok.2.1
theorem dig_zero : ∀ {s : List Int}, allPos s → dig s 0 = List.replicate s.length 0
 | [], _ => rfl
 | x :: s, h => by
  have hs : allPos s := fun y hy => h y (List.mem_cons_of_mem _ hy)
  simp only [dig, Int.zero_ediv, Int.zero_emod, dig_zero hs]; rfl

theorem one_le_pow : ∀ k : Nat, (1 : Int) ≤ 10000 ^ k
 | 0 => by simp
 | k + 1 => by rw [Int.pow_succ]; have := one_le_pow k; omega
theorem prod_bound : ∀ (s : List Int) (k : Nat), s.length ≤ k → (∀ x ∈ s, 0 ≤ x ∧ x ≤ 10000) → 0 ≤ prod s ∧ prod s ≤ 10000 ^ k
 | [], k, _, _ => ⟨by simp [prod], one_le_pow k⟩
 | x :: s, k + 1, hl, h => by
  have h1 := h x List.mem_cons_self
  have h2 := prod_bound s k (by simpa using hl) (fun y hy => h y (List.mem_cons_of_mem _ hy))
  refine ⟨Int.mul_nonneg h1.1 h2.1, ?_⟩
  simp only [prod]
  have h3 : x * prod s ≤ 10000 * prod s := Int.mul_le_mul_of_nonneg_right h1.2 h2.1
  have h4 : (10000 : Int) ^ (k + 1) = 10000 ^ k * 10000 := Int.pow_succ _ _
  omega
 | x :: s, 0, hl, h => by simp at hl

/-- is a number a character? -/
def chOk (c : Int) : Bool := decide (0 ≤ c ∧ c ≤ 1114111) && !decide (55296 ≤ c ∧ c ≤ 57343)
/-- may an array be? -/
def vRight (v : Val) : Bool := decide (shOk v.Shape) && decide (prod v.Shape = v.Data.length) && (!v.Char || v.Data.all chOk)
def vSame (a b : Val) : Bool := (a.Char == b.Char) && decide (a.Shape = b.Shape) && decide (a.Data = b.Data)
theorem vSame_iff {a b : Val} : vSame a b = true ↔ a = b := by
 obtain ⟨c, s, d⟩ := a
 obtain ⟨c', s', d'⟩ := b
 simp only [vSame, Bool.and_eq_true, beq_iff_eq, decide_eq_true_eq, Val.mk.injEq]
 constructor
 ·rintro ⟨⟨h1, h2⟩, h3⟩; exact ⟨h1, h2, h3⟩
 ·rintro ⟨h1, h2, h3⟩; exact ⟨⟨h1, h2⟩, h3⟩
theorem vSame_refl (a : Val) : vSame a a = true := vSame_iff.mpr rfl
theorem vSame_eq (a b : Val) : vSame a b = true ∧ a = b ∨ vSame a b = false ∧ a ≠ b := by
 cases h : vSame a b with
 | true => exact .inl ⟨rfl, vSame_iff.mp h⟩
 | false => exact .inr ⟨rfl, fun hh => by rw [vSame_iff.mpr hh] at h; cases h⟩
theorem vRight_iff {v : Val} : vRight v = true ↔ shOk v.Shape ∧ prod v.Shape = v.Data.length ∧ (v.Char = true → ∀ c ∈ v.Data, chOk c = true) := by
 simp only [vRight, Bool.and_eq_true, decide_eq_true_eq, Bool.or_eq_true, Bool.not_eq_true', List.all_eq_true]
 constructor
 ·rintro ⟨⟨h1, h2⟩, h3⟩
  refine ⟨h1, h2, fun h => ?_⟩
  rcases h3 with h3 | h3
  ·rw [h3] at h; cases h
  ·exact h3
 ·rintro ⟨h1, h2, h3⟩
  refine ⟨⟨h1, h2⟩, ?_⟩
  cases h : v.Char with
  | true => exact .inr (h3 h)
  | false => exact .inl rfl

theorem right_loop {f : Int × Int → Option (Ctl (Int × Int) (Ctl Int Bool))} {s : List Int} (h4 : s.length ≤ 4)
  (hf : ∀ k : Nat, ∀ h : k < s.length, ∀ z, f (z, (k : Int)) = if s[k] < 0 ∨ s[k] > 10000 then some (.done (.done false)) else some (.next (IntKind.i64.wrap (z * s[k]), (k : Int) + 1)))
  (he : ∀ z, f (z, (s.length : Int)) = some (.done (.next z))) :
  ((∀ x ∈ s, 0 ≤ x ∧ x ≤ 10000) ∧ wloop f (1, 0) = some (.next (prod s))) ∨ (¬ (∀ x ∈ s, 0 ≤ x ∧ x ≤ 10000) ∧ wloop f (1, 0) = some (.done false)) := by
 have key := wloop_ind (f := f) (fun n st => ∃ k : Nat, n = s.length - k ∧ k ≤ s.length ∧ st = (prod (s.take k), (k : Int)) ∧ ∀ x ∈ s.take k, 0 ≤ x ∧ x ≤ 10000)
  (fun b => (b = .next (prod s) ∧ ∀ x ∈ s, 0 ≤ x ∧ x ≤ 10000) ∨ (b = .done false ∧ ¬ ∀ x ∈ s, 0 ≤ x ∧ x ≤ 10000)) (fun n st h => by
   obtain ⟨k, rfl, hk, rfl, hall⟩ := h
   by_cases hlt : k < s.length
   ·rw [hf k hlt]
    by_cases hb : s[k] < 0 ∨ s[k] > 10000
    ·rw [if_pos hb]
     right
     refine ⟨_, rfl, .inr ⟨rfl, fun hh => ?_⟩⟩
     have := hh _ (List.getElem_mem hlt); omega
    ·rw [if_neg hb]
     left
     have e := List.take_succ_eq_append_getElem hlt
     have hall2 : ∀ x ∈ s.take (k + 1), 0 ≤ x ∧ x ≤ 10000 := by
      intro x hx
      rw [e] at hx
      rcases List.mem_append.mp hx with hx | hx
      ·exact hall x hx
      ·rw [List.mem_singleton.mp hx]; omega
     have hp := prod_bound (s.take (k + 1)) 4 (by rw [List.length_take]; omega) hall2
     have e2 : prod (s.take (k + 1)) = prod (s.take k) * s[k] := by rw [e, prod_append]; simp [prod]
     refine ⟨_, s.length - (k + 1), rfl, by omega, k + 1, rfl, by omega, ?_, hall2⟩
     rw [← e2, w64_id (by omega) (by omega)]; simp
   ·have : k = s.length := by omega
    subst this
    rw [he]
    rw [List.take_length] at hall ⊢
    exact .inr ⟨_, rfl, .inl ⟨rfl, hall⟩⟩)
  s.length (1, 0) ⟨0, by omega, by omega, by simp [prod], by simp⟩
 obtain ⟨b, hb, ⟨rfl, h⟩ | ⟨rfl, h⟩⟩ := key
 ·exact .inl ⟨h, hb⟩
 ·exact .inr ⟨h, hb⟩
theorem all_loop {f : Int → Option (Ctl Int (Ctl Unit Bool))} {l : List Int} {p : Int → Bool}
  (hf : ∀ k : Nat, ∀ h : k < l.length, f k = if p l[k] = true then some (.next ((k : Int) + 1)) else some (.done (.done false))) (he : f l.length = some (.done (.next ()))) :
  wloop f 0 = some (if l.all p = true then .next () else .done false) := by
 have key := wloop_ind (f := f) (fun n i => ∃ k : Nat, i = k ∧ k ≤ l.length ∧ n = l.length - k ∧ (l.take k).all p = true)
  (fun c => (c = .done false ∧ l.all p = false) ∨ (c = .next () ∧ l.all p = true)) (fun n i h => by
   obtain ⟨k, rfl, hk, rfl, hn⟩ := h
   by_cases hlt : k < l.length
   ·rw [hf k hlt]
    by_cases hp : p l[k] = true
    ·rw [if_pos hp]
     left
     refine ⟨_, l.length - (k + 1), rfl, by omega, k + 1, by omega, by omega, rfl, ?_⟩
     rw [List.take_succ_eq_append_getElem hlt, List.all_append, hn]; simp [hp]
    ·rw [if_neg hp]
     right
     refine ⟨_, rfl, .inl ⟨rfl, ?_⟩⟩
     rw [List.all_eq_false]
     exact ⟨_, List.getElem_mem hlt, hp⟩
   ·have : k = l.length := by omega
    subst this
    right
    rw [List.take_length] at hn
    exact ⟨_, he, .inr ⟨rfl, hn⟩⟩) l.length 0 ⟨0, rfl, by omega, by omega, by simp⟩
 obtain ⟨c, hc, ⟨rfl, h⟩ | ⟨rfl, h⟩⟩ := key
 ·rw [hc, h]; simp
 ·rw [hc, h]; simp
theorem w32_id {x : Int} (h1 : 0 ≤ x) (h2 : x ≤ 1114111) : IntKind.i32.wrap x = x := by
 have e : IntKind.i32.wrap x = if x % 4294967296 ≥ 2147483648 then x % 4294967296 - 4294967296 else x % 4294967296 := by
  simp [IntKind.wrap, IntKind.bits, IntKind.signed]
 rw [e]
 split <;> omega
theorem character_eq (c : Int) : M.value_character c = some (chOk c) := by
 unfold M.value_character chOk
 by_cases h : 0 ≤ c ∧ c ≤ 1114111
 ·have e : (decide (c ≥ 0) && decide (c ≤ 1114111)) = true := by simp; omega
  simp only [e, if_true, h, and_self, decide_true, Bool.true_and]
  rw [w32_id h.1 h.2]
  unfold M.unicode_utf8_ValidRune
  by_cases h1 : c < 55296
  ·have e1 : (decide (0 ≤ c) && decide (c < 55296)) = true := by simp; omega
   have e2 : decide (55296 ≤ c ∧ c ≤ 57343) = false := decide_eq_false (by omega)
   simp only [e1, e2, if_true, Option.bind_some, Bool.not_false]
  ·have e1 : (decide (0 ≤ c) && decide (c < 55296)) = false := by simp; omega
   simp only [e1, Bool.false_eq_true, if_false]
   by_cases h2 : 57343 < c
   ·have e3 : (decide (57343 < c) && decide (c ≤ 1114111)) = true := by simp; omega
    have e2 : decide (55296 ≤ c ∧ c ≤ 57343) = false := decide_eq_false (by omega)
    simp only [e3, e2, if_true, Option.bind_some, Bool.not_false]
   ·have e3 : (decide (57343 < c) && decide (c ≤ 1114111)) = false := by simp; omega
    have e2 : decide (55296 ≤ c ∧ c ≤ 57343) = true := decide_eq_true (by omega)
    simp only [e3, e2, Bool.false_eq_true, if_false, Option.bind_some, Bool.not_true]
 ·have e : (decide (c ≥ 0) && decide (c ≤ 1114111)) = false := by simp; omega
  simp only [e, Bool.false_eq_true, if_false, h, decide_false, Bool.false_and, Option.bind_some]
theorem value_Right_eq {v : Val} (hd : v.Data.length ≤ 9223372036854775807) : M.value_Right v = some (vRight v) := by
 unfold M.value_Right
 by_cases h4 : 4 < v.Shape.length
 ·rw [if_pos (by simp; omega)]
  have : vRight v = false := by
   cases h : vRight v with
   | false => rfl
   | true => have := (vRight_iff.mp h).1.1; omega
  rw [this]
 ·rw [if_neg (by simp; omega)]
  have hloop := right_loop (f := M.value_Right_L1 v) (s := v.Shape) (by omega) (fun k h z => by
   unfold M.value_Right_L1
   simp only [show decide ((k : Int) < (v.Shape.length : Int)) = true from decide_eq_true (by omega), if_true, idx_get h, Option.bind_some]
   by_cases hb : v.Shape[k] < 0 ∨ v.Shape[k] > 10000
   ·rw [if_pos hb, if_pos (by simpa using hb)]
   ·rw [if_neg hb, if_neg (by simpa using hb), w64_id (x := (k : Int) + 1) (by omega) (by omega)]) (fun z => by unfold M.value_Right_L1; simp)
  rcases hloop with ⟨hall, hw⟩ | ⟨hall, hw⟩
  ·rw [hw]
   simp only [Option.bind_some, joinK_next]
   have hp0 : 0 ≤ prod v.Shape := prod_nonneg fun x hx => (hall x hx).1
   by_cases hsz : prod v.Shape ≤ 10000 ∧ prod v.Shape = v.Data.length
   ·have e : (decide (prod v.Shape > 10000) || (prod v.Shape != (v.Data.length : Int))) = false := by simp; omega
    simp only [e, Bool.false_eq_true, if_false]
    have hok : shOk v.Shape := ⟨by omega, hall, hsz.1⟩
    have hv : vRight v = (!v.Char || v.Data.all chOk) := by unfold vRight; simp [hok, hsz.2]
    rw [hv]
    cases hc : v.Char with
    | false => simp
    | true =>
     simp only [Bool.not_true, Bool.false_eq_true, if_false, Bool.false_or]
     rw [contains_int64 (s := v.Data) (f := fun x0 => M.value_Right_1 x0) (g := fun x => !chOk x) (fun x _ => by unfold M.value_Right_1; rw [character_eq]; rfl) hd]
     simp only [Option.bind_some]
     congr 1
     rw [List.not_any_eq_all_not]; simp
   ·have e : (decide (prod v.Shape > 10000) || (prod v.Shape != (v.Data.length : Int))) = true := by
     simp; omega
    simp only [e, if_true]
    have : vRight v = false := by
     cases h : vRight v with
     | false => rfl
     | true => have := vRight_iff.mp h; exact absurd ⟨this.1.2.2, this.2.1⟩ hsz
    rw [this]
  ·rw [hw]
   have : vRight v = false := by
    cases h : vRight v with
    | false => rfl
    | true => exact absurd (vRight_iff.mp h).1.2.1 hall
   rw [this]; rfl
theorem ref03_Size_eq {s : List Int} (hl : s.length ≤ maxLen) : M.anamnesisref03_Size s = some (shSize s) := by
 have hm : maxLen = 9223372036854775807 := rfl
 unfold M.anamnesisref03_Size shSize
 by_cases h4 : 4 < s.length
 ·rw [if_pos h4, if_pos (by simp; omega)]
 ·rw [if_neg h4, if_neg (by simp; omega)]
  have key := wloop_ind (f := M.anamnesisref03_Size_L1 s)
   (fun n st => ∃ k : Nat, ∃ z : Int, st = (z, (s.take k).any (fun x => decide (x > 10000)), (k : Int)) ∧ k ≤ s.length ∧ n = s.length - k ∧ (s.take k).any (fun x => decide (x < 0)) = false ∧
    0 ≤ z ∧ z ≤ 10000 ^ k ∧ ((s.take k).any (fun x => decide (x > 10000)) = false → z = prod (s.take k)))
   (fun b => (b = .done (0, 1) ∧ s.any (fun x => decide (x < 0)) = true) ∨ (∃ z, b = .next (z, s.any (fun x => decide (x > 10000))) ∧ s.any (fun x => decide (x < 0)) = false ∧ (s.any (fun x => decide (x > 10000)) = false → z = prod s)))
   (fun n st h => by
    obtain ⟨k, z, rfl, hk, rfl, hneg, hz0, hz1, hz⟩ := h
    unfold M.anamnesisref03_Size_L1
    by_cases hlt : k < s.length
    ·simp only [show decide ((k : Int) < (s.length : Int)) = true from by simp; exact hlt, if_true, idx_get hlt, Option.bind_some]
     have etake := List.take_succ_eq_append_getElem hlt
     by_cases hn : s[k] < 0
     ·right
      simp only [show decide (s[k] < 0) = true from by simp [hn], if_true]
      exact ⟨_, rfl, .inl ⟨rfl, by rw [List.any_eq_true]; exact ⟨_, List.getElem_mem hlt, by simpa using hn⟩⟩⟩
     ·left
      simp only [show decide (s[k] < 0) = false from by simpa using hn, Bool.false_eq_true, if_false]
      have hpk : (10000 : Int) ^ (k + 1) = 10000 ^ k * 10000 := Int.pow_succ _ _
      have hp4 : (10000 : Int) ^ (k + 1) ≤ 10000 ^ 4 := by
       have : k + 1 ≤ 4 := by omega
       have h3 : ∀ a : Nat, a ≤ 4 → (10000 : Int) ^ a ≤ 10000 ^ 4 := by decide
       exact h3 _ this
      by_cases hbig : s[k] > 10000
      ·simp only [show decide (s[k] > 10000) = true from by simpa using hbig, if_true, Option.bind_some]
       refine ⟨_, s.length - (k + 1), rfl, by omega, k + 1, 0, ?_, by omega, rfl, ?_, by omega, by omega, ?_⟩
       ·rw [w64_id (by simp) (by simp), w64_id (by omega) (by omega), etake, List.any_append]
        simp [hbig]
       ·rw [etake, List.any_append, hneg]; simpa using hn
       ·rw [etake, List.any_append]; simp [hbig]
      ·simp only [show decide (s[k] > 10000) = false from by simpa using hbig, Bool.false_eq_true, if_false, Option.bind_some]
       have h5 : 0 ≤ z * s[k] := Int.mul_nonneg hz0 (by omega)
       have h6 : z * s[k] ≤ 10000 ^ k * 10000 := Int.mul_le_mul hz1 (by omega) (by omega) (by omega)
       refine ⟨_, s.length - (k + 1), rfl, by omega, k + 1, z * s[k], ?_, by omega, rfl, ?_, h5, by omega, ?_⟩
       ·rw [w64_id (by omega) (by omega), w64_id (by omega) (by omega), etake, List.any_append]
        simp [hbig]
       ·rw [etake, List.any_append, hneg]; simpa using hn
       ·rw [etake, List.any_append, prod_append]
        intro h7
        rw [Bool.or_eq_false_iff] at h7
        rw [hz h7.1]; simp [prod]
    ·have : k = s.length := by omega
     subst this
     right
     simp only [show decide ((s.length : Int) < (s.length : Int)) = false from by simp, Bool.false_eq_true, if_false]
     simp only [List.take_length] at hneg hz ⊢
     exact ⟨_, rfl, .inr ⟨z, rfl, hneg, hz⟩⟩)
   s.length (1, false, 0) ⟨0, 1, by simp, by omega, by omega, by simp, by omega, by omega, by simp [prod]⟩
  obtain ⟨b, hb, ⟨rfl, ha⟩ | ⟨z, rfl, ha, hz⟩⟩ := key
  ·rw [hb, ha]; simp
  ·rw [hb, ha]
   simp only [Option.bind_some, joinK_next, Bool.false_eq_true, if_false]
   cases hbig : s.any (fun x => decide (x > 10000)) with
   | true => simp
   | false => rw [hz hbig]; simp; split <;> simp_all
theorem vRight_size (v : Val) : vRight v = (((shSize v.Shape).2 == 0) && decide ((shSize v.Shape).1 = v.Data.length) && (!v.Char || v.Data.all chOk)) := by
 unfold vRight
 rcases shSize_cases v.Shape with ⟨h, e⟩ | ⟨h, e, _⟩
 ·rw [decide_eq_true h, e]; rfl
 ·rw [decide_eq_false h]
  have : ((shSize v.Shape).2 == 0) = false := by simpa using e
  rw [this]; rfl
theorem ref06_Right_eq {v : Val} (hs : v.Shape.length ≤ maxLen) (hd : v.Data.length ≤ 9223372036854775807) : M.anamnesisref06_Right v = some (vRight v) := by
 unfold M.anamnesisref06_Right
 rw [ref03_Size_eq hs, vRight_size]
 have hchars : wloop (M.anamnesisref06_Right_L1 v) 0 = some (if (!v.Char || v.Data.all chOk) = true then .next () else .done false) := by
  cases hc : v.Char with
  | false =>
   simp only [Bool.not_false, Bool.true_or, if_true]
   exact wloop_done (by unfold M.anamnesisref06_Right_L1; simp [hc])
  | true =>
   simp only [Bool.not_true, Bool.false_or]
   refine all_loop (fun k h => ?_) ?_
   ·unfold M.anamnesisref06_Right_L1
    simp only [hc, Bool.and_true, show decide ((k : Int) < (v.Data.length : Int)) = true from decide_eq_true (by omega), if_true, idx_get h, Option.bind_some]
    have key : ((if decide (v.Data[k] < 0) = true then some true else some (decide (v.Data[k] > 1114111))).bind fun c4 =>
      (if c4 = true then some true else (if decide (v.Data[k] ≥ 55296) = true then some (decide (v.Data[k] ≤ 57343)) else some false).bind fun c5 => some c5)) = some (!chOk v.Data[k]) := by
     unfold chOk
     by_cases g1 : v.Data[k] < 0
     ·rw [if_pos (by simpa using g1), decide_eq_false (show ¬ (0 ≤ v.Data[k] ∧ v.Data[k] ≤ 1114111) by omega)]; rfl
     ·rw [if_neg (by simpa using g1)]
      by_cases g2 : v.Data[k] > 1114111
      ·rw [decide_eq_true g2, decide_eq_false (show ¬ (0 ≤ v.Data[k] ∧ v.Data[k] ≤ 1114111) by omega)]; rfl
      ·rw [decide_eq_false g2, decide_eq_true (show (0 ≤ v.Data[k] ∧ v.Data[k] ≤ 1114111) by omega)]
       by_cases g3 : v.Data[k] ≥ 55296
       ·simp only [decide_eq_true g3, if_true]
        by_cases g4 : v.Data[k] ≤ 57343
        ·rw [decide_eq_true g4, decide_eq_true (show (55296 ≤ v.Data[k] ∧ v.Data[k] ≤ 57343) by omega)]; rfl
        ·rw [decide_eq_false g4, decide_eq_false (show ¬ (55296 ≤ v.Data[k] ∧ v.Data[k] ≤ 57343) by omega)]; rfl
       ·simp only [decide_eq_false g3]
        rw [decide_eq_false (show ¬ (55296 ≤ v.Data[k] ∧ v.Data[k] ≤ 57343) by omega)]; rfl
    obtain ⟨c, hc4, hc5⟩ := bindS key
    rw [hc4]
    simp only [Option.bind_some]
    rw [hc5]
    by_cases hok : chOk v.Data[k] = true
    ·simp only [hok, Bool.not_true, Option.bind_some, Bool.false_eq_true, if_false, if_true]
     rw [w64_id (by omega) (by omega)]
    ·have hok2 : chOk v.Data[k] = false := by simpa using hok
     simp only [hok2, Bool.not_false, Option.bind_some, Bool.false_eq_true, if_false, if_true]
   ·unfold M.anamnesisref06_Right_L1; simp
 rw [hchars]
 simp only [Option.bind_some]
 by_cases h : (shSize v.Shape).2 = 0 ∧ (shSize v.Shape).1 = v.Data.length
 ·rw [if_neg (by simp [h.1, h.2]), h.1, decide_eq_true h.2]
  cases (!v.Char || v.Data.all chOk) <;> rfl
 ·rw [if_pos (by
   simp only [Bool.or_eq_true, bne_iff_ne]
   by_cases h1 : (shSize v.Shape).2 = 0
   ·exact .inr fun h2 => h ⟨h1, h2⟩
   ·exact .inl h1)]
  have : (((shSize v.Shape).2 == 0) && decide ((shSize v.Shape).1 = (v.Data.length : Int))) = false := by
   by_cases h1 : (shSize v.Shape).2 = 0
   ·rw [decide_eq_false (fun h2 => h ⟨h1, h2⟩)]; simp
   ·have : ((shSize v.Shape).2 == 0) = false := by simpa using h1
    rw [this]; rfl
  rw [this]; rfl
theorem ref06_Same_eq {a b : Val} (hs : a.Shape.length ≤ maxLen) (hd : a.Data.length ≤ maxLen) : M.anamnesisref06_Same a b = some (vSame a b) := by
 have hm : maxLen = 9223372036854775807 := rfl
 unfold M.anamnesisref06_Same
 by_cases hl : (a.Char = b.Char ∧ a.Shape.length = b.Shape.length) ∧ a.Data.length = b.Data.length
 ·obtain ⟨⟨h1, h2⟩, h3⟩ := hl
  rw [if_neg (by simp [h1, h2, h3])]
  have l1 := same_loop (f := M.anamnesisref06_Same_L1 a b) h2 hs (fun k h => by
   unfold M.anamnesisref06_Same_L1
   simp only [show decide ((k : Int) < (a.Shape.length : Int)) = true from decide_eq_true (by omega), if_true, idx_get h, idx_get (show k < b.Shape.length by omega), Option.bind_some]
   by_cases he : a.Shape[k] = b.Shape[k]
   ·rw [if_pos he, if_neg (by simp [he]), w64_id (by omega) (by omega)]
   ·rw [if_neg he, if_pos (by simp [he])]) (by unfold M.anamnesisref06_Same_L1; simp)
  have l2 := same_loop (f := M.anamnesisref06_Same_L2 a b) h3 hd (fun k h => by
   unfold M.anamnesisref06_Same_L2
   simp only [show decide ((k : Int) < (a.Data.length : Int)) = true from decide_eq_true (by omega), if_true, idx_get h, idx_get (show k < b.Data.length by omega), Option.bind_some]
   by_cases he : a.Data[k] = b.Data[k]
   ·rw [if_pos he, if_neg (by simp [he]), w64_id (by omega) (by omega)]
   ·rw [if_neg he, if_pos (by simp [he])]) (by unfold M.anamnesisref06_Same_L2; simp)
  rw [l1, l2]
  unfold vSame
  simp only [h1, BEq.rfl, Bool.true_and]
  by_cases he : a.Shape = b.Shape
  ·rw [if_pos he, decide_eq_true he]
   by_cases hd : a.Data = b.Data
   ·rw [if_pos hd, decide_eq_true hd]; rfl
   ·rw [if_neg hd, decide_eq_false hd]; rfl
  ·rw [if_neg he, decide_eq_false he]; rfl
 ·have e : ((!(a.Char == b.Char) || ((a.Shape.length : Int) != (b.Shape.length : Int))) || ((a.Data.length : Int) != (b.Data.length : Int))) = true := by
   cases hq : ((!(a.Char == b.Char) || ((a.Shape.length : Int) != (b.Shape.length : Int))) || ((a.Data.length : Int) != (b.Data.length : Int))) with
   | true => rfl
   | false =>
    exfalso; apply hl
    simp only [Bool.or_eq_false_iff, Bool.not_eq_false', beq_iff_eq, bne_eq_false_iff_eq] at hq
    obtain ⟨⟨q1, q2⟩, q3⟩ := hq
    exact ⟨⟨q1, by omega⟩, by omega⟩
  rw [if_pos e]
  have : vSame a b = false := by
   cases hq : vSame a b with
   | false => rfl
   | true => have := vSame_iff.mp hq; subst this; simp at hl
  rw [this]
theorem Equal_int_eq {a b : List Int} (ha : a.length ≤ maxLen) : M.slices_Equal__int a b = some (decide (a = b)) := by
 have hm : maxLen = 9223372036854775807 := rfl
 unfold M.slices_Equal__int
 by_cases hl : a.length = b.length
 ·rw [if_neg (by simp [hl])]
  refine same_step hl ha (fun k h => ?_) ?_
  ·unfold M.slices_Equal__int_L1
   simp only [show decide ((k : Int) < (a.length : Int)) = true from by simp; exact h, if_true, idx_get h, idx_get (hl ▸ h : k < b.length), Option.bind_some]
   by_cases he : a[k] = b[k]'(hl ▸ h)
   ·rw [if_pos he, if_neg (by simp [he]), w64_id (by omega) (by omega)]
   ·rw [if_neg he, if_pos (by simp [he])]
  ·unfold M.slices_Equal__int_L1; simp
 ·rw [if_pos (by simp; omega)]
  have : a ≠ b := fun h => hl (by rw [h])
  simp [this]
theorem u64_mod (x : Int) : IntKind.u64.wrap x = x % 18446744073709551616 := by simp [IntKind.wrap, IntKind.bits, IntKind.signed]
theorem u64_id {x : Int} (h1 : 0 ≤ x) (h2 : x < 18446744073709551616) : IntKind.u64.wrap x = x := by rw [u64_mod]; omega
theorem i64_eq (x : Int) : IntKind.i64.wrap x = if x % 18446744073709551616 ≥ 9223372036854775808 then x % 18446744073709551616 - 18446744073709551616 else x % 18446744073709551616 := by simp [IntKind.wrap, IntKind.bits, IntKind.signed]
theorem i64_range (x : Int) : -9223372036854775808 ≤ IntKind.i64.wrap x ∧ IntKind.i64.wrap x ≤ 9223372036854775807 := by
 rw [i64_eq]; split <;> omega
theorem bv_toNat {x : Int} (h1 : 0 ≤ x) (h2 : x < 18446744073709551616) : (BitVec.ofInt IntKind.u64.bits x).toNat = x.toNat := by
 have : IntKind.u64.bits = 64 := rfl
 rw [this, BitVec.toNat_ofInt]
 congr 1
 show x % 18446744073709551616 = x
 omega
theorem and32 {x : Int} (h1 : 0 ≤ x) (h2 : x < 18446744073709551616) : IntKind.u64.wrap (BitVec.ofInt IntKind.u64.bits x &&& BitVec.ofInt IntKind.u64.bits 4294967295).toNat = x % 4294967296 := by
 rw [BitVec.toNat_and, bv_toNat h1 h2, bv_toNat (by omega) (by omega), show (4294967295 : Int).toNat = 2 ^ 32 - 1 from rfl, Nat.and_two_pow_sub_one_eq_mod, u64_id (by omega) (by omega)]
 omega
theorem shr32 {x : Int} (h1 : 0 ≤ x) : Int.fdiv x (2 ^ (min (Int.toNat 32) IntKind.u64.bits)) = x / 4294967296 := by
 rw [show (2 : Int) ^ (min (Int.toNat 32) IntKind.u64.bits) = 4294967296 from rfl, Int.fdiv_eq_ediv_of_nonneg _ (by omega)]
theorem pair_eq {α β : Type} {a c : α} {b d : β} (h1 : a = c) (h2 : b = d) : (a, b) = (c, d) := by rw [h1, h2]
theorem mul64_eq {x y : Int} (hx : 0 ≤ x) (hx2 : x < 18446744073709551616) (hy : 0 ≤ y) (hy2 : y < 18446744073709551616) :
  M.math_bits_Mul64 x y = some (x * y / 18446744073709551616, x * y % 18446744073709551616) := by
 unfold M.math_bits_Mul64
 rw [and32 hx hx2, and32 hy hy2, shr32 hx, shr32 hy]
 obtain ⟨x1, hx1⟩ : ∃ x1, x1 = x / 4294967296 := ⟨_, rfl⟩
 obtain ⟨x0, hx0⟩ : ∃ x0, x0 = x % 4294967296 := ⟨_, rfl⟩
 obtain ⟨y1, hy1⟩ : ∃ y1, y1 = y / 4294967296 := ⟨_, rfl⟩
 obtain ⟨y0, hy0⟩ : ∃ y0, y0 = y % 4294967296 := ⟨_, rfl⟩
 rw [← hx1, ← hx0, ← hy1, ← hy0]
 have bx1 : 0 ≤ x1 ∧ x1 ≤ 4294967295 := by omega
 have bx0 : 0 ≤ x0 ∧ x0 ≤ 4294967295 := by omega
 have by1 : 0 ≤ y1 ∧ y1 ≤ 4294967295 := by omega
 have by0 : 0 ≤ y0 ∧ y0 ≤ 4294967295 := by omega
 have prodb : ∀ a b : Int, (0 ≤ a ∧ a ≤ 4294967295) → (0 ≤ b ∧ b ≤ 4294967295) → 0 ≤ a * b ∧ a * b ≤ 18446744065119617025 := fun a b ha hb =>
  ⟨Int.mul_nonneg ha.1 hb.1, by have := Int.mul_le_mul ha.2 hb.2 hb.1 (show (0 : Int) ≤ 4294967295 by omega); omega⟩
 have key : x * y = (x1 * y1) * 18446744073709551616 + (x1 * y0) * 4294967296 + (x0 * y1) * 4294967296 + x0 * y0 := by
  have ex : x = x1 * 4294967296 + x0 := by omega
  have ey : y = y1 * 4294967296 + y0 := by omega
  rw [ex, ey]
  grind
 have pA := prodb x1 y1 bx1 by1
 have pB := prodb x1 y0 bx1 by0
 have pC := prodb x0 y1 bx0 by1
 have pD := prodb x0 y0 bx0 by0
 rw [key]
 clear key
 generalize x1 * y1 = A at *
 generalize x1 * y0 = B at *
 generalize x0 * y1 = C at *
 generalize x0 * y0 = D at *
 rw [u64_id (x := A) (by omega) (by omega), u64_id (x := B) (by omega) (by omega), u64_id (x := C) (by omega) (by omega), u64_id (x := D) (by omega) (by omega), shr32 (x := D) (by omega), u64_id (x := B + D / 4294967296) (by omega) (by omega),
  and32 (x := B + D / 4294967296) (by omega) (by omega), shr32 (x := B + D / 4294967296) (by omega), u64_id (x := (B + D / 4294967296) % 4294967296 + C) (by omega) (by omega), shr32 (x := (B + D / 4294967296) % 4294967296 + C) (by omega),
  u64_id (x := A + (B + D / 4294967296) / 4294967296) (by omega) (by omega), u64_id (by omega) (by omega), u64_mod]
 exact congrArg some (pair_eq (by omega) rfl)
def rng (x : Int) : Prop := -9223372036854775808 ≤ x ∧ x ≤ 9223372036854775807
instance (x : Int) : Decidable (rng x) := inferInstanceAs (Decidable (_ ∧ _))
/-- a result, or Domain. -/
def tl (p : Int × Bool) : Int × Int := if p.2 then (p.1, 0) else (0, 23)
theorem told_eq (c : Int) (ok : Bool) : M.ints_told c ok = some (tl (c, ok)) := by
 unfold M.ints_told tl; cases ok <;> rfl
theorem told_bind (p : Int × Bool) : ((some p).bind fun x => match x with | (c, ok) => (M.ints_told c ok).bind fun y => match y with | (u, v) => some (u, v)) = some (tl p) := by
 obtain ⟨c, ok⟩ := p
 simp only [Option.bind_some, told_eq]
theorem sel_add {a b : Int} {p : Int × Bool} (h : M.ints_add a b = some p) : M.ints_Dyad str_43 a b = some (tl p) := by
 have e : M.ints_Dyad str_43 a b = (M.ints_add a b).bind fun x => match x with | (c, ok) => (M.ints_told c ok).bind fun y => match y with | (u, v) => some (u, v) := by
  unfold M.ints_Dyad M.ints_dyads
  simp only [Option.bind_some]
  iterate 0 rw [if_neg (by decide)]
  rw [if_pos (by decide)]
 rw [e, h, told_bind]
theorem sel_sub {a b : Int} {p : Int × Bool} (h : M.ints_sub a b = some p) : M.ints_Dyad str_45 a b = some (tl p) := by
 have e : M.ints_Dyad str_45 a b = (M.ints_sub a b).bind fun x => match x with | (c, ok) => (M.ints_told c ok).bind fun y => match y with | (u, v) => some (u, v) := by
  unfold M.ints_Dyad M.ints_dyads
  simp only [Option.bind_some]
  iterate 1 rw [if_neg (by decide)]
  rw [if_pos (by decide)]
 rw [e, h, told_bind]
theorem sel_mul {a b : Int} {p : Int × Bool} (h : M.ints_mul a b = some p) : M.ints_Dyad str_195_151 a b = some (tl p) := by
 have e : M.ints_Dyad str_195_151 a b = (M.ints_mul a b).bind fun x => match x with | (c, ok) => (M.ints_told c ok).bind fun y => match y with | (u, v) => some (u, v) := by
  unfold M.ints_Dyad M.ints_dyads
  simp only [Option.bind_some]
  iterate 2 rw [if_neg (by decide)]
  rw [if_pos (by decide)]
 rw [e, h, told_bind]
theorem sel_div {a b : Int} {p : Int × Bool} (h : M.ints_div a b = some p) : M.ints_Dyad str_195_183 a b = some (tl p) := by
 have e : M.ints_Dyad str_195_183 a b = (M.ints_div a b).bind fun x => match x with | (c, ok) => (M.ints_told c ok).bind fun y => match y with | (u, v) => some (u, v) := by
  unfold M.ints_Dyad M.ints_dyads
  simp only [Option.bind_some]
  iterate 3 rw [if_neg (by decide)]
  rw [if_pos (by decide)]
 rw [e, h, told_bind]
theorem sel_power {a b : Int} {p : Int × Bool} (h : M.ints_power a b = some p) : M.ints_Dyad str_42 a b = some (tl p) := by
 have e : M.ints_Dyad str_42 a b = (M.ints_power a b).bind fun x => match x with | (c, ok) => (M.ints_told c ok).bind fun y => match y with | (u, v) => some (u, v) := by
  unfold M.ints_Dyad M.ints_dyads
  simp only [Option.bind_some]
  iterate 4 rw [if_neg (by decide)]
  rw [if_pos (by decide)]
 rw [e, h, told_bind]
theorem sel_residue {a b : Int} {p : Int × Bool} (h : M.ints_residue a b = some p) : M.ints_Dyad str_124 a b = some (tl p) := by
 have e : M.ints_Dyad str_124 a b = (M.ints_residue a b).bind fun x => match x with | (c, ok) => (M.ints_told c ok).bind fun y => match y with | (u, v) => some (u, v) := by
  unfold M.ints_Dyad M.ints_dyads
  simp only [Option.bind_some]
  iterate 5 rw [if_neg (by decide)]
  rw [if_pos (by decide)]
 rw [e, h, told_bind]
theorem sel_choose {a b : Int} {p : Int × Bool} (h : M.ints_choose a b = some p) : M.ints_Dyad str_33 a b = some (tl p) := by
 have e : M.ints_Dyad str_33 a b = (M.ints_choose a b).bind fun x => match x with | (c, ok) => (M.ints_told c ok).bind fun y => match y with | (u, v) => some (u, v) := by
  unfold M.ints_Dyad M.ints_dyads
  simp only [Option.bind_some]
  iterate 6 rw [if_neg (by decide)]
  rw [if_pos (by decide)]
 rw [e, h, told_bind]
theorem sel_dyads_1 {a b : Int} {p : Int × Bool} (h : M.ints_dyads_1 a b = some p) : M.ints_Dyad str_226_140_136 a b = some (tl p) := by
 have e : M.ints_Dyad str_226_140_136 a b = (M.ints_dyads_1 a b).bind fun x => match x with | (c, ok) => (M.ints_told c ok).bind fun y => match y with | (u, v) => some (u, v) := by
  unfold M.ints_Dyad M.ints_dyads
  simp only [Option.bind_some]
  iterate 7 rw [if_neg (by decide)]
  rw [if_pos (by decide)]
 rw [e, h, told_bind]
theorem sel_dyads_2 {a b : Int} {p : Int × Bool} (h : M.ints_dyads_2 a b = some p) : M.ints_Dyad str_226_140_138 a b = some (tl p) := by
 have e : M.ints_Dyad str_226_140_138 a b = (M.ints_dyads_2 a b).bind fun x => match x with | (c, ok) => (M.ints_told c ok).bind fun y => match y with | (u, v) => some (u, v) := by
  unfold M.ints_Dyad M.ints_dyads
  simp only [Option.bind_some]
  iterate 8 rw [if_neg (by decide)]
  rw [if_pos (by decide)]
 rw [e, h, told_bind]
theorem sel_dyads_3 {a b : Int} {p : Int × Bool} (h : M.ints_dyads_3 a b = some p) : M.ints_Dyad str_60 a b = some (tl p) := by
 have e : M.ints_Dyad str_60 a b = (M.ints_dyads_3 a b).bind fun x => match x with | (c, ok) => (M.ints_told c ok).bind fun y => match y with | (u, v) => some (u, v) := by
  unfold M.ints_Dyad M.ints_dyads
  simp only [Option.bind_some]
  iterate 9 rw [if_neg (by decide)]
  rw [if_pos (by decide)]
 rw [e, h, told_bind]
theorem sel_dyads_4 {a b : Int} {p : Int × Bool} (h : M.ints_dyads_4 a b = some p) : M.ints_Dyad str_226_137_164 a b = some (tl p) := by
 have e : M.ints_Dyad str_226_137_164 a b = (M.ints_dyads_4 a b).bind fun x => match x with | (c, ok) => (M.ints_told c ok).bind fun y => match y with | (u, v) => some (u, v) := by
  unfold M.ints_Dyad M.ints_dyads
  simp only [Option.bind_some]
  iterate 10 rw [if_neg (by decide)]
  rw [if_pos (by decide)]
 rw [e, h, told_bind]
theorem sel_dyads_5 {a b : Int} {p : Int × Bool} (h : M.ints_dyads_5 a b = some p) : M.ints_Dyad str_61 a b = some (tl p) := by
 have e : M.ints_Dyad str_61 a b = (M.ints_dyads_5 a b).bind fun x => match x with | (c, ok) => (M.ints_told c ok).bind fun y => match y with | (u, v) => some (u, v) := by
  unfold M.ints_Dyad M.ints_dyads
  simp only [Option.bind_some]
  iterate 11 rw [if_neg (by decide)]
  rw [if_pos (by decide)]
 rw [e, h, told_bind]
theorem sel_dyads_6 {a b : Int} {p : Int × Bool} (h : M.ints_dyads_6 a b = some p) : M.ints_Dyad str_226_137_165 a b = some (tl p) := by
 have e : M.ints_Dyad str_226_137_165 a b = (M.ints_dyads_6 a b).bind fun x => match x with | (c, ok) => (M.ints_told c ok).bind fun y => match y with | (u, v) => some (u, v) := by
  unfold M.ints_Dyad M.ints_dyads
  simp only [Option.bind_some]
  iterate 12 rw [if_neg (by decide)]
  rw [if_pos (by decide)]
 rw [e, h, told_bind]
theorem sel_dyads_7 {a b : Int} {p : Int × Bool} (h : M.ints_dyads_7 a b = some p) : M.ints_Dyad str_62 a b = some (tl p) := by
 have e : M.ints_Dyad str_62 a b = (M.ints_dyads_7 a b).bind fun x => match x with | (c, ok) => (M.ints_told c ok).bind fun y => match y with | (u, v) => some (u, v) := by
  unfold M.ints_Dyad M.ints_dyads
  simp only [Option.bind_some]
  iterate 13 rw [if_neg (by decide)]
  rw [if_pos (by decide)]
 rw [e, h, told_bind]
theorem sel_dyads_8 {a b : Int} {p : Int × Bool} (h : M.ints_dyads_8 a b = some p) : M.ints_Dyad str_226_137_160 a b = some (tl p) := by
 have e : M.ints_Dyad str_226_137_160 a b = (M.ints_dyads_8 a b).bind fun x => match x with | (c, ok) => (M.ints_told c ok).bind fun y => match y with | (u, v) => some (u, v) := by
  unfold M.ints_Dyad M.ints_dyads
  simp only [Option.bind_some]
  iterate 14 rw [if_neg (by decide)]
  rw [if_pos (by decide)]
 rw [e, h, told_bind]
theorem sel_dyads_9 {a b : Int} {p : Int × Bool} (h : M.ints_dyads_9 a b = some p) : M.ints_Dyad str_226_136_167 a b = some (tl p) := by
 have e : M.ints_Dyad str_226_136_167 a b = (M.ints_dyads_9 a b).bind fun x => match x with | (c, ok) => (M.ints_told c ok).bind fun y => match y with | (u, v) => some (u, v) := by
  unfold M.ints_Dyad M.ints_dyads
  simp only [Option.bind_some]
  iterate 15 rw [if_neg (by decide)]
  rw [if_pos (by decide)]
 rw [e, h, told_bind]
theorem sel_dyads_10 {a b : Int} {p : Int × Bool} (h : M.ints_dyads_10 a b = some p) : M.ints_Dyad str_226_136_168 a b = some (tl p) := by
 have e : M.ints_Dyad str_226_136_168 a b = (M.ints_dyads_10 a b).bind fun x => match x with | (c, ok) => (M.ints_told c ok).bind fun y => match y with | (u, v) => some (u, v) := by
  unfold M.ints_Dyad M.ints_dyads
  simp only [Option.bind_some]
  iterate 16 rw [if_neg (by decide)]
  rw [if_pos (by decide)]
 rw [e, h, told_bind]
theorem sel_dyads_11 {a b : Int} {p : Int × Bool} (h : M.ints_dyads_11 a b = some p) : M.ints_Dyad str_226_141_178 a b = some (tl p) := by
 have e : M.ints_Dyad str_226_141_178 a b = (M.ints_dyads_11 a b).bind fun x => match x with | (c, ok) => (M.ints_told c ok).bind fun y => match y with | (u, v) => some (u, v) := by
  unfold M.ints_Dyad M.ints_dyads
  simp only [Option.bind_some]
  iterate 17 rw [if_neg (by decide)]
  rw [if_pos (by decide)]
 rw [e, h, told_bind]
theorem sel_dyads_12 {a b : Int} {p : Int × Bool} (h : M.ints_dyads_12 a b = some p) : M.ints_Dyad str_226_141_177 a b = some (tl p) := by
 have e : M.ints_Dyad str_226_141_177 a b = (M.ints_dyads_12 a b).bind fun x => match x with | (c, ok) => (M.ints_told c ok).bind fun y => match y with | (u, v) => some (u, v) := by
  unfold M.ints_Dyad M.ints_dyads
  simp only [Option.bind_some]
  iterate 18 rw [if_neg (by decide)]
  rw [if_pos (by decide)]
 rw [e, h, told_bind]
theorem dy_add {a b : Int} (ha : rng a) (hb : rng b) : M.ints_Dyad str_43 a b = some (if rng (a + b) then (a + b, 0) else (0, 23)) := by
 unfold rng at ha hb
 rw [sel_add (p := (IntKind.i64.wrap (a + b), (((decide ((IntKind.i64.wrap (a + b)) > a)) == (decide (b > 0))) || (b == 0)))) rfl]
 congr 1
 unfold tl
 simp only []
 by_cases h : rng (a + b)
 ·have h' := h
  unfold rng at h'
  rw [if_pos h, w64_id (by omega) (by omega), if_pos]
  simp only [Bool.or_eq_true, beq_iff_eq]
  by_cases hb0 : b > 0
  ·left; rw [decide_eq_true hb0, decide_eq_true (by omega)]
  ·by_cases hz : b = 0
   ·right; exact hz
   ·left; rw [decide_eq_false hb0, decide_eq_false (by omega)]
 ·have h' := h
  unfold rng at h'
  rw [if_neg h, if_neg]
  have := i64_eq (a + b)
  simp only [Bool.or_eq_true, beq_iff_eq, not_or]
  refine ⟨?_, by omega⟩
  rw [this]
  by_cases hb0 : b > 0
  ·rw [decide_eq_true hb0, decide_eq_false (by split <;> omega)]; simp
  ·rw [decide_eq_false hb0, decide_eq_true (by split <;> omega)]; simp
theorem dy_sub {a b : Int} (ha : rng a) (hb : rng b) : M.ints_Dyad str_45 a b = some (if rng (a - b) then (a - b, 0) else (0, 23)) := by
 unfold rng at ha hb
 rw [sel_sub (p := (IntKind.i64.wrap (a - b), (((decide ((IntKind.i64.wrap (a - b)) < a)) == (decide (b > 0))) || (b == 0)))) rfl]
 congr 1
 unfold tl
 simp only []
 by_cases h : rng (a - b)
 ·have h' := h
  unfold rng at h'
  rw [if_pos h, w64_id (by omega) (by omega), if_pos]
  simp only [Bool.or_eq_true, beq_iff_eq]
  by_cases hb0 : b > 0
  ·left; rw [decide_eq_true hb0, decide_eq_true (by omega)]
  ·by_cases hz : b = 0
   ·right; exact hz
   ·left; rw [decide_eq_false hb0, decide_eq_false (by omega)]
 ·have h' := h
  unfold rng at h'
  rw [if_neg h, if_neg]
  have := i64_eq (a - b)
  simp only [Bool.or_eq_true, beq_iff_eq, not_or]
  refine ⟨?_, by omega⟩
  rw [this]
  by_cases hb0 : b > 0
  ·rw [decide_eq_true hb0, decide_eq_false (by split <;> omega)]; simp
  ·rw [decide_eq_false hb0, decide_eq_true (by split <;> omega)]; simp
def absI (a : Int) : Int := if a < 0 then -a else a
theorem size_eq {a : Int} (ha : rng a) : M.ints_size a = some (absI a) := by
 unfold rng at ha
 unfold M.ints_size absI
 by_cases h : a < 0
 ·rw [if_pos (by simpa using h), if_pos h, u64_mod, u64_mod]; congr 1; omega
 ·rw [if_neg (by simpa using h), if_neg h, u64_id (by omega) (by omega)]
theorem absI_bounds {a : Int} (ha : rng a) : 0 ≤ absI a ∧ absI a ≤ 9223372036854775808 := by
 unfold rng at ha; unfold absI; split <;> omega
theorem absI_mul (a b : Int) : a * b = if (decide (a < 0)) = decide (b < 0) then absI a * absI b else -(absI a * absI b) := by
 unfold absI
 by_cases ha : a < 0 <;> by_cases hb : b < 0 <;> simp [ha, hb, Int.neg_mul, Int.mul_neg]
theorem mul_ok {a b : Int} (ha : rng a) (hb : rng b) : ∃ c, M.ints_mul a b = some (c, decide (rng (a * b))) ∧ (rng (a * b) → c = a * b) := by
 have ba := absI_bounds ha
 have bb := absI_bounds hb
 have hp : 0 ≤ absI a * absI b := Int.mul_nonneg ba.1 bb.1
 unfold M.ints_mul
 rw [size_eq ha, size_eq hb]
 simp only [Option.bind_some]
 rw [mul64_eq ba.1 (by omega) bb.1 (by omega), absI_mul a b]
 generalize absI a * absI b = P at hp
 simp only [Option.bind_some]
 cases hs : (decide (a < 0) == decide (b < 0)) with
 | false =>
  have hne : ¬ (decide (a < 0) = decide (b < 0)) := by simpa using hs
  rw [if_neg hne]
  simp only [Bool.not_false, if_true]
  refine ⟨_, congrArg some (pair_eq rfl ?_), fun hr => ?_⟩
  ·rw [Bool.eq_iff_iff]
   simp only [Bool.and_eq_true, beq_iff_eq, decide_eq_true_eq]
   unfold rng
   omega
  ·unfold rng at hr
   rw [i64_eq (P % _), i64_eq]
   split <;> split <;> omega
 | true =>
  have he : decide (a < 0) = decide (b < 0) := by simpa using hs
  rw [if_pos he]
  simp only [Bool.not_true, Bool.false_eq_true, if_false]
  refine ⟨_, congrArg some (pair_eq rfl ?_), fun hr => ?_⟩
  ·rw [Bool.eq_iff_iff]
   simp only [Bool.and_eq_true, beq_iff_eq, decide_eq_true_eq]
   unfold rng
   omega
  ·unfold rng at hr
   rw [i64_eq]
   split <;> omega
theorem dy_mul {a b : Int} (ha : rng a) (hb : rng b) : M.ints_Dyad str_195_151 a b = some (if rng (a * b) then (a * b, 0) else (0, 23)) := by
 obtain ⟨c, h1, h2⟩ := mul_ok ha hb
 rw [sel_mul h1]
 congr 1
 unfold tl
 by_cases h : rng (a * b)
 ·rw [if_pos h, h2 h]; simp [h]
 ·rw [if_neg h]; simp [h]
def fDiv (a b : Int) : Int × Bool := if a = 0 ∧ b = 0 then (1, true) else if b = 0 ∨ a = -9223372036854775808 ∧ b = -1 then (0, false) else (a.tdiv b, a.tmod b == 0)
theorem tdiv_rng {a b : Int} (ha : rng a) (hb : b ≠ 0) (h : ¬ (a = -9223372036854775808 ∧ b = -1)) : rng (a.tdiv b) := by
 unfold rng at *
 have h1 := Int.natAbs_tdiv_le_natAbs a b
 by_cases hb1 : b = -1
 ·subst hb1
  rw [Int.tdiv_neg, Int.tdiv_one]; omega
 ·by_cases hm : a = -9223372036854775808
  ·by_cases h1' : b = 1
   ·subst h1'; rw [Int.tdiv_one]; omega
   ·have h2 : (a.tdiv b).natAbs = a.natAbs / b.natAbs := Int.natAbs_tdiv a b
    have h3 : a.natAbs / b.natAbs ≤ a.natAbs / 2 := Nat.div_le_div_left (by omega) (by omega)
    omega
  ·omega
theorem div_eq {a b : Int} (ha : rng a) (hb : rng b) : M.ints_div a b = some (fDiv a b) := by
 unfold M.ints_div fDiv
 by_cases h1 : a = 0 ∧ b = 0
 ·rw [if_pos h1, if_pos (by simp [h1.1, h1.2])]
 ·rw [if_neg h1, if_neg (by simp; omega)]
  have e : (if (b == 0) = true then some (b == 0) else some (a == -9223372036854775808 && b == -1)) = some (decide (b = 0 ∨ a = -9223372036854775808 ∧ b = -1)) := by
   by_cases hb0 : b = 0
   ·rw [if_pos (by simpa using hb0), decide_eq_true (.inl hb0)]; simp [hb0]
   ·rw [if_neg (by simpa using hb0)]
    congr 1
    rw [Bool.eq_iff_iff]; simp [hb0]
  rw [e]
  simp only [Option.bind_some]
  by_cases h2 : b = 0 ∨ a = -9223372036854775808 ∧ b = -1
  ·rw [if_pos h2, if_pos (by simpa using h2)]
  ·rw [if_neg h2, if_neg (by simpa using h2)]
   have hb0 : b ≠ 0 := fun h => h2 (.inl h)
   have hr := tdiv_rng ha hb0 (fun h => h2 (.inr h))
   unfold rng at hr
   unfold quoI remI
   rw [if_neg hb0, if_neg hb0, w64_id hr.1 hr.2]; rfl
theorem dy_div {a b : Int} (ha : rng a) (hb : rng b) : M.ints_Dyad str_195_183 a b = some (tl (fDiv a b)) := sel_div (div_eq ha hb)
theorem dy_max (a b : Int) : M.ints_Dyad str_226_140_136 a b = some (if a < b then b else a, 0) := sel_dyads_1 rfl
theorem dy_min (a b : Int) : M.ints_Dyad str_226_140_138 a b = some (if b < a then b else a, 0) := sel_dyads_2 rfl
theorem truth_eq (b : Bool) : ((M.ints_truth b).bind fun x => match x with | (u, v) => some (u, v)) = some (if b then 1 else 0, true) := by cases b <;> rfl
theorem dy_lt (a b : Int) : M.ints_Dyad str_60 a b = some (if a < b then 1 else 0, 0) := by
 rw [sel_dyads_3 (p := (if decide (a < b) then 1 else 0, true)) (truth_eq _)]; simp [tl]
theorem dy_le (a b : Int) : M.ints_Dyad str_226_137_164 a b = some (if a ≤ b then 1 else 0, 0) := by
 rw [sel_dyads_4 (p := (if decide (a ≤ b) then 1 else 0, true)) (truth_eq _)]; simp [tl]
theorem dy_eq (a b : Int) : M.ints_Dyad str_61 a b = some (if a = b then 1 else 0, 0) := by
 rw [sel_dyads_5 (p := (if a == b then 1 else 0, true)) (truth_eq _)]; simp [tl]
theorem dy_ge (a b : Int) : M.ints_Dyad str_226_137_165 a b = some (if b ≤ a then 1 else 0, 0) := by
 rw [sel_dyads_6 (p := (if decide (a ≥ b) then 1 else 0, true)) (truth_eq _)]; simp [tl]
theorem dy_gt (a b : Int) : M.ints_Dyad str_62 a b = some (if b < a then 1 else 0, 0) := by
 rw [sel_dyads_7 (p := (if decide (a > b) then 1 else 0, true)) (truth_eq _)]; simp [tl]
theorem dy_ne (a b : Int) : M.ints_Dyad str_226_137_160 a b = some (if a = b then 0 else 1, 0) := by
 rw [sel_dyads_8 (p := (if a != b then 1 else 0, true)) (truth_eq _)]
 by_cases h : a = b <;> simp [tl, h]
def isbit (a : Int) : Bool := a == 0 || a == 1
theorem bit2 (a b : Int) : ((M.ints_bit a).bind fun r1 => if r1 = true then (M.ints_bit b).bind fun r2 => some r2 else some false) = some (isbit a && isbit b) := by
 unfold M.ints_bit
 show (if isbit a = true then _ else _) = _
 cases isbit a <;> rfl
theorem bit_cases {a b : Int} (h : (isbit a && isbit b) = true) : (a = 0 ∨ a = 1) ∧ (b = 0 ∨ b = 1) := by
 unfold isbit at h; simpa using h
theorem logic_tl {a b v w : Int} (h : (isbit a && isbit b) = true → v = w) : tl (v, isbit a && isbit b) = if isbit a && isbit b then (w, 0) else (0, 23) := by
 unfold tl
 cases hb : (isbit a && isbit b) with
 | false => rfl
 | true => simp [h hb]
theorem dyads_9_eq (a b : Int) : M.ints_dyads_9 a b = some (IntKind.i64.wrap (BitVec.ofInt IntKind.i64.bits a &&& BitVec.ofInt IntKind.i64.bits b).toNat, isbit a && isbit b) := by
 have := bit2 a b
 unfold M.ints_dyads_9
 revert this
 cases M.ints_bit a with
 | none => intro h; cases h
 | some r => intro h; simp only [Option.bind_some] at h ⊢; rw [h]; rfl
theorem dyads_10_eq (a b : Int) : M.ints_dyads_10 a b = some (IntKind.i64.wrap (BitVec.ofInt IntKind.i64.bits a ||| BitVec.ofInt IntKind.i64.bits b).toNat, isbit a && isbit b) := by
 have := bit2 a b
 unfold M.ints_dyads_10
 revert this
 cases M.ints_bit a with
 | none => intro h; cases h
 | some r => intro h; simp only [Option.bind_some] at h ⊢; rw [h]; rfl
theorem dyads_11_eq (a b : Int) : M.ints_dyads_11 a b = some (IntKind.i64.wrap (1 - (IntKind.i64.wrap (BitVec.ofInt IntKind.i64.bits a &&& BitVec.ofInt IntKind.i64.bits b).toNat)), isbit a && isbit b) := by
 have := bit2 a b
 unfold M.ints_dyads_11
 revert this
 cases M.ints_bit a with
 | none => intro h; cases h
 | some r => intro h; simp only [Option.bind_some] at h ⊢; rw [h]; rfl
theorem dyads_12_eq (a b : Int) : M.ints_dyads_12 a b = some (IntKind.i64.wrap (1 - (IntKind.i64.wrap (BitVec.ofInt IntKind.i64.bits a ||| BitVec.ofInt IntKind.i64.bits b).toNat)), isbit a && isbit b) := by
 have := bit2 a b
 unfold M.ints_dyads_12
 revert this
 cases M.ints_bit a with
 | none => intro h; cases h
 | some r => intro h; simp only [Option.bind_some] at h ⊢; rw [h]; rfl
theorem dy_and (a b : Int) : M.ints_Dyad str_226_136_167 a b = some (if isbit a && isbit b then (a * b, 0) else (0, 23)) := by
 rw [sel_dyads_9 (dyads_9_eq a b), logic_tl (w := a * b) (fun h => by
  rcases bit_cases h with ⟨rfl | rfl, rfl | rfl⟩ <;> decide)]
theorem dy_or (a b : Int) : M.ints_Dyad str_226_136_168 a b = some (if isbit a && isbit b then (a + b - a * b, 0) else (0, 23)) := by
 rw [sel_dyads_10 (dyads_10_eq a b), logic_tl (w := a + b - a * b) (fun h => by
  rcases bit_cases h with ⟨rfl | rfl, rfl | rfl⟩ <;> decide)]
theorem dy_nand (a b : Int) : M.ints_Dyad str_226_141_178 a b = some (if isbit a && isbit b then (1 - a * b, 0) else (0, 23)) := by
 rw [sel_dyads_11 (dyads_11_eq a b), logic_tl (w := 1 - a * b) (fun h => by
  rcases bit_cases h with ⟨rfl | rfl, rfl | rfl⟩ <;> decide)]
theorem dy_nor (a b : Int) : M.ints_Dyad str_226_141_177 a b = some (if isbit a && isbit b then (1 - (a + b - a * b), 0) else (0, 23)) := by
 rw [sel_dyads_12 (dyads_12_eq a b), logic_tl (w := 1 - (a + b - a * b)) (fun h => by
  rcases bit_cases h with ⟨rfl | rfl, rfl | rfl⟩ <;> decide)]
def fRes (a b : Int) : Int := if a = 0 then b else if a = -1 then 0 else if b.tmod a ≠ 0 ∧ ¬ (decide (b.tmod a < 0) = decide (a < 0)) then b.tmod a + a else b.tmod a
theorem residue_eq {a b : Int} (ha : rng a) (hb : rng b) : M.ints_residue a b = some (fRes a b, true) := by
 unfold M.ints_residue fRes
 by_cases h0 : a = 0
 ·rw [if_pos h0, if_pos (by simpa using h0)]
 ·rw [if_neg h0, if_neg (by simpa using h0)]
  by_cases h1 : a = -1
  ·rw [if_pos h1, if_pos (by simpa using h1)]
  ·rw [if_neg h1, if_neg (by simpa using h1)]
   unfold remI
   rw [if_neg h0]
   simp only [Option.bind_some]
   by_cases h2 : b.tmod a ≠ 0 ∧ ¬ (decide (b.tmod a < 0) = decide (a < 0))
   ·rw [if_pos h2, if_pos (by simp only [Bool.and_eq_true, bne_iff_ne, Bool.not_eq_true']; refine ⟨h2.1, ?_⟩; simpa using h2.2)]
    have hlt : (b.tmod a).natAbs < a.natAbs := by rw [Int.natAbs_tmod]; exact Nat.mod_lt _ (by omega)
    unfold rng at ha
    have hs : (b.tmod a < 0 ∧ ¬ a < 0) ∨ (¬ b.tmod a < 0 ∧ a < 0) := by
     have := h2.2
     by_cases q1 : b.tmod a < 0 <;> by_cases q2 : a < 0 <;> simp [q1, q2] at this ⊢
    rw [w64_id (by omega) (by omega)]; rfl
   ·rw [if_neg h2, if_neg (by simp only [Bool.and_eq_true, bne_iff_ne, Bool.not_eq_true']; intro h; exact h2 ⟨h.1, by simpa using h.2⟩)]; rfl
theorem dy_res {a b : Int} (ha : rng a) (hb : rng b) : M.ints_Dyad str_124 a b = some (fRes a b, 0) := by
 rw [sel_residue (residue_eq ha hb)]; rfl
/-- the ways to choose. -/
def ch : Nat → Nat → Nat
 | _, 0 => 1
 | 0, _ + 1 => 0
 | n + 1, k + 1 => ch n k + ch n (k + 1)
theorem ch_zero (n : Nat) : ch n 0 = 1 := by cases n <;> rfl
theorem ch_out : ∀ {n k : Nat}, n < k → ch n k = 0
 | n, 0, h => by omega
 | 0, k + 1, _ => rfl
 | n + 1, k + 1, h => by rw [ch, ch_out (show n < k by omega), ch_out (show n < k + 1 by omega)]
theorem ch_self : ∀ n : Nat, ch n n = 1
 | 0 => rfl
 | n + 1 => by rw [ch, ch_self n, ch_out (show n < n + 1 by omega)]
theorem ch_step : ∀ (n k : Nat), k ≤ n → ch n (k + 1) * (k + 1) = ch n k * (n - k)
 | 0, k, h => by
  have : k = 0 := by omega
  subst this; rfl
 | n + 1, 0, _ => by
  show (ch n 0 + ch n 1) * 1 = ch (n + 1) 0 * (n + 1)
  rw [ch_zero, ch_zero]
  cases n with
  | zero => rfl
  | succ n =>
   have := ch_step (n + 1) 0 (by omega)
   rw [ch_zero] at this
   simp only [Nat.zero_add, Nat.mul_one, Nat.one_mul, Nat.sub_zero] at this ⊢
   omega
 | n + 1, k + 1, h => by
  by_cases hk : k + 1 ≤ n
  ·have i1 := ch_step n (k + 1) hk
   have i2 := ch_step n k (by omega)
   rw [ch, ch, Nat.add_mul, i1, Nat.add_mul]
   have e1 : n + 1 - (k + 1) = n - k := by omega
   rw [e1, ← i2, ← Nat.mul_add, ← Nat.mul_add]
   congr 1
   omega
  ·have hk2 : k = n := by omega
   subst hk2
   rw [ch, ch_out (show k < k + 1 by omega), ch_out (show k < k + 1 + 1 by omega), Nat.sub_self]; simp
theorem ch_symm : ∀ {n k : Nat}, k ≤ n → ch n (n - k) = ch n k
 | 0, k, h => by
  have : k = 0 := by omega
  subst this; rfl
 | n + 1, 0, _ => by rw [Nat.sub_zero, ch_self, ch_zero]
 | n + 1, k + 1, h => by
  by_cases hk : k + 1 ≤ n
  ·obtain ⟨j, hj⟩ : ∃ j, n - k = j + 1 := ⟨n - k - 1, by omega⟩
   rw [show n + 1 - (k + 1) = j + 1 by omega, ch, ch, show j = n - (k + 1) by omega, ch_symm hk, show n - (k + 1) + 1 = n - k by omega, ch_symm (show k ≤ n by omega), Nat.add_comm]
  ·have : k = n := by omega
   subst this
   rw [Nat.sub_self, ch_zero, ch_self]
theorem ch_mono {n k : Nat} (h : 2 * (k + 1) ≤ n + 1) : ch n k ≤ ch n (k + 1) := by
 have := ch_step n k (by omega)
 have h2 : k + 1 ≤ n - k := by omega
 have h3 := Nat.mul_le_mul_left (ch n k) h2
 rw [← this] at h3
 exact Nat.le_of_mul_le_mul_right h3 (by omega)
theorem ch_mono_to {n m : Nat} : ∀ (j k : Nat), k + j = m → 2 * m ≤ n → ch n k ≤ ch n m
 | 0, k, h, _ => by rw [show k = m by omega]; exact Nat.le_refl _
 | j + 1, k, h, hm => Nat.le_trans (ch_mono (by omega)) (ch_mono_to j (k + 1) (by omega) hm)
theorem ch_pow : ∀ {n k : Nat}, 2 * k ≤ n → 2 ^ k ≤ ch n k
 | n, 0, _ => by rw [ch_zero]; exact Nat.le_refl _
 | 0, k + 1, h => by omega
 | n + 1, k + 1, h => by
  have h1 := ch_pow (n := n) (k := k) (by omega)
  have h2 := ch_mono (n := n) (k := k) (by omega)
  rw [ch, Nat.pow_succ]; omega
theorem div_long {U u1 Y : Nat} (hY : 0 < Y) : (U * 4294967296 + u1) / Y = U / Y * 4294967296 + (U % Y * 4294967296 + u1) / Y := by
 have h := Nat.div_add_mod U Y
 have e : U * 4294967296 + u1 = Y * (U / Y * 4294967296) + (U % Y * 4294967296 + u1) := by
  have : U * 4294967296 = (Y * (U / Y) + U % Y) * 4294967296 := by rw [h]
  rw [this, Nat.add_mul, Nat.mul_assoc]; omega
 rw [e, Nat.mul_add_div hY]
theorem or_add {hi lo : Int} (s : Nat) (hs : s ≤ 64) (h1 : 0 ≤ hi) (h2 : hi * 2 ^ s < 18446744073709551616) (h3 : 0 ≤ lo) (h4 : lo < 2 ^ s) :
  IntKind.u64.wrap (BitVec.ofInt IntKind.u64.bits (hi * 2 ^ s) ||| BitVec.ofInt IntKind.u64.bits lo).toNat = hi * 2 ^ s + lo := by
 obtain ⟨H, rfl⟩ := Int.eq_ofNat_of_zero_le h1
 obtain ⟨L, rfl⟩ := Int.eq_ofNat_of_zero_le h3
 have e2 : ((2 : Int) ^ s) = ((2 ^ s : Nat) : Int) := by simp
 rw [e2, ← Int.natCast_mul] at h2 ⊢
 rw [e2] at h4
 have hp : 2 ^ s ≤ 2 ^ 64 := Nat.pow_le_pow_right (by omega) hs
 have hL : L < 2 ^ s := by omega
 have hN : (2 : Nat) ^ 64 = 18446744073709551616 := by decide
 rw [BitVec.toNat_or, bv_toNat (by omega) (by omega), bv_toNat (by omega) (by omega), Int.toNat_natCast, Int.toNat_natCast]
 have : H * 2 ^ s ||| L = H * 2 ^ s + L := by
  rw [Nat.mul_comm, ← Nat.two_pow_add_eq_or_of_lt hL]
 rw [this]
 have hb : H * 2 ^ s + L < 18446744073709551616 := by
  have h5 : (H + 1) * 2 ^ s ≤ 2 ^ 64 := by
   have hd : 2 ^ 64 = 2 ^ (64 - s) * 2 ^ s := by rw [← Nat.pow_add]; congr 1; omega
   rw [hd]
   refine Nat.mul_le_mul_right _ ?_
   have h6 : H * 2 ^ s < 2 ^ (64 - s) * 2 ^ s := by rw [← hd, hN]; omega
   exact Nat.lt_of_mul_lt_mul_right h6
  rw [Nat.add_mul, Nat.one_mul] at h5
  omega
 rw [u64_id (by omega) (by omega)]; omega
theorem shl_some {x s : Int} (h : 0 ≤ s) (h2 : s ≤ 64) (hb : 0 ≤ x * 2 ^ s.toNat) (hb2 : x * 2 ^ s.toNat < 18446744073709551616) : shlI .u64 x s = some (x * 2 ^ s.toNat) := by
 unfold shlI
 rw [if_neg (by omega), Nat.min_eq_left (by show s.toNat ≤ 64; omega), u64_id hb hb2]
theorem shr_some {x s : Int} (h : 0 ≤ s) (h2 : s ≤ 64) (hx : 0 ≤ x) : shrI .u64 x s = some (x / 2 ^ s.toNat) := by
 unfold shrI
 rw [if_neg (by omega), Nat.min_eq_left (by show s.toNat ≤ 64; omega), Int.fdiv_eq_ediv_of_nonneg _ (by
  exact Int.le_of_lt (Int.pow_pos (by omega)))]
theorem len_tab : ∀ k : Fin 256, sidx str_0_1_2_2_3_3_3_3_4_4_4_4_4_4_4_4_5_5_5_5_5_5_5_5_5_5_5_5_5_5_5_5_6_6_6_6_6_6_6_6_6_6_6_6_6_6_6_6_6_6_6_6_6_6_6_6_6_6_6_6_6_6_6_6_7_7_7_7_7_7_7_7_7_7_7_7_7_7_7_7_7_7_7_7_7_7_7_7_7_7_7_7_7_7_7_7_7_7_7_7_7_7_7_7_7_7_7_7_7_7_7_7_7_7_7_7_7_7_7_7_7_7_7_7_7_7_7_7_8_8_8_8_8_8_8_8_8_8_8_8_8_8_8_8_8_8_8_8_8_8_8_8_8_8_8_8_8_8_8_8_8_8_8_8_8_8_8_8_8_8_8_8_8_8_8_8_8_8_8_8_8_8_8_8_8_8_8_8_8_8_8_8_8_8_8_8_8_8_8_8_8_8_8_8_8_8_8_8_8_8_8_8_8_8_8_8_8_8_8_8_8_8_8_8_8_8_8_8_8_8_8_8_8_8_8_8_8_8_8_8_8_8_8_8_8_8_8_8_8_8_8_8_8_8_8_8 (k.val : Int) = some (if k.val = 0 then 0 else (k.val.log2 : Int) + 1) := by decide
theorem len_small {y : Nat} (h1 : 1 ≤ y) (h2 : y < 256) : M.math_bits_LeadingZeros64 (y : Int) = some (63 - (y.log2 : Int)) := by
 have hl : y.log2 < 8 := (Nat.log2_lt (by omega)).mpr h2
 unfold M.math_bits_LeadingZeros64 M.math_bits_Len64
 rw [if_neg (by simp; omega)]
 simp only [Option.bind_some]
 rw [if_neg (by simp; omega)]
 simp only [Option.bind_some]
 rw [if_neg (by simp; omega)]
 simp only [Option.bind_some]
 rw [u8_id (by omega) (by omega)]
 have := len_tab ⟨y, h2⟩
 simp only [] at this
 rw [if_neg (by omega)] at this
 rw [this]
 simp only [Option.bind_some]
 rw [w64_id (x := (y.log2 : Int) + 1) (by omega) (by omega), w64_id (x := 0 + ((y.log2 : Int) + 1)) (by omega) (by omega), w64_id (by omega) (by omega)]
 congr 1; omega
theorem norm {y hi lo : Nat} (h1 : 1 ≤ y) (h2 : y < 256) (hh : hi < y) (hl : lo < 18446744073709551616) : ∃ s T K D : Nat, s ≤ 63 ∧ 1 ≤ s ∧ K = 2 ^ s ∧ D = 2 ^ (64 - s) ∧ 63 - (y.log2 : Int) = s ∧ 0 < T ∧ y * K = y * T * 4294967296 ∧ y * T < 4294967296 ∧
  hi * K < 18446744073709551616 ∧ lo / D < K ∧ hi * K + lo / D < y * T * 4294967296 ∧ (hi * 18446744073709551616 + lo) * T = (hi * K + lo / D) * 4294967296 + lo * K % 18446744073709551616 / 4294967296 ∧ lo * K % 18446744073709551616 % 4294967296 = 0 := by
 have hl8 : y.log2 < 8 := (Nat.log2_lt (by omega)).mpr h2
 have a1 := Nat.log2_self_le (show y ≠ 0 by omega)
 have a2 := @Nat.lt_log2_self y
 have : y.log2 = 0 ∨ y.log2 = 1 ∨ y.log2 = 2 ∨ y.log2 = 3 ∨ y.log2 = 4 ∨ y.log2 = 5 ∨ y.log2 = 6 ∨ y.log2 = 7 := by omega
 rcases this with h | h | h | h | h | h | h | h <;> rw [h] at a1 a2 ⊢ <;> simp only [Nat.reducePow, Nat.reduceAdd] at a1 a2
 ·exact ⟨63, 2 ^ 31, 2 ^ 63, 2 ^ 1, by omega, by omega, rfl, rfl, by omega, by omega, by omega, by omega, by omega, by omega, by omega, by omega, by omega⟩
 ·exact ⟨62, 2 ^ 30, 2 ^ 62, 2 ^ 2, by omega, by omega, rfl, rfl, by omega, by omega, by omega, by omega, by omega, by omega, by omega, by omega, by omega⟩
 ·exact ⟨61, 2 ^ 29, 2 ^ 61, 2 ^ 3, by omega, by omega, rfl, rfl, by omega, by omega, by omega, by omega, by omega, by omega, by omega, by omega, by omega⟩
 ·exact ⟨60, 2 ^ 28, 2 ^ 60, 2 ^ 4, by omega, by omega, rfl, rfl, by omega, by omega, by omega, by omega, by omega, by omega, by omega, by omega, by omega⟩
 ·exact ⟨59, 2 ^ 27, 2 ^ 59, 2 ^ 5, by omega, by omega, rfl, rfl, by omega, by omega, by omega, by omega, by omega, by omega, by omega, by omega, by omega⟩
 ·exact ⟨58, 2 ^ 26, 2 ^ 58, 2 ^ 6, by omega, by omega, rfl, rfl, by omega, by omega, by omega, by omega, by omega, by omega, by omega, by omega, by omega⟩
 ·exact ⟨57, 2 ^ 25, 2 ^ 57, 2 ^ 7, by omega, by omega, rfl, rfl, by omega, by omega, by omega, by omega, by omega, by omega, by omega, by omega, by omega⟩
 ·exact ⟨56, 2 ^ 24, 2 ^ 56, 2 ^ 8, by omega, by omega, rfl, rfl, by omega, by omega, by omega, by omega, by omega, by omega, by omega, by omega, by omega⟩
theorem small_q {R Y W : Nat} (hR : R < Y) (hY : 0 < Y) (hW : W < 18446744073709551616) : (R * 4294967296 + W / 4294967296) / Y < 4294967296 := by
 rw [Nat.div_lt_iff_lt_mul hY]; omega
theorem small_fin {a b : Nat} (ha : a < 4294967296) (hb : b < 4294967296) : IntKind.u64.wrap (IntKind.u64.wrap ((a : Int) * 4294967296) + (b : Int)) = ((a * 4294967296 + b : Nat) : Int) := by
 rw [u64_id (x := (a : Int) * 4294967296) (by omega) (by omega), u64_id (by omega) (by omega)]; omega
theorem small_lt {R Y W : Nat} (hR : R < Y) (hY : Y < 4294967296) (hW : W < 18446744073709551616) : R * 4294967296 + W / 4294967296 < 18446744073709551616 := by omega
theorem small_mod {R Y W : Nat} (hR : R < Y) (hY : Y < 4294967296) (hW : W < 18446744073709551616) : ((R * 4294967296 + W / 4294967296 : Nat) : Int) % 18446744073709551616 = ((R * 4294967296 + W / 4294967296 : Nat) : Int) := by
 have : R * 4294967296 + W / 4294967296 < 18446744073709551616 := by omega
 generalize R * 4294967296 + W / 4294967296 = x at this ⊢
 exact Int.emod_eq_of_lt (by omega) (by omega)
theorem small_sum {R Y W U A : Nat} (h : A + R = U) : (U : Int) * 4294967296 + ((W / 4294967296 : Nat) : Int) - (A : Int) * 4294967296 = ((R * 4294967296 + W / 4294967296 : Nat) : Int) := by
 generalize W / 4294967296 = x
 omega
theorem small_div {R Y W : Nat} (hR : R < Y) (hY : 0 < Y) : (R * 4294967296 + W) / Y < 4294967296 + W := by
 have := Nat.div_lt_iff_lt_mul hY (x := R * 4294967296 + W) (y := 4294967296 + W)
 rw [this, Nat.add_mul]
 have h1 : W ≤ W * Y := Nat.le_mul_of_pos_right _ hY
 have h2 := Nat.mul_le_mul_left 4294967296 (show R + 1 ≤ Y from hR)
 omega
theorem shl_wrap {x s : Int} (h : 0 ≤ s) (h2 : s ≤ 64) : shlI .u64 x s = some (x * 2 ^ s.toNat % 18446744073709551616) := by
 unfold shlI
 rw [if_neg (by omega), Nat.min_eq_left (by show s.toNat ≤ 64; omega), u64_mod]
theorem div_tail {Y U W : Nat} {sh : Int} (hsh : 0 ≤ IntKind.u64.wrap sh) (hsh2 : IntKind.u64.wrap sh ≤ 64) (hY : 0 < Y) (e2 : Y < 4294967296) (e5 : U < Y * 4294967296) (hW : W < 18446744073709551616) (e7 : W % 4294967296 = 0) : ∃ r, (
    (quoI .u64 (U : Int) (Int.fdiv ((Y * 4294967296 : Nat) : Int) (2 ^ (min (Int.toNat 32) IntKind.u64.bits)))).bind fun q7 =>
    ((wloop (M.math_bits_Div64_L1 ((Y * 4294967296 : Nat) : Int) (W : Int)) (q7, (IntKind.u64.wrap ((U : Int) - (IntKind.u64.wrap (q7 * (Int.fdiv ((Y * 4294967296 : Nat) : Int) (2 ^ (min (Int.toNat 32) IntKind.u64.bits))))))))).bind fun k => joinK k fun jx =>
    some jx).bind fun q8 =>
    (quoI .u64 (IntKind.u64.wrap ((IntKind.u64.wrap ((IntKind.u64.wrap ((U : Int) * 4294967296)) + (Int.fdiv (W : Int) (2 ^ (min (Int.toNat 32) IntKind.u64.bits))))) - (IntKind.u64.wrap (q8 * ((Y * 4294967296 : Nat) : Int))))) (Int.fdiv ((Y * 4294967296 : Nat) : Int) (2 ^ (min (Int.toNat 32) IntKind.u64.bits)))).bind fun q10 =>
    ((wloop (M.math_bits_Div64_L2 ((Y * 4294967296 : Nat) : Int) (W : Int)) ((IntKind.u64.wrap ((IntKind.u64.wrap ((IntKind.u64.wrap ((IntKind.u64.wrap ((U : Int) * 4294967296)) + (Int.fdiv (W : Int) (2 ^ (min (Int.toNat 32) IntKind.u64.bits))))) - (IntKind.u64.wrap (q8 * ((Y * 4294967296 : Nat) : Int))))) - (IntKind.u64.wrap (q10 * (Int.fdiv ((Y * 4294967296 : Nat) : Int) (2 ^ (min (Int.toNat 32) IntKind.u64.bits))))))), q10)).bind fun k => joinK k fun jx =>
    some jx).bind fun q11 =>
    (shrI .u64 (IntKind.u64.wrap ((IntKind.u64.wrap ((IntKind.u64.wrap ((IntKind.u64.wrap ((IntKind.u64.wrap ((IntKind.u64.wrap ((U : Int) * 4294967296)) + (Int.fdiv (W : Int) (2 ^ (min (Int.toNat 32) IntKind.u64.bits))))) - (IntKind.u64.wrap (q8 * ((Y * 4294967296 : Nat) : Int))))) * 4294967296)) + (IntKind.u64.wrap (BitVec.ofInt IntKind.u64.bits (W : Int) &&& BitVec.ofInt IntKind.u64.bits 4294967295).toNat))) - (IntKind.u64.wrap (q11 * ((Y * 4294967296 : Nat) : Int))))) (IntKind.u64.wrap sh)).bind fun q13 =>
    some ((IntKind.u64.wrap ((IntKind.u64.wrap (q8 * 4294967296)) + q11)), q13)) = some (((U / Y * 4294967296 + (U % Y * 4294967296 + W / 4294967296) / Y : Nat) : Int), r) := by
 have sY : Int.fdiv ((Y * 4294967296 : Nat) : Int) (2 ^ (min (Int.toNat 32) IntKind.u64.bits)) = (Y : Int) := by rw [shr32 (by omega)]; omega
 have aY : IntKind.u64.wrap (BitVec.ofInt IntKind.u64.bits ((Y * 4294967296 : Nat) : Int) &&& BitVec.ofInt IntKind.u64.bits 4294967295).toNat = 0 := by rw [and32 (by omega) (by omega)]; omega
 have sW : Int.fdiv (W : Int) (2 ^ (min (Int.toNat 32) IntKind.u64.bits)) = ((W / 4294967296 : Nat) : Int) := by rw [shr32 (by omega)]; omega
 have quo : ∀ u : Nat, u < 18446744073709551616 → quoI .u64 (u : Int) (Y : Int) = some ((u / Y : Nat) : Int) := by
  intro u hu
  unfold quoI
  have h := Nat.div_le_self u Y
  rw [if_neg (by omega), Int.tdiv_eq_ediv_of_nonneg (by omega), ← Int.natCast_ediv]
  generalize u / Y = v at h ⊢
  rw [u64_id (by omega) (by omega)]
 rw [sY, quo U (by omega)]
 simp only [Option.bind_some]
 have hq7 : U / Y < 4294967296 := by rw [Nat.div_lt_iff_lt_mul hY, Nat.mul_comm]; exact e5
 have hdm := Nat.div_add_mod U Y
 have hmod := Nat.mod_lt U hY
 have l1 : ∀ (q : Nat) (r : Int), q < 4294967296 → wloop (M.math_bits_Div64_L1 ((Y * 4294967296 : Nat) : Int) (W : Int)) ((q : Int), IntKind.u64.wrap r) = some (.next (q : Int)) := by
  intro q r hq
  refine wloop_done ?_
  unfold M.math_bits_Div64_L1
  simp only [aY, Int.mul_zero]
  have nn := u64_mod (IntKind.u64.wrap (4294967296 * IntKind.u64.wrap r) + Int.fdiv (W : Int) (2 ^ (min (Int.toNat 32) IntKind.u64.bits)))
  rw [if_neg]
  simp only [Bool.or_eq_true, decide_eq_true_eq, not_or]
  refine ⟨by omega, ?_⟩
  rw [nn, u64_mod 0]; omega
 have l2 : ∀ (q : Nat) (r : Int), q < 4294967296 → wloop (M.math_bits_Div64_L2 ((Y * 4294967296 : Nat) : Int) (W : Int)) (IntKind.u64.wrap r, (q : Int)) = some (.next (q : Int)) := by
  intro q r hq
  refine wloop_done ?_
  unfold M.math_bits_Div64_L2
  simp only [aY, Int.mul_zero]
  rw [if_neg]
  simp only [Bool.or_eq_true, decide_eq_true_eq, not_or]
  refine ⟨by omega, ?_⟩
  rw [u64_mod 0, u64_mod (_ + _)]; omega
 rw [l1 _ _ hq7]
 simp only [Option.bind_some, joinK_next]
 have hA : ((U / Y : Nat) : Int) * ((Y * 4294967296 : Nat) : Int) = ((Y * (U / Y) : Nat) : Int) * 4294967296 := by
  rw [← Int.natCast_mul, show U / Y * (Y * 4294967296) = Y * (U / Y) * 4294967296 by rw [← Nat.mul_assoc, Nat.mul_comm (U / Y) Y]]; simp
 have hun : IntKind.u64.wrap ((IntKind.u64.wrap ((IntKind.u64.wrap ((U : Int) * 4294967296)) + ((W / 4294967296 : Nat) : Int))) - (IntKind.u64.wrap (((U / Y : Nat) : Int) * ((Y * 4294967296 : Nat) : Int)))) = ((U % Y * 4294967296 + W / 4294967296 : Nat) : Int) := by
  rw [hA, u64_mod, u64_mod, u64_mod, u64_mod, Int.sub_emod_emod, Int.emod_sub_emod, Int.add_sub_assoc, Int.emod_add_emod, ← Int.add_sub_assoc]
  generalize Y * (U / Y) = Aq at hdm ⊢
  have e := small_sum (R := U % Y) (Y := Y) (W := W) (U := U) (A := Aq) hdm
  rw [e]
  exact small_mod hmod e2 hW
 have hu : U % Y * 4294967296 + W / 4294967296 < 18446744073709551616 := small_lt hmod e2 hW
 rw [sW, hun, quo _ hu]
 simp only [Option.bind_some]
 have hq10 : (U % Y * 4294967296 + W / 4294967296) / Y < 4294967296 := small_q hmod hY hW
 rw [l2 _ _ hq10]
 simp only [Option.bind_some, joinK_next]
 simp only [shrI, if_neg (show ¬ IntKind.u64.wrap sh < 0 by omega), Option.bind_some]
 refine ⟨_, congrArg some (pair_eq ?_ rfl)⟩
 exact small_fin hq7 hq10
theorem div64_eq {y hi lo : Nat} (h1 : 1 ≤ y) (h2 : y < 256) (hh : hi < y) (hl : lo < 18446744073709551616) : ∃ r, M.math_bits_Div64 (hi : Int) (lo : Int) (y : Int) = some ((((hi * 18446744073709551616 + lo) / y : Nat) : Int), r) := by
 unfold M.math_bits_Div64
 rw [if_neg (by simp; omega), if_neg (by simp; omega)]
 have hres : (hi * 18446744073709551616 + lo) / y < 18446744073709551616 := by
  rw [Nat.div_lt_iff_lt_mul (by omega)]
  have := Nat.mul_le_mul_left 18446744073709551616 (show hi + 1 ≤ y from hh)
  omega
 by_cases h0 : hi = 0
 ·subst h0
  rw [if_pos (by simp)]
  unfold quoI remI
  rw [if_neg (by omega), if_neg (by omega), Int.tdiv_eq_ediv_of_nonneg (by omega), ← Int.natCast_ediv]
  simp only [Option.bind_some]
  have hle : lo / y ≤ lo := Nat.div_le_self _ _
  rw [show (0 * 18446744073709551616 + lo) / y = lo / y by simp]
  generalize lo / y = v at hle ⊢
  rw [u64_id (by omega) (by omega)]
  exact ⟨_, rfl⟩
 ·rw [if_neg (by simp; omega), len_small h1 h2]
  obtain ⟨s, T, K, D, hs, hs1, hK, hD, hlog, hT, e1, e2, e3, e4, e5, e6, e7⟩ := norm h1 h2 hh hl
  rw [hlog]
  simp only [Option.bind_some]
  have hKi : (2 : Int) ^ (s : Int).toNat = (K : Int) := by rw [Int.toNat_natCast, hK]; simp
  have hDi : (2 : Int) ^ ((64 : Int) - (s : Int)).toNat = (D : Int) := by rw [show ((64 : Int) - (s : Int)).toNat = 64 - s by omega, hD]; simp
  have hYK : (y : Int) * (K : Int) = ((y * T * 4294967296 : Nat) : Int) := by rw [← e1]; simp
  rw [u64_id (x := (s : Int)) (by omega) (by omega), u64_id (x := 64 - (s : Int)) (by omega) (by omega), shl_some (x := (y : Int)) (by omega) (by omega) (by rw [hKi, hYK]; omega) (by rw [hKi, hYK]; omega),
   shl_some (x := (hi : Int)) (by omega) (by omega) (by rw [hKi, ← Int.natCast_mul]; omega) (by rw [hKi, ← Int.natCast_mul]; omega), shr_some (x := (lo : Int)) (by omega) (by omega) (by omega), shl_wrap (x := (lo : Int)) (by omega) (by omega)]
  simp only [Option.bind_some]
  have hor := or_add (hi := (hi : Int)) (lo := (lo : Int) / (2 : Int) ^ ((64 : Int) - (s : Int)).toNat) s (by omega) (by omega) (by
   have : (2 : Int) ^ s = (K : Int) := by rw [hK]; simp
   rw [this, ← Int.natCast_mul]; omega) (by rw [hDi, ← Int.natCast_ediv]; exact Int.natCast_nonneg _) (by
   have : (2 : Int) ^ s = (K : Int) := by rw [hK]; simp
   rw [this, hDi, ← Int.natCast_ediv]; omega)
  rw [show (2 : Int) ^ s = (2 : Int) ^ (s : Int).toNat by rw [Int.toNat_natCast]] at hor
  rw [hor, hKi, hDi, hYK]
  have hU : (hi : Int) * (K : Int) + (lo : Int) / (D : Int) = ((hi * K + lo / D : Nat) : Int) := by simp
  have hlK : (lo : Int) * (K : Int) % 18446744073709551616 = ((lo * K % 18446744073709551616 : Nat) : Int) := by simp
  rw [hU, hlK]
  have hY : 0 < y * T := Nat.mul_pos (by omega) hT
  obtain ⟨r, hr⟩ := div_tail (Y := y * T) (U := hi * K + lo / D) (W := lo * K % 18446744073709551616) (sh := 63 - (y.log2 : Int)) (by rw [hlog, u64_id (by omega) (by omega)]; omega) (by rw [hlog, u64_id (by omega) (by omega)]; omega) hY e2 e5 (Nat.mod_lt _ (by omega)) e7
  rw [hlog] at hr
  have hfin : (hi * K + lo / D) / (y * T) * 4294967296 + ((hi * K + lo / D) % (y * T) * 4294967296 + lo * K % 18446744073709551616 / 4294967296) / (y * T) = (hi * 18446744073709551616 + lo) / y := by
   rw [← div_long hY, ← e6, Nat.mul_div_mul_right _ _ hT]
  rw [hfin] at hr
  rw [u64_id (x := (s : Int)) (by omega) (by omega)] at hr
  exact ⟨r, hr⟩
theorem ch_div {B i : Nat} (hi : i ≤ B) : ch B i * (B - i) / (i + 1) = ch B (i + 1) := by
 rw [← ch_step B i hi, Nat.mul_div_cancel _ (by omega)]
theorem pow_small {i : Nat} (h : 2 ^ i ≤ 9223372036854775807) : i < 63 := by
 have e : (2 : Nat) ^ 63 = 9223372036854775808 := by decide
 have := (Nat.pow_lt_pow_iff_right (show 1 < 2 by omega)).mp (show 2 ^ i < 2 ^ 63 by omega)
 exact this
theorem big_step {c n i : Nat} {p : Nat} (hp : c * (i + 1) = p) (h : i < p / 18446744073709551616) : 18446744073709551616 ≤ c := by
 have h1 : (i + 1) * 18446744073709551616 ≤ p := by
  have := Nat.div_mul_le_self p 18446744073709551616
  exact Nat.le_trans (Nat.mul_le_mul_right 18446744073709551616 (show i + 1 ≤ p / 18446744073709551616 from h)) this
 rw [← hp, Nat.mul_comm c] at h1
 exact Nat.le_of_mul_le_mul_left h1 (by omega)
theorem choose_eq {A B : Nat} (hAB : A ≤ B) (hB : B ≤ 9223372036854775807) : M.ints_choose (A : Int) (B : Int) = some (if ch B A ≤ 9223372036854775807 then ((ch B A : Int), true) else (0, false)) := by
 obtain ⟨n, hn, hn2, hsym⟩ : ∃ n : Nat, IntKind.u64.wrap (if IntKind.i64.wrap ((B : Int) - (A : Int)) < (A : Int) then IntKind.i64.wrap ((B : Int) - (A : Int)) else (A : Int)) = (n : Int) ∧ 2 * n ≤ B ∧ ch B n = ch B A := by
  rw [w64_id (x := (B : Int) - (A : Int)) (by omega) (by omega)]
  by_cases h : B - A < A
  ·refine ⟨B - A, ?_, by omega, ch_symm hAB⟩
   rw [if_pos (by omega), u64_id (by omega) (by omega)]; omega
  ·refine ⟨A, ?_, by omega, rfl⟩
   rw [if_neg (by omega), u64_id (by omega) (by omega)]
 unfold M.ints_choose
 rw [if_neg (by simp <;> omega), if_neg (by simp <;> omega)]
 have key := wloop_ind (f := M.ints_choose_L1 (A : Int) (B : Int)) (fun j st => ∃ i : Nat, j = n - i ∧ i ≤ n ∧ st = ((ch B i : Int), (i : Int)) ∧ ch B i ≤ 9223372036854775807)
  (fun b => (b = .next (ch B n : Int) ∧ ch B n ≤ 9223372036854775807) ∨ (b = .done (0, false) ∧ ¬ ch B n ≤ 9223372036854775807)) (fun j st h => by
   obtain ⟨i, rfl, hi, rfl, hc⟩ := h
   unfold M.ints_choose_L1
   simp only [hn]
   by_cases hlt : i < n
   ·rw [if_pos (by simpa using hlt)]
    have hpow := ch_pow (n := B) (k := i) (by omega)
    have hi63 := pow_small (Nat.le_trans hpow hc)
    have hst := ch_step B i (by omega)
    have hmono := ch_mono_to (n := B) (m := n) (n - (i + 1)) (i + 1) (by omega) hn2
    rw [u64_id (x := (B : Int)) (by omega) (by omega), u64_id (x := (B : Int) - (i : Int)) (by omega) (by omega), show (B : Int) - (i : Int) = ((B - i : Nat) : Int) by omega, mul64_eq (by omega) (by omega) (by omega) (by omega)]
    simp only [Option.bind_some]
    have e1 : (ch B i : Int) * ((B - i : Nat) : Int) / 18446744073709551616 = ((ch B i * (B - i) / 18446744073709551616 : Nat) : Int) := by simp
    have e2 : (ch B i : Int) * ((B - i : Nat) : Int) % 18446744073709551616 = ((ch B i * (B - i) % 18446744073709551616 : Nat) : Int) := by simp
    rw [e1, e2]
    by_cases hbig : i < ch B i * (B - i) / 18446744073709551616
    ·rw [if_pos (by simp only [decide_eq_true_eq]; omega)]
     have := big_step hst hbig (n := n)
     exact .inr ⟨_, rfl, .inr ⟨rfl, by omega⟩⟩
    ·rw [if_neg (by simp only [decide_eq_true_eq]; omega), u64_id (x := (i : Int) + 1) (by omega) (by omega), show (i : Int) + 1 = ((i + 1 : Nat) : Int) by omega]
     obtain ⟨r, hr⟩ := div64_eq (y := i + 1) (hi := ch B i * (B - i) / 18446744073709551616) (lo := ch B i * (B - i) % 18446744073709551616) (by omega) (by omega) (by omega) (Nat.mod_lt _ (by omega))
     have e3 : (ch B i * (B - i) / 18446744073709551616 * 18446744073709551616 + ch B i * (B - i) % 18446744073709551616) / (i + 1) = ch B (i + 1) := by
      rw [Nat.mul_comm (_ / _) 18446744073709551616, Nat.div_add_mod, ch_div (by omega)]
     rw [hr, e3]
     simp only [Option.bind_some]
     by_cases hb2 : ch B (i + 1) > 9223372036854775807
     ·rw [if_pos (by simp only [decide_eq_true_eq]; omega)]
      exact .inr ⟨_, rfl, .inr ⟨rfl, by omega⟩⟩
     ·rw [if_neg (by simp only [decide_eq_true_eq]; omega)]
      exact .inl ⟨_, n - (i + 1), rfl, by omega, i + 1, rfl, by omega, rfl, by omega⟩
   ·have : i = n := by omega
    subst this
    rw [if_neg (by simp)]
    exact .inr ⟨_, rfl, .inl ⟨rfl, hc⟩⟩) n ((1 : Int), (0 : Int)) ⟨0, by omega, by omega, by rw [ch_zero]; rfl, by rw [ch_zero]; omega⟩
 obtain ⟨b, hb, ⟨rfl, hle⟩ | ⟨rfl, hle⟩⟩ := key
 ·rw [hb, ← hsym, if_pos hle]
  simp only [Option.bind_some, joinK_next]
  rw [w64_id (by omega) (by omega)]
 ·rw [hb, ← hsym, if_neg hle]; rfl
/-- the ways to choose, of any two numbers. -/
def fCh (a b : Int) : Int × Bool := if a < 0 ∨ b < 0 then (0, false) else if ch b.toNat a.toNat ≤ 9223372036854775807 then ((ch b.toNat a.toNat : Int), true) else (0, false)
theorem choose_ok {a b : Int} (ha : rng a) (hb : rng b) : M.ints_choose a b = some (fCh a b) := by
 unfold rng at ha hb
 unfold fCh
 by_cases h : a < 0 ∨ b < 0
 ·unfold M.ints_choose
  rw [if_pos (by simpa using h), if_pos h]
 ·rw [if_neg h]
  obtain ⟨A, rfl⟩ := Int.eq_ofNat_of_zero_le (show 0 ≤ a by omega)
  obtain ⟨B, rfl⟩ := Int.eq_ofNat_of_zero_le (show 0 ≤ b by omega)
  simp only [Int.toNat_natCast]
  by_cases hAB : A ≤ B
  ·exact choose_eq hAB (by omega)
  ·rw [ch_out (by omega)]
   unfold M.ints_choose
   rw [if_neg (by simp <;> omega), if_pos (by simp <;> omega)]; rfl
theorem dy_choose {a b : Int} (ha : rng a) (hb : rng b) : M.ints_Dyad str_33 a b = some (tl (fCh a b)) := sel_choose (choose_ok ha hb)
theorem id_43 : M.ints_Identity str_43 = some (0, 0) := by
 unfold M.ints_Identity
 simp only [ByteArray.toList_eq]
 rfl
theorem id_45 : M.ints_Identity str_45 = some (0, 0) := by
 unfold M.ints_Identity
 simp only [ByteArray.toList_eq]
 rfl
theorem id_124 : M.ints_Identity str_124 = some (0, 0) := by
 unfold M.ints_Identity
 simp only [ByteArray.toList_eq]
 rfl
theorem id_60 : M.ints_Identity str_60 = some (0, 0) := by
 unfold M.ints_Identity
 simp only [ByteArray.toList_eq]
 rfl
theorem id_62 : M.ints_Identity str_62 = some (0, 0) := by
 unfold M.ints_Identity
 simp only [ByteArray.toList_eq]
 rfl
theorem id_226_137_160 : M.ints_Identity str_226_137_160 = some (0, 0) := by
 unfold M.ints_Identity
 simp only [ByteArray.toList_eq]
 rfl
theorem id_226_136_168 : M.ints_Identity str_226_136_168 = some (0, 0) := by
 unfold M.ints_Identity
 simp only [ByteArray.toList_eq]
 rfl
theorem id_195_151 : M.ints_Identity str_195_151 = some (1, 0) := by
 unfold M.ints_Identity
 simp only [ByteArray.toList_eq]
 rfl
theorem id_195_183 : M.ints_Identity str_195_183 = some (1, 0) := by
 unfold M.ints_Identity
 simp only [ByteArray.toList_eq]
 rfl
theorem id_42 : M.ints_Identity str_42 = some (1, 0) := by
 unfold M.ints_Identity
 simp only [ByteArray.toList_eq]
 rfl
theorem id_33 : M.ints_Identity str_33 = some (1, 0) := by
 unfold M.ints_Identity
 simp only [ByteArray.toList_eq]
 rfl
theorem id_226_137_164 : M.ints_Identity str_226_137_164 = some (1, 0) := by
 unfold M.ints_Identity
 simp only [ByteArray.toList_eq]
 rfl
theorem id_61 : M.ints_Identity str_61 = some (1, 0) := by
 unfold M.ints_Identity
 simp only [ByteArray.toList_eq]
 rfl
theorem id_226_137_165 : M.ints_Identity str_226_137_165 = some (1, 0) := by
 unfold M.ints_Identity
 simp only [ByteArray.toList_eq]
 rfl
theorem id_226_136_167 : M.ints_Identity str_226_136_167 = some (1, 0) := by
 unfold M.ints_Identity
 simp only [ByteArray.toList_eq]
 rfl
theorem id_226_140_136 : M.ints_Identity str_226_140_136 = some (-9223372036854775808, 0) := by
 unfold M.ints_Identity
 simp only [ByteArray.toList_eq]
 rfl
theorem id_226_140_138 : M.ints_Identity str_226_140_138 = some (9223372036854775807, 0) := by
 unfold M.ints_Identity
 simp only [ByteArray.toList_eq]
 rfl
theorem id_226_141_178 : M.ints_Identity str_226_141_178 = some (0, 23) := by
 unfold M.ints_Identity
 simp only [ByteArray.toList_eq]
 rfl
theorem id_226_141_177 : M.ints_Identity str_226_141_177 = some (0, 23) := by
 unfold M.ints_Identity
 simp only [ByteArray.toList_eq]
 rfl
theorem ba_eq {a b : ByteArray} (h : (a == b) = true) : a = b := by
 obtain ⟨d⟩ := a
 obtain ⟨e⟩ := b
 have h' : (d == e) = true := h
 rw [eq_of_beq h']
theorem ba_beq (a b : ByteArray) : (a == b) = true ↔ a = b := by
 refine ⟨ba_eq, fun h => ?_⟩
 subst h
 obtain ⟨d⟩ := a
 show (d == d) = true
 simp
theorem bind_ex {α β : Type} {E : Option α} {F : α → Option β} (h : ∃ t, E = some t) (k : ∀ t, ∃ p, F t = some p) : ∃ p, E.bind F = some p := by
 obtain ⟨t, rfl⟩ := h; exact k t
theorem power_ex {a b : Int} (ha : rng a) (hb : rng b) : ∃ p, M.ints_power a b = some p := by
 unfold rng at hb
 unfold M.ints_power
 split
 ·exact ⟨_, rfl⟩
 ·refine bind_ex (by split <;> exact ⟨_, rfl⟩) (fun t => ?_)
  split
  ·exact ⟨_, rfl⟩
  ·split
   ·exact ⟨_, rfl⟩
   ·split
    ·exact ⟨_, rfl⟩
    ·have key := wloop_ind (f := M.ints_power_L1 a b) (fun j st => ∃ (c : Int) (ok : Bool) (i : Nat), st = (c, ok, (i : Int)) ∧ j = (b + 2 - i).toNat ∧ (i : Int) ≤ 9223372036854775807 ∧ (ok = true → rng c)) (fun c => ∃ x y, c = .next (x, y)) (fun j st h => by
      obtain ⟨c, ok, i, rfl, rfl, hi, hok⟩ := h
      unfold M.ints_power_L1
      simp only []
      by_cases hg : (i : Int) < b ∧ ok = true
      ·left
       obtain ⟨hg1, hg2⟩ := hg
       rw [if_pos (by simp [hg1, hg2])]
       obtain ⟨d, h1, h2⟩ := mul_ok (hok hg2) ha
       rw [h1]
       simp only [Option.bind_some]
       rw [w64_id (by omega) (by omega)]
       refine ⟨_, (b + 2 - (i + 1 : Nat)).toNat, rfl, by omega, d, _, i + 1, rfl, rfl, by omega, fun h => ?_⟩
       have hr := of_decide_eq_true h
       rw [h2 hr]; exact hr
      ·right
       rw [if_neg (by simp only [Bool.and_eq_true, decide_eq_true_eq]; exact hg)]
       exact ⟨_, rfl, _, _, rfl⟩) (b + 2 - (1 : Nat)).toNat (a, true, 1) ⟨a, true, 1, rfl, rfl, by omega, fun _ => ha⟩
     obtain ⟨c, hc, x, y, rfl⟩ := key
     rw [hc]; exact ⟨_, rfl⟩
theorem dyad_ex {fn : ByteArray} {a b : Int} (ha : rng a) (hb : rng b) : ∃ p, M.ints_Dyad fn a b = some p := by
 by_cases h : (fn == str_43) = true
 ·have e : fn = str_43 := ba_eq h
  subst e; exact ⟨_, dy_add ha hb⟩
 have h_43 : ¬ (fn == str_43) = true := h
 clear h
 by_cases h : (fn == str_45) = true
 ·have e : fn = str_45 := ba_eq h
  subst e; exact ⟨_, dy_sub ha hb⟩
 have h_45 : ¬ (fn == str_45) = true := h
 clear h
 by_cases h : (fn == str_195_151) = true
 ·have e : fn = str_195_151 := ba_eq h
  subst e; exact ⟨_, dy_mul ha hb⟩
 have h_195_151 : ¬ (fn == str_195_151) = true := h
 clear h
 by_cases h : (fn == str_195_183) = true
 ·have e : fn = str_195_183 := ba_eq h
  subst e; exact ⟨_, dy_div ha hb⟩
 have h_195_183 : ¬ (fn == str_195_183) = true := h
 clear h
 by_cases h : (fn == str_42) = true
 ·have e : fn = str_42 := ba_eq h
  subst e; obtain ⟨p, hp⟩ := power_ex ha hb; exact ⟨_, sel_power hp⟩
 have h_42 : ¬ (fn == str_42) = true := h
 clear h
 by_cases h : (fn == str_124) = true
 ·have e : fn = str_124 := ba_eq h
  subst e; exact ⟨_, dy_res ha hb⟩
 have h_124 : ¬ (fn == str_124) = true := h
 clear h
 by_cases h : (fn == str_33) = true
 ·have e : fn = str_33 := ba_eq h
  subst e; exact ⟨_, dy_choose ha hb⟩
 have h_33 : ¬ (fn == str_33) = true := h
 clear h
 by_cases h : (fn == str_226_140_136) = true
 ·have e : fn = str_226_140_136 := ba_eq h
  subst e; exact ⟨_, dy_max a b⟩
 have h_226_140_136 : ¬ (fn == str_226_140_136) = true := h
 clear h
 by_cases h : (fn == str_226_140_138) = true
 ·have e : fn = str_226_140_138 := ba_eq h
  subst e; exact ⟨_, dy_min a b⟩
 have h_226_140_138 : ¬ (fn == str_226_140_138) = true := h
 clear h
 by_cases h : (fn == str_60) = true
 ·have e : fn = str_60 := ba_eq h
  subst e; exact ⟨_, dy_lt a b⟩
 have h_60 : ¬ (fn == str_60) = true := h
 clear h
 by_cases h : (fn == str_226_137_164) = true
 ·have e : fn = str_226_137_164 := ba_eq h
  subst e; exact ⟨_, dy_le a b⟩
 have h_226_137_164 : ¬ (fn == str_226_137_164) = true := h
 clear h
 by_cases h : (fn == str_61) = true
 ·have e : fn = str_61 := ba_eq h
  subst e; exact ⟨_, dy_eq a b⟩
 have h_61 : ¬ (fn == str_61) = true := h
 clear h
 by_cases h : (fn == str_226_137_165) = true
 ·have e : fn = str_226_137_165 := ba_eq h
  subst e; exact ⟨_, dy_ge a b⟩
 have h_226_137_165 : ¬ (fn == str_226_137_165) = true := h
 clear h
 by_cases h : (fn == str_62) = true
 ·have e : fn = str_62 := ba_eq h
  subst e; exact ⟨_, dy_gt a b⟩
 have h_62 : ¬ (fn == str_62) = true := h
 clear h
 by_cases h : (fn == str_226_137_160) = true
 ·have e : fn = str_226_137_160 := ba_eq h
  subst e; exact ⟨_, dy_ne a b⟩
 have h_226_137_160 : ¬ (fn == str_226_137_160) = true := h
 clear h
 by_cases h : (fn == str_226_136_167) = true
 ·have e : fn = str_226_136_167 := ba_eq h
  subst e; exact ⟨_, dy_and a b⟩
 have h_226_136_167 : ¬ (fn == str_226_136_167) = true := h
 clear h
 by_cases h : (fn == str_226_136_168) = true
 ·have e : fn = str_226_136_168 := ba_eq h
  subst e; exact ⟨_, dy_or a b⟩
 have h_226_136_168 : ¬ (fn == str_226_136_168) = true := h
 clear h
 by_cases h : (fn == str_226_141_178) = true
 ·have e : fn = str_226_141_178 := ba_eq h
  subst e; exact ⟨_, dy_nand a b⟩
 have h_226_141_178 : ¬ (fn == str_226_141_178) = true := h
 clear h
 by_cases h : (fn == str_226_141_177) = true
 ·have e : fn = str_226_141_177 := ba_eq h
  subst e; exact ⟨_, dy_nor a b⟩
 have h_226_141_177 : ¬ (fn == str_226_141_177) = true := h
 clear h
 unfold M.ints_Dyad M.ints_dyads
 simp only [Option.bind_some]
 rw [if_neg h_43, if_neg h_45, if_neg h_195_151, if_neg h_195_183, if_neg h_42, if_neg h_124, if_neg h_33, if_neg h_226_140_136, if_neg h_226_140_138, if_neg h_60, if_neg h_226_137_164, if_neg h_61, if_neg h_226_137_165, if_neg h_62, if_neg h_226_137_160, if_neg h_226_136_167, if_neg h_226_136_168, if_neg h_226_141_178, if_neg h_226_141_177]
 exact ⟨_, rfl⟩
/-- what two numbers come to, by a glyph. -/
noncomputable def dyD (fn : ByteArray) (a b : Int) : Int × Int := (M.ints_Dyad fn a b).getD (0, 4)
theorem dyD_eq {fn : ByteArray} {a b : Int} (ha : rng a) (hb : rng b) : M.ints_Dyad fn a b = some (dyD fn a b) := by
 obtain ⟨p, hp⟩ := dyad_ex (fn := fn) ha hb
 unfold dyD; rw [hp]; rfl
theorem rng_of {n : Int} (h : (Lit.int .i64 n).wf = true) : rng n := wf64 h
def gl19 : List ByteArray := [str_43, str_45, str_195_151, str_195_183, str_42, str_124, str_33, str_226_140_136, str_226_140_138, str_60, str_226_137_164, str_61, str_226_137_165, str_62, str_226_137_160, str_226_136_167, str_226_136_168, str_226_141_178, str_226_141_177]
theorem is_19 : ∀ q : Nat, q < 19 → ∀ s, gl19[q]? = some s → M.scalar_Is s = some true := by
 intro q hq s hs
 match q, hq with
 | 0, _ => obtain rfl := Option.some.inj hs; unfold M.scalar_Is; rw [id_43]; rfl
 | 1, _ => obtain rfl := Option.some.inj hs; unfold M.scalar_Is; rw [id_45]; rfl
 | 2, _ => obtain rfl := Option.some.inj hs; unfold M.scalar_Is; rw [id_195_151]; rfl
 | 3, _ => obtain rfl := Option.some.inj hs; unfold M.scalar_Is; rw [id_195_183]; rfl
 | 4, _ => obtain rfl := Option.some.inj hs; unfold M.scalar_Is; rw [id_42]; rfl
 | 5, _ => obtain rfl := Option.some.inj hs; unfold M.scalar_Is; rw [id_124]; rfl
 | 6, _ => obtain rfl := Option.some.inj hs; unfold M.scalar_Is; rw [id_33]; rfl
 | 7, _ => obtain rfl := Option.some.inj hs; unfold M.scalar_Is; rw [id_226_140_136]; rfl
 | 8, _ => obtain rfl := Option.some.inj hs; unfold M.scalar_Is; rw [id_226_140_138]; rfl
 | 9, _ => obtain rfl := Option.some.inj hs; unfold M.scalar_Is; rw [id_60]; rfl
 | 10, _ => obtain rfl := Option.some.inj hs; unfold M.scalar_Is; rw [id_226_137_164]; rfl
 | 11, _ => obtain rfl := Option.some.inj hs; unfold M.scalar_Is; rw [id_61]; rfl
 | 12, _ => obtain rfl := Option.some.inj hs; unfold M.scalar_Is; rw [id_226_137_165]; rfl
 | 13, _ => obtain rfl := Option.some.inj hs; unfold M.scalar_Is; rw [id_62]; rfl
 | 14, _ => obtain rfl := Option.some.inj hs; unfold M.scalar_Is; rw [id_226_137_160]; rfl
 | 15, _ => obtain rfl := Option.some.inj hs; unfold M.scalar_Is; rw [id_226_136_167]; rfl
 | 16, _ => obtain rfl := Option.some.inj hs; unfold M.scalar_Is; rw [id_226_136_168]; rfl
 | 17, _ => obtain rfl := Option.some.inj hs; unfold M.scalar_Is; rw [id_226_141_178]; rfl
 | 18, _ => obtain rfl := Option.some.inj hs; unfold M.scalar_Is; rw [id_226_141_177]; rfl
theorem identity_ex (fn : ByteArray) : ∃ p, M.ints_Identity fn = some p := by
 unfold M.ints_Identity
 refine bind_ex (by repeat (first | exact ⟨_, rfl⟩ | split)) (fun t => ?_)
 split
 ·exact ⟨_, rfl⟩
 ·refine bind_ex (by repeat (first | exact ⟨_, rfl⟩ | split)) (fun t => ?_)
  split
  ·exact ⟨_, rfl⟩
  ·split
   ·exact ⟨_, rfl⟩
   ·split
    ·exact ⟨_, rfl⟩
    ·refine bind_ex (by repeat (first | exact ⟨_, rfl⟩ | split)) (fun t => ?_)
     split <;> exact ⟨_, rfl⟩
theorem made_cases {s : List Int} {n : Nat} {told : Int → Option (Int × Int)} {g : Nat → Int × Int} (hs : s.length ≤ 1000000) (hn : n ≤ 10000) (ht : ∀ k : Nat, k < n → told (k : Int) = some (g k)) :
  (∃ k, k < n ∧ (g k).2 ≠ 0 ∧ (∀ i, i < k → (g i).2 = 0) ∧ M.scalar_made s (n : Int) told = some (⟨false, [], []⟩, (g k).2)) ∨
  ((∀ i, i < n → (g i).2 = 0) ∧ M.scalar_made s (n : Int) told = some (⟨false, s, (List.range n).map fun k => (g k).1⟩, 0)) := by
 have key := wloop_ind (f := M.scalar_made_L1 (n : Int) told) (fun j st => ∃ (k : Nat) (m : List Int), st = ((k : Int), m) ∧ j = n - k ∧ k ≤ n ∧ m.length = n ∧ ∀ i, i < k → (g i).2 = 0 ∧ m[i]? = some (g i).1)
  (fun c => (∃ k, c = .done (⟨false, [], []⟩, (g k).2) ∧ k < n ∧ (g k).2 ≠ 0 ∧ ∀ i, i < k → (g i).2 = 0) ∨ (c = .next ((List.range n).map fun k => (g k).1) ∧ ∀ i, i < n → (g i).2 = 0)) (fun j st h => by
   obtain ⟨k, m, rfl, rfl, hk, hm, hI⟩ := h
   unfold M.scalar_made_L1
   simp only []
   by_cases hlt : k < n
   ·rw [if_pos (by simpa using hlt), ht k hlt]
    simp only [Option.bind_some]
    by_cases he : (g k).2 = 0
    ·left
     rw [if_neg (by simpa using he), idx_get (show k < m.length by omega)]
     simp only [Option.bind_some]
     rw [upd_nat (by omega), w64_id (by omega) (by omega)]
     refine ⟨_, n - (k + 1), rfl, by omega, k + 1, _, rfl, rfl, by omega, by simp [hm], fun i hi => ?_⟩
     by_cases hik : i = k
     ·subst hik; exact ⟨he, by rw [List.getElem?_set_self (by omega)]⟩
     ·rw [List.getElem?_set_ne (by omega)]; exact hI i (by omega)
    ·right
     rw [if_pos (by simpa using he)]
     exact ⟨_, rfl, .inl ⟨k, rfl, hlt, he, fun i hi => (hI i hi).1⟩⟩
   ·have : k = n := by omega
    subst this
    right
    rw [if_neg (by simp)]
    refine ⟨_, rfl, .inr ⟨?_, fun i hi => (hI i hi).1⟩⟩
    congr 1
    apply List.ext_getElem?
    intro i
    by_cases hi : i < k
    ·rw [(hI i hi).2, List.getElem?_map, List.getElem?_range hi]; rfl
    ·rw [List.getElem?_eq_none (by omega), List.getElem?_eq_none (by simp; omega)]) n ((0 : Int), List.replicate n 0) ⟨0, _, rfl, by omega, by omega, by simp, fun i h => by omega⟩
 unfold M.scalar_made M.slices_Clone__int
 rw [app_ok (by simp; omega), mk_ok (by omega) (by omega)]
 simp only [Option.bind_some, List.nil_append]
 obtain ⟨c, hc, ⟨k, rfl, h1, h2, h3⟩ | ⟨rfl, h⟩⟩ := key
 ·exact .inl ⟨k, h1, h2, h3, by rw [hc]; rfl⟩
 ·exact .inr ⟨h, by rw [hc]; rfl⟩
theorem at_eq {v : Val} {k : Nat} (h : k < v.Data.length ∨ v.Data.length = 1) : ∃ x, M.scalar_at v (k : Int) = some x ∧ x ∈ v.Data := by
 unfold M.scalar_at
 by_cases h1 : v.Data.length = 1
 ·rw [if_pos (by simp [h1]), show (0 : Int) = ((0 : Nat) : Int) from rfl, idx_get (show 0 < v.Data.length by omega)]
  exact ⟨_, rfl, List.getElem_mem _⟩
 ·rw [if_neg (by rw [beq_iff_eq]; omega), idx_get (show k < v.Data.length by omega)]
  exact ⟨_, rfl, List.getElem_mem _⟩
theorem alike_cases {a b : Val} (ha : a.Shape.length ≤ 1000000) : ∃ (s : List Int) (n : Nat) (e : Int), M.scalar_alike a b = some (s, (n : Int), e) ∧ (e = 0 → (n = a.Data.length ∨ a.Data.length = 1) ∧ (n = b.Data.length ∨ b.Data.length = 1 ∨ a.Shape = b.Shape) ∧ (s = a.Shape ∧ n = a.Data.length ∨ s = b.Shape ∧ n = b.Data.length)) := by
 unfold M.scalar_alike
 split
 ·rename_i h
  simp only [Bool.and_eq_true, beq_iff_eq] at h
  exact ⟨_, b.Data.length, _, rfl, fun _ => ⟨.inr (by omega), .inl rfl, .inr ⟨rfl, rfl⟩⟩⟩
 ·have e : (if ((b.Data.length : Int) == 1) = true then some ((b.Data.length : Int) == 1) else (M.slices_Equal__int a.Shape b.Shape).bind fun r1 => some r1) = some (decide (b.Data.length = 1 ∨ a.Shape = b.Shape)) := by
   by_cases h : b.Data.length = 1
   ·rw [if_pos (by simp [h]), decide_eq_true (.inl h)]; simp [h]
   ·rw [if_neg (by rw [beq_iff_eq]; omega), Equal_int_eq (by have : maxLen = 9223372036854775807 := rfl; omega)]
    simp [h]
  rw [e]
  simp only [Option.bind_some]
  by_cases h : b.Data.length = 1 ∨ a.Shape = b.Shape
  ·rw [if_pos (by simpa using h)]
   exact ⟨_, a.Data.length, _, rfl, fun _ => ⟨.inl rfl, .inr h, .inl ⟨rfl, rfl⟩⟩⟩
  ·rw [if_neg (by simpa using h)]
   split
   ·exact ⟨_, 0, _, rfl, fun h => by cases h⟩
   ·exact ⟨_, 0, _, rfl, fun h => by cases h⟩
theorem of_ex {fn : ByteArray} {a b : Val} {k : Nat} (ha : ∀ x ∈ a.Data, rng x) (hb : ∀ x ∈ b.Data, rng x) (h1 : k < a.Data.length ∨ a.Data.length = 1) (h2 : k < b.Data.length ∨ b.Data.length = 1) : ∃ p, M.scalar_Dyad_1 (k : Int) fn a b = some p := by
 unfold M.scalar_Dyad_1 M.scalar_of
 refine bind_ex ?_ (fun t => ⟨_, rfl⟩)
 split
 ·refine bind_ex (dyad_ex (by decide) (by decide)) (fun t => ⟨_, rfl⟩)
 ·obtain ⟨x, hx, mx⟩ := at_eq h1
  obtain ⟨y, hy, my⟩ := at_eq h2
  rw [hx, hy]
  simp only [Option.bind_some]
  exact bind_ex (dyad_ex (ha x mx) (hb y my)) (fun t => ⟨_, rfl⟩)
/-- the call comes to an end, with no more than it may have. -/
theorem scalar_Dyad_ex {fn : ByteArray} {a b : Val} (ha : ∀ x ∈ a.Data, rng x) (hb : ∀ x ∈ b.Data, rng x) (la : a.Data.length ≤ 1000000000) (lb : b.Data.length ≤ 1000000000) :
  ∃ v e, M.scalar_Dyad fn a b = some (v, e) ∧ v.Shape.length ≤ 10000 ∧ v.Data.length ≤ 10000 := by
 have z : (⟨false, [], []⟩ : Val).Shape.length ≤ 10000 ∧ (⟨false, [], []⟩ : Val).Data.length ≤ 10000 := by decide
 unfold M.scalar_Dyad
 obtain ⟨q, hq⟩ : ∃ q, M.scalar_Is fn = some q := by unfold M.scalar_Is; exact bind_ex (identity_ex fn) (fun t => ⟨_, rfl⟩)
 rw [hq]
 simp only [Option.bind_some]
 cases q with
 | false => exact ⟨_, _, rfl, z⟩
 | true =>
  simp only [Bool.not_true, Bool.false_eq_true, if_false]
  rw [value_Right_eq (by omega), value_Right_eq (by omega)]
  simp only [Option.bind_some]
  cases hra : vRight a with
  | false => exact ⟨_, _, rfl, z⟩
  | true =>
   cases hrb : vRight b with
   | false => exact ⟨_, _, rfl, z⟩
   | true =>
    simp only [Bool.not_true, Bool.false_eq_true, if_false, Option.bind_some]
    obtain ⟨⟨a4, _, ap⟩, hap, _⟩ := vRight_iff.mp hra
    obtain ⟨⟨b4, _, bp⟩, hbp, _⟩ := vRight_iff.mp hrb
    obtain ⟨s, n, e, hal, hf⟩ := alike_cases (a := a) (b := b) (by omega)
    rw [hal]
    simp only [Option.bind_some]
    by_cases he : e = 0
    ·rw [if_neg (by simpa using he)]
     obtain ⟨f1, f2, f3⟩ := hf he
     split
     ·exact ⟨_, _, rfl, z⟩
     ·have f2' : n = b.Data.length ∨ b.Data.length = 1 := by
       rcases f2 with h | h | h
       ·exact .inl h
       ·exact .inr h
       ·rcases f3 with ⟨_, h2⟩ | ⟨_, h2⟩
        ·left; rw [h2]; have := hap; rw [h, hbp] at this; omega
        ·exact .inl h2
      have ex : ∀ k : Nat, k < n → ∃ p, M.scalar_Dyad_1 (k : Int) fn a b = some p := fun k hk => of_ex ha hb (by rcases f1 with h | h <;> omega) (by rcases f2' with h | h <;> omega)
      have hn : n ≤ 10000 := by rcases f3 with ⟨_, h⟩ | ⟨_, h⟩ <;> omega
      have hs : s.length ≤ 4 := by rcases f3 with ⟨h, _⟩ | ⟨h, _⟩ <;> rw [h] <;> assumption
      rcases made_cases (n := n) (s := s) (told := fun x0 => M.scalar_Dyad_1 x0 fn a b) (g := fun k => (M.scalar_Dyad_1 (k : Int) fn a b).getD (0, 0)) (by omega) hn (fun k hk => by obtain ⟨p, hp⟩ := ex k hk; simp only [hp]; rfl) with ⟨k, _, _, _, h⟩ | ⟨_, h⟩
      ·rw [h]; exact ⟨_, _, rfl, z⟩
      ·rw [h]; exact ⟨_, _, rfl, by simp only []; omega, by simp; omega⟩
    ·rw [if_pos (by simpa using he)]; exact ⟨_, _, rfl, z⟩
theorem times_eq {a b : Int} (ha : rng a) (hb : rng b) : M.anamnesisref01_times a b = some (if rng (a * b) then (a * b, true) else (0, false)) := by
 unfold M.anamnesisref01_times
 by_cases h0 : a = 0 ∨ b = 0
 ·have e : a * b = 0 := by rcases h0 with rfl | rfl <;> simp
  rw [if_pos (by simpa using h0), e, if_pos (by unfold rng; omega)]
 ·have ha0 : a ≠ 0 := fun h => h0 (.inl h)
  have hb0 : b ≠ 0 := fun h => h0 (.inr h)
  rw [if_neg (by simpa using h0)]
  by_cases h1 : (a = -1 ∧ b = -9223372036854775808) ∨ (b = -1 ∧ a = -9223372036854775808)
  ·have e : a * b = 9223372036854775808 := by rcases h1 with ⟨rfl, rfl⟩ | ⟨rfl, rfl⟩ <;> rfl
   rw [if_pos (by simpa using h1), e, if_neg (by unfold rng; omega)]
  ·rw [if_neg (by simpa using h1)]
   have hq : quoI .i64 (IntKind.i64.wrap (a * b)) a = some (IntKind.i64.wrap ((IntKind.i64.wrap (a * b)).tdiv a)) := by unfold quoI; rw [if_neg ha0]
   rw [hq]
   simp only [Option.bind_some]
   by_cases hr : rng (a * b)
   ·rw [w64_id hr.1 hr.2, Int.mul_tdiv_cancel_left b ha0, w64_id hb.1 hb.2, if_neg (by simp), if_pos hr]
   ·rw [if_neg hr]
    have hc := i64_range (a * b)
    have hm := i64_eq (a * b)
    generalize hP : a * b = p at *
    generalize IntKind.i64.wrap p = c at *
    have hne : IntKind.i64.wrap (c.tdiv a) ≠ b := fun hEq => by
     have hd : c.tdiv a = b := by
      by_cases hx : c = -9223372036854775808 ∧ a = -1
      ·obtain ⟨rfl, rfl⟩ := hx
       have : IntKind.i64.wrap ((-9223372036854775808 : Int).tdiv (-1)) = -9223372036854775808 := by decide
       rw [this] at hEq
       exact absurd (.inl ⟨rfl, hEq.symm⟩) h1
      ·have hr2 := tdiv_rng (a := c) (b := a) hc ha0 hx
       rw [w64_id hr2.1 hr2.2] at hEq
       exact hEq
     have h5 := Int.tmod_add_mul_tdiv c a
     rw [hd, hP] at h5
     have h6 : -9223372036854775808 ≤ c.tmod a ∧ c.tmod a ≤ 9223372036854775808 := by
      have := Int.natAbs_tmod c a
      have := Nat.mod_lt c.natAbs (show 0 < a.natAbs by omega)
      unfold rng at ha
      omega
     generalize c.tmod a = r at *
     unfold rng at hr
     split at hm <;> omega
    rw [if_pos (by simpa using hne)]
theorem nrng_mul {x a : Int} (ha : a ≤ -2 ∨ 2 ≤ a) (h : ¬ rng x) : ¬ rng (x * a) := fun hh => by
 have h1 : 9223372036854775808 ≤ x.natAbs := by unfold rng at h; omega
 have h2 := Nat.mul_le_mul h1 (show 2 ≤ a.natAbs by omega)
 have h3 := Int.natAbs_mul x a
 unfold rng at hh
 omega
theorem nrng_pow {a : Int} (ha : a ≤ -2 ∨ 2 ≤ a) {j : Nat} (h : ¬ rng (a ^ j)) : ∀ d, ¬ rng (a ^ (j + d))
 | 0 => h
 | d + 1 => by rw [← Nat.add_assoc, Int.pow_succ]; exact nrng_mul ha (nrng_pow ha h d)
theorem nrng_64 {a : Int} (ha : a ≤ -2 ∨ 2 ≤ a) : ¬ rng (a ^ 64) := fun hh => by
 have h3 := Int.natAbs_pow a 64
 have h2 := Nat.pow_le_pow_left (show 2 ≤ a.natAbs by omega) 64
 have e : (2 : Nat) ^ 64 = 18446744073709551616 := by decide
 unfold rng at hh
 omega
def pwF (a : Int) (n : Nat) : Int × Bool := if rng (a ^ n) then (a ^ n, true) else (0, false)
theorem rpower_eq {a : Int} {n : Nat} (ha : rng a) (hn : (n : Int) ≤ 9223372036854775807) (h2 : a ≤ -2 ∨ 2 ≤ a) : M.anamnesisref01_power a n = some (pwF a n) := by
 unfold M.anamnesisref01_power
 rw [if_neg (by simp; omega), if_neg (by simp; omega)]
 obtain ⟨b, hb, hQ⟩ := wloop_ind (f := M.anamnesisref01_power_L1 a n) (fun m st => ∃ i : Nat, st = (a ^ i, (i : Int)) ∧ i ≤ n ∧ m = n - i ∧ rng (a ^ i))
  (fun b => (b = .next (a ^ n) ∧ rng (a ^ n)) ∨ (b = .done (0, false) ∧ ¬ rng (a ^ n))) (fun m st h => by
   obtain ⟨i, rfl, hi, rfl, hr⟩ := h
   simp only [M.anamnesisref01_power_L1]
   by_cases hlt : i < n
   ·rw [if_pos (by simp; omega), times_eq hr ha, ← Int.pow_succ]
    by_cases hr2 : rng (a ^ (i + 1))
    ·left
     rw [if_pos hr2]
     simp only [Option.bind_some, Bool.not_true, Bool.false_eq_true, if_false]
     rw [w64_id (x := (i : Int) + 1) (by omega) (by omega)]
     exact ⟨_, n - (i + 1), rfl, by omega, i + 1, rfl, by omega, rfl, hr2⟩
    ·right
     rw [if_neg hr2]
     refine ⟨_, rfl, .inr ⟨rfl, ?_⟩⟩
     have := nrng_pow h2 hr2 (n - (i + 1))
     rwa [show i + 1 + (n - (i + 1)) = n by omega] at this
   ·right
    rw [if_neg (by simp; omega)]
    obtain rfl : i = n := by omega
    exact ⟨_, rfl, .inl ⟨rfl, hr⟩⟩) n (1, 0) ⟨0, by rw [Int.pow_zero]; rfl, by omega, rfl, by unfold rng; simp⟩
 rw [hb]
 unfold pwF
 rcases hQ with ⟨rfl, h⟩ | ⟨rfl, h⟩
 ·rw [if_pos h]; rfl
 ·rw [if_neg h]; rfl
theorem ipower_eq {a : Int} {n : Nat} (ha : rng a) (hn : 1 ≤ n) (hn2 : (n : Int) ≤ 9223372036854775807) (h2 : a ≤ -2 ∨ 2 ≤ a) : ∃ c, M.ints_power a n = some (c, (pwF a n).2) ∧ ((pwF a n).2 = true → c = (pwF a n).1) := by
 unfold M.ints_power
 rw [if_neg (by simp; omega), if_neg (by simp; omega)]
 rw [show ((a == 0) && decide ((n : Int) > 0)) = false from by simp; omega]
 simp only [Option.bind_some, Bool.false_eq_true, if_false]
 rw [if_neg (by simp; omega)]
 unfold pwF
 by_cases h63 : n > 63
 ·rw [if_pos (by simp; omega)]
  have := nrng_pow h2 (nrng_64 h2) (n - 64)
  rw [show 64 + (n - 64) = n by omega] at this
  rw [if_neg this]
  exact ⟨_, rfl, fun h => by cases h⟩
 ·rw [if_neg (by simp; omega)]
  obtain ⟨b, hb, hQ⟩ := wloop_ind (f := M.ints_power_L1 a n) (fun m st => ∃ (i : Nat) (c : Int) (ok : Bool), st = (c, ok, (i : Int)) ∧ i ≤ n ∧ m = n - i ∧ ((ok = true ∧ c = a ^ i ∧ rng (a ^ i)) ∨ (ok = false ∧ ¬ rng (a ^ i))))
   (fun b => ∃ c, (b = .next (c, true) ∧ c = a ^ n ∧ rng (a ^ n)) ∨ (b = .next (c, false) ∧ ¬ rng (a ^ n))) (fun m st h => by
    obtain ⟨i, c, ok, rfl, hi, rfl, hr⟩ := h
    simp only [M.ints_power_L1]
    rcases hr with ⟨rfl, rfl, hr⟩ | ⟨rfl, hr⟩
    ·by_cases hlt : i < n
     ·left
      rw [if_pos (by simp; omega)]
      obtain ⟨c, hc, hc2⟩ := mul_ok hr ha
      rw [hc]
      simp only [Option.bind_some]
      rw [w64_id (x := (i : Int) + 1) (by omega) (by omega), ← Int.pow_succ] at *
      refine ⟨_, n - (i + 1), rfl, by omega, i + 1, c, _, rfl, by omega, rfl, ?_⟩
      by_cases hr2 : rng (a ^ (i + 1))
      ·exact .inl ⟨by simpa using hr2, hc2 hr2, hr2⟩
      ·exact .inr ⟨by simpa using hr2, hr2⟩
     ·right
      rw [if_neg (by simp; omega)]
      obtain rfl : i = n := by omega
      exact ⟨_, rfl, _, .inl ⟨rfl, rfl, hr⟩⟩
    ·right
     rw [if_neg (by simp)]
     refine ⟨_, rfl, c, .inr ⟨rfl, ?_⟩⟩
     have := nrng_pow h2 hr (n - i)
     rwa [show i + (n - i) = n by omega] at this) (n - 1) (a, true, 1) ⟨1, a, true, rfl, hn, rfl, .inl ⟨rfl, by rw [Int.pow_succ, Int.pow_zero, Int.one_mul], by rw [Int.pow_succ, Int.pow_zero, Int.one_mul]; exact ha⟩⟩
  rw [hb]
  obtain ⟨c, ⟨rfl, h1, h3⟩ | ⟨rfl, h3⟩⟩ := hQ
  ·rw [if_pos h3]; exact ⟨_, rfl, fun _ => h1⟩
  ·rw [if_neg h3]; exact ⟨_, rfl, fun h => by cases h⟩
theorem and_one (b : Int) : ((BitVec.ofInt IntKind.i64.bits b &&& BitVec.ofInt IntKind.i64.bits 1).toNat : Int) = b % 2 := by
 show ((BitVec.ofInt 64 b &&& BitVec.ofInt 64 1).toNat : Int) = b % 2
 rw [BitVec.toNat_and]
 have e2 : (BitVec.ofInt 64 1).toNat = 2 ^ 1 - 1 := by decide
 rw [e2, Nat.and_two_pow_sub_one_eq_mod, BitVec.toNat_ofInt]
 omega
theorem pow_both {a b : Int} (ha : rng a) (hb : rng b) : ∃ p q, M.ints_power a b = some p ∧ (if (b == 0) = true then some ((1 : Int), true) else if decide (b > 0) = true then (M.anamnesisref01_power a b).bind fun (r3, r4) => some (r3, r4) else if ((a == 1) || (a == (-1))) = true then (M.anamnesisref01_power a (IntKind.i64.wrap (2 - (Int.tmod b 2)))).bind fun (r5, r6) => some (r5, r6) else some (0, false)) = some q ∧ tl p = tl q := by
 by_cases h0 : b = 0
 ·subst h0
  exact ⟨_, _, by unfold M.ints_power; rfl, rfl, rfl⟩
 ·rw [if_neg (by simpa using h0)]
  by_cases h2 : a ≤ -2 ∨ 2 ≤ a
  ·by_cases hp : b > 0
   ·obtain ⟨n, rfl⟩ : ∃ n : Nat, b = n := ⟨b.toNat, by omega⟩
    obtain ⟨c, e1, e2⟩ := ipower_eq ha (by omega) hb.2 h2
    rw [if_pos (by simpa using hp), rpower_eq ha hb.2 h2]
    refine ⟨(c, (pwF a n).2), pwF a n, e1, rfl, ?_⟩
    unfold tl
    cases h : (pwF a n).2
    ·simp
    ·simp [e2 h]
   ·refine ⟨(0, false), (0, false), ?_, ?_, rfl⟩
    ·unfold M.ints_power
     rw [if_neg (by simpa using h0), if_neg (by simp; omega), show ((a == 0) && decide (b > 0)) = false from by simp; omega]
     simp only [Option.bind_some, Bool.false_eq_true, if_false]
     rw [if_neg (by simp; omega), if_pos (by simp; omega)]
    ·rw [if_neg (by simpa using hp), if_neg (by simp; omega)]
  ·have h3 : a = 0 ∨ a = 1 ∨ a = -1 := by omega
   rcases h3 with rfl | rfl | rfl
   ·by_cases hp : b > 0
    ·refine ⟨(0, true), (0, true), ?_, ?_, rfl⟩
     ·unfold M.ints_power
      rw [if_neg (by simpa using h0), if_neg (by simp), show (((0 : Int) == 0) && decide (b > 0)) = true from by simpa using hp]
      rfl
     ·rw [if_pos (by simpa using hp)]; unfold M.anamnesisref01_power; rfl
    ·refine ⟨(0, false), (0, false), ?_, ?_, rfl⟩
     ·unfold M.ints_power
      rw [if_neg (by simpa using h0), if_neg (by simp), show (((0 : Int) == 0) && decide (b > 0)) = false from by simpa using hp]
      simp only [Option.bind_some, Bool.false_eq_true, if_false]
      rw [if_neg (by simp), if_pos (by simp; omega)]
     ·rw [if_neg (by simpa using hp), if_neg (by simp)]
   ·refine ⟨(1, true), (1, true), ?_, ?_, rfl⟩
    ·unfold M.ints_power
     rw [if_neg (by simpa using h0)]; rfl
    ·unfold M.anamnesisref01_power
     by_cases hp : b > 0
     ·rw [if_pos (by simpa using hp)]; rfl
     ·rw [if_neg (by simpa using hp)]; rfl
   ·have e1 : M.ints_power (-1) b = some (1 - 2 * (b % 2), true) := by
     unfold M.ints_power
     rw [if_neg (by simpa using h0), if_neg (by simp), show (((-1 : Int) == 0) && decide (b > 0)) = false from by simp]
     simp only [Option.bind_some, Bool.false_eq_true, if_false]
     rw [if_pos (by simp), and_one]
     have : 0 ≤ b % 2 ∧ b % 2 ≤ 1 := by omega
     rw [w64_id (x := b % 2) (by omega) (by omega), w64_id (x := 2 * (b % 2)) (by omega) (by omega), w64_id (by omega) (by omega)]
    have key : ∀ m : Int, rng m → M.anamnesisref01_power (-1) m = some (1 - 2 * (m % 2), true) := fun m hm => by
     unfold M.anamnesisref01_power
     rw [if_neg (by simp), if_pos (by simp)]
     have ht : (Int.tmod m 2 = 0 ∧ m % 2 = 0) ∨ (Int.tmod m 2 ≠ 0 ∧ m % 2 = 1) := by
      have := Int.tmod_add_mul_tdiv m 2
      have t1 := Int.tmod_lt_of_pos m (show (0 : Int) < 2 by omega)
      have t2 := Int.lt_tmod_of_pos m (show (0 : Int) < 2 by omega)
      rcases Int.emod_two_eq m with h | h
      ·exact .inl ⟨by omega, h⟩
      ·exact .inr ⟨by omega, h⟩
     rcases ht with ⟨h4, h5⟩ | ⟨h4, h5⟩
     ·rw [if_pos (by simpa using h4), h5]; rfl
     ·rw [if_neg (by simpa using h4), h5]; rfl
    refine ⟨_, (1 - 2 * (b % 2), true), e1, ?_, rfl⟩
    by_cases hp : b > 0
    ·rw [if_pos (by simpa using hp), key b hb]; rfl
    ·have t1 := Int.tmod_lt_of_pos b (show (0 : Int) < 2 by omega)
     have t2 := Int.lt_tmod_of_pos b (show (0 : Int) < 2 by omega)
     have h7 := Int.tmod_add_mul_tdiv b 2
     rw [if_neg (by simpa using hp), if_pos (by simp), w64_id (x := 2 - Int.tmod b 2) (by omega) (by omega), key _ (by unfold rng; omega)]
     simp only [Option.bind_some]
     congr 3
     omega
theorem gcd_eq {a b : Nat} (hb : (b : Int) ≤ 9223372036854775807) (ha : (a : Int) ≤ 9223372036854775807) : M.anamnesisref01_gcd a b = some (Nat.gcd a b : Int) := by
 unfold M.anamnesisref01_gcd
 obtain ⟨r, hr, rfl⟩ := wloop_ind (f := M.anamnesisref01_gcd_L1) (fun n st => ∃ x : Nat, st = ((x : Int), (n : Int)) ∧ Nat.gcd x n = Nat.gcd a b) (fun r => r = .next (Nat.gcd a b : Int)) (fun n st h => by
  obtain ⟨x, rfl, hg⟩ := h
  simp only [M.anamnesisref01_gcd_L1]
  by_cases hn : 0 < n
  ·left
   have hq : remI (x : Int) (n : Int) = some ((x % n : Nat) : Int) := by
    unfold remI
    rw [if_neg (by omega), Int.tmod_eq_emod_of_nonneg (by omega)]
    rfl
   rw [if_pos (by simpa using hn), hq]
   refine ⟨_, x % n, rfl, Nat.mod_lt _ hn, n, rfl, ?_⟩
   rw [← hg, Nat.gcd_comm n, Nat.gcd_comm x, Nat.gcd_rec n x]
  ·right
   obtain rfl : n = 0 := by omega
   rw [if_neg (by simp)]
   exact ⟨_, rfl, by rw [← hg, Nat.gcd_zero_right]⟩) b (a, b) ⟨a, rfl, rfl⟩
 rw [hr]; rfl
theorem ch_gcd {c B i e : Nat} (h : e * (i + 1) = c * (B - i)) (hc : 0 < c) : (c / Nat.gcd c (i + 1)) * ((B - i) / ((i + 1) / Nat.gcd c (i + 1))) = e := by
 have hg : 0 < Nat.gcd c (i + 1) := Nat.gcd_pos_of_pos_left _ hc
 obtain ⟨c', hc'⟩ := Nat.gcd_dvd_left c (i + 1)
 obtain ⟨d', hd'⟩ := Nat.gcd_dvd_right c (i + 1)
 have hcop : Nat.Coprime c' d' := by
  have := Nat.coprime_div_gcd_div_gcd hg
  have q1 : c / Nat.gcd c (i + 1) = c' := Nat.div_eq_of_eq_mul_right hg hc'
  have q2 : (i + 1) / Nat.gcd c (i + 1) = d' := Nat.div_eq_of_eq_mul_right hg hd'
  rw [q1, q2] at this
  exact this
 generalize Nat.gcd c (i + 1) = g at *
 have e1 : c / g = c' := by rw [hc']; exact Nat.mul_div_cancel_left _ hg
 have e2 : (i + 1) / g = d' := by rw [hd']; exact Nat.mul_div_cancel_left _ hg
 rw [e1, e2]
 have hd0 : 0 < d' := by
  rcases Nat.eq_zero_or_pos d' with h | h
  ·rw [h] at hd'; simp at hd'
  ·exact h
 rw [hd', hc'] at h
 have h2 : e * d' = c' * (B - i) := by
  have : g * (e * d') = g * (c' * (B - i)) := by
   rw [← Nat.mul_assoc g c', ← h]; rw [Nat.mul_left_comm]
  exact Nat.eq_of_mul_eq_mul_left hg this
 have hdv : d' ∣ B - i := Nat.Coprime.dvd_of_dvd_mul_left hcop.symm ⟨e, by rw [← h2, Nat.mul_comm]⟩
 obtain ⟨q, hq⟩ := hdv
 rw [hq, Nat.mul_div_cancel_left _ hd0]
 rw [hq] at h2
 have : d' * (c' * q) = d' * e := by rw [Nat.mul_comm d' e, h2, Nat.mul_left_comm]
 exact Nat.eq_of_mul_eq_mul_left hd0 this
theorem ch_pos : ∀ {n k : Nat}, k ≤ n → 0 < ch n k
 | n, 0, _ => by rw [ch_zero]; omega
 | n, k + 1, h => by
  have h1 := ch_step n k (by omega)
  have h2 := ch_pos (n := n) (k := k) (by omega)
  rcases Nat.eq_zero_or_pos (ch n (k + 1)) with h3 | h3
  ·rw [h3, Nat.zero_mul] at h1
   have := Nat.mul_pos h2 (show 0 < n - k by omega)
   omega
  ·exact h3
theorem rchoose_eq {A B : Nat} (hB : (B : Int) ≤ 9223372036854775807) (hA : (A : Int) ≤ 9223372036854775807) : M.anamnesisref01_choose A B = some (if ch B A ≤ 9223372036854775807 then ((ch B A : Int), true) else (0, false)) := by
 unfold M.anamnesisref01_choose
 by_cases hAB : A > B
 ·rw [if_pos (by simp; omega), ch_out hAB]; rfl
 ·rw [if_neg (by simp; omega)]
  obtain ⟨N, hN⟩ : ∃ N : Nat, N = min A (B - A) := ⟨_, rfl⟩
  have hn : (if decide (IntKind.i64.wrap ((B : Int) - A) < (A : Int)) = true then some (IntKind.i64.wrap ((B : Int) - A)) else some (A : Int)) = some (N : Int) := by
   rw [w64_id (x := (B : Int) - A) (by omega) (by omega)]
   by_cases h : (B : Int) - A < A
   ·rw [if_pos (by simpa using h)]; congr 1; omega
   ·rw [if_neg (by simpa using h)]; congr 1; omega
  rw [hn]
  simp only [Option.bind_some]
  have hsym : ch B N = ch B A := by
   rcases Nat.le_total A (B - A) with h | h
   ·rw [hN, Nat.min_eq_left h]
   ·rw [hN, Nat.min_eq_right h]; exact ch_symm (by omega)
  obtain ⟨r, hr, hQ⟩ := wloop_ind (f := M.anamnesisref01_choose_L1 B N) (fun m st => ∃ i : Nat, st = ((ch B i : Int), (i : Int)) ∧ i ≤ N ∧ m = N - i ∧ ch B i ≤ 9223372036854775807)
   (fun r => (r = .next (ch B N : Int) ∧ ch B N ≤ 9223372036854775807) ∨ (r = .done (0, false) ∧ ¬ ch B N ≤ 9223372036854775807)) (fun m st h => by
    obtain ⟨i, rfl, hi, rfl, hc⟩ := h
    simp only [M.anamnesisref01_choose_L1]
    by_cases hlt : i < N
    ·have hcp := ch_pos (n := B) (k := i) (by omega)
     have hst := ch_step B i (by omega)
     have hmul := ch_gcd hst hcp
     have hg : 0 < Nat.gcd (ch B i) (i + 1) := Nat.gcd_pos_of_pos_left _ hcp
     have hgd := Nat.gcd_dvd_right (ch B i) (i + 1)
     have hd0 : 0 < (i + 1) / Nat.gcd (ch B i) (i + 1) := Nat.div_pos (Nat.le_of_dvd (by omega) hgd) hg
     have q1b := Nat.div_le_self (ch B i) (Nat.gcd (ch B i) (i + 1))
     have q2b := Nat.div_le_self (i + 1) (Nat.gcd (ch B i) (i + 1))
     have q3b := Nat.div_le_self (B - i) ((i + 1) / Nat.gcd (ch B i) (i + 1))
     rw [if_pos (by simp; omega), w64_id (x := (i : Int) + 1) (by omega) (by omega), show (i : Int) + 1 = ((i + 1 : Nat) : Int) by omega, gcd_eq (by omega) (by omega)]
     simp only [Option.bind_some]
     generalize Nat.gcd (ch B i) (i + 1) = g at *
     have qq : ∀ x y : Nat, 0 < y → (x : Int) ≤ 9223372036854775807 → quoI .i64 (x : Int) (y : Int) = some ((x / y : Nat) : Int) := fun x y hy hx => by
      have := Nat.div_le_self x y
      unfold quoI
      rw [if_neg (by omega), Int.tdiv_eq_ediv_of_nonneg (by omega), ← Int.natCast_ediv]
      generalize x / y = z at *
      rw [w64_id (by omega) (by omega)]
     rw [qq _ _ hg (by omega), qq _ _ hg (by omega), w64_id (x := (B : Int) - i) (by omega) (by omega), show (B : Int) - i = ((B - i : Nat) : Int) by omega]
     simp only [Option.bind_some]
     rw [qq _ _ hd0 (by omega)]
     simp only [Option.bind_some]
     generalize (B - i) / ((i + 1) / g) = z3 at *
     generalize ch B i / g = z1 at *
     rw [times_eq (by unfold rng; omega) (by unfold rng; omega), ← Int.natCast_mul, hmul]
     by_cases hle : ch B (i + 1) ≤ 9223372036854775807
     ·left
      rw [if_pos (by unfold rng; omega)]
      exact ⟨_, N - (i + 1), rfl, by omega, i + 1, rfl, by omega, rfl, hle⟩
     ·right
      rw [if_neg (by unfold rng; omega)]
      refine ⟨_, rfl, .inr ⟨rfl, fun h => hle ?_⟩⟩
      have := ch_mono_to (n := B) (m := N) (N - (i + 1)) (i + 1) (by omega) (by omega)
      omega
    ·right
     rw [if_neg (by simp; omega)]
     obtain rfl : i = N := by omega
     exact ⟨_, rfl, .inl ⟨rfl, hc⟩⟩) N (1, 0) ⟨0, by rw [ch_zero]; rfl, by omega, rfl, by rw [ch_zero]; omega⟩
  rw [hr, ← hsym]
  rcases hQ with ⟨rfl, h⟩ | ⟨rfl, h⟩
  ·rw [if_pos h]; rfl
  ·rw [if_neg h]; rfl
theorem tl_some {q : Int × Bool} {v : Int} (h : q = (v, true)) : tl q = (v, 0) := by subst h; rfl
theorem rtruth_eq (b : Bool) : M.anamnesisref01_truth b = some (if b = true then 1 else 0) := by unfold M.anamnesisref01_truth; cases b <;> rfl
theorem rlogic_no {fn : ByteArray} {a b : Int} (h : (isbit a && isbit b) = false) : M.anamnesisref01_logic fn a b = some (0, false) := by
 unfold M.anamnesisref01_logic
 rw [if_pos]
 unfold isbit at h
 by_cases h1 : a = 0 ∨ a = 1
 ·have : ¬ (b = 0 ∨ b = 1) := fun h2 => by
   rcases h1 with rfl | rfl <;> rcases h2 with rfl | rfl <;> simp at h
  simp; omega
 ·simp; omega
theorem st_0 {a b : Int} (ha : rng a) (hb : rng b) : ∃ q, M.anamnesisref01_Dyad str_43 a b = some q ∧ M.ints_Dyad str_43 a b = some (tl q) := by
 unfold rng at ha hb
 have e2 := dy_add (a := a) (b := b) ha hb
 by_cases h : rng (a + b)
 ·refine ⟨(a + b, true), ?_, by rw [e2, if_pos h]; rfl⟩
  unfold M.anamnesisref01_Dyad
  simp only [ByteArray.toList_eq]
  rw [if_pos (by decide), if_neg ?_, w64_id h.1 h.2]
  unfold rng at h
  intro hh
  simp only [Bool.or_eq_true, Bool.and_eq_true, decide_eq_true_eq] at hh
  rcases hh with ⟨h1, h2⟩ | ⟨h1, h2⟩
  ·rw [w64_id (by omega) (by omega)] at h2; omega
  ·rw [w64_id (by omega) (by omega)] at h2; omega
 ·refine ⟨(0, false), ?_, by rw [e2, if_neg h]; rfl⟩
  unfold M.anamnesisref01_Dyad
  simp only [ByteArray.toList_eq]
  rw [if_pos (by decide), if_pos ?_]
  unfold rng at h
  simp only [Bool.or_eq_true, Bool.and_eq_true, decide_eq_true_eq]
  by_cases h1 : b > 0
  ·left; rw [w64_id (by omega) (by omega)]; omega
  ·right; rw [w64_id (by omega) (by omega)]; omega
theorem st_1 {a b : Int} (ha : rng a) (hb : rng b) : ∃ q, M.anamnesisref01_Dyad str_45 a b = some q ∧ M.ints_Dyad str_45 a b = some (tl q) := by
 unfold rng at ha hb
 have e2 := dy_sub (a := a) (b := b) ha hb
 by_cases h : rng (a - b)
 ·refine ⟨(a - b, true), ?_, by rw [e2, if_pos h]; rfl⟩
  unfold M.anamnesisref01_Dyad
  simp only [ByteArray.toList_eq]
  iterate 1 rw [if_neg (by decide)]
  rw [if_pos (by decide), if_neg ?_, w64_id h.1 h.2]
  unfold rng at h
  intro hh
  simp only [Bool.or_eq_true, Bool.and_eq_true, decide_eq_true_eq] at hh
  rcases hh with ⟨h1, h2⟩ | ⟨h1, h2⟩
  ·rw [w64_id (by omega) (by omega)] at h2; omega
  ·rw [w64_id (by omega) (by omega)] at h2; omega
 ·refine ⟨(0, false), ?_, by rw [e2, if_neg h]; rfl⟩
  unfold M.anamnesisref01_Dyad
  simp only [ByteArray.toList_eq]
  iterate 1 rw [if_neg (by decide)]
  rw [if_pos (by decide), if_pos ?_]
  unfold rng at h
  simp only [Bool.or_eq_true, Bool.and_eq_true, decide_eq_true_eq]
  by_cases h1 : b > 0
  ·right; rw [w64_id (by omega) (by omega)]; omega
  ·left; rw [w64_id (by omega) (by omega)]; omega
theorem st_2 {a b : Int} (ha : rng a) (hb : rng b) : ∃ q, M.anamnesisref01_Dyad str_195_151 a b = some q ∧ M.ints_Dyad str_195_151 a b = some (tl q) := by
 refine ⟨if rng (a * b) then (a * b, true) else (0, false), ?_, by rw [dy_mul ha hb]; split <;> rfl⟩
 unfold M.anamnesisref01_Dyad
 simp only [ByteArray.toList_eq]
 iterate 2 rw [if_neg (by decide)]
 rw [if_pos (by decide), times_eq ha hb]
 rfl
theorem st_3 {a b : Int} (ha : rng a) (hb : rng b) : ∃ q, M.anamnesisref01_Dyad str_195_183 a b = some q ∧ M.ints_Dyad str_195_183 a b = some (tl q) := by
 have e2 := dy_div ha hb
 unfold fDiv at e2
 by_cases h1 : a = 0 ∧ b = 0
 ·rw [if_pos h1] at e2
  refine ⟨_, ?_, e2⟩
  unfold M.anamnesisref01_Dyad
  simp only [ByteArray.toList_eq]
  iterate 3 rw [if_neg (by decide)]
  rw [if_pos (by decide), if_pos (by simpa using h1)]
 ·rw [if_neg h1] at e2
  by_cases h2 : b = 0 ∨ a = -9223372036854775808 ∧ b = -1
  ·rw [if_pos h2] at e2
   refine ⟨_, ?_, e2⟩
   unfold M.anamnesisref01_Dyad
   simp only [ByteArray.toList_eq]
   iterate 3 rw [if_neg (by decide)]
   rw [if_pos (by decide), if_neg (by simpa using h1), show ((b == 0) || ((a == (-9223372036854775808)) && (b == (-1)))) = true from by simpa using h2]
   rfl
  ·rw [if_neg h2] at e2
   have hb0 : b ≠ 0 := fun h => h2 (.inl h)
   have hr := tdiv_rng ha hb0 (fun h => h2 (.inr h))
   have e3 : remI a b = some (a.tmod b) := by unfold remI; rw [if_neg hb0]
   have e4 : quoI .i64 a b = some (a.tdiv b) := by unfold quoI; rw [if_neg hb0, w64_id hr.1 hr.2]
   have e5 : ((b == 0) || ((a == (-9223372036854775808)) && (b == (-1)))) = false := by simpa using h2
   by_cases hz : a.tmod b = 0
   ·refine ⟨(a.tdiv b, true), ?_, by rw [e2, hz]; rfl⟩
    unfold M.anamnesisref01_Dyad
    simp only [ByteArray.toList_eq]
    iterate 3 rw [if_neg (by decide)]
    rw [if_pos (by decide), if_neg (by simpa using h1), e5, e3, e4, hz]
    rfl
   ·refine ⟨(0, false), ?_, by rw [e2, show (a.tmod b == 0) = false from by simpa using hz]; rfl⟩
    unfold M.anamnesisref01_Dyad
    simp only [ByteArray.toList_eq]
    iterate 3 rw [if_neg (by decide)]
    rw [if_pos (by decide), if_neg (by simpa using h1), e5, e3, e4]
    simp [hz]
theorem st_4 {a b : Int} (ha : rng a) (hb : rng b) : ∃ q, M.anamnesisref01_Dyad str_42 a b = some q ∧ M.ints_Dyad str_42 a b = some (tl q) := by
 obtain ⟨p, q, e1, e2, e3⟩ := pow_both ha hb
 refine ⟨q, ?_, by rw [sel_power e1, e3]⟩
 rw [← e2]
 unfold M.anamnesisref01_Dyad
 simp only [ByteArray.toList_eq]
 iterate 4 rw [if_neg (by decide)]
 rw [if_pos (by decide)]
theorem st_5 {a b : Int} (ha : rng a) (hb : rng b) : ∃ q, M.anamnesisref01_Dyad str_124 a b = some q ∧ M.ints_Dyad str_124 a b = some (tl q) := by
 refine ⟨(fRes a b, true), ?_, dy_res ha hb⟩
 unfold M.anamnesisref01_Dyad
 simp only [ByteArray.toList_eq]
 iterate 5 rw [if_neg (by decide)]
 rw [if_pos (by decide)]
 unfold fRes
 by_cases h0 : a = 0
 ·rw [if_pos (by simpa using h0), if_pos h0]
 ·rw [if_neg (by simpa using h0), if_neg h0]
  by_cases h1 : a = -1
  ·rw [if_pos (by simp [h1]), if_pos h1]
  ·rw [if_neg h1]
   have e3 : remI b a = some (b.tmod a) := by unfold remI; rw [if_neg h0]
   by_cases h2 : a = 1
   ·subst h2
    rw [if_pos (by rfl), if_neg (by simp)]
    simp
   ·rw [if_neg (by simp; omega), e3]
    simp only [Option.bind_some]
    have n1 := Int.natAbs_tmod b a
    have n2 := Nat.mod_lt b.natAbs (show 0 < a.natAbs by omega)
    unfold rng at ha hb
    generalize b.tmod a = r at *
    by_cases h3 : r < 0 ∧ a > 0 ∨ r > 0 ∧ a < 0
    ·rw [if_pos (by simpa using h3), if_pos ⟨by omega, by simp only [decide_eq_decide]; omega⟩, w64_id (by omega) (by omega)]
     rfl
    ·rw [if_neg (by simpa using h3), if_neg (by simp only [decide_eq_decide]; omega)]
     rfl
theorem st_6 {a b : Int} (ha : rng a) (hb : rng b) : ∃ q, M.anamnesisref01_Dyad str_33 a b = some q ∧ M.ints_Dyad str_33 a b = some (tl q) := by
 refine ⟨fCh a b, ?_, dy_choose ha hb⟩
 unfold M.anamnesisref01_Dyad
 simp only [ByteArray.toList_eq]
 iterate 6 rw [if_neg (by decide)]
 rw [if_pos (by decide)]
 unfold fCh
 by_cases h : a < 0 ∨ b < 0
 ·rw [if_pos (by simpa using h), if_pos h]
 ·rw [if_neg (by simpa using h), if_neg h]
  obtain ⟨A, rfl⟩ : ∃ A : Nat, a = A := ⟨a.toNat, by omega⟩
  obtain ⟨B, rfl⟩ : ∃ B : Nat, b = B := ⟨b.toNat, by omega⟩
  rw [rchoose_eq hb.2 ha.2]
  simp only [Int.toNat_natCast]
  rfl
theorem st_7 {a b : Int} (ha : rng a) (hb : rng b) : ∃ q, M.anamnesisref01_Dyad str_226_140_136 a b = some q ∧ M.ints_Dyad str_226_140_136 a b = some (tl q) := by
 refine ⟨(if a < b then b else a, true), ?_, dy_max a b⟩
 unfold M.anamnesisref01_Dyad
 simp only [ByteArray.toList_eq]
 iterate 7 rw [if_neg (by decide)]
 rw [if_pos (by decide)]
 by_cases h : a > b
 ·rw [if_pos (by simpa using h), if_neg (by omega)]
 ·rw [if_neg (by simpa using h)]
  by_cases h2 : a < b
  ·rw [if_pos h2]
  ·rw [if_neg h2]; congr 2; omega
theorem st_8 {a b : Int} (ha : rng a) (hb : rng b) : ∃ q, M.anamnesisref01_Dyad str_226_140_138 a b = some q ∧ M.ints_Dyad str_226_140_138 a b = some (tl q) := by
 refine ⟨(if b < a then b else a, true), ?_, dy_min a b⟩
 unfold M.anamnesisref01_Dyad
 simp only [ByteArray.toList_eq]
 iterate 8 rw [if_neg (by decide)]
 rw [if_pos (by decide)]
 by_cases h : a < b
 ·rw [if_pos (by simpa using h), if_neg (by omega)]
 ·rw [if_neg (by simpa using h)]
  by_cases h2 : b < a
  ·rw [if_pos h2]
  ·rw [if_neg h2]; congr 2; omega
theorem st_9 {a b : Int} (ha : rng a) (hb : rng b) : ∃ q, M.anamnesisref01_Dyad str_60 a b = some q ∧ M.ints_Dyad str_60 a b = some (tl q) := by
 refine ⟨(if a < b then 1 else 0, true), ?_, dy_lt a b⟩
 unfold M.anamnesisref01_Dyad
 simp only [ByteArray.toList_eq]
 iterate 9 rw [if_neg (by decide)]
 rw [if_pos (by decide), rtruth_eq]
 by_cases h : a < b
 ·rw [if_pos (by simpa using h), if_pos h]; rfl
 ·rw [if_neg (by simpa using h), if_neg h]; rfl
theorem st_10 {a b : Int} (ha : rng a) (hb : rng b) : ∃ q, M.anamnesisref01_Dyad str_226_137_164 a b = some q ∧ M.ints_Dyad str_226_137_164 a b = some (tl q) := by
 refine ⟨(if a ≤ b then 1 else 0, true), ?_, dy_le a b⟩
 unfold M.anamnesisref01_Dyad
 simp only [ByteArray.toList_eq]
 iterate 10 rw [if_neg (by decide)]
 rw [if_pos (by decide), rtruth_eq]
 by_cases h : a ≤ b
 ·rw [if_pos (by simpa using h), if_pos h]; rfl
 ·rw [if_neg (by simpa using h), if_neg h]; rfl
theorem st_11 {a b : Int} (ha : rng a) (hb : rng b) : ∃ q, M.anamnesisref01_Dyad str_61 a b = some q ∧ M.ints_Dyad str_61 a b = some (tl q) := by
 refine ⟨(if a = b then 1 else 0, true), ?_, dy_eq a b⟩
 unfold M.anamnesisref01_Dyad
 simp only [ByteArray.toList_eq]
 iterate 11 rw [if_neg (by decide)]
 rw [if_pos (by decide), rtruth_eq]
 by_cases h : a = b
 ·rw [if_pos (by simpa using h), if_pos h]; rfl
 ·rw [if_neg (by simpa using h), if_neg h]; rfl
theorem st_12 {a b : Int} (ha : rng a) (hb : rng b) : ∃ q, M.anamnesisref01_Dyad str_226_137_165 a b = some q ∧ M.ints_Dyad str_226_137_165 a b = some (tl q) := by
 refine ⟨(if b ≤ a then 1 else 0, true), ?_, dy_ge a b⟩
 unfold M.anamnesisref01_Dyad
 simp only [ByteArray.toList_eq]
 iterate 12 rw [if_neg (by decide)]
 rw [if_pos (by decide), rtruth_eq]
 by_cases h : b ≤ a
 ·rw [if_pos (by simpa using h), if_pos h]; rfl
 ·rw [if_neg (by simpa using h), if_neg h]; rfl
theorem st_13 {a b : Int} (ha : rng a) (hb : rng b) : ∃ q, M.anamnesisref01_Dyad str_62 a b = some q ∧ M.ints_Dyad str_62 a b = some (tl q) := by
 refine ⟨(if b < a then 1 else 0, true), ?_, dy_gt a b⟩
 unfold M.anamnesisref01_Dyad
 simp only [ByteArray.toList_eq]
 iterate 13 rw [if_neg (by decide)]
 rw [if_pos (by decide), rtruth_eq]
 by_cases h : b < a
 ·rw [if_pos (by simpa using h), if_pos h]; rfl
 ·rw [if_neg (by simpa using h), if_neg h]; rfl
theorem st_14 {a b : Int} (ha : rng a) (hb : rng b) : ∃ q, M.anamnesisref01_Dyad str_226_137_160 a b = some q ∧ M.ints_Dyad str_226_137_160 a b = some (tl q) := by
 refine ⟨(if a = b then 0 else 1, true), ?_, dy_ne a b⟩
 unfold M.anamnesisref01_Dyad
 simp only [ByteArray.toList_eq]
 iterate 14 rw [if_neg (by decide)]
 rw [if_pos (by decide), rtruth_eq]
 by_cases h : a = b
 ·rw [if_neg (by simpa using h), if_pos h]; rfl
 ·rw [if_pos (by simpa using h), if_neg h]; rfl
theorem st_15 {a b : Int} (ha : rng a) (hb : rng b) : ∃ q, M.anamnesisref01_Dyad str_226_136_167 a b = some q ∧ M.ints_Dyad str_226_136_167 a b = some (tl q) := by
 cases h : (isbit a && isbit b) with
 | false =>
  refine ⟨(0, false), ?_, by rw [dy_and a b, h]; rfl⟩
  unfold M.anamnesisref01_Dyad
  simp only [ByteArray.toList_eq]
  iterate 15 rw [if_neg (by decide)]
  rw [rlogic_no h]; rfl
 | true =>
  refine ⟨(a * b, true), ?_, by rw [dy_and a b, h]; rfl⟩
  unfold M.anamnesisref01_Dyad
  simp only [ByteArray.toList_eq]
  iterate 15 rw [if_neg (by decide)]
  rw [show M.anamnesisref01_logic str_226_136_167 a b = some (a * b, true) from by
   unfold M.anamnesisref01_logic
   simp only [ByteArray.toList_eq]
   obtain ⟨h1, h2⟩ := bit_cases h
   rcases h1 with rfl | rfl <;> rcases h2 with rfl | rfl <;> rfl]
  rfl
theorem st_16 {a b : Int} (ha : rng a) (hb : rng b) : ∃ q, M.anamnesisref01_Dyad str_226_136_168 a b = some q ∧ M.ints_Dyad str_226_136_168 a b = some (tl q) := by
 cases h : (isbit a && isbit b) with
 | false =>
  refine ⟨(0, false), ?_, by rw [dy_or a b, h]; rfl⟩
  unfold M.anamnesisref01_Dyad
  simp only [ByteArray.toList_eq]
  iterate 15 rw [if_neg (by decide)]
  rw [rlogic_no h]; rfl
 | true =>
  refine ⟨(a + b - a * b, true), ?_, by rw [dy_or a b, h]; rfl⟩
  unfold M.anamnesisref01_Dyad
  simp only [ByteArray.toList_eq]
  iterate 15 rw [if_neg (by decide)]
  rw [show M.anamnesisref01_logic str_226_136_168 a b = some (a + b - a * b, true) from by
   unfold M.anamnesisref01_logic
   simp only [ByteArray.toList_eq]
   obtain ⟨h1, h2⟩ := bit_cases h
   rcases h1 with rfl | rfl <;> rcases h2 with rfl | rfl <;> rfl]
  rfl
theorem st_17 {a b : Int} (ha : rng a) (hb : rng b) : ∃ q, M.anamnesisref01_Dyad str_226_141_178 a b = some q ∧ M.ints_Dyad str_226_141_178 a b = some (tl q) := by
 cases h : (isbit a && isbit b) with
 | false =>
  refine ⟨(0, false), ?_, by rw [dy_nand a b, h]; rfl⟩
  unfold M.anamnesisref01_Dyad
  simp only [ByteArray.toList_eq]
  iterate 15 rw [if_neg (by decide)]
  rw [rlogic_no h]; rfl
 | true =>
  refine ⟨(1 - a * b, true), ?_, by rw [dy_nand a b, h]; rfl⟩
  unfold M.anamnesisref01_Dyad
  simp only [ByteArray.toList_eq]
  iterate 15 rw [if_neg (by decide)]
  rw [show M.anamnesisref01_logic str_226_141_178 a b = some (1 - a * b, true) from by
   unfold M.anamnesisref01_logic
   simp only [ByteArray.toList_eq]
   obtain ⟨h1, h2⟩ := bit_cases h
   rcases h1 with rfl | rfl <;> rcases h2 with rfl | rfl <;> rfl]
  rfl
theorem st_18 {a b : Int} (ha : rng a) (hb : rng b) : ∃ q, M.anamnesisref01_Dyad str_226_141_177 a b = some q ∧ M.ints_Dyad str_226_141_177 a b = some (tl q) := by
 cases h : (isbit a && isbit b) with
 | false =>
  refine ⟨(0, false), ?_, by rw [dy_nor a b, h]; rfl⟩
  unfold M.anamnesisref01_Dyad
  simp only [ByteArray.toList_eq]
  iterate 15 rw [if_neg (by decide)]
  rw [rlogic_no h]; rfl
 | true =>
  refine ⟨(1 - (a + b - a * b), true), ?_, by rw [dy_nor a b, h]; rfl⟩
  unfold M.anamnesisref01_Dyad
  simp only [ByteArray.toList_eq]
  iterate 15 rw [if_neg (by decide)]
  rw [show M.anamnesisref01_logic str_226_141_177 a b = some (1 - (a + b - a * b), true) from by
   unfold M.anamnesisref01_logic
   simp only [ByteArray.toList_eq]
   obtain ⟨h1, h2⟩ := bit_cases h
   rcases h1 with rfl | rfl <;> rcases h2 with rfl | rfl <;> rfl]
  rfl
def fc : Nat → Int
 | 0 => 1
 | n + 1 => fc n * ((n : Int) + 1)
theorem fc_bd : ∀ n, n ≤ 20 → 1 ≤ fc n ∧ fc n ≤ 2432902008176640000 := by
 intro n hn
 have : ∀ n : Fin 21, 1 ≤ fc n ∧ fc n ≤ 2432902008176640000 := by decide
 exact this ⟨n, by omega⟩
theorem rfact {n : Nat} (hn : n ≤ 20) : wloop (M.anamnesisref01_Monad_L1 (n : Int)) (1, 1) = some (.next (fc n)) := by
 refine loop_fun (f := M.anamnesisref01_Monad_L1 (n : Int)) (fun i => (fc i, (i : Int) + 1)) n (fun k hk => ?_) ?_
 ·have b1 := fc_bd (k + 1) (by omega)
  have e : fc k * ((k : Int) + 1) = fc (k + 1) := rfl
  simp only [M.anamnesisref01_Monad_L1]
  rw [if_pos (by simp; omega), e, w64_id (x := fc (k + 1)) (by omega) (by omega), w64_id (x := (k : Int) + 1 + 1) (by omega) (by omega)]
  rfl
 ·simp only [M.anamnesisref01_Monad_L1]
  rw [if_neg (by simp; omega)]
theorem ifact {n : Nat} (hn : n ≤ 20) : wloop (M.ints_factorial_L1 (n : Int)) (1, 2) = some (.next (fc n)) := by
 rcases Nat.eq_zero_or_pos n with rfl | hp
 ·rw [wloop_done (b := .next 1)]
  ·rfl
  ·simp only [M.ints_factorial_L1]; rfl
 ·have := loop_fun (f := M.ints_factorial_L1 (n : Int)) (fun i => (fc (i + 1), (i : Int) + 2)) (n - 1) (b := .next (fc n)) (fun k hk => ?_) ?_
  ·exact this
  ·have b1 := fc_bd (k + 2) (by omega)
   have e : fc (k + 1) * ((k : Int) + 2) = fc (k + 2) := by
    show _ = fc (k + 1) * (((k + 1 : Nat) : Int) + 1)
    congr 1
   simp only [M.ints_factorial_L1]
   rw [if_pos (by simp; omega), e, w64_id (x := fc (k + 2)) (by omega) (by omega), w64_id (x := (k : Int) + 2 + 1) (by omega) (by omega)]
   have : (k : Int) + 2 + 1 = ((k + 1 : Nat) : Int) + 2 := by omega
   rw [this]
  ·simp only [M.ints_factorial_L1]
   rw [if_neg (by simp; omega), show n - 1 + 1 = n by omega]
theorem mo_0 {b : Int} (hb : rng b) : ∃ q, M.anamnesisref01_Monad str_43 b = some q ∧ M.ints_Monad str_43 b = some (tl q) := by
 refine ⟨(b, true), ?_, ?_⟩
 ·unfold M.anamnesisref01_Monad
  simp only [ByteArray.toList_eq]
  rw [if_pos (by decide)]
  simp only [Option.bind_some]
  rw [if_pos (by decide)]
 ·unfold M.ints_Monad M.ints_monads
  simp only [Option.bind_some]
  rw [if_pos (by decide)]
  rfl
theorem mo_1 {b : Int} (hb : rng b) : ∃ q, M.anamnesisref01_Monad str_226_140_136 b = some q ∧ M.ints_Monad str_226_140_136 b = some (tl q) := by
 refine ⟨(b, true), ?_, ?_⟩
 ·unfold M.anamnesisref01_Monad
  simp only [ByteArray.toList_eq]
  rw [if_neg (by decide), if_pos (by decide)]
  simp only [Option.bind_some]
  rw [if_pos (by decide)]
 ·unfold M.ints_Monad M.ints_monads
  simp only [Option.bind_some]
  iterate 1 rw [if_neg (by decide)]
  rw [if_pos (by decide)]
  rfl
theorem mo_2 {b : Int} (hb : rng b) : ∃ q, M.anamnesisref01_Monad str_226_140_138 b = some q ∧ M.ints_Monad str_226_140_138 b = some (tl q) := by
 refine ⟨(b, true), ?_, ?_⟩
 ·unfold M.anamnesisref01_Monad
  simp only [ByteArray.toList_eq]
  rw [if_neg (by decide), if_neg (by decide)]
  simp only [Option.bind_some]
  rw [if_pos (by decide)]
 ·unfold M.ints_Monad M.ints_monads
  simp only [Option.bind_some]
  iterate 2 rw [if_neg (by decide)]
  rw [if_pos (by decide)]
  rfl
theorem mo_3 {b : Int} (hb : rng b) : ∃ q, M.anamnesisref01_Monad str_45 b = some q ∧ M.ints_Monad str_45 b = some (tl q) := by
 by_cases h : b = -9223372036854775808
 ·refine ⟨(0, false), ?_, ?_⟩
  ·unfold M.anamnesisref01_Monad
   simp only [ByteArray.toList_eq]
   rw [if_neg (by decide), if_neg (by decide)]
   simp only [Option.bind_some]
   rw [if_neg (by decide)]
   rw [if_pos (by decide)]
   rw [if_pos (by simpa using h)]
  ·unfold M.ints_Monad M.ints_monads
   simp only [Option.bind_some]
   iterate 3 rw [if_neg (by decide)]
   rw [if_pos (by decide)]
   unfold M.ints_monads_1
   rw [h]; rfl
 ·refine ⟨(IntKind.i64.wrap (0 - b), true), ?_, ?_⟩
  ·unfold M.anamnesisref01_Monad
   simp only [ByteArray.toList_eq]
   rw [if_neg (by decide), if_neg (by decide)]
   simp only [Option.bind_some]
   rw [if_neg (by decide)]
   rw [if_pos (by decide)]
   rw [if_neg (by simpa using h)]
  ·unfold M.ints_Monad M.ints_monads
   simp only [Option.bind_some]
   iterate 3 rw [if_neg (by decide)]
   rw [if_pos (by decide)]
   unfold M.ints_monads_1
   rw [show (b != -9223372036854775808) = true from by simpa using h]; rfl
theorem mo_4 {b : Int} (hb : rng b) : ∃ q, M.anamnesisref01_Monad str_195_151 b = some q ∧ M.ints_Monad str_195_151 b = some (tl q) := by
 refine ⟨(if b < 0 then -1 else if b > 0 then 1 else 0, true), ?_, ?_⟩
 ·unfold M.anamnesisref01_Monad
  simp only [ByteArray.toList_eq]
  rw [if_neg (by decide), if_neg (by decide)]
  simp only [Option.bind_some]
  rw [if_neg (by decide)]
  iterate 1 rw [if_neg (by decide)]
  rw [if_pos (by decide)]
  rw [rtruth_eq, rtruth_eq]
  simp only [Option.bind_some]
  by_cases h1 : b < 0
  ·simp [h1, show ¬ 0 < b by omega]; rfl
  ·by_cases h2 : b > 0
   ·simp [h1, h2]; rfl
   ·simp [h1, h2]; rfl
 ·unfold M.ints_Monad M.ints_monads
  simp only [Option.bind_some]
  iterate 4 rw [if_neg (by decide)]
  rw [if_pos (by decide)]
  unfold M.ints_monads_2 M.ints_sign
  by_cases h1 : b < 0
  ·simp [h1, told_eq]
  ·by_cases h2 : b > 0
   ·simp [h1, h2, told_eq]
   ·simp [h1, h2, told_eq]
theorem mo_5 {b : Int} (hb : rng b) : ∃ q, M.anamnesisref01_Monad str_195_183 b = some q ∧ M.ints_Monad str_195_183 b = some (tl q) := by
 by_cases h : b = 1 ∨ b = -1
 ·refine ⟨(b, true), ?_, ?_⟩
  ·unfold M.anamnesisref01_Monad
   simp only [ByteArray.toList_eq]
   rw [if_neg (by decide), if_neg (by decide)]
   simp only [Option.bind_some]
   rw [if_neg (by decide)]
   iterate 2 rw [if_neg (by decide)]
   rw [if_pos (by decide)]
   rw [if_pos (by simpa using h)]
  ·unfold M.ints_Monad M.ints_monads
   simp only [Option.bind_some]
   iterate 5 rw [if_neg (by decide)]
   rw [if_pos (by decide)]
   unfold M.ints_monads_3
   rw [show ((b == 1) || (b == -1)) = true from by simpa using h]; rfl
 ·refine ⟨(0, false), ?_, ?_⟩
  ·unfold M.anamnesisref01_Monad
   simp only [ByteArray.toList_eq]
   rw [if_neg (by decide), if_neg (by decide)]
   simp only [Option.bind_some]
   rw [if_neg (by decide)]
   iterate 2 rw [if_neg (by decide)]
   rw [if_pos (by decide)]
   rw [if_neg (by simpa using h)]
  ·unfold M.ints_Monad M.ints_monads
   simp only [Option.bind_some]
   iterate 5 rw [if_neg (by decide)]
   rw [if_pos (by decide)]
   unfold M.ints_monads_3
   rw [show ((b == 1) || (b == -1)) = false from by simpa using h]; rfl
theorem mo_6 {b : Int} (hb : rng b) : ∃ q, M.anamnesisref01_Monad str_42 b = some q ∧ M.ints_Monad str_42 b = some (tl q) := by
 by_cases h : b = 0
 ·subst h
  refine ⟨(1, true), ?_, ?_⟩
  ·unfold M.anamnesisref01_Monad
   simp only [ByteArray.toList_eq]
   rw [if_neg (by decide), if_neg (by decide)]
   simp only [Option.bind_some]
   rw [if_neg (by decide)]
   iterate 3 rw [if_neg (by decide)]
   rw [if_pos (by decide)]
   rw [rtruth_eq]; rfl
  ·unfold M.ints_Monad M.ints_monads
   simp only [Option.bind_some]
   iterate 6 rw [if_neg (by decide)]
   rw [if_pos (by decide)]
   rfl
 ·refine ⟨(0, false), ?_, ?_⟩
  ·unfold M.anamnesisref01_Monad
   simp only [ByteArray.toList_eq]
   rw [if_neg (by decide), if_neg (by decide)]
   simp only [Option.bind_some]
   rw [if_neg (by decide)]
   iterate 3 rw [if_neg (by decide)]
   rw [if_pos (by decide)]
   rw [rtruth_eq, show (b == 0) = false from by simpa using h]; rfl
  ·unfold M.ints_Monad M.ints_monads
   simp only [Option.bind_some]
   iterate 6 rw [if_neg (by decide)]
   rw [if_pos (by decide)]
   unfold M.ints_monads_4
   rw [show (b == 0) = false from by simpa using h]; rfl
theorem mo_7 {b : Int} (hb : rng b) : ∃ q, M.anamnesisref01_Monad str_124 b = some q ∧ M.ints_Monad str_124 b = some (tl q) := by
 unfold rng at hb
 by_cases h : b = -9223372036854775808
 ·refine ⟨(0, false), ?_, ?_⟩
  ·unfold M.anamnesisref01_Monad
   simp only [ByteArray.toList_eq]
   rw [if_neg (by decide), if_neg (by decide)]
   simp only [Option.bind_some]
   rw [if_neg (by decide)]
   iterate 4 rw [if_neg (by decide)]
   rw [if_pos (by decide)]
   rw [if_pos (by simpa using h)]
  ·unfold M.ints_Monad M.ints_monads
   simp only [Option.bind_some]
   iterate 7 rw [if_neg (by decide)]
   rw [if_pos (by decide)]
   unfold M.ints_monads_5
   rw [h]; rfl
 ·by_cases h2 : b < 0
  ·refine ⟨(0 - b, true), ?_, ?_⟩
   ·unfold M.anamnesisref01_Monad
    simp only [ByteArray.toList_eq]
    rw [if_neg (by decide), if_neg (by decide)]
    simp only [Option.bind_some]
    rw [if_neg (by decide)]
    iterate 4 rw [if_neg (by decide)]
    rw [if_pos (by decide)]
    rw [if_neg (by simpa using h), if_pos (by simpa using h2), w64_id (by omega) (by omega)]
   ·unfold M.ints_Monad M.ints_monads
    simp only [Option.bind_some]
    iterate 7 rw [if_neg (by decide)]
    rw [if_pos (by decide)]
    unfold M.ints_monads_5
    rw [show (b != -9223372036854775808) = true from by simpa using h, w64_id (by omega) (by omega), if_pos (by omega)]; rfl
  ·refine ⟨(b, true), ?_, ?_⟩
   ·unfold M.anamnesisref01_Monad
    simp only [ByteArray.toList_eq]
    rw [if_neg (by decide), if_neg (by decide)]
    simp only [Option.bind_some]
    rw [if_neg (by decide)]
    iterate 4 rw [if_neg (by decide)]
    rw [if_pos (by decide)]
    rw [if_neg (by simpa using h), if_neg (by simpa using h2)]
   ·unfold M.ints_Monad M.ints_monads
    simp only [Option.bind_some]
    iterate 7 rw [if_neg (by decide)]
    rw [if_pos (by decide)]
    unfold M.ints_monads_5
    rw [show (b != -9223372036854775808) = true from by simpa using h, w64_id (by omega) (by omega), if_neg (by omega)]; rfl
theorem mo_8 {b : Int} (hb : rng b) : ∃ q, M.anamnesisref01_Monad str_33 b = some q ∧ M.ints_Monad str_33 b = some (tl q) := by
 by_cases h : b < 0 ∨ b > 20
 ·refine ⟨(0, false), ?_, ?_⟩
  ·unfold M.anamnesisref01_Monad
   simp only [ByteArray.toList_eq]
   rw [if_neg (by decide), if_neg (by decide)]
   simp only [Option.bind_some]
   rw [if_neg (by decide)]
   iterate 5 rw [if_neg (by decide)]
   rw [if_pos (by decide)]
   rw [if_pos (by simpa using h)]
  ·unfold M.ints_Monad M.ints_monads
   simp only [Option.bind_some]
   iterate 8 rw [if_neg (by decide)]
   rw [if_pos (by decide)]
   unfold M.ints_factorial
   rw [if_pos (by simpa using h)]; rfl
 ·obtain ⟨n, rfl⟩ : ∃ n : Nat, b = n := ⟨b.toNat, by omega⟩
  refine ⟨(fc n, true), ?_, ?_⟩
  ·unfold M.anamnesisref01_Monad
   simp only [ByteArray.toList_eq]
   rw [if_neg (by decide), if_neg (by decide)]
   simp only [Option.bind_some]
   rw [if_neg (by decide)]
   iterate 5 rw [if_neg (by decide)]
   rw [if_pos (by decide)]
   rw [if_neg (by simpa using h), rfact (by omega)]; rfl
  ·unfold M.ints_Monad M.ints_monads
   simp only [Option.bind_some]
   iterate 8 rw [if_neg (by decide)]
   rw [if_pos (by decide)]
   unfold M.ints_factorial
   rw [if_neg (by simpa using h), ifact (by omega)]; rfl
theorem mo_9 {b : Int} (hb : rng b) : ∃ q, M.anamnesisref01_Monad str_126 b = some q ∧ M.ints_Monad str_126 b = some (tl q) := by
 by_cases h : b = 0 ∨ b = 1
 ·refine ⟨(IntKind.i64.wrap (1 - b), true), ?_, ?_⟩
  ·unfold M.anamnesisref01_Monad
   simp only [ByteArray.toList_eq]
   rw [if_neg (by decide), if_neg (by decide)]
   simp only [Option.bind_some]
   rw [if_neg (by decide)]
   iterate 6 rw [if_neg (by decide)]
   rw [if_pos (by simpa using h)]
  ·unfold M.ints_Monad M.ints_monads
   simp only [Option.bind_some]
   iterate 9 rw [if_neg (by decide)]
   rw [if_pos (by decide)]
   unfold M.ints_monads_6 M.ints_bit
   rcases h with rfl | rfl <;> rfl
 ·refine ⟨(0, false), ?_, ?_⟩
  ·unfold M.anamnesisref01_Monad
   simp only [ByteArray.toList_eq]
   rw [if_neg (by decide), if_neg (by decide)]
   simp only [Option.bind_some]
   rw [if_neg (by decide)]
   iterate 6 rw [if_neg (by decide)]
   rw [if_neg (by simpa using h)]
  ·unfold M.ints_Monad M.ints_monads
   simp only [Option.bind_some]
   iterate 9 rw [if_neg (by decide)]
   rw [if_pos (by decide)]
   unfold M.ints_monads_6 M.ints_bit
   rw [show ((b == 0) || (b == 1)) = false from by simpa using h]; rfl
noncomputable instance : DecidableEq ByteArray := fun a b => Classical.propDecidable (a = b)
noncomputable instance (a : ByteArray) (l : List ByteArray) : Decidable (a ∈ l) := Classical.propDecidable (a ∈ l)
theorem list_beq (a b : ByteArray) : (a.toList == b.toList) = decide (a = b) := by
 rw [Bool.eq_iff_iff, beq_iff_eq, decide_eq_true_eq]
 constructor
 ·intro h
  rw [ByteArray.toList_eq, ByteArray.toList_eq] at h
  obtain ⟨x⟩ := a
  obtain ⟨y⟩ := b
  have : x = y := by
   have h2 : x.toList = y.toList := h
   exact Array.toList_inj.mp h2
  rw [this]
 ·rintro rfl; rfl
theorem In_eq {l : List ByteArray} {fn : ByteArray} (hl : l.length ≤ 1000) : M.anamnesisref01_In l fn = some (decide (fn ∈ l)) := by
 unfold M.anamnesisref01_In
 rcases loop_find (f := M.anamnesisref01_In_L1 l fn) (fun k => (k : Int)) l.length (fun k => decide (l[k]? = some fn)) (fun _ => .done true) (c := .next ()) (fun k hk => by
   simp only [M.anamnesisref01_In_L1]
   rw [if_pos (by simp; omega), idx_get hk, w64_id (x := (k : Int) + 1) (by omega) (by omega)]
   simp only [Option.bind_some]
   rw [list_beq, List.getElem?_eq_getElem hk]
   by_cases h : l[k] = fn
   ·rw [if_pos (by simpa using h), if_pos (by simpa using h)]
   ·rw [if_neg (by simpa using h), if_neg (by simpa using h)]; rfl) (by
   simp only [M.anamnesisref01_In_L1]
   rw [if_neg (by simp)]) with ⟨k, hk, hb, _, he⟩ | ⟨hg, he⟩
 ·have he' : wloop (M.anamnesisref01_In_L1 l fn) 0 = some (.done true) := he
  rw [he', decide_eq_true (List.mem_of_getElem? (by simpa using hb))]; rfl
 ·have he' : wloop (M.anamnesisref01_In_L1 l fn) 0 = some (.next ()) := he
  have hn : fn ∉ l := fun hm => by
   obtain ⟨k, hk⟩ := List.getElem?_of_mem hm
   have hkl : k < l.length := by
    rcases Nat.lt_or_ge k l.length with h | h
    ·exact h
    ·rw [List.getElem?_eq_none h] at hk; cases hk
   have := hg k hkl
   rw [hk] at this; simp at this
  rw [he', decide_eq_false hn]; rfl
def gl10 : List ByteArray := [str_43, str_45, str_195_151, str_195_183, str_42, str_124, str_226_140_136, str_226_140_138, str_33, str_126]
theorem dyad_both {fn : ByteArray} {a b : Int} (h : fn ∈ gl19) (ha : rng a) (hb : rng b) : ∃ q, M.anamnesisref01_Dyad fn a b = some q ∧ M.ints_Dyad fn a b = some (tl q) := by
 simp only [gl19, List.mem_cons, List.not_mem_nil, or_false] at h
 rcases h with rfl | rfl | rfl | rfl | rfl | rfl | rfl | rfl | rfl | rfl | rfl | rfl | rfl | rfl | rfl | rfl | rfl | rfl | rfl
 ·exact st_0 ha hb
 ·exact st_1 ha hb
 ·exact st_2 ha hb
 ·exact st_3 ha hb
 ·exact st_4 ha hb
 ·exact st_5 ha hb
 ·exact st_6 ha hb
 ·exact st_7 ha hb
 ·exact st_8 ha hb
 ·exact st_9 ha hb
 ·exact st_10 ha hb
 ·exact st_11 ha hb
 ·exact st_12 ha hb
 ·exact st_13 ha hb
 ·exact st_14 ha hb
 ·exact st_15 ha hb
 ·exact st_16 ha hb
 ·exact st_17 ha hb
 ·exact st_18 ha hb
theorem monad_both {fn : ByteArray} {b : Int} (h : fn ∈ gl10) (hb : rng b) : ∃ q, M.anamnesisref01_Monad fn b = some q ∧ M.ints_Monad fn b = some (tl q) := by
 simp only [gl10, List.mem_cons, List.not_mem_nil, or_false] at h
 rcases h with rfl | rfl | rfl | rfl | rfl | rfl | rfl | rfl | rfl | rfl
 ·exact mo_0 hb
 ·exact mo_3 hb
 ·exact mo_4 hb
 ·exact mo_5 hb
 ·exact mo_6 hb
 ·exact mo_7 hb
 ·exact mo_1 hb
 ·exact mo_2 hb
 ·exact mo_8 hb
 ·exact mo_9 hb
theorem is_no {fn : ByteArray} (h : fn ∉ gl19) : M.scalar_Is fn = some false := by
 simp only [gl19, List.mem_cons, List.not_mem_nil, or_false, not_or] at h
 obtain ⟨h0, h1, h2, h3, h4, h5, h6, h7, h8, h9, h10, h11, h12, h13, h14, h15, h16, h17, h18⟩ := h
 unfold M.scalar_Is M.ints_Identity
 simp only [list_beq, h0, h1, h2, h3, h4, h5, h6, h7, h8, h9, h10, h11, h12, h13, h14, h15, h16, h17, h18, decide_false, Bool.false_eq_true, if_false, Option.bind_some]
 rfl
theorem mono_no {fn : ByteArray} {b : Int} (h : fn ∉ gl10) : M.ints_Monad fn b = some (0, 4) := by
 simp only [gl10, List.mem_cons, List.not_mem_nil, or_false, not_or] at h
 obtain ⟨h0, h1, h2, h3, h4, h5, h6, h7, h8, h9⟩ := h
 have hb : ∀ s : ByteArray, fn ≠ s → (fn == s) = false := fun s hs => by
  cases he : (fn == s)
  ·rfl
  ·exact absurd (ba_eq he) hs
 unfold M.ints_Monad M.ints_monads
 simp only [Option.bind_some, hb _ h0, hb _ h1, hb _ h2, hb _ h3, hb _ h4, hb _ h5, hb _ h6, hb _ h7, hb _ h8, hb _ h9, Bool.false_eq_true, if_false]
theorem is_yes {fn : ByteArray} (h : fn ∈ gl19) : M.scalar_Is fn = some true := by
 obtain ⟨q, hq⟩ := List.getElem?_of_mem h
 have hq19 : q < 19 := by
  rcases Nat.lt_or_ge q 19 with h | h
  ·exact h
  ·rw [List.getElem?_eq_none (by exact h)] at hq; cases hq
 exact is_19 q hq19 fn hq
theorem is_eq (fn : ByteArray) : M.scalar_Is fn = some (decide (fn ∈ gl19)) := by
 by_cases h : fn ∈ gl19
 ·rw [is_yes h, decide_eq_true h]
 ·rw [is_no h, decide_eq_false h]
theorem tl_zero {q : Int × Bool} : (tl q).2 = 0 ↔ q.2 = true := by
 obtain ⟨v, ok⟩ := q
 cases ok <;> simp [tl]
theorem tl_val {q : Int × Bool} (h : q.2 = true) : (tl q).1 = q.1 := by
 obtain ⟨v, ok⟩ := q
 simp at h; subst h; rfl
theorem tl_bad {q : Int × Bool} (h : (tl q).2 ≠ 0) : (tl q).2 = 23 ∧ q.2 = false := by
 obtain ⟨v, ok⟩ := q
 cases ok
 ·exact ⟨rfl, rfl⟩
 ·simp [tl] at h
noncomputable def moR (fn : ByteArray) (x : Int) : Int × Bool := (M.anamnesisref01_Monad fn x).getD (0, false)
noncomputable def dyR (fn : ByteArray) (x y : Int) : Int × Bool := (M.anamnesisref01_Dyad fn x y).getD (0, false)
theorem moR_eq {fn : ByteArray} {x : Int} (h : fn ∈ gl10) (hx : rng x) : M.anamnesisref01_Monad fn x = some (moR fn x) ∧ M.ints_Monad fn x = some (tl (moR fn x)) := by
 obtain ⟨q, h1, h2⟩ := monad_both h hx
 have e : moR fn x = q := by unfold moR; rw [h1]; rfl
 rw [e]; exact ⟨h1, h2⟩
theorem dyR_eq {fn : ByteArray} {x y : Int} (h : fn ∈ gl19) (hx : rng x) (hy : rng y) : M.anamnesisref01_Dyad fn x y = some (dyR fn x y) ∧ M.ints_Dyad fn x y = some (tl (dyR fn x y)) := by
 obtain ⟨q, h1, h2⟩ := dyad_both h hx hy
 have e : dyR fn x y = q := by unfold dyR; rw [h1]; rfl
 rw [e]; exact ⟨h1, h2⟩
/-- what the two say together: g is what is told of each number; the first that is not told ends it. -/
theorem monad_same {fn : ByteArray} {b : Val} (hd : ∀ x ∈ b.Data, rng x) (hl : b.Data.length ≤ 200) (hs : b.Shape.length ≤ 10) :
  ∃ v e, M.scalar_Monad fn b = some (v, e) ∧ M.anamnesisref06_Monad fn b = some (v, e) ∧ v.Shape.length ≤ 10 ∧ v.Data.length ≤ 200 := by
 have hm : maxLen = 9223372036854775807 := rfl
 unfold M.scalar_Monad M.anamnesisref06_Monad M.anamnesisref01_Monads
 simp only [Option.bind_some]
 rw [In_eq (by decide)]
 simp only [Option.bind_some]
 by_cases hf : fn ∈ gl10
 ·have e0 := (moR_eq (x := 0) hf (by unfold rng; omega)).2
  have hin : decide (fn ∈ [str_43, str_45, str_195_151, str_195_183, str_42, str_124, str_226_140_136, str_226_140_138, str_33, str_126]) = true := decide_eq_true hf
  rw [e0, hin]
  simp only [Option.bind_some, Bool.not_true, Bool.false_eq_true, if_false]
  have h4 : ((tl (moR fn 0)).2 == 4) = false := by
   by_cases h : (tl (moR fn 0)).2 = 0
   ·rw [h]; rfl
   ·rw [(tl_bad h).1]; rfl
  rw [h4, value_Right_eq (by omega), ref06_Right_eq (by omega) (by omega)]
  simp only [Option.bind_some, Bool.false_eq_true, if_false]
  cases hr : vRight b with
  | false => exact ⟨_, _, rfl, rfl, by simp, by simp⟩
  | true =>
   simp only [Bool.not_true, Bool.false_eq_true, if_false]
   cases hc : b.Char with
   | true => exact ⟨_, _, rfl, rfl, by simp, by simp⟩
   | false =>
    simp only [Bool.false_eq_true, if_false]
    have hg : ∀ k : Nat, k < b.Data.length → M.scalar_Monad_1 (k : Int) fn b = some (tl (moR fn ((b.Data[k]?).getD 0))) := fun k hk => by
     unfold M.scalar_Monad_1
     rw [idx_get hk, List.getElem?_eq_getElem hk]
     simp only [Option.bind_some, Option.getD_some]
     rw [(moR_eq hf (hd _ (List.getElem_mem hk))).2]
     rfl
    have hloop := loop_find (f := M.anamnesisref06_Monad_L1 fn b) (fun k => ((k : Int), (List.range k).map fun (k : Nat) => (moR fn ((b.Data[k]?).getD 0)).1)) b.Data.length (fun k => !(moR fn ((b.Data[k]?).getD 0)).2) (fun _ => .done (⟨false, [], []⟩, 23)) (c := .next ((List.range b.Data.length).map fun (k : Nat) => (moR fn ((b.Data[k]?).getD 0)).1)) (fun k hk => by
     simp only [M.anamnesisref06_Monad_L1]
     rw [if_pos (by simp; omega), idx_get hk, List.getElem?_eq_getElem hk]
     simp only [Option.bind_some, Option.getD_some]
     rw [(moR_eq hf (hd _ (List.getElem_mem hk))).1]
     simp only [Option.bind_some]
     by_cases hq : (moR fn b.Data[k]).2 = true
     case neg =>
      replace hq : (moR fn b.Data[k]).2 = false := by simpa using hq
      simp only [hq, Bool.not_false, if_true]
     case pos =>
      simp only [hq, Bool.not_true, Bool.false_eq_true, if_false]
      rw [app_ok (by simp; omega), w64_id (x := (k : Int) + 1) (by omega) (by omega), List.range_succ, List.map_append]
      simp only [Option.bind_some, List.map_cons, List.map_nil]
      rw [List.getElem?_eq_getElem hk]
      rfl) (by
     simp only [M.anamnesisref06_Monad_L1]
     rw [if_neg (by simp)])
    rw [app_ok (by simp; omega)]
    simp only [Option.bind_some, List.nil_append]
    rcases made_cases (s := b.Shape) (n := b.Data.length) (told := fun x0 => M.scalar_Monad_1 x0 fn b) (g := fun k => tl (moR fn ((b.Data[k]?).getD 0))) (by omega) (by omega) hg with ⟨k, hk, hb1, _, he⟩ | ⟨hall, he⟩
    ·rw [he]
     rcases hloop with ⟨j, hj, hjb, _, hw⟩ | ⟨hgood, hw⟩
     ·have hw' : wloop (M.anamnesisref06_Monad_L1 fn b) (0, []) = some (.done (⟨false, [], []⟩, 23)) := hw
      rw [hw']
      exact ⟨_, _, rfl, by rw [(tl_bad hb1).1]; rfl, by simp, by simp⟩
     ·have := hgood k hk
      rw [(tl_bad hb1).2] at this
      cases this
    ·rw [he]
     rcases hloop with ⟨j, hj, hjb, _, hw⟩ | ⟨hgood, hw⟩
     ·have h1 := tl_zero.mp (hall j hj)
      rw [h1] at hjb; cases hjb
     ·have hw' : wloop (M.anamnesisref06_Monad_L1 fn b) (0, []) = some (.next ((List.range b.Data.length).map fun (k : Nat) => (moR fn ((b.Data[k]?).getD 0)).1)) := hw
      rw [hw']
      refine ⟨_, _, rfl, ?_, by simpa using hs, by simpa using hl⟩
      simp only [Option.bind_some, joinK]
      congr 3
      apply List.map_congr_left
      intro k hk
      rw [List.mem_range] at hk
      exact (tl_val (tl_zero.mp (hall k hk))).symm
 ·have hin : decide (fn ∈ [str_43, str_45, str_195_151, str_195_183, str_42, str_124, str_226_140_136, str_226_140_138, str_33, str_126]) = false := decide_eq_false hf
  rw [mono_no hf, hin]
  exact ⟨_, _, rfl, rfl, by simp, by simp⟩
theorem like_eq {a b : List Int} (ha : a.length ≤ maxLen) : M.anamnesisref06_like a b = some (decide (a = b)) := by
 unfold M.anamnesisref06_like
 by_cases hl : a.length = b.length
 ·rw [if_neg (by simp [hl])]
  rw [same_loop (f := M.anamnesisref06_like_L1 a b) (a := a) (b := b) hl ha (fun k hk => by
   simp only [M.anamnesisref06_like_L1]
   have hm : maxLen = 9223372036854775807 := rfl
   rw [if_pos (by simp; omega), idx_get hk, idx_get (by omega), w64_id (x := (k : Int) + 1) (by omega) (by omega)]
   simp only [Option.bind_some]
   by_cases h : a[k] = b[k]
   ·rw [if_neg (by simpa using h), if_pos h]
   ·rw [if_pos (by simpa using h), if_neg h]) (by
   simp only [M.anamnesisref06_like_L1]
   rw [if_neg (by simp)])]
  by_cases h : a = b
  ·rw [if_pos h, decide_eq_true h]; rfl
  ·rw [if_neg h, decide_eq_false h]; rfl
 ·rw [if_pos (by simp; omega), decide_eq_false (fun h => hl (by rw [h]))]
def elA (a b : Val) (k : Nat) : Int := if a.Char = b.Char then (a.Data[k % a.Data.length]?).getD 0 else 0
def elB (a b : Val) (k : Nat) : Int := if a.Char = b.Char then (b.Data[k % b.Data.length]?).getD 0 else 1
theorem at_mod {v : Val} {k n : Nat} (h : v.Data.length = 1 ∨ n = v.Data.length) (hk : k < n) : M.scalar_at v (k : Int) = some ((v.Data[k % v.Data.length]?).getD 0) ∧ k % v.Data.length < v.Data.length := by
 unfold M.scalar_at
 by_cases h1 : v.Data.length = 1
 ·rw [if_pos (by simp [h1]), h1, Nat.mod_one]
  have : idx v.Data 0 = some v.Data[0] := idx_get (k := 0) (by omega)
  rw [this, List.getElem?_eq_getElem (by omega)]
  exact ⟨rfl, by omega⟩
 ·have hn : n = v.Data.length := by omega
  rw [if_neg (by simp; omega), idx_get (show k < v.Data.length by omega), Nat.mod_eq_of_lt (by omega), List.getElem?_eq_getElem (by omega)]
  exact ⟨rfl, by omega⟩
theorem dyad_same {fn : ByteArray} {a b : Val} (ha : ∀ x ∈ a.Data, rng x) (hb : ∀ x ∈ b.Data, rng x) (la : a.Data.length ≤ 200) (lb : b.Data.length ≤ 200) (sa : a.Shape.length ≤ 10) (sb : b.Shape.length ≤ 10) :
  ∃ v e, M.scalar_Dyad fn a b = some (v, e) ∧ M.anamnesisref06_Dyad fn a b = some (v, e) ∧ v.Shape.length ≤ 10 ∧ v.Data.length ≤ 200 := by
 have hm : maxLen = 9223372036854775807 := rfl
 unfold M.scalar_Dyad M.anamnesisref06_Dyad M.anamnesisref01_Dyads
 rw [is_eq]
 simp only [Option.bind_some]
 rw [In_eq (by decide)]
 simp only [Option.bind_some]
 by_cases hf : fn ∈ gl19
 ·have hin : decide (fn ∈ [str_43, str_45, str_195_151, str_195_183, str_42, str_124, str_33, str_226_140_136, str_226_140_138, str_60, str_226_137_164, str_61, str_226_137_165, str_62, str_226_137_160, str_226_136_167, str_226_136_168, str_226_141_178, str_226_141_177]) = true := decide_eq_true hf
  rw [hin, decide_eq_true hf, value_Right_eq (by omega), value_Right_eq (by omega), ref06_Right_eq (by omega) (by omega), ref06_Right_eq (by omega) (by omega)]
  simp only [Option.bind_some, Bool.not_true, Bool.false_eq_true, if_false]
  cases hra : vRight a with
  | false => exact ⟨_, _, rfl, rfl, by simp, by simp⟩
  | true =>
   simp only [Bool.not_true, Bool.false_eq_true, if_false, Option.bind_some]
   cases hrb : vRight b with
   | false => exact ⟨_, _, rfl, rfl, by simp, by simp⟩
   | true =>
    simp only [Bool.not_true, Bool.false_eq_true, if_false, Option.bind_some]
    have hpa := (vRight_iff.mp hra).2.1
    have hpb := (vRight_iff.mp hrb).2.1
    -- the lengths of the result
    have halike : (∃ (s : List Int) (n : Nat), M.scalar_alike a b = some (s, (n : Int), 0) ∧ s.length ≤ 10 ∧ n ≤ 200 ∧ (a.Data.length = 1 ∨ n = a.Data.length) ∧ (b.Data.length = 1 ∨ n = b.Data.length) ∧
      (if (((a.Data.length : Int) == 1) && ((b.Data.length : Int) == 1)) = true then
       (if (decide ((b.Shape.length : Int) > (a.Shape.length : Int))) = true then (some (.next (b.Shape, 1)) : Option (Ctl (List Int × Int) (Val × Int))) else some (.next (a.Shape, 1)))
      else
       if ((a.Data.length : Int) == 1) = true then some (.next (b.Shape, (b.Data.length : Int)))
       else (if ((b.Data.length : Int) == 1) = true then some true else (M.anamnesisref06_like a.Shape b.Shape).bind fun r5 => some r5).bind fun c3 =>
        if c3 = true then some (.next (a.Shape, (a.Data.length : Int)))
        else if ((a.Shape.length : Int) != (b.Shape.length : Int)) = true then some (.done ((Val.mk false ([]) ([])), 24)) else some (.done ((Val.mk false ([]) ([])), 25))) = some (.next (s, (n : Int)))) ∨
     (∃ e : Int, (e = 24 ∨ e = 25) ∧ M.scalar_alike a b = some ([], 0, e) ∧
      (if (((a.Data.length : Int) == 1) && ((b.Data.length : Int) == 1)) = true then
       (if (decide ((b.Shape.length : Int) > (a.Shape.length : Int))) = true then (some (.next (b.Shape, 1)) : Option (Ctl (List Int × Int) (Val × Int))) else some (.next (a.Shape, 1)))
      else
       if ((a.Data.length : Int) == 1) = true then some (.next (b.Shape, (b.Data.length : Int)))
       else (if ((b.Data.length : Int) == 1) = true then some true else (M.anamnesisref06_like a.Shape b.Shape).bind fun r5 => some r5).bind fun c3 =>
        if c3 = true then some (.next (a.Shape, (a.Data.length : Int)))
        else if ((a.Shape.length : Int) != (b.Shape.length : Int)) = true then some (.done ((Val.mk false ([]) ([])), 24)) else some (.done ((Val.mk false ([]) ([])), 25))) = some (.done (⟨false, [], []⟩, e))) := by
     unfold M.scalar_alike
     rw [like_eq (by omega), Equal_int_eq (by omega)]
     by_cases h1 : a.Data.length = 1
     ·have t1 : ((a.Data.length : Int) == 1) = true := by simp [h1]
      by_cases h2 : b.Data.length = 1
      ·have t2 : ((b.Data.length : Int) == 1) = true := by simp [h2]
       left
       by_cases h3 : b.Shape.length > a.Shape.length
       ·have t3 : decide ((b.Shape.length : Int) > (a.Shape.length : Int)) = true := by simpa using h3
        refine ⟨b.Shape, 1, ?_, sb, by omega, by omega, by omega, ?_⟩
        ·simp only [t1, t2, t3, h2]; rfl
        ·simp only [t1, t2, t3]; rfl
       ·have t3 : decide ((b.Shape.length : Int) > (a.Shape.length : Int)) = false := by simpa using h3
        refine ⟨a.Shape, 1, ?_, sa, by omega, by omega, by omega, ?_⟩
        ·simp only [t1, t2, t3, h1]; rfl
        ·simp only [t1, t2, t3]; rfl
      ·have t2 : ((b.Data.length : Int) == 1) = false := by simp; omega
       left
       refine ⟨b.Shape, b.Data.length, ?_, sb, lb, .inl h1, .inr rfl, ?_⟩
       ·simp only [t1, t2]; rfl
       ·simp only [t1, t2]; rfl
     ·have t1 : ((a.Data.length : Int) == 1) = false := by simp; omega
      by_cases h2 : b.Data.length = 1
      ·have t2 : ((b.Data.length : Int) == 1) = true := by simp [h2]
       left
       refine ⟨a.Shape, a.Data.length, ?_, sa, la, .inr rfl, .inl h2, ?_⟩
       ·simp only [t1, t2]; rfl
       ·simp only [t1, t2]; rfl
      ·have t2 : ((b.Data.length : Int) == 1) = false := by simp; omega
       by_cases h3 : a.Shape = b.Shape
       ·left
        rw [decide_eq_true h3]
        refine ⟨a.Shape, a.Data.length, ?_, sa, la, .inr rfl, .inr ?_, ?_⟩
        ·simp only [t1, t2]; rfl
        ·rw [h3] at hpa; omega
        ·simp only [t1, t2]; rfl
       ·right
        rw [decide_eq_false h3]
        by_cases h4 : a.Shape.length = b.Shape.length
        ·have t4 : ((a.Shape.length : Int) != (b.Shape.length : Int)) = false := by simp [h4]
         refine ⟨25, .inr rfl, ?_, ?_⟩
         ·simp only [t1, t2, t4]; rfl
         ·simp only [t1, t2, t4]; rfl
        ·have t4 : ((a.Shape.length : Int) != (b.Shape.length : Int)) = true := by simp; omega
         refine ⟨24, .inl rfl, ?_, ?_⟩
         ·simp only [t1, t2, t4]; rfl
         ·simp only [t1, t2, t4]; rfl
    rcases halike with ⟨s, n, e1, hs, hn, hna, hnb, e2⟩ | ⟨e, he, e1, e2⟩
    ·rw [e1, e2]
     simp only [Option.bind_some, joinK]
     rw [if_neg (by simp)]
     have hchar : (((a.Char || b.Char) && (!(fn.toList == str_61.toList))) && (!(fn.toList == str_226_137_160.toList))) = ((a.Char || b.Char) && (!((fn.toList == str_61.toList) || (fn.toList == str_226_137_160.toList)))) := by
      cases (a.Char || b.Char) <;> cases (fn.toList == str_61.toList) <;> cases (fn.toList == str_226_137_160.toList) <;> rfl
     rw [hchar]
     cases hcc : ((a.Char || b.Char) && (!((fn.toList == str_61.toList) || (fn.toList == str_226_137_160.toList)))) with
     | true => exact ⟨_, _, rfl, rfl, by simp, by simp⟩
     | false =>
      simp only [Bool.false_eq_true, if_false]
      have hrngA : ∀ k, k < n → rng (elA a b k) := fun k hk => by
       unfold elA; split
       ·have := (at_mod hna hk).2
        rw [List.getElem?_eq_getElem this]; exact ha _ (List.getElem_mem _)
       ·unfold rng; omega
      have hrngB : ∀ k, k < n → rng (elB a b k) := fun k hk => by
       unfold elB; split
       ·have := (at_mod hnb hk).2
        rw [List.getElem?_eq_getElem this]; exact hb _ (List.getElem_mem _)
       ·unfold rng; omega
      have hg : ∀ k : Nat, k < n → M.scalar_Dyad_1 (k : Int) fn a b = some (tl (dyR fn (elA a b k) (elB a b k))) := fun k hk => by
       have e5 := (dyR_eq hf (hrngA k hk) (hrngB k hk)).2
       unfold M.scalar_Dyad_1 M.scalar_of
       unfold elA elB at e5 ⊢
       by_cases hch : a.Char = b.Char
       ·rw [if_pos hch, if_pos hch] at e5 ⊢
        rw [if_neg (by simp [hch]), (at_mod hna hk).1, (at_mod hnb hk).1]
        simp only [Option.bind_some]
        rw [e5]; rfl
       ·rw [if_neg hch, if_neg hch] at e5 ⊢
        rw [if_pos (by simp [hch]), e5]; rfl
      have hloop := loop_find (f := M.anamnesisref06_Dyad_L1 fn a b (n : Int)) (fun k => ((k : Int), (List.range k).map fun (k : Nat) => (dyR fn (elA a b k) (elB a b k)).1)) n (fun k => !(dyR fn (elA a b k) (elB a b k)).2) (fun _ => .done (⟨false, [], []⟩, 23)) (c := .next ((List.range n).map fun (k : Nat) => (dyR fn (elA a b k) (elB a b k)).1)) (fun k hk => by
       have ma := (at_mod hna hk).2
       have mb := (at_mod hnb hk).2
       have rem : ∀ m : Nat, 0 < m → remI (k : Int) (m : Int) = some ((k % m : Nat) : Int) := fun m hm => by
        unfold remI; rw [if_neg (by omega), Int.tmod_eq_emod_of_nonneg (by omega)]; rfl
       simp only [M.anamnesisref06_Dyad_L1]
       rw [if_pos (by simp; omega), rem _ (by omega), rem _ (by omega)]
       simp only [Option.bind_some]
       rw [idx_get ma, idx_get mb]
       simp only [Option.bind_some]
       have hxy : (if (!(a.Char == b.Char)) = true then some ((0 : Int), (1 : Int)) else some (a.Data[k % a.Data.length], b.Data[k % b.Data.length])) = some (elA a b k, elB a b k) := by
        unfold elA elB
        by_cases hch : a.Char = b.Char
        ·rw [if_neg (by simp [hch]), if_pos hch, if_pos hch, List.getElem?_eq_getElem ma, List.getElem?_eq_getElem mb]; rfl
        ·rw [if_pos (by simp [hch]), if_neg hch, if_neg hch]
       rw [hxy]
       simp only [Option.bind_some]
       rw [(dyR_eq hf (hrngA k hk) (hrngB k hk)).1]
       simp only [Option.bind_some]
       by_cases hq : (dyR fn (elA a b k) (elB a b k)).2 = true
       case neg =>
        replace hq : (dyR fn (elA a b k) (elB a b k)).2 = false := by simpa using hq
        simp only [hq, Bool.not_false, if_true]
       case pos =>
        simp only [hq, Bool.not_true, Bool.false_eq_true, if_false]
        rw [app_ok (by simp; omega), w64_id (x := (k : Int) + 1) (by omega) (by omega), List.range_succ, List.map_append]
        rfl) (by
       simp only [M.anamnesisref06_Dyad_L1]
       rw [if_neg (by simp)])
      rw [app_ok (by simp; omega)]
      simp only [Option.bind_some, List.nil_append]
      rcases made_cases (s := s) (n := n) (told := fun x0 => M.scalar_Dyad_1 x0 fn a b) (g := fun k => tl (dyR fn (elA a b k) (elB a b k))) (by omega) (by omega) hg with ⟨k, hk, hb1, _, he⟩ | ⟨hall, he⟩
      ·rw [he]
       rcases hloop with ⟨j, hj, hjb, _, hw⟩ | ⟨hgood, hw⟩
       ·have hw' : wloop (M.anamnesisref06_Dyad_L1 fn a b (n : Int)) (0, []) = some (.done (⟨false, [], []⟩, 23)) := hw
        rw [hw']
        exact ⟨_, _, rfl, by rw [(tl_bad hb1).1]; rfl, by simp, by simp⟩
       ·have := hgood k hk
        rw [(tl_bad hb1).2] at this
        cases this
      ·rw [he]
       rcases hloop with ⟨j, hj, hjb, _, hw⟩ | ⟨hgood, hw⟩
       ·have h1 := tl_zero.mp (hall j hj)
        rw [h1] at hjb; cases hjb
       ·have hw' : wloop (M.anamnesisref06_Dyad_L1 fn a b (n : Int)) (0, []) = some (.next ((List.range n).map fun (k : Nat) => (dyR fn (elA a b k) (elB a b k)).1)) := hw
        rw [hw']
        refine ⟨_, _, rfl, ?_, by simpa using hs, by simpa using hn⟩
        simp only [Option.bind_some, joinK]
        congr 3
        apply List.map_congr_left
        intro k hk
        rw [List.mem_range] at hk
        exact (tl_val (tl_zero.mp (hall k hk))).symm
    ·rw [e1, e2]
     rcases he with rfl | rfl <;> exact ⟨_, _, rfl, rfl, by simp, by simp⟩
 ·have hin : decide (fn ∈ [str_43, str_45, str_195_151, str_195_183, str_42, str_124, str_33, str_226_140_136, str_226_140_138, str_60, str_226_137_164, str_61, str_226_137_165, str_62, str_226_137_160, str_226_136_167, str_226_136_168, str_226_141_178, str_226_141_177]) = false := decide_eq_false hf
  rw [hin, decide_eq_false hf]
  exact ⟨_, _, rfl, rfl, by simp, by simp⟩
theorem stFill {f : Int × List Int → Option (Ctl (Int × List Int) (Ctl Unit Bool))} (c : Int) {l : List Int} (hl : l.length ≤ 1000)
  (hf : ∀ (i : Int) (m : List Int), f (i, m) = if (decide (i < (m.length : Int))) = true then (idx m i).bind fun _ => (upd m i c).bind fun m2 => some (.next ((IntKind.i64.wrap (i + 1)), m2)) else some (.done (.next ()))) : wloop f (0, l) = some (.next ()) := by
 obtain ⟨m, _, he⟩ := loop_up (f := f) (fun k (m : List Int) => ((k : Int), m)) l.length (fun _ m => m.length = l.length) (fun _ => .next ()) l rfl (fun k m hk hm => by
  refine ⟨m.set k c, ?_, by simpa using hm⟩
  rw [hf, if_pos (by simp; omega), idx_get (show k < m.length by omega)]
  simp only [Option.bind_some]
  rw [upd_nat (by omega), w64_id (x := (k : Int) + 1) (by omega) (by omega)]
  rfl) (fun m hm => by
  rw [hf, if_neg (by simp; omega)])
 exact he
theorem stSame {f : Int → Option (Ctl Int (Ctl Unit Bool))} {l : List Int} (hl : l.length ≤ 1000)
  (hf : ∀ i : Int, f i = if (decide (i < (l.length : Int))) = true then (idx l i).bind fun y6 => (idx l i).bind fun y7 => if (y6 != y7) = true then some (.done (.done false)) else some (.next (IntKind.i64.wrap (i + 1))) else some (.done (.next ()))) : wloop f 0 = some (.next ()) := by
 refine loop_fun (f := f) (fun k => (k : Int)) l.length (fun k hk => ?_) ?_
 ·rw [hf, if_pos (by simp; omega), idx_get hk]
  simp only [Option.bind_some, bne_self_eq_false, Bool.false_eq_true, if_false]
  rw [w64_id (x := (k : Int) + 1) (by omega) (by omega)]
  rfl
 ·rw [hf, if_neg (by simp)]
theorem scalarTells_true (which : Int) (other : ByteArray) (a b : Val) (gw : (Lit.int .u8 which).wf = true) (go : other.size ≤ maxLen)
  (ga : (∀ x ∈ a.Shape, (Lit.int .i64 x).wf = true) ∧ (∀ x ∈ a.Data, (Lit.int .i64 x).wf = true) ∧ a.Shape.length ≤ maxLen ∧ a.Data.length ≤ maxLen)
  (gb : (∀ x ∈ b.Shape, (Lit.int .i64 x).wf = true) ∧ (∀ x ∈ b.Data, (Lit.int .i64 x).wf = true) ∧ b.Shape.length ≤ maxLen ∧ b.Data.length ≤ maxLen) : M.anamnesislaw06_ScalarTells which other a b = some true := by
 have hm : maxLen = 9223372036854775807 := rfl
 unfold M.anamnesislaw06_ScalarTells M.anamnesislaw06_Great M.anamnesisref01_Dyads
 simp only [Option.bind_some]
 by_cases h1 : a.Data.length > 200 ∨ a.Shape.length > 8
 ·rw [show (decide ((a.Data.length : Int) > 200) || decide ((a.Shape.length : Int) > 8)) = true from by simp; omega]; rfl
 rw [show (decide ((a.Data.length : Int) > 200) || decide ((a.Shape.length : Int) > 8)) = false from by simp; omega]
 simp only [Bool.false_eq_true, if_false, Option.bind_some]
 by_cases h2 : b.Data.length > 200 ∨ b.Shape.length > 8
 ·rw [show (decide ((b.Data.length : Int) > 200) || decide ((b.Shape.length : Int) > 8)) = true from by simp; omega]; rfl
 rw [show (decide ((b.Data.length : Int) > 200) || decide ((b.Shape.length : Int) > 8)) = false from by simp; omega]
 simp only [Bool.false_eq_true, if_false]
 have hg : [str_43, str_45, str_195_151, str_195_183, str_42, str_124, str_33, str_226_140_136, str_226_140_138, str_60, str_226_137_164, str_61, str_226_137_165, str_62, str_226_137_160, str_226_136_167, str_226_136_168, str_226_141_178, str_226_141_177] = gl19 := rfl
 rw [hg, app_ok (by rw [show gl19.length = 19 from rfl]; simp)]
 simp only [Option.bind_some]
 have hw : 0 ≤ which ∧ which ≤ 255 := by
  have h2 : (decide (IntKind.u8.min ≤ which) && decide (which ≤ IntKind.u8.max)) = true := gw
  have e1 : IntKind.u8.min = 0 := by decide
  have e2 : IntKind.u8.max = 255 := by decide
  rw [e1, e2] at h2
  simpa using h2
 have hll : (gl19 ++ [str_126, other]).length = 21 := rfl
 rw [hll, w64_id (x := which) (by omega) (by omega)]
 obtain ⟨q, hq, hq21⟩ : ∃ q : Nat, remI which ((21 : Nat) : Int) = some (q : Int) ∧ q < 21 := by
  refine ⟨(which % 21).toNat, ?_, by omega⟩
  unfold remI
  rw [if_neg (by omega), Int.tmod_eq_emod_of_nonneg hw.1]
  congr 1; omega
 rw [hq]
 simp only [Option.bind_some]
 rw [idx_get (l := gl19 ++ [str_126, other]) (by rw [hll]; exact hq21)]
 simp only [Option.bind_some]
 generalize (gl19 ++ [str_126, other])[q]'(by rw [hll]; exact hq21) = fn
 rw [app_ok (by simp; omega), app_ok (by simp; omega)]
 simp only [Option.bind_some, List.nil_append]
 have ra : ∀ x ∈ a.Data, rng x := fun x hx => rng_of (ga.2.1 x hx)
 have rb : ∀ x ∈ b.Data, rng x := fun x hx => rng_of (gb.2.1 x hx)
 obtain ⟨v, e, e1, e2, vs, vd⟩ := monad_same (fn := fn) (b := b) rb (by omega) (by omega)
 obtain ⟨w, f, e3, e4, ws, wd⟩ := dyad_same (fn := fn) (a := a) (b := b) ra rb (by omega) (by omega) (by omega) (by omega)
 rw [e1, e2, e3, e4]
 simp only [Option.bind_some, bne_self_eq_false, Bool.or_self, Bool.false_eq_true, if_false]
 rw [ref06_Same_eq (by omega) (by omega), vSame_refl]
 simp only [Option.bind_some, Bool.not_true, Bool.false_eq_true, if_false]
 rw [ref06_Same_eq (by omega) (by omega), vSame_refl]
 simp only [Option.bind_some, Bool.not_true, Bool.false_eq_true, if_false]
 rw [is_eq, In_eq (by decide)]
 simp only [Option.bind_some, BEq.rfl, Bool.not_true, Bool.false_eq_true, if_false]
 rw [stFill (f := M.anamnesislaw06_ScalarTells_L1) 7 (by omega) (fun i m => rfl)]
 simp only [Option.bind_some, joinK]
 rw [stFill (f := M.anamnesislaw06_ScalarTells_L2) 9 (by omega) (fun i m => rfl)]
 simp only [Option.bind_some, joinK]
 rw [stSame (f := M.anamnesislaw06_ScalarTells_L3 a a.Data) (l := a.Data) (by omega) (fun i => rfl)]
 simp only [Option.bind_some, joinK]
 rw [stSame (f := M.anamnesislaw06_ScalarTells_L4 b b.Data) (l := b.Data) (by omega) (fun i => rfl)]
 rfl

end Go.Proofs.Ytaedfhikoamfeaa.scalarTells
