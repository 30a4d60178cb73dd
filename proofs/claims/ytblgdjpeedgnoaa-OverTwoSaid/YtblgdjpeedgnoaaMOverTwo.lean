/- OverTwo: what the code that the law reaches computes, as plain functions; and that the law comes to true. -/
import Derived.Test.YtblgdjpeedgnoaaAmU
set_option maxHeartbeats 4000000
set_option linter.unusedVariables false
set_option linter.unusedSimpArgs false
set_option maxRecDepth 100000
open Go Go.Am
namespace Go.Proofs.Ytblgdjpeedgnoaa.overTwo
def str_0_1_2_2_3_3_3_3_4_4_4_4_4_4_4_4_5_5_5_5_5_5_5_5_5_5_5_5_5_5_5_5_6_6_6_6_6_6_6_6_6_6_6_6_6_6_6_6_6_6_6_6_6_6_6_6_6_6_6_6_6_6_6_6_7_7_7_7_7_7_7_7_7_7_7_7_7_7_7_7_7_7_7_7_7_7_7_7_7_7_7_7_7_7_7_7_7_7_7_7_7_7_7_7_7_7_7_7_7_7_7_7_7_7_7_7_7_7_7_7_7_7_7_7_7_7_7_7_8_8_8_8_8_8_8_8_8_8_8_8_8_8_8_8_8_8_8_8_8_8_8_8_8_8_8_8_8_8_8_8_8_8_8_8_8_8_8_8_8_8_8_8_8_8_8_8_8_8_8_8_8_8_8_8_8_8_8_8_8_8_8_8_8_8_8_8_8_8_8_8_8_8_8_8_8_8_8_8_8_8_8_8_8_8_8_8_8_8_8_8_8_8_8_8_8_8_8_8_8_8_8_8_8_8_8_8_8_8_8_8_8_8_8_8_8_8_8_8_8_8_8_8_8_8_8_8 : ByteArray := ⟨#[0, 1, 2, 2, 3, 3, 3, 3, 4, 4, 4, 4, 4, 4, 4, 4, 5, 5, 5, 5, 5, 5, 5, 5, 5, 5, 5, 5, 5, 5, 5, 5, 6, 6, 6, 6, 6, 6, 6, 6, 6, 6, 6, 6, 6, 6, 6, 6, 6, 6, 6, 6, 6, 6, 6, 6, 6, 6, 6, 6, 6, 6, 6, 6, 7, 7, 7, 7, 7, 7, 7, 7, 7, 7, 7, 7, 7, 7, 7, 7, 7, 7, 7, 7, 7, 7, 7, 7, 7, 7, 7, 7, 7, 7, 7, 7, 7, 7, 7, 7, 7, 7, 7, 7, 7, 7, 7, 7, 7, 7, 7, 7, 7, 7, 7, 7, 7, 7, 7, 7, 7, 7, 7, 7, 7, 7, 7, 7, 8, 8, 8, 8, 8, 8, 8, 8, 8, 8, 8, 8, 8, 8, 8, 8, 8, 8, 8, 8, 8, 8, 8, 8, 8, 8, 8, 8, 8, 8, 8, 8, 8, 8, 8, 8, 8, 8, 8, 8, 8, 8, 8, 8, 8, 8, 8, 8, 8, 8, 8, 8, 8, 8, 8, 8, 8, 8, 8, 8, 8, 8, 8, 8, 8, 8, 8, 8, 8, 8, 8, 8, 8, 8, 8, 8, 8, 8, 8, 8, 8, 8, 8, 8, 8, 8, 8, 8, 8, 8, 8, 8, 8, 8, 8, 8, 8, 8, 8, 8, 8, 8, 8, 8, 8, 8, 8, 8, 8, 8, 8, 8, 8, 8, 8, 8, 8, 8, 8, 8, 8, 8, 8, 8, 8, 8, 8, 8]⟩
def str_124 : ByteArray := ⟨#[124]⟩
def str_195_151 : ByteArray := ⟨#[195, 151]⟩
def str_195_183 : ByteArray := ⟨#[195, 183]⟩
def str_226_136_167 : ByteArray := ⟨#[226, 136, 167]⟩
def str_226_136_168 : ByteArray := ⟨#[226, 136, 168]⟩
def str_226_137_160 : ByteArray := ⟨#[226, 137, 160]⟩
def str_226_137_164 : ByteArray := ⟨#[226, 137, 164]⟩
def str_226_137_165 : ByteArray := ⟨#[226, 137, 165]⟩
def str_226_140_136 : ByteArray := ⟨#[226, 140, 136]⟩
def str_226_140_138 : ByteArray := ⟨#[226, 140, 138]⟩
def str_226_141_177 : ByteArray := ⟨#[226, 141, 177]⟩
def str_226_141_178 : ByteArray := ⟨#[226, 141, 178]⟩
def str_33 : ByteArray := ⟨#[33]⟩
def str_42 : ByteArray := ⟨#[42]⟩
def str_43 : ByteArray := ⟨#[43]⟩
def str_45 : ByteArray := ⟨#[45]⟩
def str_60 : ByteArray := ⟨#[60]⟩
def str_61 : ByteArray := ⟨#[61]⟩
def str_62 : ByteArray := ⟨#[62]⟩
noncomputable def M.anamnesislaw12_great (v1 : Val) (fn1 : ByteArray) : Option (Bool) :=
 some (((decide ((v1.Data.length : Int) > 300)) || (decide ((v1.Shape.length : Int) > 10))) || (decide ((fn1.size : Int) > 10)))
noncomputable def M.slices_IndexFunc__Value_L1 (s1 : (List Val)) (f1 : (Val → Option (Bool))) (s : Int) : Option (Ctl (Int) (Ctl (Unit) (Int))) :=
 match s with
 | t1 =>
  if (decide (t1 < (s1.length : Int))) then
   (idx s1 t1).bind fun y1 =>
   (f1 y1).bind fun r1 =>
   if r1 then
    some (.done (.done t1))
   else
    some (.next (IntKind.i64.wrap (t1 + 1)))
  else
   some (.done (.next ()))
noncomputable def M.slices_IndexFunc__Value (s1 : (List Val)) (f1 : (Val → Option (Bool))) : Option (Int) :=
 (wloop (M.slices_IndexFunc__Value_L1 s1 f1) 0).bind fun k => joinK k fun _ =>
 some (-1)
noncomputable def M.slices_ContainsFunc__Value (s1 : (List Val)) (f1 : (Val → Option (Bool))) : Option (Bool) :=
 (M.slices_IndexFunc__Value s1 f1).bind fun r1 =>
 some (decide (r1 ≥ 0))
noncomputable def M.slices_IndexFunc__int64_L1 (s1 : (List Int)) (f1 : (Int → Option (Bool))) (s : Int) : Option (Ctl (Int) (Ctl (Unit) (Int))) :=
 match s with
 | t1 =>
  if (decide (t1 < (s1.length : Int))) then
   (idx s1 t1).bind fun y1 =>
   (f1 y1).bind fun r1 =>
   if r1 then
    some (.done (.done t1))
   else
    some (.next (IntKind.i64.wrap (t1 + 1)))
  else
   some (.done (.next ()))
noncomputable def M.slices_IndexFunc__int64 (s1 : (List Int)) (f1 : (Int → Option (Bool))) : Option (Int) :=
 (wloop (M.slices_IndexFunc__int64_L1 s1 f1) 0).bind fun k => joinK k fun _ =>
 some (-1)
noncomputable def M.slices_ContainsFunc__int64 (s1 : (List Int)) (f1 : (Int → Option (Bool))) : Option (Bool) :=
 (M.slices_IndexFunc__int64 s1 f1).bind fun r1 =>
 some (decide (r1 ≥ 0))
noncomputable def M.unicode_utf8_ValidRune (r1 : Int) : Option (Bool) :=
 if ((decide (0 ≤ r1)) && (decide (r1 < 55296))) then
  some true
 else
  if ((decide (57343 < r1)) && (decide (r1 ≤ 1114111))) then
   some true
  else
   some false
noncomputable def M.value_character (n1 : Int) : Option (Bool) :=
 (if ((decide (n1 ≥ 0)) && (decide (n1 ≤ 1114111))) then
 (M.unicode_utf8_ValidRune (IntKind.i32.wrap n1)).bind fun r1 =>
 some r1 else
 some false).bind fun c2 =>
 some c2
noncomputable def M.value_Right_1 (n1 : Int) : Option (Bool) :=
 (M.value_character n1).bind fun r1 =>
 some (!r1)
noncomputable def M.value_Right_L1 (v1 : Val) (s : Int × Int) : Option (Ctl (Int × Int) (Ctl (Int) (Bool))) :=
 match s with
 | (size1, t1) =>
  if (decide (t1 < (v1.Shape.length : Int))) then
   (idx v1.Shape t1).bind fun y1 =>
   if ((decide (y1 < 0)) || (decide (y1 > 10000))) then
    some (.done (.done false))
   else
    some (.next ((IntKind.i64.wrap (size1 * y1)), (IntKind.i64.wrap (t1 + 1))))
  else
   some (.done (.next size1))
noncomputable def M.value_Right (v1 : Val) : Option (Bool) :=
 if (decide ((v1.Shape.length : Int) > 4)) then
  some false
 else
  (wloop (M.value_Right_L1 v1) (1, 0)).bind fun k => joinK k fun size1 =>
  if ((decide (size1 > 10000)) || (size1 != (v1.Data.length : Int))) then
   some false
  else
   (if (!v1.Char) then
   some true else
   (M.slices_ContainsFunc__int64 v1.Data (fun x0 => M.value_Right_1 x0)).bind fun r1 =>
   some (!r1)).bind fun c4 =>
   some c4
noncomputable def M.over_takes_1 (v1 : Val) : Option (Bool) :=
 (M.value_Right v1).bind fun r1 =>
 some (!r1)
noncomputable def M.ints_Identity (fn1 : ByteArray) : Option (Int × Int) :=
 (if (fn1.toList == str_43.toList) then
  some (fn1.toList == str_43.toList)
 else
  if (fn1.toList == str_45.toList) then
   some (fn1.toList == str_45.toList)
  else
   if (fn1.toList == str_124.toList) then
    some (fn1.toList == str_124.toList)
   else
    if (fn1.toList == str_60.toList) then
     some (fn1.toList == str_60.toList)
    else
     if (fn1.toList == str_62.toList) then
      some (fn1.toList == str_62.toList)
     else
      if (fn1.toList == str_226_137_160.toList) then
       some (fn1.toList == str_226_137_160.toList)
      else
       some (fn1.toList == str_226_136_168.toList)).bind fun t1 =>
 if t1 then
  some (0, 0)
 else
  (if (fn1.toList == str_195_151.toList) then
   some (fn1.toList == str_195_151.toList)
  else
   if (fn1.toList == str_195_183.toList) then
    some (fn1.toList == str_195_183.toList)
   else
    if (fn1.toList == str_42.toList) then
     some (fn1.toList == str_42.toList)
    else
     if (fn1.toList == str_33.toList) then
      some (fn1.toList == str_33.toList)
     else
      if (fn1.toList == str_226_137_164.toList) then
       some (fn1.toList == str_226_137_164.toList)
      else
       if (fn1.toList == str_61.toList) then
        some (fn1.toList == str_61.toList)
       else
        if (fn1.toList == str_226_137_165.toList) then
         some (fn1.toList == str_226_137_165.toList)
        else
         some (fn1.toList == str_226_136_167.toList)).bind fun t2 =>
  if t2 then
   some (1, 0)
  else
   if (fn1.toList == str_226_140_136.toList) then
    some ((-9223372036854775808), 0)
   else
    if (fn1.toList == str_226_140_138.toList) then
     some (9223372036854775807, 0)
    else
     (if (fn1.toList == str_226_141_178.toList) then
      some (fn1.toList == str_226_141_178.toList)
     else
      some (fn1.toList == str_226_141_177.toList)).bind fun t3 =>
     if t3 then
      some (0, 23)
     else
      some (0, 4)
noncomputable def M.over_characters (fn1 : ByteArray) (a1 : Am.Item) (b1 : Am.Item) : Option (Am.Item × Int) :=
 (if ((fn1.toList == str_61.toList) && ((a1.n == b1.n) && (a1.char == b1.char))) then
  some ((fn1.toList == str_61.toList) && ((a1.n == b1.n) && (a1.char == b1.char)))
 else
  some ((fn1.toList == str_226_137_160.toList) && (!((a1.n == b1.n) && (a1.char == b1.char))))).bind fun t1 =>
 if t1 then
  some ((Am.Item.mk 1 false), 0)
 else
  if ((fn1.toList == str_61.toList) || (fn1.toList == str_226_137_160.toList)) then
   some ((Am.Item.mk 0 false), 0)
  else
   some ((Am.Item.mk 0 false), 23)
noncomputable def M.ints_dyads : Option (Unit) :=
 some ()
noncomputable def M.ints_add (a1 : Int) (b1 : Int) : Option (Int × Bool) :=
 some ((IntKind.i64.wrap (a1 + b1)), (((decide ((IntKind.i64.wrap (a1 + b1)) > a1)) == (decide (b1 > 0))) || (b1 == 0)))
noncomputable def M.ints_told (c1 : Int) (ok1 : Bool) : Option (Int × Int) :=
 if (!ok1) then
  some (0, 23)
 else
  some (c1, 0)
noncomputable def M.ints_sub (a1 : Int) (b1 : Int) : Option (Int × Bool) :=
 some ((IntKind.i64.wrap (a1 - b1)), (((decide ((IntKind.i64.wrap (a1 - b1)) < a1)) == (decide (b1 > 0))) || (b1 == 0)))
noncomputable def M.ints_size (a1 : Int) : Option (Int) :=
 if (decide (a1 < 0)) then
  some (IntKind.u64.wrap (0 - (IntKind.u64.wrap a1)))
 else
  some (IntKind.u64.wrap a1)
noncomputable def M.math_bits_Mul64 (x1 : Int) (y1 : Int) : Option (Int × Int) :=
 some ((IntKind.u64.wrap ((IntKind.u64.wrap ((IntKind.u64.wrap ((Int.fdiv x1 (2 ^ (min (Int.toNat 32) IntKind.u64.bits))) * (Int.fdiv y1 (2 ^ (min (Int.toNat 32) IntKind.u64.bits))))) + (Int.fdiv (IntKind.u64.wrap ((IntKind.u64.wrap ((Int.fdiv x1 (2 ^ (min (Int.toNat 32) IntKind.u64.bits))) * (IntKind.u64.wrap (BitVec.ofInt IntKind.u64.bits y1 &&& BitVec.ofInt IntKind.u64.bits 4294967295).toNat))) + (Int.fdiv (IntKind.u64.wrap ((IntKind.u64.wrap (BitVec.ofInt IntKind.u64.bits x1 &&& BitVec.ofInt IntKind.u64.bits 4294967295).toNat) * (IntKind.u64.wrap (BitVec.ofInt IntKind.u64.bits y1 &&& BitVec.ofInt IntKind.u64.bits 4294967295).toNat))) (2 ^ (min (Int.toNat 32) IntKind.u64.bits))))) (2 ^ (min (Int.toNat 32) IntKind.u64.bits))))) + (Int.fdiv (IntKind.u64.wrap ((IntKind.u64.wrap (BitVec.ofInt IntKind.u64.bits (IntKind.u64.wrap ((IntKind.u64.wrap ((Int.fdiv x1 (2 ^ (min (Int.toNat 32) IntKind.u64.bits))) * (IntKind.u64.wrap (BitVec.ofInt IntKind.u64.bits y1 &&& BitVec.ofInt IntKind.u64.bits 4294967295).toNat))) + (Int.fdiv (IntKind.u64.wrap ((IntKind.u64.wrap (BitVec.ofInt IntKind.u64.bits x1 &&& BitVec.ofInt IntKind.u64.bits 4294967295).toNat) * (IntKind.u64.wrap (BitVec.ofInt IntKind.u64.bits y1 &&& BitVec.ofInt IntKind.u64.bits 4294967295).toNat))) (2 ^ (min (Int.toNat 32) IntKind.u64.bits))))) &&& BitVec.ofInt IntKind.u64.bits 4294967295).toNat) + (IntKind.u64.wrap ((IntKind.u64.wrap (BitVec.ofInt IntKind.u64.bits x1 &&& BitVec.ofInt IntKind.u64.bits 4294967295).toNat) * (Int.fdiv y1 (2 ^ (min (Int.toNat 32) IntKind.u64.bits))))))) (2 ^ (min (Int.toNat 32) IntKind.u64.bits))))), (IntKind.u64.wrap (x1 * y1)))
noncomputable def M.ints_mul (a1 : Int) (b1 : Int) : Option (Int × Bool) :=
 (M.ints_size a1).bind fun r1 =>
 (M.ints_size b1).bind fun r2 =>
 (M.math_bits_Mul64 r1 r2).bind fun (r3, r4) =>
 if (!((decide (a1 < 0)) == (decide (b1 < 0)))) then
  some ((IntKind.i64.wrap (0 - (IntKind.i64.wrap r4))), ((r3 == 0) && (decide (r4 ≤ 9223372036854775808))))
 else
  some ((IntKind.i64.wrap r4), ((r3 == 0) && (decide (r4 < 9223372036854775808))))
noncomputable def M.ints_div (a1 : Int) (b1 : Int) : Option (Int × Bool) :=
 if ((a1 == 0) && (b1 == 0)) then
  some (1, true)
 else
  (if (b1 == 0) then
   some (b1 == 0)
  else
   some ((a1 == (-9223372036854775808)) && (b1 == (-1)))).bind fun t1 =>
  if t1 then
   some (0, false)
  else
   (quoI .i64 a1 b1).bind fun q1 =>
   (remI a1 b1).bind fun q2 =>
   some (q1, (q2 == 0))
noncomputable def M.ints_power_L1 (a1 : Int) (b1 : Int) (s : Int × Bool × Int) : Option (Ctl (Int × Bool × Int) (Ctl (Int × Bool) (Int × Bool))) :=
 match s with
 | (c3, ok1, i1) =>
  if ((decide (i1 < b1)) && ok1) then
   (M.ints_mul c3 a1).bind fun (r1, r2) =>
   some (.next (r1, r2, (IntKind.i64.wrap (i1 + 1))))
  else
   some (.done (.next (c3, ok1)))
noncomputable def M.ints_power (a1 : Int) (b1 : Int) : Option (Int × Bool) :=
 if (b1 == 0) then
  some (1, true)
 else
  (if (a1 == 1) then
   some (a1 == 1)
  else
   some ((a1 == 0) && (decide (b1 > 0)))).bind fun t1 =>
  if t1 then
   some (a1, true)
  else
   if (a1 == (-1)) then
    some ((IntKind.i64.wrap (1 - (IntKind.i64.wrap (2 * (IntKind.i64.wrap (BitVec.ofInt IntKind.i64.bits b1 &&& BitVec.ofInt IntKind.i64.bits 1).toNat))))), true)
   else
    if ((decide (b1 < 0)) || (decide (b1 > 63))) then
     some (0, false)
    else
     (wloop (M.ints_power_L1 a1 b1) (a1, true, 1)).bind fun k => joinK k fun (c3, ok1) =>
     some (c3, ok1)
noncomputable def M.ints_residue (a1 : Int) (b1 : Int) : Option (Int × Bool) :=
 if (a1 == 0) then
  some (b1, true)
 else
  if (a1 == (-1)) then
   some (0, true)
  else
   (remI b1 a1).bind fun q1 =>
   (if ((q1 != 0) && (!((decide (q1 < 0)) == (decide (a1 < 0))))) then
    some (IntKind.i64.wrap (q1 + a1))
   else
    some q1).bind fun r1 =>
   some (r1, true)
noncomputable def M.math_bits_Len64 (x1 : Int) : Option (Int) :=
 (if (decide (x1 ≥ 4294967296)) then
  some ((Int.fdiv x1 (2 ^ (min (Int.toNat 32) IntKind.u64.bits))), 32)
 else
  some (x1, 0)).bind fun (x2, n1) =>
 (if (decide (x2 ≥ 65536)) then
  some ((Int.fdiv x2 (2 ^ (min (Int.toNat 16) IntKind.u64.bits))), (IntKind.i64.wrap (n1 + 16)))
 else
  some (x2, n1)).bind fun (x3, n2) =>
 (if (decide (x3 ≥ 256)) then
  some ((Int.fdiv x3 (2 ^ (min (Int.toNat 8) IntKind.u64.bits))), (IntKind.i64.wrap (n2 + 8)))
 else
  some (x3, n2)).bind fun (x4, n3) =>
 (sidx str_0_1_2_2_3_3_3_3_4_4_4_4_4_4_4_4_5_5_5_5_5_5_5_5_5_5_5_5_5_5_5_5_6_6_6_6_6_6_6_6_6_6_6_6_6_6_6_6_6_6_6_6_6_6_6_6_6_6_6_6_6_6_6_6_7_7_7_7_7_7_7_7_7_7_7_7_7_7_7_7_7_7_7_7_7_7_7_7_7_7_7_7_7_7_7_7_7_7_7_7_7_7_7_7_7_7_7_7_7_7_7_7_7_7_7_7_7_7_7_7_7_7_7_7_7_7_7_7_8_8_8_8_8_8_8_8_8_8_8_8_8_8_8_8_8_8_8_8_8_8_8_8_8_8_8_8_8_8_8_8_8_8_8_8_8_8_8_8_8_8_8_8_8_8_8_8_8_8_8_8_8_8_8_8_8_8_8_8_8_8_8_8_8_8_8_8_8_8_8_8_8_8_8_8_8_8_8_8_8_8_8_8_8_8_8_8_8_8_8_8_8_8_8_8_8_8_8_8_8_8_8_8_8_8_8_8_8_8_8_8_8_8_8_8_8_8_8_8_8_8_8_8_8_8_8_8 (IntKind.u8.wrap x4)).bind fun y1 =>
 some (IntKind.i64.wrap (n3 + (IntKind.i64.wrap y1)))
noncomputable def M.math_bits_LeadingZeros64 (x1 : Int) : Option (Int) :=
 (M.math_bits_Len64 x1).bind fun r1 =>
 some (IntKind.i64.wrap (64 - r1))
noncomputable def M.math_bits_Div64_L1 (q3 : Int) (q6 : Int) (s : Int × Int) : Option (Ctl (Int × Int) (Ctl (Int) (Int))) :=
 match s with
 | (q9, rhat1) =>
  if ((decide (q9 ≥ 4294967296)) || (decide ((IntKind.u64.wrap (q9 * (IntKind.u64.wrap (BitVec.ofInt IntKind.u64.bits q3 &&& BitVec.ofInt IntKind.u64.bits 4294967295).toNat))) > (IntKind.u64.wrap ((IntKind.u64.wrap (4294967296 * rhat1)) + (Int.fdiv q6 (2 ^ (min (Int.toNat 32) IntKind.u64.bits)))))))) then
   if (decide ((IntKind.u64.wrap (rhat1 + (Int.fdiv q3 (2 ^ (min (Int.toNat 32) IntKind.u64.bits))))) ≥ 4294967296)) then
    some (.done (.next (IntKind.u64.wrap (q9 - 1))))
   else
    some (.next ((IntKind.u64.wrap (q9 - 1)), (IntKind.u64.wrap (rhat1 + (Int.fdiv q3 (2 ^ (min (Int.toNat 32) IntKind.u64.bits)))))))
  else
   some (.done (.next q9))
noncomputable def M.math_bits_Div64_L2 (q3 : Int) (q6 : Int) (s : Int × Int) : Option (Ctl (Int × Int) (Ctl (Int) (Int))) :=
 match s with
 | (rhat2, q12) =>
  if ((decide (q12 ≥ 4294967296)) || (decide ((IntKind.u64.wrap (q12 * (IntKind.u64.wrap (BitVec.ofInt IntKind.u64.bits q3 &&& BitVec.ofInt IntKind.u64.bits 4294967295).toNat))) > (IntKind.u64.wrap ((IntKind.u64.wrap (4294967296 * rhat2)) + (IntKind.u64.wrap (BitVec.ofInt IntKind.u64.bits q6 &&& BitVec.ofInt IntKind.u64.bits 4294967295).toNat)))))) then
   if (decide ((IntKind.u64.wrap (rhat2 + (Int.fdiv q3 (2 ^ (min (Int.toNat 32) IntKind.u64.bits))))) ≥ 4294967296)) then
    some (.done (.next (IntKind.u64.wrap (q12 - 1))))
   else
    some (.next ((IntKind.u64.wrap (rhat2 + (Int.fdiv q3 (2 ^ (min (Int.toNat 32) IntKind.u64.bits))))), (IntKind.u64.wrap (q12 - 1))))
  else
   some (.done (.next q12))
noncomputable def M.math_bits_Div64 (hi1 : Int) (lo1 : Int) (y1 : Int) : Option (Int × Int) :=
 if (y1 == 0) then
  none
 else
  if (decide (y1 ≤ hi1)) then
   none
  else
   if (hi1 == 0) then
    (quoI .u64 lo1 y1).bind fun q1 =>
    (remI lo1 y1).bind fun q2 =>
    some (q1, q2)
   else
    (M.math_bits_LeadingZeros64 y1).bind fun r1 =>
    (shlI .u64 y1 (IntKind.u64.wrap r1)).bind fun q3 =>
    (shlI .u64 hi1 (IntKind.u64.wrap r1)).bind fun q4 =>
    (shrI .u64 lo1 (IntKind.u64.wrap (64 - (IntKind.u64.wrap r1)))).bind fun q5 =>
    (shlI .u64 lo1 (IntKind.u64.wrap r1)).bind fun q6 =>
    (quoI .u64 (IntKind.u64.wrap (BitVec.ofInt IntKind.u64.bits q4 ||| BitVec.ofInt IntKind.u64.bits q5).toNat) (Int.fdiv q3 (2 ^ (min (Int.toNat 32) IntKind.u64.bits)))).bind fun q7 =>
    ((wloop (M.math_bits_Div64_L1 q3 q6) (q7, (IntKind.u64.wrap ((IntKind.u64.wrap (BitVec.ofInt IntKind.u64.bits q4 ||| BitVec.ofInt IntKind.u64.bits q5).toNat) - (IntKind.u64.wrap (q7 * (Int.fdiv q3 (2 ^ (min (Int.toNat 32) IntKind.u64.bits))))))))).bind fun k => joinK k fun jx =>
    some jx).bind fun q8 =>
    (quoI .u64 (IntKind.u64.wrap ((IntKind.u64.wrap ((IntKind.u64.wrap ((IntKind.u64.wrap (BitVec.ofInt IntKind.u64.bits q4 ||| BitVec.ofInt IntKind.u64.bits q5).toNat) * 4294967296)) + (Int.fdiv q6 (2 ^ (min (Int.toNat 32) IntKind.u64.bits))))) - (IntKind.u64.wrap (q8 * q3)))) (Int.fdiv q3 (2 ^ (min (Int.toNat 32) IntKind.u64.bits)))).bind fun q10 =>
    ((wloop (M.math_bits_Div64_L2 q3 q6) ((IntKind.u64.wrap ((IntKind.u64.wrap ((IntKind.u64.wrap ((IntKind.u64.wrap ((IntKind.u64.wrap (BitVec.ofInt IntKind.u64.bits q4 ||| BitVec.ofInt IntKind.u64.bits q5).toNat) * 4294967296)) + (Int.fdiv q6 (2 ^ (min (Int.toNat 32) IntKind.u64.bits))))) - (IntKind.u64.wrap (q8 * q3)))) - (IntKind.u64.wrap (q10 * (Int.fdiv q3 (2 ^ (min (Int.toNat 32) IntKind.u64.bits))))))), q10)).bind fun k => joinK k fun jx =>
    some jx).bind fun q11 =>
    (shrI .u64 (IntKind.u64.wrap ((IntKind.u64.wrap ((IntKind.u64.wrap ((IntKind.u64.wrap ((IntKind.u64.wrap ((IntKind.u64.wrap ((IntKind.u64.wrap (BitVec.ofInt IntKind.u64.bits q4 ||| BitVec.ofInt IntKind.u64.bits q5).toNat) * 4294967296)) + (Int.fdiv q6 (2 ^ (min (Int.toNat 32) IntKind.u64.bits))))) - (IntKind.u64.wrap (q8 * q3)))) * 4294967296)) + (IntKind.u64.wrap (BitVec.ofInt IntKind.u64.bits q6 &&& BitVec.ofInt IntKind.u64.bits 4294967295).toNat))) - (IntKind.u64.wrap (q11 * q3)))) (IntKind.u64.wrap r1)).bind fun q13 =>
    some ((IntKind.u64.wrap ((IntKind.u64.wrap (q8 * 4294967296)) + q11)), q13)
noncomputable def M.ints_choose_L1 (a1 : Int) (b1 : Int) (s : Int × Int) : Option (Ctl (Int × Int) (Ctl (Int) (Int × Bool))) :=
 match s with
 | (c2, t1) =>
  if (decide (t1 < (IntKind.u64.wrap (if (IntKind.i64.wrap (b1 - a1)) < a1 then (IntKind.i64.wrap (b1 - a1)) else a1)))) then
   (M.math_bits_Mul64 c2 (IntKind.u64.wrap ((IntKind.u64.wrap b1) - t1))).bind fun (r1, r2) =>
   if (decide (r1 > t1)) then
    some (.done (.done (0, false)))
   else
    (M.math_bits_Div64 r1 r2 (IntKind.u64.wrap (t1 + 1))).bind fun (r3, r4) =>
    if (decide (r3 > 9223372036854775807)) then
     some (.done (.done (0, false)))
    else
     some (.next (r3, (IntKind.u64.wrap (t1 + 1))))
  else
   some (.done (.next c2))
noncomputable def M.ints_choose (a1 : Int) (b1 : Int) : Option (Int × Bool) :=
 if ((decide (a1 < 0)) || (decide (b1 < 0))) then
  some (0, false)
 else
  if (decide (a1 > b1)) then
   some (0, true)
  else
   (wloop (M.ints_choose_L1 a1 b1) (1, 0)).bind fun k => joinK k fun c2 =>
   some ((IntKind.i64.wrap c2), true)
noncomputable def M.ints_dyads_1 (a1 : Int) (b1 : Int) : Option (Int × Bool) :=
 some ((if a1 < b1 then b1 else a1), true)
noncomputable def M.ints_dyads_2 (a1 : Int) (b1 : Int) : Option (Int × Bool) :=
 some ((if b1 < a1 then b1 else a1), true)
noncomputable def M.ints_truth (b1 : Bool) : Option (Int × Bool) :=
 if b1 then
  some (1, true)
 else
  some (0, true)
noncomputable def M.ints_dyads_3 (a1 : Int) (b1 : Int) : Option (Int × Bool) :=
 (M.ints_truth (decide (a1 < b1))).bind fun (r1, r2) =>
 some (r1, r2)
noncomputable def M.ints_dyads_4 (a1 : Int) (b1 : Int) : Option (Int × Bool) :=
 (M.ints_truth (decide (a1 ≤ b1))).bind fun (r1, r2) =>
 some (r1, r2)
noncomputable def M.ints_dyads_5 (a1 : Int) (b1 : Int) : Option (Int × Bool) :=
 (M.ints_truth (a1 == b1)).bind fun (r1, r2) =>
 some (r1, r2)
noncomputable def M.ints_dyads_6 (a1 : Int) (b1 : Int) : Option (Int × Bool) :=
 (M.ints_truth (decide (a1 ≥ b1))).bind fun (r1, r2) =>
 some (r1, r2)
noncomputable def M.ints_dyads_7 (a1 : Int) (b1 : Int) : Option (Int × Bool) :=
 (M.ints_truth (decide (a1 > b1))).bind fun (r1, r2) =>
 some (r1, r2)
noncomputable def M.ints_dyads_8 (a1 : Int) (b1 : Int) : Option (Int × Bool) :=
 (M.ints_truth (a1 != b1)).bind fun (r1, r2) =>
 some (r1, r2)
noncomputable def M.ints_bit (b1 : Int) : Option (Bool) :=
 some ((b1 == 0) || (b1 == 1))
noncomputable def M.ints_dyads_9 (a1 : Int) (b1 : Int) : Option (Int × Bool) :=
 (M.ints_bit a1).bind fun r1 =>
 (if r1 then
 (M.ints_bit b1).bind fun r2 =>
 some r2 else
 some false).bind fun c1 =>
 some ((IntKind.i64.wrap (BitVec.ofInt IntKind.i64.bits a1 &&& BitVec.ofInt IntKind.i64.bits b1).toNat), c1)
noncomputable def M.ints_dyads_10 (a1 : Int) (b1 : Int) : Option (Int × Bool) :=
 (M.ints_bit a1).bind fun r1 =>
 (if r1 then
 (M.ints_bit b1).bind fun r2 =>
 some r2 else
 some false).bind fun c1 =>
 some ((IntKind.i64.wrap (BitVec.ofInt IntKind.i64.bits a1 ||| BitVec.ofInt IntKind.i64.bits b1).toNat), c1)
noncomputable def M.ints_dyads_11 (a1 : Int) (b1 : Int) : Option (Int × Bool) :=
 (M.ints_bit a1).bind fun r1 =>
 (if r1 then
 (M.ints_bit b1).bind fun r2 =>
 some r2 else
 some false).bind fun c1 =>
 some ((IntKind.i64.wrap (1 - (IntKind.i64.wrap (BitVec.ofInt IntKind.i64.bits a1 &&& BitVec.ofInt IntKind.i64.bits b1).toNat))), c1)
noncomputable def M.ints_dyads_12 (a1 : Int) (b1 : Int) : Option (Int × Bool) :=
 (M.ints_bit a1).bind fun r1 =>
 (if r1 then
 (M.ints_bit b1).bind fun r2 =>
 some r2 else
 some false).bind fun c1 =>
 some ((IntKind.i64.wrap (1 - (IntKind.i64.wrap (BitVec.ofInt IntKind.i64.bits a1 ||| BitVec.ofInt IntKind.i64.bits b1).toNat))), c1)
noncomputable def M.ints_Dyad (fn1 : ByteArray) (a1 : Int) (b1 : Int) : Option (Int × Int) :=
 (M.ints_dyads).bind fun r1 =>
 if (fn1 == str_43) then
  (M.ints_add a1 b1).bind fun (r2, r3) =>
  (M.ints_told r2 r3).bind fun (r4, r5) =>
  some (r4, r5)
 else if (fn1 == str_45) then
  (M.ints_sub a1 b1).bind fun (r6, r7) =>
  (M.ints_told r6 r7).bind fun (r8, r9) =>
  some (r8, r9)
 else if (fn1 == str_195_151) then
  (M.ints_mul a1 b1).bind fun (r10, r11) =>
  (M.ints_told r10 r11).bind fun (r12, r13) =>
  some (r12, r13)
 else if (fn1 == str_195_183) then
  (M.ints_div a1 b1).bind fun (r14, r15) =>
  (M.ints_told r14 r15).bind fun (r16, r17) =>
  some (r16, r17)
 else if (fn1 == str_42) then
  (M.ints_power a1 b1).bind fun (r18, r19) =>
  (M.ints_told r18 r19).bind fun (r20, r21) =>
  some (r20, r21)
 else if (fn1 == str_124) then
  (M.ints_residue a1 b1).bind fun (r22, r23) =>
  (M.ints_told r22 r23).bind fun (r24, r25) =>
  some (r24, r25)
 else if (fn1 == str_33) then
  (M.ints_choose a1 b1).bind fun (r26, r27) =>
  (M.ints_told r26 r27).bind fun (r28, r29) =>
  some (r28, r29)
 else if (fn1 == str_226_140_136) then
  (M.ints_dyads_1 a1 b1).bind fun (r30, r31) =>
  (M.ints_told r30 r31).bind fun (r32, r33) =>
  some (r32, r33)
 else if (fn1 == str_226_140_138) then
  (M.ints_dyads_2 a1 b1).bind fun (r34, r35) =>
  (M.ints_told r34 r35).bind fun (r36, r37) =>
  some (r36, r37)
 else if (fn1 == str_60) then
  (M.ints_dyads_3 a1 b1).bind fun (r38, r39) =>
  (M.ints_told r38 r39).bind fun (r40, r41) =>
  some (r40, r41)
 else if (fn1 == str_226_137_164) then
  (M.ints_dyads_4 a1 b1).bind fun (r42, r43) =>
  (M.ints_told r42 r43).bind fun (r44, r45) =>
  some (r44, r45)
 else if (fn1 == str_61) then
  (M.ints_dyads_5 a1 b1).bind fun (r46, r47) =>
  (M.ints_told r46 r47).bind fun (r48, r49) =>
  some (r48, r49)
 else if (fn1 == str_226_137_165) then
  (M.ints_dyads_6 a1 b1).bind fun (r50, r51) =>
  (M.ints_told r50 r51).bind fun (r52, r53) =>
  some (r52, r53)
 else if (fn1 == str_62) then
  (M.ints_dyads_7 a1 b1).bind fun (r54, r55) =>
  (M.ints_told r54 r55).bind fun (r56, r57) =>
  some (r56, r57)
 else if (fn1 == str_226_137_160) then
  (M.ints_dyads_8 a1 b1).bind fun (r58, r59) =>
  (M.ints_told r58 r59).bind fun (r60, r61) =>
  some (r60, r61)
 else if (fn1 == str_226_136_167) then
  (M.ints_dyads_9 a1 b1).bind fun (r62, r63) =>
  (M.ints_told r62 r63).bind fun (r64, r65) =>
  some (r64, r65)
 else if (fn1 == str_226_136_168) then
  (M.ints_dyads_10 a1 b1).bind fun (r66, r67) =>
  (M.ints_told r66 r67).bind fun (r68, r69) =>
  some (r68, r69)
 else if (fn1 == str_226_141_178) then
  (M.ints_dyads_11 a1 b1).bind fun (r70, r71) =>
  (M.ints_told r70 r71).bind fun (r72, r73) =>
  some (r72, r73)
 else if (fn1 == str_226_141_177) then
  (M.ints_dyads_12 a1 b1).bind fun (r74, r75) =>
  (M.ints_told r74 r75).bind fun (r76, r77) =>
  some (r76, r77)
 else 
 some (0, 4)
noncomputable def M.over_function_1 (a1 : Am.Item) (b1 : Am.Item) (x1 : ByteArray) : Option (Am.Item × Int) :=
 if (a1.char || b1.char) then
  (M.over_characters x1 a1 b1).bind fun (r1, r2) =>
  some (r1, r2)
 else
  (M.ints_Dyad x1 a1.n b1.n).bind fun (r3, r4) =>
  some ((Am.Item.mk r3 false), r4)
noncomputable def M.over_function (fn1 : ByteArray) : Option ((Option ByteArray) × Bool) :=
 (M.ints_Identity fn1).bind fun (r1, r2) =>
 if (r2 == 4) then
  some (none, false)
 else
  some ((some fn1), true)
noncomputable def M.over_takes (fn1 : ByteArray) (l1 : (List Val)) : Option ((Option ByteArray) × Int) :=
 (M.slices_ContainsFunc__Value l1 (fun x0 => M.over_takes_1 x0)).bind fun r1 =>
 if r1 then
  some (none, 1)
 else
  (M.over_function fn1).bind fun (r2, r3) =>
  if (!r3) then
   some (none, 4)
  else
   some (r2, 0)
noncomputable def M.slices_Grow__int (s1 : (List Int)) (n1 : Int) : Option ((List Int)) :=
 grow 8 n1
noncomputable def M.slices_Concat__int_L2 (slices1 : (List (List Int))) (s : (List Int) × Int) : Option (Ctl ((List Int) × Int) (Ctl ((List Int)) ((List Int)))) :=
 match s with
 | (newslice1, t2) =>
  if (decide (t2 < (slices1.length : Int))) then
   (idx slices1 t2).bind fun y2 =>
   (app 8 newslice1 y2).bind fun l1 =>
   some (.next (l1, (IntKind.i64.wrap (t2 + 1))))
  else
   some (.done (.next newslice1))
noncomputable def M.slices_Concat__int_L1 (slices1 : (List (List Int))) (s : Int × Int) : Option (Ctl (Int × Int) (Ctl (Int) ((List Int)))) :=
 match s with
 | (size1, t1) =>
  if (decide (t1 < (slices1.length : Int))) then
   (idx slices1 t1).bind fun y1 =>
   if (decide ((IntKind.i64.wrap (size1 + (y1.length : Int))) < 0)) then
    none
   else
    some (.next ((IntKind.i64.wrap (size1 + (y1.length : Int))), (IntKind.i64.wrap (t1 + 1))))
  else
   some (.done (.next size1))
noncomputable def M.slices_Concat__int (slices1 : (List (List Int))) : Option ((List Int)) :=
 (wloop (M.slices_Concat__int_L1 slices1) (0, 0)).bind fun k => joinK k fun size1 =>
 (M.slices_Grow__int ([]) size1).bind fun r1 =>
 (wloop (M.slices_Concat__int_L2 slices1) (r1, 0)).bind fun k => joinK k fun newslice1 =>
 some newslice1
noncomputable def M.slices_IndexFunc__int_L1 (s1 : (List Int)) (f1 : (Int → Option (Bool))) (s : Int) : Option (Ctl (Int) (Ctl (Unit) (Int))) :=
 match s with
 | t1 =>
  if (decide (t1 < (s1.length : Int))) then
   (idx s1 t1).bind fun y1 =>
   (f1 y1).bind fun r1 =>
   if r1 then
    some (.done (.done t1))
   else
    some (.next (IntKind.i64.wrap (t1 + 1)))
  else
   some (.done (.next ()))
noncomputable def M.slices_IndexFunc__int (s1 : (List Int)) (f1 : (Int → Option (Bool))) : Option (Int) :=
 (wloop (M.slices_IndexFunc__int_L1 s1 f1) 0).bind fun k => joinK k fun _ =>
 some (-1)
noncomputable def M.slices_ContainsFunc__int (s1 : (List Int)) (f1 : (Int → Option (Bool))) : Option (Bool) :=
 (M.slices_IndexFunc__int s1 f1).bind fun r1 =>
 some (decide (r1 ≥ 0))
noncomputable def M.shape_Size_1 (n1 : Int) : Option (Bool) :=
 some (decide (n1 < 0))
noncomputable def M.shape_Size_2 (n1 : Int) : Option (Bool) :=
 some (decide (n1 > 10000))
noncomputable def M.shape_product_L1 (s1 : (List Int)) (s : Int × Int) : Option (Ctl (Int × Int) (Ctl (Int) (Int))) :=
 match s with
 | (p1, t1) =>
  if (decide (t1 < (s1.length : Int))) then
   (idx s1 t1).bind fun y1 =>
   some (.next ((IntKind.i64.wrap (p1 * y1)), (IntKind.i64.wrap (t1 + 1))))
  else
   some (.done (.next p1))
noncomputable def M.shape_product (s1 : (List Int)) : Option (Int) :=
 (wloop (M.shape_product_L1 s1) (1, 0)).bind fun k => joinK k fun p1 =>
 some p1
noncomputable def M.shape_Size (s1 : (List Int)) : Option (Int × Int) :=
 if (decide ((s1.length : Int) > 4)) then
  some (0, 24)
 else
  (M.slices_ContainsFunc__int s1 (fun x0 => M.shape_Size_1 x0)).bind fun r1 =>
  if r1 then
   some (0, 1)
  else
   ((M.slices_ContainsFunc__int s1 (fun x0 => M.shape_Size_2 x0)).bind fun r2 =>
   if r2 then
    some r2
   else
    (M.shape_product s1).bind fun r3 =>
    some (decide (r3 > 10000))).bind fun t1 =>
   if t1 then
    some (0, 27)
   else
    (M.shape_product s1).bind fun r4 =>
    some (r4, 0)
noncomputable def M.over_at (v1 : Val) (k1 : Int) : Option (Am.Item) :=
 (idx v1.Data k1).bind fun y1 =>
 some (Am.Item.mk y1 v1.Char)
noncomputable def M.over_Outer_L2 (a1 : Val) (b1 : Val) (r1 : (Option ByteArray)) (i1 : Int) (s : Int × (List Int)) : Option (Ctl (Int × (List Int)) (Ctl ((List Int)) (Ctl (Int × (List Int)) (Ctl ((List Int)) (Val × Int))))) :=
 match s with
 | (t1, Data2) =>
  if (decide (t1 < (b1.Data.length : Int))) then
   (M.over_at a1 i1).bind fun r6 =>
   (M.over_at b1 t1).bind fun r7 =>
   (r1).bind fun fn2 =>
   (M.over_function_1 r6 r7 fn2).bind fun (r8, r9) =>
   if (r9 != 0) then
    some (.done (.done (.done (.done ((Val.mk false ([]) ([])), r9)))))
   else
    (app 8 Data2 ([r8.n])).bind fun l2 =>
    some (.next ((IntKind.i64.wrap (t1 + 1)), l2))
  else
   some (.done (.next Data2))
noncomputable def M.over_Outer_L1 (a1 : Val) (b1 : Val) (r1 : (Option ByteArray)) (r4 : Int) (s : Int × (List Int)) : Option (Ctl (Int × (List Int)) (Ctl ((List Int)) (Val × Int))) :=
 match s with
 | (i1, Data1) =>
  if ((decide (i1 < (a1.Data.length : Int))) && (decide (r4 > 0))) then
   (wloop (M.over_Outer_L2 a1 b1 r1 i1) (0, Data1)).bind fun k => joinK k fun Data2 =>
   some (.next ((IntKind.i64.wrap (i1 + 1)), Data2))
  else
   some (.done (.next Data1))
noncomputable def M.over_Outer (fn1 : ByteArray) (a1 : Val) (b1 : Val) : Option (Val × Int) :=
 (M.over_takes fn1 ([a1, b1])).bind fun (r1, r2) =>
 if (r2 != 0) then
  some ((Val.mk false ([]) ([])), r2)
 else
  (M.slices_Concat__int ([([] : List Int), a1.Shape, b1.Shape])).bind fun r3 =>
  if (decide ((r3.length : Int) > 4)) then
   some ((Val.mk false ([]) ([])), 24)
  else
   (M.shape_Size r3).bind fun (r4, r5) =>
   if (r5 != 0) then
    some ((Val.mk false ([]) ([])), 27)
   else
    (mk 8 (0 : Int) 0 r4).bind fun l1 =>
    (wloop (M.over_Outer_L1 a1 b1 r1 r4) (0, l1)).bind fun k => joinK k fun Data1 =>
    some ((Val.mk false r3 Data1), 0)
noncomputable def M.anamnesisref02_Right_L2 (v1 : Val) (s : Int) : Option (Ctl (Int) (Ctl (Unit) (Bool))) :=
 match s with
 | i2 =>
  if ((decide (i2 < (v1.Data.length : Int))) && v1.Char) then
   (idx v1.Data i2).bind fun y4 =>
   if (((decide (y4 < 0)) || (decide (y4 > 1114111))) || ((decide (y4 ≥ 55296)) && (decide (y4 ≤ 57343)))) then
    some (.done (.done false))
   else
    some (.next (IntKind.i64.wrap (i2 + 1)))
  else
   some (.done (.next ()))
noncomputable def M.anamnesisref02_Right_L1 (v1 : Val) (s : Int × Int) : Option (Ctl (Int × Int) (Ctl (Int) (Bool))) :=
 match s with
 | (size1, i1) =>
  if (decide (i1 < (v1.Shape.length : Int))) then
   (idx v1.Shape i1).bind fun y1 =>
   (if (decide (y1 < 0)) then
   some true else
   (idx v1.Shape i1).bind fun y2 =>
   some (decide (y2 > 10000))).bind fun c2 =>
   if c2 then
    some (.done (.done false))
   else
    (idx v1.Shape i1).bind fun y3 =>
    some (.next ((IntKind.i64.wrap (size1 * y3)), (IntKind.i64.wrap (i1 + 1))))
  else
   some (.done (.next size1))
noncomputable def M.anamnesisref02_Right (v1 : Val) : Option (Bool) :=
 if (decide ((v1.Shape.length : Int) > 4)) then
  some false
 else
  (wloop (M.anamnesisref02_Right_L1 v1) (1, 0)).bind fun k => joinK k fun size1 =>
  (wloop (M.anamnesisref02_Right_L2 v1) 0).bind fun k => joinK k fun _ =>
  some ((size1 == (v1.Data.length : Int)) && (decide (size1 ≤ 10000)))
noncomputable def M.anamnesisref01_Dyads : Option ((List ByteArray)) :=
 some ([str_43, str_45, str_195_151, str_195_183, str_42, str_124, str_33, str_226_140_136, str_226_140_138, str_60, str_226_137_164, str_61, str_226_137_165, str_62, str_226_137_160, str_226_136_167, str_226_136_168, str_226_141_178, str_226_141_177])
noncomputable def M.anamnesisref01_In_L1 (l1 : (List ByteArray)) (fn1 : ByteArray) (s : Int) : Option (Ctl (Int) (Ctl (Unit) (Bool))) :=
 match s with
 | i1 =>
  if (decide (i1 < (l1.length : Int))) then
   (idx l1 i1).bind fun y1 =>
   if (y1.toList == fn1.toList) then
    some (.done (.done true))
   else
    some (.next (IntKind.i64.wrap (i1 + 1)))
  else
   some (.done (.next ()))
noncomputable def M.anamnesisref01_In (l1 : (List ByteArray)) (fn1 : ByteArray) : Option (Bool) :=
 (wloop (M.anamnesisref01_In_L1 l1 fn1) 0).bind fun k => joinK k fun _ =>
 some false
noncomputable def M.anamnesisref12_known (fn1 : ByteArray) : Option (Bool) :=
 (M.anamnesisref01_Dyads).bind fun r1 =>
 (M.anamnesisref01_In r1 fn1).bind fun r2 =>
 some r2
noncomputable def M.anamnesisref07_Size_L1 (s1 : (List Int)) (s : Int × Int) : Option (Ctl (Int × Int) (Ctl (Int) (Int))) :=
 match s with
 | (size1, i1) =>
  if (decide (i1 < (s1.length : Int))) then
   (idx s1 i1).bind fun y1 =>
   (if (decide (y1 < 0)) then
   some true else
   (idx s1 i1).bind fun y2 =>
   some (decide (y2 > 10000))).bind fun c2 =>
   if c2 then
    some (.done (.done (-1)))
   else
    (idx s1 i1).bind fun y3 =>
    some (.next ((IntKind.i64.wrap (size1 * y3)), (IntKind.i64.wrap (i1 + 1))))
  else
   some (.done (.next size1))
noncomputable def M.anamnesisref07_Size (s1 : (List Int)) : Option (Int) :=
 if (decide ((s1.length : Int) > 4)) then
  some (-1)
 else
  (wloop (M.anamnesisref07_Size_L1 s1) (1, 0)).bind fun k => joinK k fun size1 =>
  if (decide (size1 > 10000)) then
   some (-1)
  else
   some size1
noncomputable def M.anamnesisref01_times (a1 : Int) (b1 : Int) : Option (Int × Bool) :=
 if ((a1 == 0) || (b1 == 0)) then
  some (0, true)
 else
  if (((a1 == (-1)) && (b1 == (-9223372036854775808))) || ((b1 == (-1)) && (a1 == (-9223372036854775808)))) then
   some (0, false)
  else
   (quoI .i64 (IntKind.i64.wrap (a1 * b1)) a1).bind fun q1 =>
   if (q1 != b1) then
    some (0, false)
   else
    some ((IntKind.i64.wrap (a1 * b1)), true)
noncomputable def M.anamnesisref01_power_L1 (a1 : Int) (b1 : Int) (s : Int × Int) : Option (Ctl (Int × Int) (Ctl (Int) (Int × Bool))) :=
 match s with
 | (c2, i1) =>
  if (decide (i1 < b1)) then
   (M.anamnesisref01_times c2 a1).bind fun (r1, r2) =>
   if (!r2) then
    some (.done (.done (0, false)))
   else
    some (.next (r1, (IntKind.i64.wrap (i1 + 1))))
  else
   some (.done (.next c2))
noncomputable def M.anamnesisref01_power (a1 : Int) (b1 : Int) : Option (Int × Bool) :=
 if ((a1 == 0) || (a1 == 1)) then
  some (a1, true)
 else
  if (a1 == (-1)) then
   if ((Int.tmod b1 2) == 0) then
    some (1, true)
   else
    some ((-1), true)
  else
   (wloop (M.anamnesisref01_power_L1 a1 b1) (1, 0)).bind fun k => joinK k fun c2 =>
   some (c2, true)
noncomputable def M.anamnesisref01_gcd_L1 (s : Int × Int) : Option (Ctl (Int × Int) (Ctl (Int) (Int))) :=
 match s with
 | (a2, b2) =>
  if (decide (b2 > 0)) then
   (remI a2 b2).bind fun q1 =>
   some (.next (b2, q1))
  else
   some (.done (.next a2))
noncomputable def M.anamnesisref01_gcd (a1 : Int) (b1 : Int) : Option (Int) :=
 (wloop (M.anamnesisref01_gcd_L1) (a1, b1)).bind fun k => joinK k fun a2 =>
 some a2
noncomputable def M.anamnesisref01_choose_L1 (b1 : Int) (n1 : Int) (s : Int × Int) : Option (Ctl (Int × Int) (Ctl (Int) (Int × Bool))) :=
 match s with
 | (c1, i1) =>
  if (decide (i1 < n1)) then
   (M.anamnesisref01_gcd c1 (IntKind.i64.wrap (i1 + 1))).bind fun r1 =>
   (quoI .i64 c1 r1).bind fun q1 =>
   (quoI .i64 (IntKind.i64.wrap (i1 + 1)) r1).bind fun q2 =>
   (quoI .i64 (IntKind.i64.wrap (b1 - i1)) q2).bind fun q3 =>
   (M.anamnesisref01_times q1 q3).bind fun (r2, r3) =>
   if (!r3) then
    some (.done (.done (0, false)))
   else
    some (.next (r2, (IntKind.i64.wrap (i1 + 1))))
  else
   some (.done (.next c1))
noncomputable def M.anamnesisref01_choose (a1 : Int) (b1 : Int) : Option (Int × Bool) :=
 if (decide (a1 > b1)) then
  some (0, true)
 else
  (if (decide ((IntKind.i64.wrap (b1 - a1)) < a1)) then
   some (IntKind.i64.wrap (b1 - a1))
  else
   some a1).bind fun n1 =>
  (wloop (M.anamnesisref01_choose_L1 b1 n1) (1, 0)).bind fun k => joinK k fun c1 =>
  some (c1, true)
noncomputable def M.anamnesisref01_truth (b1 : Bool) : Option (Int) :=
 if b1 then
  some 1
 else
  some 0
noncomputable def M.anamnesisref01_logic (fn1 : ByteArray) (a1 : Int) (b1 : Int) : Option (Int × Bool) :=
 if (((a1 != 0) && (a1 != 1)) || ((b1 != 0) && (b1 != 1))) then
  some (0, false)
 else
  if (fn1.toList == str_226_136_167.toList) then
   some ((IntKind.i64.wrap (a1 * b1)), true)
  else
   if (fn1.toList == str_226_136_168.toList) then
    some ((IntKind.i64.wrap ((IntKind.i64.wrap (a1 + b1)) - (IntKind.i64.wrap (a1 * b1)))), true)
   else
    if (fn1.toList == str_226_141_178.toList) then
     some ((IntKind.i64.wrap (1 - (IntKind.i64.wrap (a1 * b1)))), true)
    else
     some ((IntKind.i64.wrap (1 - (IntKind.i64.wrap ((IntKind.i64.wrap (a1 + b1)) - (IntKind.i64.wrap (a1 * b1)))))), true)
noncomputable def M.anamnesisref01_Dyad (fn1 : ByteArray) (a1 : Int) (b1 : Int) : Option (Int × Bool) :=
 if (fn1.toList == str_43.toList) then
  if (((decide (b1 > 0)) && (decide (a1 > (IntKind.i64.wrap (9223372036854775807 - b1))))) || ((decide (b1 < 0)) && (decide (a1 < (IntKind.i64.wrap ((-9223372036854775808) - b1)))))) then
   some (0, false)
  else
   some ((IntKind.i64.wrap (a1 + b1)), true)
 else
  if (fn1.toList == str_45.toList) then
   if (((decide (b1 < 0)) && (decide (a1 > (IntKind.i64.wrap (9223372036854775807 + b1))))) || ((decide (b1 > 0)) && (decide (a1 < (IntKind.i64.wrap ((-9223372036854775808) + b1)))))) then
    some (0, false)
   else
    some ((IntKind.i64.wrap (a1 - b1)), true)
  else
   if (fn1.toList == str_195_151.toList) then
    (M.anamnesisref01_times a1 b1).bind fun (r1, r2) =>
    some (r1, r2)
   else
    if (fn1.toList == str_195_183.toList) then
     if ((a1 == 0) && (b1 == 0)) then
      some (1, true)
     else
      (if ((b1 == 0) || ((a1 == (-9223372036854775808)) && (b1 == (-1)))) then
      some true else
      (remI a1 b1).bind fun q1 =>
      some (q1 != 0)).bind fun c10 =>
      if c10 then
       some (0, false)
      else
       (quoI .i64 a1 b1).bind fun q2 =>
       some (q2, true)
    else
     if (fn1.toList == str_42.toList) then
      if (b1 == 0) then
       some (1, true)
      else
       if (decide (b1 > 0)) then
        (M.anamnesisref01_power a1 b1).bind fun (r3, r4) =>
        some (r3, r4)
       else
        if ((a1 == 1) || (a1 == (-1))) then
         (M.anamnesisref01_power a1 (IntKind.i64.wrap (2 - (Int.tmod b1 2)))).bind fun (r5, r6) =>
         some (r5, r6)
        else
         some (0, false)
     else
      if (fn1.toList == str_124.toList) then
       if (a1 == 0) then
        some (b1, true)
       else
        if ((a1 == (-1)) || (a1 == 1)) then
         some (0, true)
        else
         (remI b1 a1).bind fun q3 =>
         (if (((decide (q3 < 0)) && (decide (a1 > 0))) || ((decide (q3 > 0)) && (decide (a1 < 0)))) then
          some (IntKind.i64.wrap (q3 + a1))
         else
          some q3).bind fun r7 =>
         some (r7, true)
      else
       if (fn1.toList == str_33.toList) then
        if ((decide (a1 < 0)) || (decide (b1 < 0))) then
         some (0, false)
        else
         (M.anamnesisref01_choose a1 b1).bind fun (r8, r9) =>
         some (r8, r9)
       else
        if (fn1.toList == str_226_140_136.toList) then
         if (decide (a1 > b1)) then
          some (a1, true)
         else
          some (b1, true)
        else
         if (fn1.toList == str_226_140_138.toList) then
          if (decide (a1 < b1)) then
           some (a1, true)
          else
           some (b1, true)
         else
          if (fn1.toList == str_60.toList) then
           (M.anamnesisref01_truth (decide (a1 < b1))).bind fun r10 =>
           some (r10, true)
          else
           if (fn1.toList == str_226_137_164.toList) then
            (M.anamnesisref01_truth (decide (a1 ≤ b1))).bind fun r11 =>
            some (r11, true)
           else
            if (fn1.toList == str_61.toList) then
             (M.anamnesisref01_truth (a1 == b1)).bind fun r12 =>
             some (r12, true)
            else
             if (fn1.toList == str_226_137_165.toList) then
              (M.anamnesisref01_truth (decide (a1 ≥ b1))).bind fun r13 =>
              some (r13, true)
             else
              if (fn1.toList == str_62.toList) then
               (M.anamnesisref01_truth (decide (a1 > b1))).bind fun r14 =>
               some (r14, true)
              else
               if (fn1.toList == str_226_137_160.toList) then
                (M.anamnesisref01_truth (a1 != b1)).bind fun r15 =>
                some (r15, true)
               else
                (M.anamnesisref01_logic fn1 a1 b1).bind fun (r16, r17) =>
                some (r16, r17)
noncomputable def M.anamnesisref12_Two (fn1 : ByteArray) (a1 : Am.Item) (b1 : Am.Item) : Option (Am.Item × Int) :=
 if ((!a1.char) && (!b1.char)) then
  (M.anamnesisref01_Dyad fn1 a1.n b1.n).bind fun (r1, r2) =>
  if (!r2) then
   some ((Am.Item.mk 0 false), 23)
  else
   some ((Am.Item.mk r1 false), 0)
 else
  if (((fn1.toList == str_61.toList) && ((a1.char == b1.char) && (a1.n == b1.n))) || ((fn1.toList == str_226_137_160.toList) && (!((a1.char == b1.char) && (a1.n == b1.n))))) then
   some ((Am.Item.mk 1 false), 0)
  else
   if ((fn1.toList == str_61.toList) || (fn1.toList == str_226_137_160.toList)) then
    some ((Am.Item.mk 0 false), 0)
   else
    some ((Am.Item.mk 0 false), 23)
noncomputable def M.anamnesisref12_Outer_L1 (fn1 : ByteArray) (a1 : Val) (b1 : Val) (l2 : List Int) (s : Int × (List Int)) : Option (Ctl (Int × (List Int)) (Ctl ((List Int)) (Val × Int))) :=
 match s with
 | (k1, Data1) =>
  (M.anamnesisref07_Size l2).bind fun r5 =>
  if (decide (k1 < r5)) then
   (quoI .i64 k1 (b1.Data.length : Int)).bind fun q1 =>
   (idx a1.Data q1).bind fun y1 =>
   (remI k1 (b1.Data.length : Int)).bind fun q2 =>
   (idx b1.Data q2).bind fun y2 =>
   (M.anamnesisref12_Two fn1 (Am.Item.mk y1 a1.Char) (Am.Item.mk y2 b1.Char)).bind fun (r6, r7) =>
   if (r7 != 0) then
    some (.done (.done ((Val.mk false ([]) ([])), r7)))
   else
    (app 8 Data1 ([r6.n])).bind fun l3 =>
    some (.next ((IntKind.i64.wrap (k1 + 1)), l3))
  else
   some (.done (.next Data1))
noncomputable def M.anamnesisref12_Outer (fn1 : ByteArray) (a1 : Val) (b1 : Val) : Option (Val × Int) :=
 (M.anamnesisref02_Right a1).bind fun r1 =>
 (if (!r1) then
 some true else
 (M.anamnesisref02_Right b1).bind fun r2 =>
 some (!r2)).bind fun c1 =>
 if c1 then
  some ((Val.mk false ([]) ([])), 1)
 else
  (M.anamnesisref12_known fn1).bind fun r3 =>
  if (!r3) then
   some ((Val.mk false ([]) ([])), 4)
  else
   (app 8 ([]) a1.Shape).bind fun l1 =>
   (app 8 l1 b1.Shape).bind fun l2 =>
   if (decide ((l2.length : Int) > 4)) then
    some ((Val.mk false ([]) ([])), 24)
   else
    (M.anamnesisref07_Size l2).bind fun r4 =>
    if (decide (r4 < 0)) then
     some ((Val.mk false ([]) ([])), 27)
    else
     (wloop (M.anamnesisref12_Outer_L1 fn1 a1 b1 l2) (0, [])).bind fun k => joinK k fun Data1 =>
     some ((Val.mk false l2 Data1), 0)
noncomputable def M.shape_sized (s1 : (List Int)) : Option (Bool) :=
 (M.shape_Size s1).bind fun (r1, r2) =>
 some (r2 == 0)
noncomputable def M.shape_Split (s1 : (List Int)) (axis1 : Int) : Option (Int × Int × Int × Bool) :=
 (if ((decide (axis1 < 0)) || (decide (axis1 ≥ (s1.length : Int)))) then
 some true else
 (M.shape_sized s1).bind fun r1 =>
 some (!r1)).bind fun c2 =>
 if c2 then
  some (0, 0, 0, false)
 else
  (sub s1 0 axis1).bind fun l1 =>
  (M.shape_product l1).bind fun r2 =>
  (idx s1 axis1).bind fun y1 =>
  (sub s1 (IntKind.i64.wrap (axis1 + 1)) s1.length).bind fun l2 =>
  (M.shape_product l2).bind fun r3 =>
  some (r2, y1, r3, true)
noncomputable def M.over_step (n1 : Int) (by1 : Int) : Option (Int) :=
 if (n1 == 1) then
  some 0
 else
  some by1
noncomputable def M.over_left (v1 : Val) : Option (Am.Side) :=
 if ((v1.Shape.length : Int) == 0) then
  some (Am.Side.mk v1 ([]) 1 1 1 0)
 else
  (idx v1.Shape (IntKind.i64.wrap ((v1.Shape.length : Int) - 1))).bind fun y1 =>
  (M.shape_Split v1.Shape (IntKind.i64.wrap ((v1.Shape.length : Int) - 1))).bind fun (r1, r2, r3, r4) =>
  (sub v1.Shape 0 (IntKind.i64.wrap ((v1.Shape.length : Int) - 1))).bind fun l1 =>
  (M.over_step y1 1).bind fun r5 =>
  some (Am.Side.mk v1 l1 y1 r1 y1 r5)
noncomputable def M.over_right (v1 : Val) : Option (Am.Side) :=
 if ((v1.Shape.length : Int) == 0) then
  some (Am.Side.mk v1 ([]) 1 1 1 0)
 else
  (M.shape_Split v1.Shape 0).bind fun (r1, r2, r3, r4) =>
  (sub v1.Shape 1 v1.Shape.length).bind fun l1 =>
  (M.over_step r2 r3).bind fun r5 =>
  some (Am.Side.mk v1 l1 r2 r3 1 r5)
noncomputable def M.over_reduced_L1 (f1 : (Option ByteArray)) (l1 : (List Am.Item)) (s : Int × Int × Bool) : Option (Ctl (Int × Int × Bool) (Ctl (Int × Bool) (Am.Item × Int))) :=
 match s with
 | (i1, n1, char1) =>
  if (decide (i1 ≥ 0)) then
   (idx l1 i1).bind fun y2 =>
   (f1).bind fun fn2 =>
   (M.over_function_1 y2 (Am.Item.mk n1 char1) fn2).bind fun (r3, r4) =>
   if (r4 != 0) then
    some (.done (.done ((Am.Item.mk 0 false), r4)))
   else
    some (.next ((IntKind.i64.wrap (i1 - 1)), r3.n, r3.char))
  else
   some (.done (.next (n1, char1)))
noncomputable def M.over_reduced (fn1 : ByteArray) (f1 : (Option ByteArray)) (l1 : (List Am.Item)) : Option (Am.Item × Int) :=
 if ((l1.length : Int) == 0) then
  (M.ints_Identity fn1).bind fun (r1, r2) =>
  some ((Am.Item.mk r1 false), r2)
 else
  (idx l1 (IntKind.i64.wrap ((l1.length : Int) - 1))).bind fun y1 =>
  (wloop (M.over_reduced_L1 f1 l1) ((IntKind.i64.wrap ((l1.length : Int) - 2)), y1.n, y1.char)).bind fun k => joinK k fun (n1, char1) =>
  some ((Am.Item.mk n1 char1), 0)
noncomputable def M.over_Inner_L3 (a1 : Val) (b1 : Val) (r3 : (Option ByteArray)) (r5 : Am.Side) (r6 : Am.Side) (i1 : Int) (t1 : Int) (l2 : List Am.Item) (s : Int × (List Am.Item)) : Option (Ctl (Int × (List Am.Item)) (Ctl ((List Am.Item)) (Ctl (Int × (List Int)) (Ctl ((List Int)) (Ctl (Int × (List Int)) (Ctl ((List Int)) (Val × Int))))))) :=
 match s with
 | (t2, l3) =>
  if (decide (t2 < (l2.length : Int))) then
   (M.over_at a1 (IntKind.i64.wrap ((IntKind.i64.wrap (i1 * r5.across)) + (IntKind.i64.wrap (t2 * r5.inside))))).bind fun r10 =>
   (M.over_at b1 (IntKind.i64.wrap ((IntKind.i64.wrap (t1 * r6.across)) + (IntKind.i64.wrap (t2 * r6.inside))))).bind fun r11 =>
   (r3).bind fun fn1 =>
   (M.over_function_1 r10 r11 fn1).bind fun (r12, r13) =>
   (idx l3 t2).bind fun y1 =>
   (upd l3 t2 r12).bind fun l4 =>
   if (r13 != 0) then
    some (.done (.done (.done (.done (.done (.done ((Val.mk false ([]) ([])), r13)))))))
   else
    some (.next ((IntKind.i64.wrap (t2 + 1)), l4))
  else
   some (.done (.next l3))
noncomputable def M.over_Inner_L2 (f1 : ByteArray) (a1 : Val) (b1 : Val) (r1 : (Option ByteArray)) (r3 : (Option ByteArray)) (r5 : Am.Side) (r6 : Am.Side) (n1 : Int) (i1 : Int) (s : Int × (List Int)) : Option (Ctl (Int × (List Int)) (Ctl ((List Int)) (Ctl (Int × (List Int)) (Ctl ((List Int)) (Val × Int))))) :=
 match s with
 | (t1, Data2) =>
  if (decide (t1 < r6.size)) then
   (mk 16 ((Am.Item.mk 0 false) : Am.Item) n1 n1).bind fun l2 =>
   (wloop (M.over_Inner_L3 a1 b1 r3 r5 r6 i1 t1 l2) (0, l2)).bind fun k => joinK k fun l3 =>
   (M.over_reduced f1 r1 l3).bind fun (r14, r15) =>
   if (r15 != 0) then
    some (.done (.done (.done (.done ((Val.mk false ([]) ([])), r15)))))
   else
    (app 8 Data2 ([r14.n])).bind fun l5 =>
    some (.next ((IntKind.i64.wrap (t1 + 1)), l5))
  else
   some (.done (.next Data2))
noncomputable def M.over_Inner_L1 (f1 : ByteArray) (a1 : Val) (b1 : Val) (r1 : (Option ByteArray)) (r3 : (Option ByteArray)) (r5 : Am.Side) (r6 : Am.Side) (n1 : Int) (r8 : Int) (s : Int × (List Int)) : Option (Ctl (Int × (List Int)) (Ctl ((List Int)) (Val × Int))) :=
 match s with
 | (i1, Data1) =>
  if ((decide (i1 < r5.size)) && (decide (r8 > 0))) then
   (wloop (M.over_Inner_L2 f1 a1 b1 r1 r3 r5 r6 n1 i1) (0, Data1)).bind fun k => joinK k fun Data2 =>
   some (.next ((IntKind.i64.wrap (i1 + 1)), Data2))
  else
   some (.done (.next Data1))
noncomputable def M.over_Inner (f1 : ByteArray) (g1 : ByteArray) (a1 : Val) (b1 : Val) : Option (Val × Int) :=
 (M.over_takes f1 ([a1, b1])).bind fun (r1, r2) =>
 if (r2 != 0) then
  some ((Val.mk false ([]) ([])), r2)
 else
  (M.over_takes g1 ([])).bind fun (r3, r4) =>
  if (r4 != 0) then
   some ((Val.mk false ([]) ([])), r4)
  else
   (M.over_left a1).bind fun r5 =>
   (M.over_right b1).bind fun r6 =>
   (if (r5.n == 1) then
    some r6.n
   else
    some r5.n).bind fun n1 =>
   (if ((r5.n != n1) || (r6.n != n1)) then
    if ((r5.n != 1) && (r6.n != 1)) then
     some (.done ((Val.mk false ([]) ([])), 25))
    else
     some (.next ())
   else
    some (.next ())).bind fun k => joinK k fun _ =>
   (M.slices_Concat__int ([([] : List Int), r5.s, r6.s])).bind fun r7 =>
   if (decide ((r7.length : Int) > 4)) then
    some ((Val.mk false ([]) ([])), 24)
   else
    (M.shape_Size r7).bind fun (r8, r9) =>
    if ((r9 != 0) || (decide ((IntKind.i64.wrap (r8 * n1)) > 1000000))) then
     some ((Val.mk false ([]) ([])), 27)
    else
     (mk 8 (0 : Int) 0 r8).bind fun l1 =>
     (wloop (M.over_Inner_L1 f1 a1 b1 r1 r3 r5 r6 n1 r8) (0, l1)).bind fun k => joinK k fun Data1 =>
     some ((Val.mk false r7 Data1), 0)
noncomputable def M.anamnesisref12_long (v1 : Val) (axis1 : Int) : Option (Int) :=
 if ((v1.Shape.length : Int) == 0) then
  some 1
 else
  (idx v1.Shape axis1).bind fun y1 =>
  some y1
noncomputable def M.anamnesisref07_At_L1 (s1 : (List Int)) (s : Int × Int × (List Int)) : Option (Ctl (Int × Int × (List Int)) (Ctl ((List Int)) ((List Int)))) :=
 match s with
 | (k2, i1, l2) =>
  if (decide (i1 ≥ 0)) then
   (idx s1 i1).bind fun y1 =>
   (remI k2 y1).bind fun q1 =>
   (idx l2 i1).bind fun y2 =>
   (upd l2 i1 q1).bind fun l3 =>
   (idx s1 i1).bind fun y3 =>
   (quoI .i64 k2 y3).bind fun q2 =>
   some (.next (q2, (IntKind.i64.wrap (i1 - 1)), l3))
  else
   some (.done (.next l2))
noncomputable def M.anamnesisref07_At (s1 : (List Int)) (k1 : Int) : Option ((List Int)) :=
 (mk 8 (0 : Int) (s1.length : Int) (s1.length : Int)).bind fun l1 =>
 (wloop (M.anamnesisref07_At_L1 s1) (k1, (IntKind.i64.wrap ((s1.length : Int) - 1)), l1)).bind fun k => joinK k fun l2 =>
 some l2
noncomputable def M.anamnesisref12_with_L1 (s1 : (List Int)) (axis1 : Int) (n1 : Int) (s : (List Int) × Int) : Option (Ctl ((List Int) × Int) (Ctl ((List Int)) ((List Int)))) :=
 match s with
 | (out1, i1) =>
  if (decide (i1 ≤ (s1.length : Int))) then
   (if (i1 == axis1) then
    (app 8 out1 ([n1])).bind fun l1 =>
    some l1
   else
    some out1).bind fun out2 =>
   if (decide (i1 < (s1.length : Int))) then
    (idx s1 i1).bind fun y1 =>
    (app 8 out2 ([y1])).bind fun l2 =>
    some (.next (l2, (IntKind.i64.wrap (i1 + 1))))
   else
    some (.next (out2, (IntKind.i64.wrap (i1 + 1))))
  else
   some (.done (.next out1))
noncomputable def M.anamnesisref12_with (s1 : (List Int)) (axis1 : Int) (n1 : Int) : Option ((List Int)) :=
 (wloop (M.anamnesisref12_with_L1 s1 axis1 n1) ([], 0)).bind fun k => joinK k fun out1 =>
 some out1
noncomputable def M.anamnesisref07_Offset_L1 (s1 : (List Int)) (at1 : (List Int)) (s : Int × Int) : Option (Ctl (Int × Int) (Ctl (Int) (Int))) :=
 match s with
 | (k1, i1) =>
  if (decide (i1 < (s1.length : Int))) then
   (idx s1 i1).bind fun y1 =>
   (idx at1 i1).bind fun y2 =>
   some (.next ((IntKind.i64.wrap ((IntKind.i64.wrap (k1 * y1)) + y2)), (IntKind.i64.wrap (i1 + 1))))
  else
   some (.done (.next k1))
noncomputable def M.anamnesisref07_Offset (s1 : (List Int)) (at1 : (List Int)) : Option (Int) :=
 (wloop (M.anamnesisref07_Offset_L1 s1 at1) (0, 0)).bind fun k => joinK k fun k1 =>
 some k1
noncomputable def M.anamnesisref12_element (v1 : Val) (axis1 : Int) (i1 : Int) (at1 : (List Int)) : Option (Am.Item) :=
 if ((v1.Shape.length : Int) == 0) then
  (idx v1.Data 0).bind fun y1 =>
  some (Am.Item.mk y1 v1.Char)
 else
  ((idx v1.Shape axis1).bind fun y2 =>
  if (y2 == 1) then
   some 0
  else
   some i1).bind fun i2 =>
  (M.anamnesisref12_with at1 axis1 i2).bind fun r1 =>
  (M.anamnesisref07_Offset v1.Shape r1).bind fun r2 =>
  (idx v1.Data r2).bind fun y3 =>
  some (Am.Item.mk y3 v1.Char)
noncomputable def M.anamnesisref12_identity (fn1 : ByteArray) : Option (Int × Int) :=
 (if (fn1.toList == str_226_141_178.toList) then
  some (fn1.toList == str_226_141_178.toList)
 else
  some (fn1.toList == str_226_141_177.toList)).bind fun t1 =>
 if t1 then
  some (0, 23)
 else
  if (fn1.toList == str_226_140_136.toList) then
   some ((-9223372036854775808), 0)
  else
   if (fn1.toList == str_226_140_138.toList) then
    some (9223372036854775807, 0)
   else
    (if (fn1.toList == str_195_151.toList) then
     some (fn1.toList == str_195_151.toList)
    else
     if (fn1.toList == str_195_183.toList) then
      some (fn1.toList == str_195_183.toList)
     else
      if (fn1.toList == str_42.toList) then
       some (fn1.toList == str_42.toList)
      else
       if (fn1.toList == str_33.toList) then
        some (fn1.toList == str_33.toList)
       else
        if (fn1.toList == str_226_137_164.toList) then
         some (fn1.toList == str_226_137_164.toList)
        else
         if (fn1.toList == str_61.toList) then
          some (fn1.toList == str_61.toList)
         else
          if (fn1.toList == str_226_137_165.toList) then
           some (fn1.toList == str_226_137_165.toList)
          else
           some (fn1.toList == str_226_136_167.toList)).bind fun t2 =>
    if t2 then
     some (1, 0)
    else
     some (0, 0)
noncomputable def M.anamnesisref12_Row_F (kf : Nat) (fn1 : ByteArray) (l1 : (List Am.Item)) : Option (Am.Item × Int) :=
 match kf with
 | 0 => none
 | kf+1 =>
  if ((l1.length : Int) == 0) then
   (M.anamnesisref12_identity fn1).bind fun (r1, r2) =>
   some ((Am.Item.mk r1 false), r2)
  else
   if ((l1.length : Int) == 1) then
    (idx l1 0).bind fun y1 =>
    some (y1, 0)
   else
    (sub l1 1 l1.length).bind fun l2 =>
    (M.anamnesisref12_Row_F kf fn1 l2).bind fun (r3, r4) =>
    if (r4 != 0) then
     some ((Am.Item.mk 0 false), r4)
    else
     (idx l1 0).bind fun y2 =>
     (M.anamnesisref12_Two fn1 y2 r3).bind fun (r5, r6) =>
     some (r5, r6)
noncomputable def M.anamnesisref12_Row (fn1 : ByteArray) (l1 : (List Am.Item)) : Option (Am.Item × Int) := M.anamnesisref12_Row_F (l1.length + 1) fn1 l1
noncomputable def M.anamnesisref12_Inner_L2 (g1 : ByteArray) (a1 : Val) (b1 : Val) (m1 : Int) (s1 : (List Int)) (r8 : (List Int)) (s : (List Am.Item) × Int) : Option (Ctl ((List Am.Item) × Int) (Ctl ((List Am.Item)) (Ctl (Int × (List Int)) (Ctl ((List Int)) (Val × Int))))) :=
 match s with
 | (l5, i1) =>
  if (decide (i1 < m1)) then
   (sub r8 0 (s1.length : Int)).bind fun l6 =>
   (M.anamnesisref12_element a1 (IntKind.i64.wrap ((a1.Shape.length : Int) - 1)) i1 l6).bind fun r9 =>
   (sub r8 (s1.length : Int) r8.length).bind fun l7 =>
   (M.anamnesisref12_element b1 0 i1 l7).bind fun r10 =>
   (M.anamnesisref12_Two g1 r9 r10).bind fun (r11, r12) =>
   if (r12 != 0) then
    some (.done (.done (.done (.done ((Val.mk false ([]) ([])), r12)))))
   else
    (app 16 l5 ([r11])).bind fun l8 =>
    some (.next (l8, (IntKind.i64.wrap (i1 + 1))))
  else
   some (.done (.next l5))
noncomputable def M.anamnesisref12_Inner_L1 (f1 : ByteArray) (g1 : ByteArray) (a1 : Val) (b1 : Val) (m1 : Int) (s1 : (List Int)) (s2 : (List Int)) (r7 : Int) (s : Int × (List Int)) : Option (Ctl (Int × (List Int)) (Ctl ((List Int)) (Val × Int))) :=
 match s with
 | (k1, Data1) =>
  if (decide (k1 < r7)) then
   (M.anamnesisref07_At s2 k1).bind fun r8 =>
   (wloop (M.anamnesisref12_Inner_L2 g1 a1 b1 m1 s1 r8) ([], 0)).bind fun k => joinK k fun l5 =>
   (M.anamnesisref12_Row f1 l5).bind fun (r13, r14) =>
   if (r14 != 0) then
    some (.done (.done ((Val.mk false ([]) ([])), r14)))
   else
    (app 8 Data1 ([r13.n])).bind fun l9 =>
    some (.next ((IntKind.i64.wrap (k1 + 1)), l9))
  else
   some (.done (.next Data1))
noncomputable def M.anamnesisref12_Inner (f1 : ByteArray) (g1 : ByteArray) (a1 : Val) (b1 : Val) : Option (Val × Int) :=
 (M.anamnesisref02_Right a1).bind fun r1 =>
 (if (!r1) then
 some true else
 (M.anamnesisref02_Right b1).bind fun r2 =>
 some (!r2)).bind fun c1 =>
 if c1 then
  some ((Val.mk false ([]) ([])), 1)
 else
  (M.anamnesisref12_known f1).bind fun r3 =>
  (if (!r3) then
  some true else
  (M.anamnesisref12_known g1).bind fun r4 =>
  some (!r4)).bind fun c2 =>
  if c2 then
   some ((Val.mk false ([]) ([])), 4)
  else
   (M.anamnesisref12_long a1 (IntKind.i64.wrap ((a1.Shape.length : Int) - 1))).bind fun r5 =>
   (M.anamnesisref12_long b1 0).bind fun r6 =>
   if (((r5 != r6) && (r5 != 1)) && (r6 != 1)) then
    some ((Val.mk false ([]) ([])), 25)
   else
    (if (r5 == 1) then
     some r6
    else
     some r5).bind fun m1 =>
    (if (decide ((IntKind.i64.wrap ((a1.Shape.length : Int) - 1)) ≥ 0)) then
     (sub a1.Shape 0 (IntKind.i64.wrap ((a1.Shape.length : Int) - 1))).bind fun l1 =>
     (app 8 ([]) l1).bind fun l2 =>
     some l2
    else
     some []).bind fun s1 =>
    (if (decide ((b1.Shape.length : Int) > 0)) then
     (sub b1.Shape 1 b1.Shape.length).bind fun l3 =>
     (app 8 s1 l3).bind fun l4 =>
     some l4
    else
     some s1).bind fun s2 =>
    if (decide ((s2.length : Int) > 4)) then
     some ((Val.mk false ([]) ([])), 24)
    else
     (M.anamnesisref07_Size s2).bind fun r7 =>
     if ((decide (r7 < 0)) || (decide ((IntKind.i64.wrap (r7 * m1)) > 1000000))) then
      some ((Val.mk false ([]) ([])), 27)
     else
      (wloop (M.anamnesisref12_Inner_L1 f1 g1 a1 b1 m1 s1 s2 r7) (0, [])).bind fun k => joinK k fun Data1 =>
      some ((Val.mk false s2 Data1), 0)
noncomputable def M.anamnesisref02_Same_L2 (a1 : Val) (b1 : Val) (s : Int) : Option (Ctl (Int) (Ctl (Unit) (Bool))) :=
 match s with
 | i2 =>
  if (decide (i2 < (a1.Data.length : Int))) then
   (idx a1.Data i2).bind fun y3 =>
   (idx b1.Data i2).bind fun y4 =>
   if (y3 != y4) then
    some (.done (.done false))
   else
    some (.next (IntKind.i64.wrap (i2 + 1)))
  else
   some (.done (.next ()))
noncomputable def M.anamnesisref02_Same_L1 (a1 : Val) (b1 : Val) (s : Int) : Option (Ctl (Int) (Ctl (Unit) (Bool))) :=
 match s with
 | i1 =>
  if (decide (i1 < (a1.Shape.length : Int))) then
   (idx a1.Shape i1).bind fun y1 =>
   (idx b1.Shape i1).bind fun y2 =>
   if (y1 != y2) then
    some (.done (.done false))
   else
    some (.next (IntKind.i64.wrap (i1 + 1)))
  else
   some (.done (.next ()))
noncomputable def M.anamnesisref02_Same (a1 : Val) (b1 : Val) : Option (Bool) :=
 if (((!(a1.Char == b1.Char)) || ((a1.Shape.length : Int) != (b1.Shape.length : Int))) || ((a1.Data.length : Int) != (b1.Data.length : Int))) then
  some false
 else
  (wloop (M.anamnesisref02_Same_L1 a1 b1) 0).bind fun k => joinK k fun _ =>
  (wloop (M.anamnesisref02_Same_L2 a1 b1) 0).bind fun k => joinK k fun _ =>
  some true
noncomputable def M.anamnesislaw12_told (v1 : Val) (e1 : Int) (w1 : Val) (f1 : Int) : Option (Bool) :=
 (if (e1 == f1) then
 (M.anamnesisref02_Same v1 w1).bind fun r1 =>
 some r1 else
 some false).bind fun c1 =>
 some c1
noncomputable def M.anamnesislaw12_OverTwo (f1 : ByteArray) (g1 : ByteArray) (v1 : Val) (w1 : Val) : Option (Bool) :=
 (M.anamnesislaw12_great v1 f1).bind fun r1 =>
 (if r1 then
 some true else
 (M.anamnesislaw12_great w1 g1).bind fun r2 =>
 some r2).bind fun c1 =>
 if c1 then
  some true
 else
  (M.over_Outer f1 v1 w1).bind fun (r3, r4) =>
  (M.anamnesisref12_Outer f1 v1 w1).bind fun (r5, r6) =>
  (M.over_Inner f1 g1 v1 w1).bind fun (r7, r8) =>
  (M.anamnesisref12_Inner f1 g1 v1 w1).bind fun (r9, r10) =>
  (M.anamnesislaw12_told r3 r4 r5 r6).bind fun r11 =>
  (if r11 then
  (M.anamnesislaw12_told r7 r8 r9 r10).bind fun r12 =>
  some r12 else
  some false).bind fun c2 =>
  some (c2 && true)
theorem w64_id {x : Int} (h1 : -9223372036854775808 ≤ x) (h2 : x ≤ 9223372036854775807) : IntKind.i64.wrap x = x := wrap_id h1 h2
theorem u8_mod (x : Int) : IntKind.u8.wrap x = x % 256 := by simp [IntKind.wrap, IntKind.bits, IntKind.signed]
theorem u8_id {x : Int} (h1 : 0 ≤ x) (h2 : x ≤ 255) : IntKind.u8.wrap x = x := by rw [u8_mod]; omega
theorem wloop_ind {σ β : Type} {f : σ → Option (Ctl σ β)} (P : Nat → σ → Prop) (Q : β → Prop)
  (h : ∀ n s, P n s → (∃ s' n', f s = some (.next s') ∧ n' < n ∧ P n' s') ∨ (∃ b, f s = some (.done b) ∧ Q b)) : ∀ n s, P n s → ∃ b, wloop f s = some b ∧ Q b := by
 intro n
 induction n using Nat.strongRecOn with
 | _ n ih =>
  intro s hp
  rcases h n s hp with ⟨s', n', hf, hn, hp'⟩ | ⟨b, hf, hq⟩
  ·obtain ⟨b, hb, hq⟩ := ih n' hn s' hp'
   exact ⟨b, by rw [wloop_next hf]; exact hb, hq⟩
  ·exact ⟨b, wloop_done hf, hq⟩
theorem idx_nat {α : Type} (l : List α) (k : Nat) : idx l (k : Int) = l[k]? := by
 unfold idx; rw [if_pos (by omega)]; rfl
theorem idx_get {α : Type} {l : List α} {k : Nat} (h : k < l.length) : idx l (k : Int) = some l[k] := by rw [idx_nat, List.getElem?_eq_getElem h]
theorem upd_nat {α : Type} {l : List α} {k : Nat} {x : α} (h : k < l.length) : upd l (k : Int) x = some (l.set k x) := by
 unfold upd; rw [if_pos ⟨by omega, by omega⟩]; rfl
theorem app_ok {α : Type} {b : Nat} {l m : List α} (h : (l.length + m.length) * b ≤ 140737488355328) : app b l m = some (l ++ m) := by
 unfold app; rw [if_pos (.inr h)]
theorem mk_ok {α : Type} {b : Nat} {z : α} {n : Nat} (h : b * n ≤ 140737488355328) (h' : n ≤ 140737488355328) : mk b z (n : Int) (n : Int) = some (List.replicate n z) := by
 unfold mk
 have : ((b : Int) * (n : Int)) ≤ 140737488355328 := by
  have h2 : ((b * n : Nat) : Int) ≤ 140737488355328 := by omega
  rwa [Int.natCast_mul] at h2
 rw [if_pos ⟨by omega, by omega, this, by omega⟩]; rfl
theorem wf64 {n : Int} (h : (Lit.int .i64 n).wf = true) : -9223372036854775808 ≤ n ∧ n ≤ 9223372036854775807 := by
 have h2 : (decide (IntKind.i64.min ≤ n) && decide (n ≤ IntKind.i64.max)) = true := h
 have e1 : IntKind.i64.min = -9223372036854775808 := by decide
 have e2 : IntKind.i64.max = 9223372036854775807 := by decide
 rw [e1, e2] at h2
 simpa using h2
theorem sub_drop {α : Type} {l : List α} {k : Nat} (h : k ≤ l.length) : sub l (k : Int) (l.length : Int) = some (l.drop k) := by
 unfold sub
 rw [if_pos ⟨by omega, by omega, by omega⟩]
 simp
theorem drop_cons {α : Type} {l : List α} {k : Nat} (h : k < l.length) : l.drop k = l[k] :: l.drop (k + 1) := List.drop_eq_getElem_cons h
theorem same_loop {f : Int → Option (Ctl Int (Ctl Unit Bool))} {a b : List Int} (hl : a.length = b.length) (hm : a.length ≤ maxLen)
  (hf : ∀ k : Nat, ∀ h : k < a.length, f k = if a[k] = b[k]'(hl ▸ h) then some (.next ((k : Int) + 1)) else some (.done (.done false))) (he : f a.length = some (.done (.next ()))) :
  wloop f 0 = some (if a = b then .next () else .done false) := by
 have key := wloop_ind (f := f) (fun n i => ∃ k : Nat, i = k ∧ k ≤ a.length ∧ n = a.length - k ∧ a.take k = b.take k)
  (fun c => (c = .done false ∧ a ≠ b) ∨ (c = .next () ∧ a = b)) (fun n i h => by
   obtain ⟨k, rfl, hk, rfl, hn⟩ := h
   by_cases hlt : k < a.length
   ·rw [hf k hlt]
    by_cases he : a[k] = b[k]
    ·rw [if_pos he]
     left
     refine ⟨_, a.length - (k + 1), rfl, by omega, k + 1, by omega, by omega, rfl, ?_⟩
     rw [List.take_succ_eq_append_getElem hlt, List.take_succ_eq_append_getElem (by omega), hn, he]
    ·rw [if_neg he]
     right
     refine ⟨_, rfl, .inl ⟨rfl, fun h => he ?_⟩⟩
     subst h; rfl
   ·have : k = a.length := by omega
    subst this
    right
    refine ⟨_, he, .inr ⟨rfl, ?_⟩⟩
    rw [List.take_length, hl, List.take_length] at hn
    exact hn) a.length 0 ⟨0, rfl, by omega, by omega, by simp⟩
 obtain ⟨c, hc, ⟨rfl, h⟩ | ⟨rfl, h⟩⟩ := key
 ·rw [hc]; simp [h]
 ·rw [hc]; simp [h]
theorem loop_up {S τ β : Type} {f : S → Option (Ctl S β)} (st : Nat → τ → S) (n : Nat) (I : Nat → τ → Prop) (out : τ → β) (a : τ) (h0 : I 0 a)
  (hf : ∀ k m, k < n → I k m → ∃ m', f (st k m) = some (.next (st (k + 1) m')) ∧ I (k + 1) m') (he : ∀ m, I n m → f (st n m) = some (.done (out m))) :
  ∃ m, I n m ∧ wloop f (st 0 a) = some (out m) := by
 have key := wloop_ind (f := f) (fun j s => ∃ k m, s = st k m ∧ j = n - k ∧ k ≤ n ∧ I k m) (fun b => ∃ m, b = out m ∧ I n m) (fun j s h => by
  obtain ⟨k, m, rfl, rfl, hk, hi⟩ := h
  by_cases hlt : k < n
  ·left
   obtain ⟨m', h1, h2⟩ := hf k m hlt hi
   exact ⟨_, n - (k + 1), h1, by omega, k + 1, m', rfl, rfl, by omega, h2⟩
  ·have : k = n := by omega
   subst this
   exact .inr ⟨_, he m hi, m, rfl, hi⟩) n (st 0 a) ⟨0, a, rfl, by omega, by omega, h0⟩
 obtain ⟨b, hb, m, rfl, hi⟩ := key
 exact ⟨m, hi, hb⟩
theorem loop_fun {S β : Type} {f : S → Option (Ctl S β)} (st : Nat → S) (n : Nat) {b : β} (hf : ∀ k, k < n → f (st k) = some (.next (st (k + 1)))) (he : f (st n) = some (.done b)) : wloop f (st 0) = some b := by
 obtain ⟨_, _, h⟩ := loop_up (f := f) (fun k (_ : Unit) => st k) n (fun _ _ => True) (fun _ => b) () trivial (fun k m hk _ => ⟨(), hf k hk, trivial⟩) (fun m _ => he)
 exact h
def tab (R C : Nat) (f : Nat → Nat → Int) : List Int := (List.range (R * C)).map fun p => f (p / C) (p % C)
theorem loop_find {S β : Type} {f : S → Option (Ctl S β)} (st : Nat → S) (n : Nat) (bad : Nat → Bool) (b : Nat → β) {c : β}
  (hf : ∀ k, k < n → f (st k) = if bad k then some (.done (b k)) else some (.next (st (k + 1)))) (he : f (st n) = some (.done c)) :
  (∃ k, k < n ∧ bad k = true ∧ (∀ j, j < k → bad j = false) ∧ wloop f (st 0) = some (b k)) ∨ ((∀ k, k < n → bad k = false) ∧ wloop f (st 0) = some c) := by
 obtain ⟨r, hr, hq⟩ := wloop_ind (f := f) (fun m s => ∃ k, s = st k ∧ m = n - k ∧ k ≤ n ∧ ∀ j, j < k → bad j = false)
  (fun r => (∃ k, k < n ∧ bad k = true ∧ (∀ j, j < k → bad j = false) ∧ r = b k) ∨ ((∀ k, k < n → bad k = false) ∧ r = c)) (fun m s h => by
   obtain ⟨k, rfl, rfl, hk, hj⟩ := h
   by_cases hlt : k < n
   ·have := hf k hlt
    cases hb : bad k
    ·rw [hb] at this
     refine .inl ⟨_, n - (k + 1), this, by omega, k + 1, rfl, rfl, by omega, fun j hj' => ?_⟩
     by_cases he : j = k
     ·subst he; exact hb
     ·exact hj j (by omega)
    ·rw [hb] at this
     exact .inr ⟨_, this, .inl ⟨k, hlt, hb, hj, rfl⟩⟩
   ·have : k = n := by omega
    subst this
    exact .inr ⟨_, he, .inr ⟨hj, rfl⟩⟩) n (st 0) ⟨0, rfl, by omega, by omega, fun j h => by omega⟩
 rcases hq with ⟨k, h1, h2, h3, rfl⟩ | ⟨h1, rfl⟩
 ·exact .inl ⟨k, h1, h2, h3, hr⟩
 ·exact .inr ⟨h1, hr⟩
theorem contains_int {s : List Int} {f : Int → Option Bool} {g : Int → Bool} (hf : ∀ x ∈ s, f x = some (g x)) (hl : s.length ≤ 4611686018427387904) : M.slices_ContainsFunc__int s f = some (s.any g) := by
 have key := wloop_ind (f := M.slices_IndexFunc__int_L1 s f) (fun n i => ∃ k : Nat, i = k ∧ k ≤ s.length ∧ n = s.length - k ∧ (s.take k).any g = false)
  (fun b => (∃ i : Int, b = .done i ∧ 0 ≤ i ∧ s.any g = true) ∨ (b = .next () ∧ s.any g = false)) (fun n i h => by
   obtain ⟨k, rfl, hk, rfl, hn⟩ := h
   unfold M.slices_IndexFunc__int_L1
   by_cases hlt : k < s.length
   ·simp only [show decide ((k : Int) < (s.length : Int)) = true from by simp; exact hlt, if_true, idx_get hlt, Option.bind_some, hf _ (List.getElem_mem hlt)]
    cases hg : g s[k] with
    | true =>
     right
     refine ⟨_, rfl, .inl ⟨_, rfl, by omega, ?_⟩⟩
     rw [List.any_eq_true]
     exact ⟨_, List.getElem_mem hlt, hg⟩
    | false =>
     left
     refine ⟨_, s.length - (k + 1), rfl, by omega, k + 1, ?_, by omega, rfl, ?_⟩
     ·rw [w64_id (by omega) (by omega)]; omega
     ·rw [List.take_succ_eq_append_getElem hlt, List.any_append, hn]; simp [hg]
   ·have : k = s.length := by omega
    subst this
    right
    simp only [show decide ((s.length : Int) < (s.length : Int)) = false from by simp, Bool.false_eq_true, if_false]
    exact ⟨_, rfl, .inr ⟨rfl, by simpa using hn⟩⟩) s.length 0 ⟨0, rfl, by omega, by omega, by simp⟩
 unfold M.slices_ContainsFunc__int M.slices_IndexFunc__int
 obtain ⟨b, hb, ⟨i, rfl, h0, ha⟩ | ⟨rfl, ha⟩⟩ := key
 ·rw [hb, ha]; simp [h0]
 ·rw [hb, ha]; simp
theorem contains_int64 {s : List Int} {f : Int → Option Bool} {g : Int → Bool} (hf : ∀ x ∈ s, f x = some (g x)) (hl : s.length ≤ 9223372036854775807) : M.slices_ContainsFunc__int64 s f = some (s.any g) := by
 have key := wloop_ind (f := M.slices_IndexFunc__int64_L1 s f) (fun n i => ∃ k : Nat, i = k ∧ k ≤ s.length ∧ n = s.length - k ∧ (s.take k).any g = false)
  (fun b => (∃ i : Int, b = .done i ∧ 0 ≤ i ∧ s.any g = true) ∨ (b = .next () ∧ s.any g = false)) (fun n i h => by
   obtain ⟨k, rfl, hk, rfl, hn⟩ := h
   unfold M.slices_IndexFunc__int64_L1
   by_cases hlt : k < s.length
   ·simp only [show decide ((k : Int) < (s.length : Int)) = true from by simp; exact hlt, if_true, idx_get hlt, Option.bind_some, hf _ (List.getElem_mem hlt)]
    cases hg : g s[k] with
    | true =>
     right
     refine ⟨_, rfl, .inl ⟨_, rfl, by omega, ?_⟩⟩
     rw [List.any_eq_true]
     exact ⟨_, List.getElem_mem hlt, hg⟩
    | false =>
     left
     refine ⟨_, s.length - (k + 1), rfl, by omega, k + 1, ?_, by omega, rfl, ?_⟩
     ·rw [w64_id (by omega) (by omega)]; omega
     ·rw [List.take_succ_eq_append_getElem hlt, List.any_append, hn]; simp [hg]
   ·have : k = s.length := by omega
    subst this
    right
    simp only [show decide ((s.length : Int) < (s.length : Int)) = false from by simp, Bool.false_eq_true, if_false]
    exact ⟨_, rfl, .inr ⟨rfl, by simpa using hn⟩⟩) s.length 0 ⟨0, rfl, by omega, by omega, by simp⟩
 unfold M.slices_ContainsFunc__int64 M.slices_IndexFunc__int64
 obtain ⟨b, hb, ⟨i, rfl, h0, ha⟩ | ⟨rfl, ha⟩⟩ := key
 ·rw [hb, ha]; simp [h0]
 ·rw [hb, ha]; simp
theorem contains_Val {s : List Val} {f : Val → Option Bool} {g : Val → Bool} (hf : ∀ x ∈ s, f x = some (g x)) (hl : s.length ≤ 4611686018427387904) : M.slices_ContainsFunc__Value s f = some (s.any g) := by
 have key := wloop_ind (f := M.slices_IndexFunc__Value_L1 s f) (fun n i => ∃ k : Nat, i = k ∧ k ≤ s.length ∧ n = s.length - k ∧ (s.take k).any g = false)
  (fun b => (∃ i : Int, b = .done i ∧ 0 ≤ i ∧ s.any g = true) ∨ (b = .next () ∧ s.any g = false)) (fun n i h => by
   obtain ⟨k, rfl, hk, rfl, hn⟩ := h
   unfold M.slices_IndexFunc__Value_L1
   by_cases hlt : k < s.length
   ·simp only [show decide ((k : Int) < (s.length : Int)) = true from by simp; exact hlt, if_true, idx_get hlt, Option.bind_some, hf _ (List.getElem_mem hlt)]
    cases hg : g s[k] with
    | true =>
     right
     refine ⟨_, rfl, .inl ⟨_, rfl, by omega, ?_⟩⟩
     rw [List.any_eq_true]
     exact ⟨_, List.getElem_mem hlt, hg⟩
    | false =>
     left
     refine ⟨_, s.length - (k + 1), rfl, by omega, k + 1, ?_, by omega, rfl, ?_⟩
     ·rw [w64_id (by omega) (by omega)]; omega
     ·rw [List.take_succ_eq_append_getElem hlt, List.any_append, hn]; simp [hg]
   ·have : k = s.length := by omega
    subst this
    right
    simp only [show decide ((s.length : Int) < (s.length : Int)) = false from by simp, Bool.false_eq_true, if_false]
    exact ⟨_, rfl, .inr ⟨rfl, by simpa using hn⟩⟩) s.length 0 ⟨0, rfl, by omega, by omega, by simp⟩
 unfold M.slices_ContainsFunc__Value M.slices_IndexFunc__Value
 obtain ⟨b, hb, ⟨i, rfl, h0, ha⟩ | ⟨rfl, ha⟩⟩ := key
 ·rw [hb, ha]; simp [h0]
 ·rw [hb, ha]; simp
def prod : List Int → Int
 | [] => 1
 | x :: s => x * prod s
def off : List Int → List Int → Int
 | x :: s, a :: at_ => a * prod s + off s at_
 | _, _ => 0
def dig : List Int → Int → List Int
 | [], _ => []
 | _ :: s, k => k / prod s :: dig s (k % prod s)
def inShape : List Int → List Int → Prop
 | [], [] => True
 | x :: s, a :: at_ => 0 ≤ a ∧ a < x ∧ inShape s at_
 | _, _ => False
instance : (s at_ : List Int) → Decidable (inShape s at_)
 | [], [] => isTrue trivial
 | x :: s, a :: at_ =>
  have := instDecidableInShape s at_
  by unfold inShape; exact inferInstance
 | [], _ :: _ => isFalse (fun h => h)
 | _ :: _, [] => isFalse (fun h => h)
theorem inShape.len : ∀ {s at_ : List Int}, inShape s at_ → at_.length = s.length
 | [], [], _ => rfl
 | x :: s, a :: at_, ⟨_, _, h⟩ => by simp [h.len]
 | [], _ :: _, h => h.elim
 | _ :: _, [], h => h.elim
theorem inShape.pos : ∀ {s at_ : List Int}, inShape s at_ → 0 < prod s
 | [], [], _ => by simp [prod]
 | x :: s, a :: at_, ⟨h0, h1, h⟩ => by
  have := h.pos
  exact Int.mul_pos (by omega) this
 | [], _ :: _, h => h.elim
 | _ :: _, [], h => h.elim
theorem off_range : ∀ {s at_ : List Int}, inShape s at_ → 0 ≤ off s at_ ∧ off s at_ < prod s
 | [], [], _ => by simp [prod, off]
 | x :: s, a :: at_, ⟨h0, h1, h⟩ => by
  have h2 := off_range h
  have h3 := h.pos
  have h4 : (a + 1) * prod s ≤ x * prod s := Int.mul_le_mul_of_nonneg_right (by omega) (by omega)
  have h5 : 0 ≤ a * prod s := Int.mul_nonneg h0 (by omega)
  rw [Int.add_mul] at h4
  simp only [prod, off]
  omega
 | [], _ :: _, h => h.elim
 | _ :: _, [], h => h.elim
def allPos (s : List Int) : Prop := ∀ x ∈ s, 0 < x
theorem allPos.pprod : ∀ {s : List Int}, allPos s → 0 < prod s
 | [], _ => by simp [prod]
 | x :: s, h => Int.mul_pos (h x List.mem_cons_self) (allPos.pprod fun y hy => h y (List.mem_cons_of_mem _ hy))
theorem allPos_of {s : List Int} (h : ∀ x ∈ s, 0 ≤ x) (hp : 0 < prod s) : allPos s := by
 intro x hx
 have h0 := h x hx
 rcases Int.lt_or_eq_of_le h0 with h1 | h1
 ·exact h1
 ·exfalso
  have : ∀ s : List Int, (0 : Int) ∈ s → prod s = 0 := by
   intro s
   induction s with
   | nil => intro h; simp at h
   | cons y s ih =>
    intro h
    rcases List.mem_cons.mp h with h | h
    ·simp [prod, ← h]
    ·simp [prod, ih h]
  rw [this s (h1 ▸ hx)] at hp
  omega
theorem dig_in : ∀ {s : List Int} {k : Int}, allPos s → 0 ≤ k → k < prod s → inShape s (dig s k)
 | [], k, _, h0, h1 => trivial
 | x :: s, k, h, h0, h1 => by
  have hs : allPos s := fun y hy => h y (List.mem_cons_of_mem _ hy)
  have hp := hs.pprod
  refine ⟨Int.ediv_nonneg h0 (by omega), ?_, dig_in hs (Int.emod_nonneg _ (by omega)) (Int.emod_lt_of_pos _ hp)⟩
  exact Int.ediv_lt_of_lt_mul hp h1
theorem off_dig : ∀ {s : List Int} {k : Int}, allPos s → 0 ≤ k → k < prod s → off s (dig s k) = k
 | [], k, _, h0, h1 => by simp [prod] at h1; simp [dig, off]; omega
 | x :: s, k, h, h0, h1 => by
  have hs : allPos s := fun y hy => h y (List.mem_cons_of_mem _ hy)
  have hp := hs.pprod
  simp only [dig, off]
  rw [off_dig hs (Int.emod_nonneg _ (by omega)) (Int.emod_lt_of_pos _ hp)]
  rw [Int.mul_comm]; exact Int.mul_ediv_add_emod k (prod s)
theorem dig_len : ∀ (s : List Int) (k : Int), (dig s k).length = s.length
 | [], _ => rfl
 | x :: s, k => by simp [dig, dig_len s]
theorem prod_nonneg : ∀ {s : List Int}, (∀ x ∈ s, 0 ≤ x) → 0 ≤ prod s
 | [], _ => by simp [prod]
 | x :: s, h => Int.mul_nonneg (h x List.mem_cons_self) (prod_nonneg fun y hy => h y (List.mem_cons_of_mem _ hy))
theorem prod_append : ∀ (s t : List Int), prod (s ++ t) = prod s * prod t
 | [], t => by simp [prod]
 | x :: s, t => by simp [prod, prod_append s t, Int.mul_assoc]
def shSize (s : List Int) : Int × Int :=
 if 4 < s.length then (0, 24) else if s.any (fun x => decide (x < 0)) then (0, 1) else if s.any (fun x => decide (x > 10000)) || decide (prod s > 10000) then (0, 27) else (prod s, 0)
def shOk (s : List Int) : Prop := s.length ≤ 4 ∧ (∀ x ∈ s, 0 ≤ x ∧ x ≤ 10000) ∧ prod s ≤ 10000
instance (s : List Int) : Decidable (shOk s) := by unfold shOk; exact inferInstance
theorem shSize_ok {s : List Int} (h : shOk s) : shSize s = (prod s, 0) := by
 obtain ⟨h1, h2, h3⟩ := h
 unfold shSize
 rw [if_neg (by omega), if_neg, if_neg]
 ·simp only [Bool.or_eq_true, List.any_eq_true, decide_eq_true_eq]
  rintro (⟨x, hx, h⟩ | h)
  ·have := h2 x hx; omega
  ·omega
 ·simp only [List.any_eq_true, decide_eq_true_eq]
  rintro ⟨x, hx, h⟩
  have := h2 x hx; omega
theorem shSize_zero {s : List Int} : (shSize s).2 = 0 ↔ shOk s := by
 constructor
 ·intro h
  unfold shSize at h
  split at h
  ·cases h
  ·rename_i h1
   split at h
   ·cases h
   ·rename_i h2
    split at h
    ·cases h
    ·rename_i h3
     simp only [List.any_eq_true, decide_eq_true_eq, not_exists, not_and] at h2
     simp only [Bool.or_eq_true, List.any_eq_true, decide_eq_true_eq, not_or, not_exists, not_and] at h3
     exact ⟨by omega, fun x hx => ⟨by have := h2 x hx; omega, by have := h3.1 x hx; omega⟩, by omega⟩
 ·intro h; rw [shSize_ok h]
theorem shSize_cases (s : List Int) : (shOk s ∧ shSize s = (prod s, 0)) ∨ (¬ shOk s ∧ (shSize s).2 ≠ 0 ∧ (shSize s).1 = 0) := by
 by_cases h : shOk s
 ·exact .inl ⟨h, shSize_ok h⟩
 ·refine .inr ⟨h, fun hh => h (shSize_zero.mp hh), ?_⟩
  unfold shSize
  split
  ·rfl
  ·rename_i h1
   split
   ·rfl
   ·rename_i h2
    split
    ·rfl
    ·rename_i h3
     exfalso; apply h
     simp only [List.any_eq_true, decide_eq_true_eq, not_exists, not_and] at h2
     simp only [Bool.or_eq_true, List.any_eq_true, decide_eq_true_eq, not_or, not_exists, not_and] at h3
     exact ⟨by omega, fun x hx => ⟨by have := h2 x hx; omega, by have := h3.1 x hx; omega⟩, by omega⟩
theorem one_le_pow : ∀ k : Nat, (1 : Int) ≤ 10000 ^ k
 | 0 => by simp
 | k + 1 => by rw [Int.pow_succ]; have := one_le_pow k; omega
theorem prod_bound : ∀ (s : List Int) (k : Nat), s.length ≤ k → (∀ x ∈ s, 0 ≤ x ∧ x ≤ 10000) → 0 ≤ prod s ∧ prod s ≤ 10000 ^ k
 | [], k, _, _ => ⟨by simp [prod], one_le_pow k⟩
 | x :: s, k + 1, hl, h => by
  have h1 := h x List.mem_cons_self
  have h2 := prod_bound s k (by simpa using hl) (fun y hy => h y (List.mem_cons_of_mem _ hy))
  refine ⟨Int.mul_nonneg h1.1 h2.1, ?_⟩
  simp only [prod]
  have h3 : x * prod s ≤ 10000 * prod s := Int.mul_le_mul_of_nonneg_right h1.2 h2.1
  have h4 : (10000 : Int) ^ (k + 1) = 10000 ^ k * 10000 := Int.pow_succ _ _
  omega
 | x :: s, 0, hl, h => by simp at hl
theorem product_eq {s : List Int} (hl : s.length ≤ 4) (hb : ∀ x ∈ s, 0 ≤ x ∧ x ≤ 10000) : M.shape_product s = some (prod s) := by
 have key := wloop_ind (f := M.shape_product_L1 s) (fun n st => ∃ k : Nat, st = (prod (s.take k), (k : Int)) ∧ k ≤ s.length ∧ n = s.length - k)
  (fun b => b = .next (prod s)) (fun n st h => by
   obtain ⟨k, rfl, hk, rfl⟩ := h
   unfold M.shape_product_L1
   by_cases hlt : k < s.length
   ·left
    simp only [show decide ((k : Int) < (s.length : Int)) = true from by simp; exact hlt, if_true, idx_get hlt, Option.bind_some]
    have e : prod (s.take k) * s[k] = prod (s.take (k + 1)) := by
     rw [List.take_succ_eq_append_getElem hlt, prod_append]; simp [prod]
    have hp := prod_bound (s.take (k + 1)) 4 (by rw [List.length_take]; omega) (fun x hx => hb x (List.mem_of_mem_take hx))
    refine ⟨_, s.length - (k + 1), rfl, by omega, k + 1, ?_, by omega, rfl⟩
    rw [e, w64_id (by omega) (by omega), w64_id (by omega) (by omega)]
    simp
   ·have : k = s.length := by omega
    subst this
    right
    simp)
  s.length (1, 0) ⟨0, by simp [prod], by omega, by omega⟩
 obtain ⟨b, hb, rfl⟩ := key
 unfold M.shape_product
 rw [hb]; rfl
theorem shape_Size_eq {s : List Int} (hl : s.length ≤ maxLen) : M.shape_Size s = some (shSize s) := by
 have hm : maxLen = 9223372036854775807 := rfl
 unfold M.shape_Size shSize
 by_cases h4 : 4 < s.length
 ·rw [if_pos h4, if_pos (by simp; omega)]
 ·rw [if_neg h4, if_neg (by simp; omega)]
  rw [contains_int (s := s) (f := fun x0 => M.shape_Size_1 x0) (g := fun x => decide (x < 0)) (fun x _ => rfl) (by omega), Option.bind_some]
  cases hneg : s.any (fun x => decide (x < 0)) with
  | true => simp
  | false =>
   simp only [Bool.false_eq_true, if_false]
   rw [contains_int (s := s) (f := fun x0 => M.shape_Size_2 x0) (g := fun x => decide (x > 10000)) (fun x _ => rfl) (by omega), Option.bind_some]
   cases hbig : s.any (fun x => decide (x > 10000)) with
   | true => simp
   | false =>
    have hb : ∀ x ∈ s, 0 ≤ x ∧ x ≤ 10000 := by
     intro x hx
     simp only [List.any_eq_false, decide_eq_true_eq] at hneg hbig
     have := hneg x hx; have := hbig x hx; omega
    simp only [Bool.false_eq_true, if_false, product_eq (by omega) hb, Option.bind_some, Bool.false_or]
    split <;> simp_all
theorem sized_eq {s : List Int} (hl : s.length ≤ maxLen) : M.shape_sized s = some ((shSize s).2 == 0) := by
 unfold M.shape_sized; rw [shape_Size_eq hl]; rfl
def chOk (c : Int) : Bool := decide (0 ≤ c ∧ c ≤ 1114111) && !decide (55296 ≤ c ∧ c ≤ 57343)
def vRight (v : Val) : Bool := decide (shOk v.Shape) && decide (prod v.Shape = v.Data.length) && (!v.Char || v.Data.all chOk)
def vSame (a b : Val) : Bool := (a.Char == b.Char) && decide (a.Shape = b.Shape) && decide (a.Data = b.Data)
theorem vSame_iff {a b : Val} : vSame a b = true ↔ a = b := by
 obtain ⟨c, s, d⟩ := a
 obtain ⟨c', s', d'⟩ := b
 simp only [vSame, Bool.and_eq_true, beq_iff_eq, decide_eq_true_eq, Val.mk.injEq]
 constructor
 ·rintro ⟨⟨h1, h2⟩, h3⟩; exact ⟨h1, h2, h3⟩
 ·rintro ⟨h1, h2, h3⟩; exact ⟨⟨h1, h2⟩, h3⟩
theorem vSame_refl (a : Val) : vSame a a = true := vSame_iff.mpr rfl
theorem vRight_iff {v : Val} : vRight v = true ↔ shOk v.Shape ∧ prod v.Shape = v.Data.length ∧ (v.Char = true → ∀ c ∈ v.Data, chOk c = true) := by
 simp only [vRight, Bool.and_eq_true, decide_eq_true_eq, Bool.or_eq_true, Bool.not_eq_true', List.all_eq_true]
 constructor
 ·rintro ⟨⟨h1, h2⟩, h3⟩
  refine ⟨h1, h2, fun h => ?_⟩
  rcases h3 with h3 | h3
  ·rw [h3] at h; cases h
  ·exact h3
 ·rintro ⟨h1, h2, h3⟩
  refine ⟨⟨h1, h2⟩, ?_⟩
  cases h : v.Char with
  | true => exact .inr (h3 h)
  | false => exact .inl rfl
theorem right_loop {f : Int × Int → Option (Ctl (Int × Int) (Ctl Int Bool))} {s : List Int} (h4 : s.length ≤ 4)
  (hf : ∀ k : Nat, ∀ h : k < s.length, ∀ z, f (z, (k : Int)) = if s[k] < 0 ∨ s[k] > 10000 then some (.done (.done false)) else some (.next (IntKind.i64.wrap (z * s[k]), (k : Int) + 1)))
  (he : ∀ z, f (z, (s.length : Int)) = some (.done (.next z))) :
  ((∀ x ∈ s, 0 ≤ x ∧ x ≤ 10000) ∧ wloop f (1, 0) = some (.next (prod s))) ∨ (¬ (∀ x ∈ s, 0 ≤ x ∧ x ≤ 10000) ∧ wloop f (1, 0) = some (.done false)) := by
 have key := wloop_ind (f := f) (fun n st => ∃ k : Nat, n = s.length - k ∧ k ≤ s.length ∧ st = (prod (s.take k), (k : Int)) ∧ ∀ x ∈ s.take k, 0 ≤ x ∧ x ≤ 10000)
  (fun b => (b = .next (prod s) ∧ ∀ x ∈ s, 0 ≤ x ∧ x ≤ 10000) ∨ (b = .done false ∧ ¬ ∀ x ∈ s, 0 ≤ x ∧ x ≤ 10000)) (fun n st h => by
   obtain ⟨k, rfl, hk, rfl, hall⟩ := h
   by_cases hlt : k < s.length
   ·rw [hf k hlt]
    by_cases hb : s[k] < 0 ∨ s[k] > 10000
    ·rw [if_pos hb]
     right
     refine ⟨_, rfl, .inr ⟨rfl, fun hh => ?_⟩⟩
     have := hh _ (List.getElem_mem hlt); omega
    ·rw [if_neg hb]
     left
     have e := List.take_succ_eq_append_getElem hlt
     have hall2 : ∀ x ∈ s.take (k + 1), 0 ≤ x ∧ x ≤ 10000 := by
      intro x hx
      rw [e] at hx
      rcases List.mem_append.mp hx with hx | hx
      ·exact hall x hx
      ·rw [List.mem_singleton.mp hx]; omega
     have hp := prod_bound (s.take (k + 1)) 4 (by rw [List.length_take]; omega) hall2
     have e2 : prod (s.take (k + 1)) = prod (s.take k) * s[k] := by rw [e, prod_append]; simp [prod]
     refine ⟨_, s.length - (k + 1), rfl, by omega, k + 1, rfl, by omega, ?_, hall2⟩
     rw [← e2, w64_id (by omega) (by omega)]; simp
   ·have : k = s.length := by omega
    subst this
    rw [he]
    rw [List.take_length] at hall ⊢
    exact .inr ⟨_, rfl, .inl ⟨rfl, hall⟩⟩)
  s.length (1, 0) ⟨0, by omega, by omega, by simp [prod], by simp⟩
 obtain ⟨b, hb, ⟨rfl, h⟩ | ⟨rfl, h⟩⟩ := key
 ·exact .inl ⟨h, hb⟩
 ·exact .inr ⟨h, hb⟩
theorem all_loop {f : Int → Option (Ctl Int (Ctl Unit Bool))} {l : List Int} {p : Int → Bool}
  (hf : ∀ k : Nat, ∀ h : k < l.length, f k = if p l[k] = true then some (.next ((k : Int) + 1)) else some (.done (.done false))) (he : f l.length = some (.done (.next ()))) :
  wloop f 0 = some (if l.all p = true then .next () else .done false) := by
 have key := wloop_ind (f := f) (fun n i => ∃ k : Nat, i = k ∧ k ≤ l.length ∧ n = l.length - k ∧ (l.take k).all p = true)
  (fun c => (c = .done false ∧ l.all p = false) ∨ (c = .next () ∧ l.all p = true)) (fun n i h => by
   obtain ⟨k, rfl, hk, rfl, hn⟩ := h
   by_cases hlt : k < l.length
   ·rw [hf k hlt]
    by_cases hp : p l[k] = true
    ·rw [if_pos hp]
     left
     refine ⟨_, l.length - (k + 1), rfl, by omega, k + 1, by omega, by omega, rfl, ?_⟩
     rw [List.take_succ_eq_append_getElem hlt, List.all_append, hn]; simp [hp]
    ·rw [if_neg hp]
     right
     refine ⟨_, rfl, .inl ⟨rfl, ?_⟩⟩
     rw [List.all_eq_false]
     exact ⟨_, List.getElem_mem hlt, hp⟩
   ·have : k = l.length := by omega
    subst this
    right
    rw [List.take_length] at hn
    exact ⟨_, he, .inr ⟨rfl, hn⟩⟩) l.length 0 ⟨0, rfl, by omega, by omega, by simp⟩
 obtain ⟨c, hc, ⟨rfl, h⟩ | ⟨rfl, h⟩⟩ := key
 ·rw [hc, h]; simp
 ·rw [hc, h]; simp
theorem w32_id {x : Int} (h1 : 0 ≤ x) (h2 : x ≤ 1114111) : IntKind.i32.wrap x = x := by
 have e : IntKind.i32.wrap x = if x % 4294967296 ≥ 2147483648 then x % 4294967296 - 4294967296 else x % 4294967296 := by
  simp [IntKind.wrap, IntKind.bits, IntKind.signed]
 rw [e]
 split <;> omega
theorem character_eq (c : Int) : M.value_character c = some (chOk c) := by
 unfold M.value_character chOk
 by_cases h : 0 ≤ c ∧ c ≤ 1114111
 ·have e : (decide (c ≥ 0) && decide (c ≤ 1114111)) = true := by simp; omega
  simp only [e, if_true, h, and_self, decide_true, Bool.true_and]
  rw [w32_id h.1 h.2]
  unfold M.unicode_utf8_ValidRune
  by_cases h1 : c < 55296
  ·have e1 : (decide (0 ≤ c) && decide (c < 55296)) = true := by simp; omega
   have e2 : decide (55296 ≤ c ∧ c ≤ 57343) = false := decide_eq_false (by omega)
   simp only [e1, e2, if_true, Option.bind_some, Bool.not_false]
  ·have e1 : (decide (0 ≤ c) && decide (c < 55296)) = false := by simp; omega
   simp only [e1, Bool.false_eq_true, if_false]
   by_cases h2 : 57343 < c
   ·have e3 : (decide (57343 < c) && decide (c ≤ 1114111)) = true := by simp; omega
    have e2 : decide (55296 ≤ c ∧ c ≤ 57343) = false := decide_eq_false (by omega)
    simp only [e3, e2, if_true, Option.bind_some, Bool.not_false]
   ·have e3 : (decide (57343 < c) && decide (c ≤ 1114111)) = false := by simp; omega
    have e2 : decide (55296 ≤ c ∧ c ≤ 57343) = true := decide_eq_true (by omega)
    simp only [e3, e2, Bool.false_eq_true, if_false, Option.bind_some, Bool.not_true]
 ·have e : (decide (c ≥ 0) && decide (c ≤ 1114111)) = false := by simp; omega
  simp only [e, Bool.false_eq_true, if_false, h, decide_false, Bool.false_and, Option.bind_some]
theorem value_Right_eq {v : Val} (hd : v.Data.length ≤ 9223372036854775807) : M.value_Right v = some (vRight v) := by
 unfold M.value_Right
 by_cases h4 : 4 < v.Shape.length
 ·rw [if_pos (by simp; omega)]
  have : vRight v = false := by
   cases h : vRight v with
   | false => rfl
   | true => have := (vRight_iff.mp h).1.1; omega
  rw [this]
 ·rw [if_neg (by simp; omega)]
  have hloop := right_loop (f := M.value_Right_L1 v) (s := v.Shape) (by omega) (fun k h z => by
   unfold M.value_Right_L1
   simp only [show decide ((k : Int) < (v.Shape.length : Int)) = true from decide_eq_true (by omega), if_true, idx_get h, Option.bind_some]
   by_cases hb : v.Shape[k] < 0 ∨ v.Shape[k] > 10000
   ·rw [if_pos hb, if_pos (by simpa using hb)]
   ·rw [if_neg hb, if_neg (by simpa using hb), w64_id (x := (k : Int) + 1) (by omega) (by omega)]) (fun z => by unfold M.value_Right_L1; simp)
  rcases hloop with ⟨hall, hw⟩ | ⟨hall, hw⟩
  ·rw [hw]
   simp only [Option.bind_some, joinK_next]
   have hp0 : 0 ≤ prod v.Shape := prod_nonneg fun x hx => (hall x hx).1
   by_cases hsz : prod v.Shape ≤ 10000 ∧ prod v.Shape = v.Data.length
   ·have e : (decide (prod v.Shape > 10000) || (prod v.Shape != (v.Data.length : Int))) = false := by simp; omega
    simp only [e, Bool.false_eq_true, if_false]
    have hok : shOk v.Shape := ⟨by omega, hall, hsz.1⟩
    have hv : vRight v = (!v.Char || v.Data.all chOk) := by unfold vRight; simp [hok, hsz.2]
    rw [hv]
    cases hc : v.Char with
    | false => simp
    | true =>
     simp only [Bool.not_true, Bool.false_eq_true, if_false, Bool.false_or]
     rw [contains_int64 (s := v.Data) (f := fun x0 => M.value_Right_1 x0) (g := fun x => !chOk x) (fun x _ => by unfold M.value_Right_1; rw [character_eq]; rfl) hd]
     simp only [Option.bind_some]
     congr 1
     rw [List.not_any_eq_all_not]; simp
   ·have e : (decide (prod v.Shape > 10000) || (prod v.Shape != (v.Data.length : Int))) = true := by
     simp; omega
    simp only [e, if_true]
    have : vRight v = false := by
     cases h : vRight v with
     | false => rfl
     | true => have := vRight_iff.mp h; exact absurd ⟨this.1.2.2, this.2.1⟩ hsz
    rw [this]
  ·rw [hw]
   have : vRight v = false := by
    cases h : vRight v with
    | false => rfl
    | true => exact absurd (vRight_iff.mp h).1.2.1 hall
   rw [this]; rfl
theorem ref02_Right_eq {v : Val} (hd : v.Data.length ≤ 9223372036854775807) : M.anamnesisref02_Right v = some (vRight v) := by
 unfold M.anamnesisref02_Right
 by_cases h4 : 4 < v.Shape.length
 ·rw [if_pos (by simp; omega)]
  have : vRight v = false := by
   cases h : vRight v with
   | false => rfl
   | true => have := (vRight_iff.mp h).1.1; omega
  rw [this]
 ·rw [if_neg (by simp; omega)]
  have hloop := right_loop (f := M.anamnesisref02_Right_L1 v) (s := v.Shape) (by omega) (fun k h z => by
   unfold M.anamnesisref02_Right_L1
   simp only [show decide ((k : Int) < (v.Shape.length : Int)) = true from decide_eq_true (by omega), if_true, idx_get h, Option.bind_some]
   by_cases h0 : v.Shape[k] < 0
   ·simp only [show decide (v.Shape[k] < 0) = true from decide_eq_true h0, if_true, Option.bind_some]
    rw [if_pos (.inl h0)]
   ·simp only [show decide (v.Shape[k] < 0) = false from decide_eq_false h0, Bool.false_eq_true, if_false, Option.bind_some]
    by_cases h1 : v.Shape[k] > 10000
    ·rw [if_pos (by simpa using h1), if_pos (.inr h1)]
    ·rw [if_neg (by simpa using h1), if_neg (by omega), w64_id (x := (k : Int) + 1) (by omega) (by omega)]) (fun z => by unfold M.anamnesisref02_Right_L1; simp)
  have hchars : wloop (M.anamnesisref02_Right_L2 v) 0 = some (if (!v.Char || v.Data.all chOk) = true then .next () else .done false) := by
   cases hc : v.Char with
   | false =>
    simp only [Bool.not_false, Bool.true_or, if_true]
    exact wloop_done (by unfold M.anamnesisref02_Right_L2; simp [hc])
   | true =>
    simp only [Bool.not_true, Bool.false_or]
    refine all_loop (fun k h => ?_) ?_
    ·unfold M.anamnesisref02_Right_L2
     simp only [hc, Bool.and_true, show decide ((k : Int) < (v.Data.length : Int)) = true from decide_eq_true (by omega), if_true, idx_get h, Option.bind_some]
     by_cases hok : chOk v.Data[k] = true
     ·have e : ((decide (v.Data[k] < 0) || decide (v.Data[k] > 1114111)) || (decide (v.Data[k] ≥ 55296) && decide (v.Data[k] ≤ 57343))) = false := by
       unfold chOk at hok
       simp at hok ⊢; omega
      rw [e, if_neg (by simp), if_pos hok, w64_id (by omega) (by omega)]
     ·have e : ((decide (v.Data[k] < 0) || decide (v.Data[k] > 1114111)) || (decide (v.Data[k] ≥ 55296) && decide (v.Data[k] ≤ 57343))) = true := by
       unfold chOk at hok
       simp at hok ⊢; omega
      rw [e, if_pos rfl, if_neg hok]
    ·unfold M.anamnesisref02_Right_L2; simp
  rcases hloop with ⟨hall, hw⟩ | ⟨hall, hw⟩
  ·rw [hw, hchars]
   simp only [Option.bind_some, joinK_next]
   have hok : ∀ b : Bool, (decide (shOk v.Shape) && decide (prod v.Shape = v.Data.length) && b) = ((prod v.Shape == (v.Data.length : Int)) && decide (prod v.Shape ≤ 10000) && b) := by
    intro b
    have : decide (shOk v.Shape) = decide (prod v.Shape ≤ 10000) := by
     by_cases h : prod v.Shape ≤ 10000
     ·rw [decide_eq_true h, decide_eq_true (show shOk v.Shape from ⟨by omega, hall, h⟩)]
     ·rw [decide_eq_false h, decide_eq_false (fun hh : shOk v.Shape => h hh.2.2)]
    rw [this]
    have e2 : (prod v.Shape == (v.Data.length : Int)) = decide (prod v.Shape = v.Data.length) := rfl
    rw [e2]
    cases decide (prod v.Shape ≤ 10000) <;> cases decide (prod v.Shape = (v.Data.length : Int)) <;> rfl
   unfold vRight
   rw [hok]
   cases hcb : (!v.Char || v.Data.all chOk) with
   | true => simp
   | false => simp
  ·rw [hw]
   have : vRight v = false := by
    cases h : vRight v with
    | false => rfl
    | true => exact absurd (vRight_iff.mp h).1.2.1 hall
   rw [this]; rfl
theorem ref02_Same_eq {a b : Val} (hs : a.Shape.length ≤ maxLen) (hd : a.Data.length ≤ maxLen) : M.anamnesisref02_Same a b = some (vSame a b) := by
 have hm : maxLen = 9223372036854775807 := rfl
 unfold M.anamnesisref02_Same
 by_cases hl : (a.Char = b.Char ∧ a.Shape.length = b.Shape.length) ∧ a.Data.length = b.Data.length
 ·obtain ⟨⟨h1, h2⟩, h3⟩ := hl
  rw [if_neg (by simp [h1, h2, h3])]
  have l1 := same_loop (f := M.anamnesisref02_Same_L1 a b) h2 hs (fun k h => by
   unfold M.anamnesisref02_Same_L1
   simp only [show decide ((k : Int) < (a.Shape.length : Int)) = true from decide_eq_true (by omega), if_true, idx_get h, idx_get (show k < b.Shape.length by omega), Option.bind_some]
   by_cases he : a.Shape[k] = b.Shape[k]
   ·rw [if_pos he, if_neg (by simp [he]), w64_id (by omega) (by omega)]
   ·rw [if_neg he, if_pos (by simp [he])]) (by unfold M.anamnesisref02_Same_L1; simp)
  have l2 := same_loop (f := M.anamnesisref02_Same_L2 a b) h3 hd (fun k h => by
   unfold M.anamnesisref02_Same_L2
   simp only [show decide ((k : Int) < (a.Data.length : Int)) = true from decide_eq_true (by omega), if_true, idx_get h, idx_get (show k < b.Data.length by omega), Option.bind_some]
   by_cases he : a.Data[k] = b.Data[k]
   ·rw [if_pos he, if_neg (by simp [he]), w64_id (by omega) (by omega)]
   ·rw [if_neg he, if_pos (by simp [he])]) (by unfold M.anamnesisref02_Same_L2; simp)
  rw [l1, l2]
  unfold vSame
  simp only [h1, BEq.rfl, Bool.true_and]
  by_cases he : a.Shape = b.Shape
  ·rw [if_pos he, decide_eq_true he]
   by_cases hd : a.Data = b.Data
   ·rw [if_pos hd, decide_eq_true hd]; rfl
   ·rw [if_neg hd, decide_eq_false hd]; rfl
  ·rw [if_neg he, decide_eq_false he]; rfl
 ·have e : ((!(a.Char == b.Char) || ((a.Shape.length : Int) != (b.Shape.length : Int))) || ((a.Data.length : Int) != (b.Data.length : Int))) = true := by
   cases hq : ((!(a.Char == b.Char) || ((a.Shape.length : Int) != (b.Shape.length : Int))) || ((a.Data.length : Int) != (b.Data.length : Int))) with
   | true => rfl
   | false =>
    exfalso; apply hl
    simp only [Bool.or_eq_false_iff, Bool.not_eq_false', beq_iff_eq, bne_eq_false_iff_eq] at hq
    obtain ⟨⟨q1, q2⟩, q3⟩ := hq
    exact ⟨⟨q1, by omega⟩, by omega⟩
  rw [if_pos e]
  have : vSame a b = false := by
   cases hq : vSame a b with
   | false => rfl
   | true => have := vSame_iff.mp hq; subst this; simp at hl
  rw [this]
theorem sub_take {α : Type} {l : List α} {k : Nat} (h : k ≤ l.length) : sub l 0 (k : Int) = some (l.take k) := by
 unfold sub
 rw [if_pos ⟨by omega, by omega, by omega⟩]
 simp
def splitOf (s : List Int) (axis : Int) : Int × Int × Int × Bool :=
 if h : shOk s ∧ 0 ≤ axis ∧ axis < s.length then (prod (s.take axis.toNat), s[axis.toNat]'(by omega), prod (s.drop (axis.toNat + 1)), true) else (0, 0, 0, false)
theorem shape_Split_eq {s : List Int} {axis : Int} (hl : s.length ≤ maxLen) (ha : -9223372036854775808 ≤ axis ∧ axis ≤ 9223372036854775807) : M.shape_Split s axis = some (splitOf s axis) := by
 have hm : maxLen = 9223372036854775807 := rfl
 unfold M.shape_Split splitOf
 by_cases hr : 0 ≤ axis ∧ axis < s.length
 ·have e : (decide (axis < 0) || decide (axis ≥ (s.length : Int))) = false := by
   rw [decide_eq_false (by omega), decide_eq_false (by omega)]; rfl
  rw [e, sized_eq hl]
  simp only [Bool.false_eq_true, if_false, Option.bind_some]
  rcases shSize_cases s with ⟨hok, he⟩ | ⟨hok, he, _⟩
  ·obtain ⟨k, rfl⟩ : ∃ k : Nat, axis = k := ⟨axis.toNat, by omega⟩
   have hk : k < s.length := by omega
   have h4 := hok.1
   rw [he, dif_pos ⟨hok, hr⟩]
   simp only [beq_self_eq_true, Bool.not_true, Bool.false_eq_true, if_false]
   rw [sub_take (by omega), Option.bind_some, product_eq (by rw [List.length_take]; omega) (fun x hx => hok.2.1 x (List.mem_of_mem_take hx)), Option.bind_some, idx_get hk, Option.bind_some, w64_id (by omega) (by omega),
    show (k : Int) + 1 = ((k + 1 : Nat) : Int) by omega, sub_drop (by omega), Option.bind_some, product_eq (by rw [List.length_drop]; omega) (fun x hx => hok.2.1 x (List.mem_of_mem_drop hx))]
   rfl
  ·have : ((shSize s).2 == 0) = false := by simpa using he
   rw [this, dif_neg (fun h => hok h.1)]
   rfl
 ·have e : (decide (axis < 0) || decide (axis ≥ (s.length : Int))) = true := by
   simp; omega
  rw [e, dif_neg (fun h => hr h.2)]
  rfl
def wo (s : List Int) (axis : Int) : List Int := if 0 ≤ axis ∧ axis < s.length then s.take axis.toNat ++ s.drop (axis.toNat + 1) else s
theorem prod_split {s : List Int} {k : Nat} (h : k < s.length) : prod s = prod (s.take k) * s[k] * prod (s.drop (k + 1)) := by
 conv => lhs; rw [← List.take_append_drop k s, drop_cons h, prod_append]
 simp only [prod]
 rw [Int.mul_assoc]
theorem u64_mod (x : Int) : IntKind.u64.wrap x = x % 18446744073709551616 := by simp [IntKind.wrap, IntKind.bits, IntKind.signed]
theorem u64_id {x : Int} (h1 : 0 ≤ x) (h2 : x < 18446744073709551616) : IntKind.u64.wrap x = x := by rw [u64_mod]; omega
theorem i64_eq (x : Int) : IntKind.i64.wrap x = if x % 18446744073709551616 ≥ 9223372036854775808 then x % 18446744073709551616 - 18446744073709551616 else x % 18446744073709551616 := by simp [IntKind.wrap, IntKind.bits, IntKind.signed]
theorem i64_range (x : Int) : -9223372036854775808 ≤ IntKind.i64.wrap x ∧ IntKind.i64.wrap x ≤ 9223372036854775807 := by
 rw [i64_eq]; split <;> omega
theorem bv_toNat {x : Int} (h1 : 0 ≤ x) (h2 : x < 18446744073709551616) : (BitVec.ofInt IntKind.u64.bits x).toNat = x.toNat := by
 have : IntKind.u64.bits = 64 := rfl
 rw [this, BitVec.toNat_ofInt]
 congr 1
 show x % 18446744073709551616 = x
 omega
theorem and32 {x : Int} (h1 : 0 ≤ x) (h2 : x < 18446744073709551616) : IntKind.u64.wrap (BitVec.ofInt IntKind.u64.bits x &&& BitVec.ofInt IntKind.u64.bits 4294967295).toNat = x % 4294967296 := by
 rw [BitVec.toNat_and, bv_toNat h1 h2, bv_toNat (by omega) (by omega), show (4294967295 : Int).toNat = 2 ^ 32 - 1 from rfl, Nat.and_two_pow_sub_one_eq_mod, u64_id (by omega) (by omega)]
 omega
theorem shr32 {x : Int} (h1 : 0 ≤ x) : Int.fdiv x (2 ^ (min (Int.toNat 32) IntKind.u64.bits)) = x / 4294967296 := by
 rw [show (2 : Int) ^ (min (Int.toNat 32) IntKind.u64.bits) = 4294967296 from rfl, Int.fdiv_eq_ediv_of_nonneg _ (by omega)]
theorem pair_eq {α β : Type} {a c : α} {b d : β} (h1 : a = c) (h2 : b = d) : (a, b) = (c, d) := by rw [h1, h2]
theorem mul64_eq {x y : Int} (hx : 0 ≤ x) (hx2 : x < 18446744073709551616) (hy : 0 ≤ y) (hy2 : y < 18446744073709551616) :
  M.math_bits_Mul64 x y = some (x * y / 18446744073709551616, x * y % 18446744073709551616) := by
 unfold M.math_bits_Mul64
 rw [and32 hx hx2, and32 hy hy2, shr32 hx, shr32 hy]
 obtain ⟨x1, hx1⟩ : ∃ x1, x1 = x / 4294967296 := ⟨_, rfl⟩
 obtain ⟨x0, hx0⟩ : ∃ x0, x0 = x % 4294967296 := ⟨_, rfl⟩
 obtain ⟨y1, hy1⟩ : ∃ y1, y1 = y / 4294967296 := ⟨_, rfl⟩
 obtain ⟨y0, hy0⟩ : ∃ y0, y0 = y % 4294967296 := ⟨_, rfl⟩
 rw [← hx1, ← hx0, ← hy1, ← hy0]
 have bx1 : 0 ≤ x1 ∧ x1 ≤ 4294967295 := by omega
 have bx0 : 0 ≤ x0 ∧ x0 ≤ 4294967295 := by omega
 have by1 : 0 ≤ y1 ∧ y1 ≤ 4294967295 := by omega
 have by0 : 0 ≤ y0 ∧ y0 ≤ 4294967295 := by omega
 have prodb : ∀ a b : Int, (0 ≤ a ∧ a ≤ 4294967295) → (0 ≤ b ∧ b ≤ 4294967295) → 0 ≤ a * b ∧ a * b ≤ 18446744065119617025 := fun a b ha hb =>
  ⟨Int.mul_nonneg ha.1 hb.1, by have := Int.mul_le_mul ha.2 hb.2 hb.1 (show (0 : Int) ≤ 4294967295 by omega); omega⟩
 have key : x * y = (x1 * y1) * 18446744073709551616 + (x1 * y0) * 4294967296 + (x0 * y1) * 4294967296 + x0 * y0 := by
  have ex : x = x1 * 4294967296 + x0 := by omega
  have ey : y = y1 * 4294967296 + y0 := by omega
  rw [ex, ey]
  grind
 have pA := prodb x1 y1 bx1 by1
 have pB := prodb x1 y0 bx1 by0
 have pC := prodb x0 y1 bx0 by1
 have pD := prodb x0 y0 bx0 by0
 rw [key]
 clear key
 generalize x1 * y1 = A at *
 generalize x1 * y0 = B at *
 generalize x0 * y1 = C at *
 generalize x0 * y0 = D at *
 rw [u64_id (x := A) (by omega) (by omega), u64_id (x := B) (by omega) (by omega), u64_id (x := C) (by omega) (by omega), u64_id (x := D) (by omega) (by omega), shr32 (x := D) (by omega), u64_id (x := B + D / 4294967296) (by omega) (by omega),
  and32 (x := B + D / 4294967296) (by omega) (by omega), shr32 (x := B + D / 4294967296) (by omega), u64_id (x := (B + D / 4294967296) % 4294967296 + C) (by omega) (by omega), shr32 (x := (B + D / 4294967296) % 4294967296 + C) (by omega),
  u64_id (x := A + (B + D / 4294967296) / 4294967296) (by omega) (by omega), u64_id (by omega) (by omega), u64_mod]
 exact congrArg some (pair_eq (by omega) rfl)
def rng (x : Int) : Prop := -9223372036854775808 ≤ x ∧ x ≤ 9223372036854775807
instance (x : Int) : Decidable (rng x) := inferInstanceAs (Decidable (_ ∧ _))
def tl (p : Int × Bool) : Int × Int := if p.2 then (p.1, 0) else (0, 23)
theorem told_eq (c : Int) (ok : Bool) : M.ints_told c ok = some (tl (c, ok)) := by
 unfold M.ints_told tl; cases ok <;> rfl
theorem told_bind (p : Int × Bool) : ((some p).bind fun x => match x with | (c, ok) => (M.ints_told c ok).bind fun y => match y with | (u, v) => some (u, v)) = some (tl p) := by
 obtain ⟨c, ok⟩ := p
 simp only [Option.bind_some, told_eq]
theorem sel_add {a b : Int} {p : Int × Bool} (h : M.ints_add a b = some p) : M.ints_Dyad str_43 a b = some (tl p) := by
 have e : M.ints_Dyad str_43 a b = (M.ints_add a b).bind fun x => match x with | (c, ok) => (M.ints_told c ok).bind fun y => match y with | (u, v) => some (u, v) := by
  unfold M.ints_Dyad M.ints_dyads
  simp only [Option.bind_some]
  iterate 0 rw [if_neg (by decide)]
  rw [if_pos (by decide)]
 rw [e, h, told_bind]
theorem sel_sub {a b : Int} {p : Int × Bool} (h : M.ints_sub a b = some p) : M.ints_Dyad str_45 a b = some (tl p) := by
 have e : M.ints_Dyad str_45 a b = (M.ints_sub a b).bind fun x => match x with | (c, ok) => (M.ints_told c ok).bind fun y => match y with | (u, v) => some (u, v) := by
  unfold M.ints_Dyad M.ints_dyads
  simp only [Option.bind_some]
  iterate 1 rw [if_neg (by decide)]
  rw [if_pos (by decide)]
 rw [e, h, told_bind]
theorem sel_mul {a b : Int} {p : Int × Bool} (h : M.ints_mul a b = some p) : M.ints_Dyad str_195_151 a b = some (tl p) := by
 have e : M.ints_Dyad str_195_151 a b = (M.ints_mul a b).bind fun x => match x with | (c, ok) => (M.ints_told c ok).bind fun y => match y with | (u, v) => some (u, v) := by
  unfold M.ints_Dyad M.ints_dyads
  simp only [Option.bind_some]
  iterate 2 rw [if_neg (by decide)]
  rw [if_pos (by decide)]
 rw [e, h, told_bind]
theorem sel_div {a b : Int} {p : Int × Bool} (h : M.ints_div a b = some p) : M.ints_Dyad str_195_183 a b = some (tl p) := by
 have e : M.ints_Dyad str_195_183 a b = (M.ints_div a b).bind fun x => match x with | (c, ok) => (M.ints_told c ok).bind fun y => match y with | (u, v) => some (u, v) := by
  unfold M.ints_Dyad M.ints_dyads
  simp only [Option.bind_some]
  iterate 3 rw [if_neg (by decide)]
  rw [if_pos (by decide)]
 rw [e, h, told_bind]
theorem sel_power {a b : Int} {p : Int × Bool} (h : M.ints_power a b = some p) : M.ints_Dyad str_42 a b = some (tl p) := by
 have e : M.ints_Dyad str_42 a b = (M.ints_power a b).bind fun x => match x with | (c, ok) => (M.ints_told c ok).bind fun y => match y with | (u, v) => some (u, v) := by
  unfold M.ints_Dyad M.ints_dyads
  simp only [Option.bind_some]
  iterate 4 rw [if_neg (by decide)]
  rw [if_pos (by decide)]
 rw [e, h, told_bind]
theorem sel_residue {a b : Int} {p : Int × Bool} (h : M.ints_residue a b = some p) : M.ints_Dyad str_124 a b = some (tl p) := by
 have e : M.ints_Dyad str_124 a b = (M.ints_residue a b).bind fun x => match x with | (c, ok) => (M.ints_told c ok).bind fun y => match y with | (u, v) => some (u, v) := by
  unfold M.ints_Dyad M.ints_dyads
  simp only [Option.bind_some]
  iterate 5 rw [if_neg (by decide)]
  rw [if_pos (by decide)]
 rw [e, h, told_bind]
theorem sel_choose {a b : Int} {p : Int × Bool} (h : M.ints_choose a b = some p) : M.ints_Dyad str_33 a b = some (tl p) := by
 have e : M.ints_Dyad str_33 a b = (M.ints_choose a b).bind fun x => match x with | (c, ok) => (M.ints_told c ok).bind fun y => match y with | (u, v) => some (u, v) := by
  unfold M.ints_Dyad M.ints_dyads
  simp only [Option.bind_some]
  iterate 6 rw [if_neg (by decide)]
  rw [if_pos (by decide)]
 rw [e, h, told_bind]
theorem sel_dyads_1 {a b : Int} {p : Int × Bool} (h : M.ints_dyads_1 a b = some p) : M.ints_Dyad str_226_140_136 a b = some (tl p) := by
 have e : M.ints_Dyad str_226_140_136 a b = (M.ints_dyads_1 a b).bind fun x => match x with | (c, ok) => (M.ints_told c ok).bind fun y => match y with | (u, v) => some (u, v) := by
  unfold M.ints_Dyad M.ints_dyads
  simp only [Option.bind_some]
  iterate 7 rw [if_neg (by decide)]
  rw [if_pos (by decide)]
 rw [e, h, told_bind]
theorem sel_dyads_2 {a b : Int} {p : Int × Bool} (h : M.ints_dyads_2 a b = some p) : M.ints_Dyad str_226_140_138 a b = some (tl p) := by
 have e : M.ints_Dyad str_226_140_138 a b = (M.ints_dyads_2 a b).bind fun x => match x with | (c, ok) => (M.ints_told c ok).bind fun y => match y with | (u, v) => some (u, v) := by
  unfold M.ints_Dyad M.ints_dyads
  simp only [Option.bind_some]
  iterate 8 rw [if_neg (by decide)]
  rw [if_pos (by decide)]
 rw [e, h, told_bind]
theorem sel_dyads_3 {a b : Int} {p : Int × Bool} (h : M.ints_dyads_3 a b = some p) : M.ints_Dyad str_60 a b = some (tl p) := by
 have e : M.ints_Dyad str_60 a b = (M.ints_dyads_3 a b).bind fun x => match x with | (c, ok) => (M.ints_told c ok).bind fun y => match y with | (u, v) => some (u, v) := by
  unfold M.ints_Dyad M.ints_dyads
  simp only [Option.bind_some]
  iterate 9 rw [if_neg (by decide)]
  rw [if_pos (by decide)]
 rw [e, h, told_bind]
theorem sel_dyads_4 {a b : Int} {p : Int × Bool} (h : M.ints_dyads_4 a b = some p) : M.ints_Dyad str_226_137_164 a b = some (tl p) := by
 have e : M.ints_Dyad str_226_137_164 a b = (M.ints_dyads_4 a b).bind fun x => match x with | (c, ok) => (M.ints_told c ok).bind fun y => match y with | (u, v) => some (u, v) := by
  unfold M.ints_Dyad M.ints_dyads
  simp only [Option.bind_some]
  iterate 10 rw [if_neg (by decide)]
  rw [if_pos (by decide)]
 rw [e, h, told_bind]
theorem sel_dyads_5 {a b : Int} {p : Int × Bool} (h : M.ints_dyads_5 a b = some p) : M.ints_Dyad str_61 a b = some (tl p) := by
 have e : M.ints_Dyad str_61 a b = (M.ints_dyads_5 a b).bind fun x => match x with | (c, ok) => (M.ints_told c ok).bind fun y => match y with | (u, v) => some (u, v) := by
  unfold M.ints_Dyad M.ints_dyads
  simp only [Option.bind_some]
  iterate 11 rw [if_neg (by decide)]
  rw [if_pos (by decide)]
 rw [e, h, told_bind]
theorem sel_dyads_6 {a b : Int} {p : Int × Bool} (h : M.ints_dyads_6 a b = some p) : M.ints_Dyad str_226_137_165 a b = some (tl p) := by
 have e : M.ints_Dyad str_226_137_165 a b = (M.ints_dyads_6 a b).bind fun x => match x with | (c, ok) => (M.ints_told c ok).bind fun y => match y with | (u, v) => some (u, v) := by
  unfold M.ints_Dyad M.ints_dyads
  simp only [Option.bind_some]
  iterate 12 rw [if_neg (by decide)]
  rw [if_pos (by decide)]
 rw [e, h, told_bind]
theorem sel_dyads_7 {a b : Int} {p : Int × Bool} (h : M.ints_dyads_7 a b = some p) : M.ints_Dyad str_62 a b = some (tl p) := by
 have e : M.ints_Dyad str_62 a b = (M.ints_dyads_7 a b).bind fun x => match x with | (c, ok) => (M.ints_told c ok).bind fun y => match y with | (u, v) => some (u, v) := by
  unfold M.ints_Dyad M.ints_dyads
  simp only [Option.bind_some]
  iterate 13 rw [if_neg (by decide)]
  rw [if_pos (by decide)]
 rw [e, h, told_bind]
theorem sel_dyads_8 {a b : Int} {p : Int × Bool} (h : M.ints_dyads_8 a b = some p) : M.ints_Dyad str_226_137_160 a b = some (tl p) := by
 have e : M.ints_Dyad str_226_137_160 a b = (M.ints_dyads_8 a b).bind fun x => match x with | (c, ok) => (M.ints_told c ok).bind fun y => match y with | (u, v) => some (u, v) := by
  unfold M.ints_Dyad M.ints_dyads
  simp only [Option.bind_some]
  iterate 14 rw [if_neg (by decide)]
  rw [if_pos (by decide)]
 rw [e, h, told_bind]
theorem sel_dyads_9 {a b : Int} {p : Int × Bool} (h : M.ints_dyads_9 a b = some p) : M.ints_Dyad str_226_136_167 a b = some (tl p) := by
 have e : M.ints_Dyad str_226_136_167 a b = (M.ints_dyads_9 a b).bind fun x => match x with | (c, ok) => (M.ints_told c ok).bind fun y => match y with | (u, v) => some (u, v) := by
  unfold M.ints_Dyad M.ints_dyads
  simp only [Option.bind_some]
  iterate 15 rw [if_neg (by decide)]
  rw [if_pos (by decide)]
 rw [e, h, told_bind]
theorem sel_dyads_10 {a b : Int} {p : Int × Bool} (h : M.ints_dyads_10 a b = some p) : M.ints_Dyad str_226_136_168 a b = some (tl p) := by
 have e : M.ints_Dyad str_226_136_168 a b = (M.ints_dyads_10 a b).bind fun x => match x with | (c, ok) => (M.ints_told c ok).bind fun y => match y with | (u, v) => some (u, v) := by
  unfold M.ints_Dyad M.ints_dyads
  simp only [Option.bind_some]
  iterate 16 rw [if_neg (by decide)]
  rw [if_pos (by decide)]
 rw [e, h, told_bind]
theorem sel_dyads_11 {a b : Int} {p : Int × Bool} (h : M.ints_dyads_11 a b = some p) : M.ints_Dyad str_226_141_178 a b = some (tl p) := by
 have e : M.ints_Dyad str_226_141_178 a b = (M.ints_dyads_11 a b).bind fun x => match x with | (c, ok) => (M.ints_told c ok).bind fun y => match y with | (u, v) => some (u, v) := by
  unfold M.ints_Dyad M.ints_dyads
  simp only [Option.bind_some]
  iterate 17 rw [if_neg (by decide)]
  rw [if_pos (by decide)]
 rw [e, h, told_bind]
theorem sel_dyads_12 {a b : Int} {p : Int × Bool} (h : M.ints_dyads_12 a b = some p) : M.ints_Dyad str_226_141_177 a b = some (tl p) := by
 have e : M.ints_Dyad str_226_141_177 a b = (M.ints_dyads_12 a b).bind fun x => match x with | (c, ok) => (M.ints_told c ok).bind fun y => match y with | (u, v) => some (u, v) := by
  unfold M.ints_Dyad M.ints_dyads
  simp only [Option.bind_some]
  iterate 18 rw [if_neg (by decide)]
  rw [if_pos (by decide)]
 rw [e, h, told_bind]
theorem dy_add {a b : Int} (ha : rng a) (hb : rng b) : M.ints_Dyad str_43 a b = some (if rng (a + b) then (a + b, 0) else (0, 23)) := by
 unfold rng at ha hb
 rw [sel_add (p := (IntKind.i64.wrap (a + b), (((decide ((IntKind.i64.wrap (a + b)) > a)) == (decide (b > 0))) || (b == 0)))) rfl]
 congr 1
 unfold tl
 simp only []
 by_cases h : rng (a + b)
 ·have h' := h
  unfold rng at h'
  rw [if_pos h, w64_id (by omega) (by omega), if_pos]
  simp only [Bool.or_eq_true, beq_iff_eq]
  by_cases hb0 : b > 0
  ·left; rw [decide_eq_true hb0, decide_eq_true (by omega)]
  ·by_cases hz : b = 0
   ·right; exact hz
   ·left; rw [decide_eq_false hb0, decide_eq_false (by omega)]
 ·have h' := h
  unfold rng at h'
  rw [if_neg h, if_neg]
  have := i64_eq (a + b)
  simp only [Bool.or_eq_true, beq_iff_eq, not_or]
  refine ⟨?_, by omega⟩
  rw [this]
  by_cases hb0 : b > 0
  ·rw [decide_eq_true hb0, decide_eq_false (by split <;> omega)]; simp
  ·rw [decide_eq_false hb0, decide_eq_true (by split <;> omega)]; simp
theorem dy_sub {a b : Int} (ha : rng a) (hb : rng b) : M.ints_Dyad str_45 a b = some (if rng (a - b) then (a - b, 0) else (0, 23)) := by
 unfold rng at ha hb
 rw [sel_sub (p := (IntKind.i64.wrap (a - b), (((decide ((IntKind.i64.wrap (a - b)) < a)) == (decide (b > 0))) || (b == 0)))) rfl]
 congr 1
 unfold tl
 simp only []
 by_cases h : rng (a - b)
 ·have h' := h
  unfold rng at h'
  rw [if_pos h, w64_id (by omega) (by omega), if_pos]
  simp only [Bool.or_eq_true, beq_iff_eq]
  by_cases hb0 : b > 0
  ·left; rw [decide_eq_true hb0, decide_eq_true (by omega)]
  ·by_cases hz : b = 0
   ·right; exact hz
   ·left; rw [decide_eq_false hb0, decide_eq_false (by omega)]
 ·have h' := h
  unfold rng at h'
  rw [if_neg h, if_neg]
  have := i64_eq (a - b)
  simp only [Bool.or_eq_true, beq_iff_eq, not_or]
  refine ⟨?_, by omega⟩
  rw [this]
  by_cases hb0 : b > 0
  ·rw [decide_eq_true hb0, decide_eq_false (by split <;> omega)]; simp
  ·rw [decide_eq_false hb0, decide_eq_true (by split <;> omega)]; simp
def absI (a : Int) : Int := if a < 0 then -a else a
theorem size_eq {a : Int} (ha : rng a) : M.ints_size a = some (absI a) := by
 unfold rng at ha
 unfold M.ints_size absI
 by_cases h : a < 0
 ·rw [if_pos (by simpa using h), if_pos h, u64_mod, u64_mod]; congr 1; omega
 ·rw [if_neg (by simpa using h), if_neg h, u64_id (by omega) (by omega)]
theorem absI_bounds {a : Int} (ha : rng a) : 0 ≤ absI a ∧ absI a ≤ 9223372036854775808 := by
 unfold rng at ha; unfold absI; split <;> omega
theorem absI_mul (a b : Int) : a * b = if (decide (a < 0)) = decide (b < 0) then absI a * absI b else -(absI a * absI b) := by
 unfold absI
 by_cases ha : a < 0 <;> by_cases hb : b < 0 <;> simp [ha, hb, Int.neg_mul, Int.mul_neg]
theorem mul_ok {a b : Int} (ha : rng a) (hb : rng b) : ∃ c, M.ints_mul a b = some (c, decide (rng (a * b))) ∧ (rng (a * b) → c = a * b) := by
 have ba := absI_bounds ha
 have bb := absI_bounds hb
 have hp : 0 ≤ absI a * absI b := Int.mul_nonneg ba.1 bb.1
 unfold M.ints_mul
 rw [size_eq ha, size_eq hb]
 simp only [Option.bind_some]
 rw [mul64_eq ba.1 (by omega) bb.1 (by omega), absI_mul a b]
 generalize absI a * absI b = P at hp
 simp only [Option.bind_some]
 cases hs : (decide (a < 0) == decide (b < 0)) with
 | false =>
  have hne : ¬ (decide (a < 0) = decide (b < 0)) := by simpa using hs
  rw [if_neg hne]
  simp only [Bool.not_false, if_true]
  refine ⟨_, congrArg some (pair_eq rfl ?_), fun hr => ?_⟩
  ·rw [Bool.eq_iff_iff]
   simp only [Bool.and_eq_true, beq_iff_eq, decide_eq_true_eq]
   unfold rng
   omega
  ·unfold rng at hr
   rw [i64_eq (P % _), i64_eq]
   split <;> split <;> omega
 | true =>
  have he : decide (a < 0) = decide (b < 0) := by simpa using hs
  rw [if_pos he]
  simp only [Bool.not_true, Bool.false_eq_true, if_false]
  refine ⟨_, congrArg some (pair_eq rfl ?_), fun hr => ?_⟩
  ·rw [Bool.eq_iff_iff]
   simp only [Bool.and_eq_true, beq_iff_eq, decide_eq_true_eq]
   unfold rng
   omega
  ·unfold rng at hr
   rw [i64_eq]
   split <;> omega
theorem dy_mul {a b : Int} (ha : rng a) (hb : rng b) : M.ints_Dyad str_195_151 a b = some (if rng (a * b) then (a * b, 0) else (0, 23)) := by
 obtain ⟨c, h1, h2⟩ := mul_ok ha hb
 rw [sel_mul h1]
 congr 1
 unfold tl
 by_cases h : rng (a * b)
 ·rw [if_pos h, h2 h]; simp [h]
 ·rw [if_neg h]; simp [h]
def fDiv (a b : Int) : Int × Bool := if a = 0 ∧ b = 0 then (1, true) else if b = 0 ∨ a = -9223372036854775808 ∧ b = -1 then (0, false) else (a.tdiv b, a.tmod b == 0)
theorem tdiv_rng {a b : Int} (ha : rng a) (hb : b ≠ 0) (h : ¬ (a = -9223372036854775808 ∧ b = -1)) : rng (a.tdiv b) := by
 unfold rng at *
 have h1 := Int.natAbs_tdiv_le_natAbs a b
 by_cases hb1 : b = -1
 ·subst hb1
  rw [Int.tdiv_neg, Int.tdiv_one]; omega
 ·by_cases hm : a = -9223372036854775808
  ·by_cases h1' : b = 1
   ·subst h1'; rw [Int.tdiv_one]; omega
   ·have h2 : (a.tdiv b).natAbs = a.natAbs / b.natAbs := Int.natAbs_tdiv a b
    have h3 : a.natAbs / b.natAbs ≤ a.natAbs / 2 := Nat.div_le_div_left (by omega) (by omega)
    omega
  ·omega
theorem div_eq {a b : Int} (ha : rng a) (hb : rng b) : M.ints_div a b = some (fDiv a b) := by
 unfold M.ints_div fDiv
 by_cases h1 : a = 0 ∧ b = 0
 ·rw [if_pos h1, if_pos (by simp [h1.1, h1.2])]
 ·rw [if_neg h1, if_neg (by simp; omega)]
  have e : (if (b == 0) = true then some (b == 0) else some (a == -9223372036854775808 && b == -1)) = some (decide (b = 0 ∨ a = -9223372036854775808 ∧ b = -1)) := by
   by_cases hb0 : b = 0
   ·rw [if_pos (by simpa using hb0), decide_eq_true (.inl hb0)]; simp [hb0]
   ·rw [if_neg (by simpa using hb0)]
    congr 1
    rw [Bool.eq_iff_iff]; simp [hb0]
  rw [e]
  simp only [Option.bind_some]
  by_cases h2 : b = 0 ∨ a = -9223372036854775808 ∧ b = -1
  ·rw [if_pos h2, if_pos (by simpa using h2)]
  ·rw [if_neg h2, if_neg (by simpa using h2)]
   have hb0 : b ≠ 0 := fun h => h2 (.inl h)
   have hr := tdiv_rng ha hb0 (fun h => h2 (.inr h))
   unfold rng at hr
   unfold quoI remI
   rw [if_neg hb0, if_neg hb0, w64_id hr.1 hr.2]; rfl
theorem dy_div {a b : Int} (ha : rng a) (hb : rng b) : M.ints_Dyad str_195_183 a b = some (tl (fDiv a b)) := sel_div (div_eq ha hb)
theorem dy_max (a b : Int) : M.ints_Dyad str_226_140_136 a b = some (if a < b then b else a, 0) := sel_dyads_1 rfl
theorem dy_min (a b : Int) : M.ints_Dyad str_226_140_138 a b = some (if b < a then b else a, 0) := sel_dyads_2 rfl
theorem truth_eq (b : Bool) : ((M.ints_truth b).bind fun x => match x with | (u, v) => some (u, v)) = some (if b then 1 else 0, true) := by cases b <;> rfl
theorem dy_lt (a b : Int) : M.ints_Dyad str_60 a b = some (if a < b then 1 else 0, 0) := by
 rw [sel_dyads_3 (p := (if decide (a < b) then 1 else 0, true)) (truth_eq _)]; simp [tl]
theorem dy_le (a b : Int) : M.ints_Dyad str_226_137_164 a b = some (if a ≤ b then 1 else 0, 0) := by
 rw [sel_dyads_4 (p := (if decide (a ≤ b) then 1 else 0, true)) (truth_eq _)]; simp [tl]
theorem dy_eq (a b : Int) : M.ints_Dyad str_61 a b = some (if a = b then 1 else 0, 0) := by
 rw [sel_dyads_5 (p := (if a == b then 1 else 0, true)) (truth_eq _)]; simp [tl]
theorem dy_ge (a b : Int) : M.ints_Dyad str_226_137_165 a b = some (if b ≤ a then 1 else 0, 0) := by
 rw [sel_dyads_6 (p := (if decide (a ≥ b) then 1 else 0, true)) (truth_eq _)]; simp [tl]
theorem dy_gt (a b : Int) : M.ints_Dyad str_62 a b = some (if b < a then 1 else 0, 0) := by
 rw [sel_dyads_7 (p := (if decide (a > b) then 1 else 0, true)) (truth_eq _)]; simp [tl]
theorem dy_ne (a b : Int) : M.ints_Dyad str_226_137_160 a b = some (if a = b then 0 else 1, 0) := by
 rw [sel_dyads_8 (p := (if a != b then 1 else 0, true)) (truth_eq _)]
 by_cases h : a = b <;> simp [tl, h]
def isbit (a : Int) : Bool := a == 0 || a == 1
theorem bit2 (a b : Int) : ((M.ints_bit a).bind fun r1 => if r1 = true then (M.ints_bit b).bind fun r2 => some r2 else some false) = some (isbit a && isbit b) := by
 unfold M.ints_bit
 show (if isbit a = true then _ else _) = _
 cases isbit a <;> rfl
theorem bit_cases {a b : Int} (h : (isbit a && isbit b) = true) : (a = 0 ∨ a = 1) ∧ (b = 0 ∨ b = 1) := by
 unfold isbit at h; simpa using h
theorem logic_tl {a b v w : Int} (h : (isbit a && isbit b) = true → v = w) : tl (v, isbit a && isbit b) = if isbit a && isbit b then (w, 0) else (0, 23) := by
 unfold tl
 cases hb : (isbit a && isbit b) with
 | false => rfl
 | true => simp [h hb]
theorem dyads_9_eq (a b : Int) : M.ints_dyads_9 a b = some (IntKind.i64.wrap (BitVec.ofInt IntKind.i64.bits a &&& BitVec.ofInt IntKind.i64.bits b).toNat, isbit a && isbit b) := by
 have := bit2 a b
 unfold M.ints_dyads_9
 revert this
 cases M.ints_bit a with
 | none => intro h; cases h
 | some r => intro h; simp only [Option.bind_some] at h ⊢; rw [h]; rfl
theorem dyads_10_eq (a b : Int) : M.ints_dyads_10 a b = some (IntKind.i64.wrap (BitVec.ofInt IntKind.i64.bits a ||| BitVec.ofInt IntKind.i64.bits b).toNat, isbit a && isbit b) := by
 have := bit2 a b
 unfold M.ints_dyads_10
 revert this
 cases M.ints_bit a with
 | none => intro h; cases h
 | some r => intro h; simp only [Option.bind_some] at h ⊢; rw [h]; rfl
theorem dyads_11_eq (a b : Int) : M.ints_dyads_11 a b = some (IntKind.i64.wrap (1 - (IntKind.i64.wrap (BitVec.ofInt IntKind.i64.bits a &&& BitVec.ofInt IntKind.i64.bits b).toNat)), isbit a && isbit b) := by
 have := bit2 a b
 unfold M.ints_dyads_11
 revert this
 cases M.ints_bit a with
 | none => intro h; cases h
 | some r => intro h; simp only [Option.bind_some] at h ⊢; rw [h]; rfl
theorem dyads_12_eq (a b : Int) : M.ints_dyads_12 a b = some (IntKind.i64.wrap (1 - (IntKind.i64.wrap (BitVec.ofInt IntKind.i64.bits a ||| BitVec.ofInt IntKind.i64.bits b).toNat)), isbit a && isbit b) := by
 have := bit2 a b
 unfold M.ints_dyads_12
 revert this
 cases M.ints_bit a with
 | none => intro h; cases h
 | some r => intro h; simp only [Option.bind_some] at h ⊢; rw [h]; rfl
theorem dy_and (a b : Int) : M.ints_Dyad str_226_136_167 a b = some (if isbit a && isbit b then (a * b, 0) else (0, 23)) := by
 rw [sel_dyads_9 (dyads_9_eq a b), logic_tl (w := a * b) (fun h => by
  rcases bit_cases h with ⟨rfl | rfl, rfl | rfl⟩ <;> decide)]
theorem dy_or (a b : Int) : M.ints_Dyad str_226_136_168 a b = some (if isbit a && isbit b then (a + b - a * b, 0) else (0, 23)) := by
 rw [sel_dyads_10 (dyads_10_eq a b), logic_tl (w := a + b - a * b) (fun h => by
  rcases bit_cases h with ⟨rfl | rfl, rfl | rfl⟩ <;> decide)]
theorem dy_nand (a b : Int) : M.ints_Dyad str_226_141_178 a b = some (if isbit a && isbit b then (1 - a * b, 0) else (0, 23)) := by
 rw [sel_dyads_11 (dyads_11_eq a b), logic_tl (w := 1 - a * b) (fun h => by
  rcases bit_cases h with ⟨rfl | rfl, rfl | rfl⟩ <;> decide)]
theorem dy_nor (a b : Int) : M.ints_Dyad str_226_141_177 a b = some (if isbit a && isbit b then (1 - (a + b - a * b), 0) else (0, 23)) := by
 rw [sel_dyads_12 (dyads_12_eq a b), logic_tl (w := 1 - (a + b - a * b)) (fun h => by
  rcases bit_cases h with ⟨rfl | rfl, rfl | rfl⟩ <;> decide)]
def fRes (a b : Int) : Int := if a = 0 then b else if a = -1 then 0 else if b.tmod a ≠ 0 ∧ ¬ (decide (b.tmod a < 0) = decide (a < 0)) then b.tmod a + a else b.tmod a
theorem residue_eq {a b : Int} (ha : rng a) (hb : rng b) : M.ints_residue a b = some (fRes a b, true) := by
 unfold M.ints_residue fRes
 by_cases h0 : a = 0
 ·rw [if_pos h0, if_pos (by simpa using h0)]
 ·rw [if_neg h0, if_neg (by simpa using h0)]
  by_cases h1 : a = -1
  ·rw [if_pos h1, if_pos (by simpa using h1)]
  ·rw [if_neg h1, if_neg (by simpa using h1)]
   unfold remI
   rw [if_neg h0]
   simp only [Option.bind_some]
   by_cases h2 : b.tmod a ≠ 0 ∧ ¬ (decide (b.tmod a < 0) = decide (a < 0))
   ·rw [if_pos h2, if_pos (by simp only [Bool.and_eq_true, bne_iff_ne, Bool.not_eq_true']; refine ⟨h2.1, ?_⟩; simpa using h2.2)]
    have hlt : (b.tmod a).natAbs < a.natAbs := by rw [Int.natAbs_tmod]; exact Nat.mod_lt _ (by omega)
    unfold rng at ha
    have hs : (b.tmod a < 0 ∧ ¬ a < 0) ∨ (¬ b.tmod a < 0 ∧ a < 0) := by
     have := h2.2
     by_cases q1 : b.tmod a < 0 <;> by_cases q2 : a < 0 <;> simp [q1, q2] at this ⊢
    rw [w64_id (by omega) (by omega)]; rfl
   ·rw [if_neg h2, if_neg (by simp only [Bool.and_eq_true, bne_iff_ne, Bool.not_eq_true']; intro h; exact h2 ⟨h.1, by simpa using h.2⟩)]; rfl
theorem dy_res {a b : Int} (ha : rng a) (hb : rng b) : M.ints_Dyad str_124 a b = some (fRes a b, 0) := by
 rw [sel_residue (residue_eq ha hb)]; rfl
def ch : Nat → Nat → Nat
 | _, 0 => 1
 | 0, _ + 1 => 0
 | n + 1, k + 1 => ch n k + ch n (k + 1)
theorem ch_zero (n : Nat) : ch n 0 = 1 := by cases n <;> rfl
theorem ch_out : ∀ {n k : Nat}, n < k → ch n k = 0
 | n, 0, h => by omega
 | 0, k + 1, _ => rfl
 | n + 1, k + 1, h => by rw [ch, ch_out (show n < k by omega), ch_out (show n < k + 1 by omega)]
theorem ch_self : ∀ n : Nat, ch n n = 1
 | 0 => rfl
 | n + 1 => by rw [ch, ch_self n, ch_out (show n < n + 1 by omega)]
theorem ch_step : ∀ (n k : Nat), k ≤ n → ch n (k + 1) * (k + 1) = ch n k * (n - k)
 | 0, k, h => by
  have : k = 0 := by omega
  subst this; rfl
 | n + 1, 0, _ => by
  show (ch n 0 + ch n 1) * 1 = ch (n + 1) 0 * (n + 1)
  rw [ch_zero, ch_zero]
  cases n with
  | zero => rfl
  | succ n =>
   have := ch_step (n + 1) 0 (by omega)
   rw [ch_zero] at this
   simp only [Nat.zero_add, Nat.mul_one, Nat.one_mul, Nat.sub_zero] at this ⊢
   omega
 | n + 1, k + 1, h => by
  by_cases hk : k + 1 ≤ n
  ·have i1 := ch_step n (k + 1) hk
   have i2 := ch_step n k (by omega)
   rw [ch, ch, Nat.add_mul, i1, Nat.add_mul]
   have e1 : n + 1 - (k + 1) = n - k := by omega
   rw [e1, ← i2, ← Nat.mul_add, ← Nat.mul_add]
   congr 1
   omega
  ·have hk2 : k = n := by omega
   subst hk2
   rw [ch, ch_out (show k < k + 1 by omega), ch_out (show k < k + 1 + 1 by omega), Nat.sub_self]; simp
theorem ch_symm : ∀ {n k : Nat}, k ≤ n → ch n (n - k) = ch n k
 | 0, k, h => by
  have : k = 0 := by omega
  subst this; rfl
 | n + 1, 0, _ => by rw [Nat.sub_zero, ch_self, ch_zero]
 | n + 1, k + 1, h => by
  by_cases hk : k + 1 ≤ n
  ·obtain ⟨j, hj⟩ : ∃ j, n - k = j + 1 := ⟨n - k - 1, by omega⟩
   rw [show n + 1 - (k + 1) = j + 1 by omega, ch, ch, show j = n - (k + 1) by omega, ch_symm hk, show n - (k + 1) + 1 = n - k by omega, ch_symm (show k ≤ n by omega), Nat.add_comm]
  ·have : k = n := by omega
   subst this
   rw [Nat.sub_self, ch_zero, ch_self]
theorem ch_mono {n k : Nat} (h : 2 * (k + 1) ≤ n + 1) : ch n k ≤ ch n (k + 1) := by
 have := ch_step n k (by omega)
 have h2 : k + 1 ≤ n - k := by omega
 have h3 := Nat.mul_le_mul_left (ch n k) h2
 rw [← this] at h3
 exact Nat.le_of_mul_le_mul_right h3 (by omega)
theorem ch_mono_to {n m : Nat} : ∀ (j k : Nat), k + j = m → 2 * m ≤ n → ch n k ≤ ch n m
 | 0, k, h, _ => by rw [show k = m by omega]; exact Nat.le_refl _
 | j + 1, k, h, hm => Nat.le_trans (ch_mono (by omega)) (ch_mono_to j (k + 1) (by omega) hm)
theorem ch_pow : ∀ {n k : Nat}, 2 * k ≤ n → 2 ^ k ≤ ch n k
 | n, 0, _ => by rw [ch_zero]; exact Nat.le_refl _
 | 0, k + 1, h => by omega
 | n + 1, k + 1, h => by
  have h1 := ch_pow (n := n) (k := k) (by omega)
  have h2 := ch_mono (n := n) (k := k) (by omega)
  rw [ch, Nat.pow_succ]; omega
theorem div_long {U u1 Y : Nat} (hY : 0 < Y) : (U * 4294967296 + u1) / Y = U / Y * 4294967296 + (U % Y * 4294967296 + u1) / Y := by
 have h := Nat.div_add_mod U Y
 have e : U * 4294967296 + u1 = Y * (U / Y * 4294967296) + (U % Y * 4294967296 + u1) := by
  have : U * 4294967296 = (Y * (U / Y) + U % Y) * 4294967296 := by rw [h]
  rw [this, Nat.add_mul, Nat.mul_assoc]; omega
 rw [e, Nat.mul_add_div hY]
theorem or_add {hi lo : Int} (s : Nat) (hs : s ≤ 64) (h1 : 0 ≤ hi) (h2 : hi * 2 ^ s < 18446744073709551616) (h3 : 0 ≤ lo) (h4 : lo < 2 ^ s) :
  IntKind.u64.wrap (BitVec.ofInt IntKind.u64.bits (hi * 2 ^ s) ||| BitVec.ofInt IntKind.u64.bits lo).toNat = hi * 2 ^ s + lo := by
 obtain ⟨H, rfl⟩ := Int.eq_ofNat_of_zero_le h1
 obtain ⟨L, rfl⟩ := Int.eq_ofNat_of_zero_le h3
 have e2 : ((2 : Int) ^ s) = ((2 ^ s : Nat) : Int) := by simp
 rw [e2, ← Int.natCast_mul] at h2 ⊢
 rw [e2] at h4
 have hp : 2 ^ s ≤ 2 ^ 64 := Nat.pow_le_pow_right (by omega) hs
 have hL : L < 2 ^ s := by omega
 have hN : (2 : Nat) ^ 64 = 18446744073709551616 := by decide
 rw [BitVec.toNat_or, bv_toNat (by omega) (by omega), bv_toNat (by omega) (by omega), Int.toNat_natCast, Int.toNat_natCast]
 have : H * 2 ^ s ||| L = H * 2 ^ s + L := by
  rw [Nat.mul_comm, ← Nat.two_pow_add_eq_or_of_lt hL]
 rw [this]
 have hb : H * 2 ^ s + L < 18446744073709551616 := by
  have h5 : (H + 1) * 2 ^ s ≤ 2 ^ 64 := by
   have hd : 2 ^ 64 = 2 ^ (64 - s) * 2 ^ s := by rw [← Nat.pow_add]; congr 1; omega
   rw [hd]
   refine Nat.mul_le_mul_right _ ?_
   have h6 : H * 2 ^ s < 2 ^ (64 - s) * 2 ^ s := by rw [← hd, hN]; omega
   exact Nat.lt_of_mul_lt_mul_right h6
  rw [Nat.add_mul, Nat.one_mul] at h5
  omega
 rw [u64_id (by omega) (by omega)]; omega
theorem shl_some {x s : Int} (h : 0 ≤ s) (h2 : s ≤ 64) (hb : 0 ≤ x * 2 ^ s.toNat) (hb2 : x * 2 ^ s.toNat < 18446744073709551616) : shlI .u64 x s = some (x * 2 ^ s.toNat) := by
 unfold shlI
 rw [if_neg (by omega), Nat.min_eq_left (by show s.toNat ≤ 64; omega), u64_id hb hb2]
theorem shr_some {x s : Int} (h : 0 ≤ s) (h2 : s ≤ 64) (hx : 0 ≤ x) : shrI .u64 x s = some (x / 2 ^ s.toNat) := by
 unfold shrI
 rw [if_neg (by omega), Nat.min_eq_left (by show s.toNat ≤ 64; omega), Int.fdiv_eq_ediv_of_nonneg _ (by
  exact Int.le_of_lt (Int.pow_pos (by omega)))]
theorem len_tab : ∀ k : Fin 256, sidx str_0_1_2_2_3_3_3_3_4_4_4_4_4_4_4_4_5_5_5_5_5_5_5_5_5_5_5_5_5_5_5_5_6_6_6_6_6_6_6_6_6_6_6_6_6_6_6_6_6_6_6_6_6_6_6_6_6_6_6_6_6_6_6_6_7_7_7_7_7_7_7_7_7_7_7_7_7_7_7_7_7_7_7_7_7_7_7_7_7_7_7_7_7_7_7_7_7_7_7_7_7_7_7_7_7_7_7_7_7_7_7_7_7_7_7_7_7_7_7_7_7_7_7_7_7_7_7_7_8_8_8_8_8_8_8_8_8_8_8_8_8_8_8_8_8_8_8_8_8_8_8_8_8_8_8_8_8_8_8_8_8_8_8_8_8_8_8_8_8_8_8_8_8_8_8_8_8_8_8_8_8_8_8_8_8_8_8_8_8_8_8_8_8_8_8_8_8_8_8_8_8_8_8_8_8_8_8_8_8_8_8_8_8_8_8_8_8_8_8_8_8_8_8_8_8_8_8_8_8_8_8_8_8_8_8_8_8_8_8_8_8_8_8_8_8_8_8_8_8_8_8_8_8_8_8_8 (k.val : Int) = some (if k.val = 0 then 0 else (k.val.log2 : Int) + 1) := by decide
theorem len_small {y : Nat} (h1 : 1 ≤ y) (h2 : y < 256) : M.math_bits_LeadingZeros64 (y : Int) = some (63 - (y.log2 : Int)) := by
 have hl : y.log2 < 8 := (Nat.log2_lt (by omega)).mpr h2
 unfold M.math_bits_LeadingZeros64 M.math_bits_Len64
 rw [if_neg (by simp; omega)]
 simp only [Option.bind_some]
 rw [if_neg (by simp; omega)]
 simp only [Option.bind_some]
 rw [if_neg (by simp; omega)]
 simp only [Option.bind_some]
 rw [u8_id (by omega) (by omega)]
 have := len_tab ⟨y, h2⟩
 simp only [] at this
 rw [if_neg (by omega)] at this
 rw [this]
 simp only [Option.bind_some]
 rw [w64_id (x := (y.log2 : Int) + 1) (by omega) (by omega), w64_id (x := 0 + ((y.log2 : Int) + 1)) (by omega) (by omega), w64_id (by omega) (by omega)]
 congr 1; omega
theorem norm {y hi lo : Nat} (h1 : 1 ≤ y) (h2 : y < 256) (hh : hi < y) (hl : lo < 18446744073709551616) : ∃ s T K D : Nat, s ≤ 63 ∧ 1 ≤ s ∧ K = 2 ^ s ∧ D = 2 ^ (64 - s) ∧ 63 - (y.log2 : Int) = s ∧ 0 < T ∧ y * K = y * T * 4294967296 ∧ y * T < 4294967296 ∧
  hi * K < 18446744073709551616 ∧ lo / D < K ∧ hi * K + lo / D < y * T * 4294967296 ∧ (hi * 18446744073709551616 + lo) * T = (hi * K + lo / D) * 4294967296 + lo * K % 18446744073709551616 / 4294967296 ∧ lo * K % 18446744073709551616 % 4294967296 = 0 := by
 have hl8 : y.log2 < 8 := (Nat.log2_lt (by omega)).mpr h2
 have a1 := Nat.log2_self_le (show y ≠ 0 by omega)
 have a2 := @Nat.lt_log2_self y
 have : y.log2 = 0 ∨ y.log2 = 1 ∨ y.log2 = 2 ∨ y.log2 = 3 ∨ y.log2 = 4 ∨ y.log2 = 5 ∨ y.log2 = 6 ∨ y.log2 = 7 := by omega
 rcases this with h | h | h | h | h | h | h | h <;> rw [h] at a1 a2 ⊢ <;> simp only [Nat.reducePow, Nat.reduceAdd] at a1 a2
 ·exact ⟨63, 2 ^ 31, 2 ^ 63, 2 ^ 1, by omega, by omega, rfl, rfl, by omega, by omega, by omega, by omega, by omega, by omega, by omega, by omega, by omega⟩
 ·exact ⟨62, 2 ^ 30, 2 ^ 62, 2 ^ 2, by omega, by omega, rfl, rfl, by omega, by omega, by omega, by omega, by omega, by omega, by omega, by omega, by omega⟩
 ·exact ⟨61, 2 ^ 29, 2 ^ 61, 2 ^ 3, by omega, by omega, rfl, rfl, by omega, by omega, by omega, by omega, by omega, by omega, by omega, by omega, by omega⟩
 ·exact ⟨60, 2 ^ 28, 2 ^ 60, 2 ^ 4, by omega, by omega, rfl, rfl, by omega, by omega, by omega, by omega, by omega, by omega, by omega, by omega, by omega⟩
 ·exact ⟨59, 2 ^ 27, 2 ^ 59, 2 ^ 5, by omega, by omega, rfl, rfl, by omega, by omega, by omega, by omega, by omega, by omega, by omega, by omega, by omega⟩
 ·exact ⟨58, 2 ^ 26, 2 ^ 58, 2 ^ 6, by omega, by omega, rfl, rfl, by omega, by omega, by omega, by omega, by omega, by omega, by omega, by omega, by omega⟩
 ·exact ⟨57, 2 ^ 25, 2 ^ 57, 2 ^ 7, by omega, by omega, rfl, rfl, by omega, by omega, by omega, by omega, by omega, by omega, by omega, by omega, by omega⟩
 ·exact ⟨56, 2 ^ 24, 2 ^ 56, 2 ^ 8, by omega, by omega, rfl, rfl, by omega, by omega, by omega, by omega, by omega, by omega, by omega, by omega, by omega⟩
theorem small_q {R Y W : Nat} (hR : R < Y) (hY : 0 < Y) (hW : W < 18446744073709551616) : (R * 4294967296 + W / 4294967296) / Y < 4294967296 := by
 rw [Nat.div_lt_iff_lt_mul hY]; omega
theorem small_fin {a b : Nat} (ha : a < 4294967296) (hb : b < 4294967296) : IntKind.u64.wrap (IntKind.u64.wrap ((a : Int) * 4294967296) + (b : Int)) = ((a * 4294967296 + b : Nat) : Int) := by
 rw [u64_id (x := (a : Int) * 4294967296) (by omega) (by omega), u64_id (by omega) (by omega)]; omega
theorem small_lt {R Y W : Nat} (hR : R < Y) (hY : Y < 4294967296) (hW : W < 18446744073709551616) : R * 4294967296 + W / 4294967296 < 18446744073709551616 := by omega
theorem small_mod {R Y W : Nat} (hR : R < Y) (hY : Y < 4294967296) (hW : W < 18446744073709551616) : ((R * 4294967296 + W / 4294967296 : Nat) : Int) % 18446744073709551616 = ((R * 4294967296 + W / 4294967296 : Nat) : Int) := by
 have : R * 4294967296 + W / 4294967296 < 18446744073709551616 := by omega
 generalize R * 4294967296 + W / 4294967296 = x at this ⊢
 exact Int.emod_eq_of_lt (by omega) (by omega)
theorem small_sum {R Y W U A : Nat} (h : A + R = U) : (U : Int) * 4294967296 + ((W / 4294967296 : Nat) : Int) - (A : Int) * 4294967296 = ((R * 4294967296 + W / 4294967296 : Nat) : Int) := by
 generalize W / 4294967296 = x
 omega
theorem shl_wrap {x s : Int} (h : 0 ≤ s) (h2 : s ≤ 64) : shlI .u64 x s = some (x * 2 ^ s.toNat % 18446744073709551616) := by
 unfold shlI
 rw [if_neg (by omega), Nat.min_eq_left (by show s.toNat ≤ 64; omega), u64_mod]
theorem div_tail {Y U W : Nat} {sh : Int} (hsh : 0 ≤ IntKind.u64.wrap sh) (hsh2 : IntKind.u64.wrap sh ≤ 64) (hY : 0 < Y) (e2 : Y < 4294967296) (e5 : U < Y * 4294967296) (hW : W < 18446744073709551616) (e7 : W % 4294967296 = 0) : ∃ r, (
    (quoI .u64 (U : Int) (Int.fdiv ((Y * 4294967296 : Nat) : Int) (2 ^ (min (Int.toNat 32) IntKind.u64.bits)))).bind fun q7 =>
    ((wloop (M.math_bits_Div64_L1 ((Y * 4294967296 : Nat) : Int) (W : Int)) (q7, (IntKind.u64.wrap ((U : Int) - (IntKind.u64.wrap (q7 * (Int.fdiv ((Y * 4294967296 : Nat) : Int) (2 ^ (min (Int.toNat 32) IntKind.u64.bits))))))))).bind fun k => joinK k fun jx =>
    some jx).bind fun q8 =>
    (quoI .u64 (IntKind.u64.wrap ((IntKind.u64.wrap ((IntKind.u64.wrap ((U : Int) * 4294967296)) + (Int.fdiv (W : Int) (2 ^ (min (Int.toNat 32) IntKind.u64.bits))))) - (IntKind.u64.wrap (q8 * ((Y * 4294967296 : Nat) : Int))))) (Int.fdiv ((Y * 4294967296 : Nat) : Int) (2 ^ (min (Int.toNat 32) IntKind.u64.bits)))).bind fun q10 =>
    ((wloop (M.math_bits_Div64_L2 ((Y * 4294967296 : Nat) : Int) (W : Int)) ((IntKind.u64.wrap ((IntKind.u64.wrap ((IntKind.u64.wrap ((IntKind.u64.wrap ((U : Int) * 4294967296)) + (Int.fdiv (W : Int) (2 ^ (min (Int.toNat 32) IntKind.u64.bits))))) - (IntKind.u64.wrap (q8 * ((Y * 4294967296 : Nat) : Int))))) - (IntKind.u64.wrap (q10 * (Int.fdiv ((Y * 4294967296 : Nat) : Int) (2 ^ (min (Int.toNat 32) IntKind.u64.bits))))))), q10)).bind fun k => joinK k fun jx =>
    some jx).bind fun q11 =>
    (shrI .u64 (IntKind.u64.wrap ((IntKind.u64.wrap ((IntKind.u64.wrap ((IntKind.u64.wrap ((IntKind.u64.wrap ((IntKind.u64.wrap ((U : Int) * 4294967296)) + (Int.fdiv (W : Int) (2 ^ (min (Int.toNat 32) IntKind.u64.bits))))) - (IntKind.u64.wrap (q8 * ((Y * 4294967296 : Nat) : Int))))) * 4294967296)) + (IntKind.u64.wrap (BitVec.ofInt IntKind.u64.bits (W : Int) &&& BitVec.ofInt IntKind.u64.bits 4294967295).toNat))) - (IntKind.u64.wrap (q11 * ((Y * 4294967296 : Nat) : Int))))) (IntKind.u64.wrap sh)).bind fun q13 =>
    some ((IntKind.u64.wrap ((IntKind.u64.wrap (q8 * 4294967296)) + q11)), q13)) = some (((U / Y * 4294967296 + (U % Y * 4294967296 + W / 4294967296) / Y : Nat) : Int), r) := by
 have sY : Int.fdiv ((Y * 4294967296 : Nat) : Int) (2 ^ (min (Int.toNat 32) IntKind.u64.bits)) = (Y : Int) := by rw [shr32 (by omega)]; omega
 have aY : IntKind.u64.wrap (BitVec.ofInt IntKind.u64.bits ((Y * 4294967296 : Nat) : Int) &&& BitVec.ofInt IntKind.u64.bits 4294967295).toNat = 0 := by rw [and32 (by omega) (by omega)]; omega
 have sW : Int.fdiv (W : Int) (2 ^ (min (Int.toNat 32) IntKind.u64.bits)) = ((W / 4294967296 : Nat) : Int) := by rw [shr32 (by omega)]; omega
 have quo : ∀ u : Nat, u < 18446744073709551616 → quoI .u64 (u : Int) (Y : Int) = some ((u / Y : Nat) : Int) := by
  intro u hu
  unfold quoI
  have h := Nat.div_le_self u Y
  rw [if_neg (by omega), Int.tdiv_eq_ediv_of_nonneg (by omega), ← Int.natCast_ediv]
  generalize u / Y = v at h ⊢
  rw [u64_id (by omega) (by omega)]
 rw [sY, quo U (by omega)]
 simp only [Option.bind_some]
 have hq7 : U / Y < 4294967296 := by rw [Nat.div_lt_iff_lt_mul hY, Nat.mul_comm]; exact e5
 have hdm := Nat.div_add_mod U Y
 have hmod := Nat.mod_lt U hY
 have l1 : ∀ (q : Nat) (r : Int), q < 4294967296 → wloop (M.math_bits_Div64_L1 ((Y * 4294967296 : Nat) : Int) (W : Int)) ((q : Int), IntKind.u64.wrap r) = some (.next (q : Int)) := by
  intro q r hq
  refine wloop_done ?_
  unfold M.math_bits_Div64_L1
  simp only [aY, Int.mul_zero]
  have nn := u64_mod (IntKind.u64.wrap (4294967296 * IntKind.u64.wrap r) + Int.fdiv (W : Int) (2 ^ (min (Int.toNat 32) IntKind.u64.bits)))
  rw [if_neg]
  simp only [Bool.or_eq_true, decide_eq_true_eq, not_or]
  refine ⟨by omega, ?_⟩
  rw [nn, u64_mod 0]; omega
 have l2 : ∀ (q : Nat) (r : Int), q < 4294967296 → wloop (M.math_bits_Div64_L2 ((Y * 4294967296 : Nat) : Int) (W : Int)) (IntKind.u64.wrap r, (q : Int)) = some (.next (q : Int)) := by
  intro q r hq
  refine wloop_done ?_
  unfold M.math_bits_Div64_L2
  simp only [aY, Int.mul_zero]
  rw [if_neg]
  simp only [Bool.or_eq_true, decide_eq_true_eq, not_or]
  refine ⟨by omega, ?_⟩
  rw [u64_mod 0, u64_mod (_ + _)]; omega
 rw [l1 _ _ hq7]
 simp only [Option.bind_some, joinK_next]
 have hA : ((U / Y : Nat) : Int) * ((Y * 4294967296 : Nat) : Int) = ((Y * (U / Y) : Nat) : Int) * 4294967296 := by
  rw [← Int.natCast_mul, show U / Y * (Y * 4294967296) = Y * (U / Y) * 4294967296 by rw [← Nat.mul_assoc, Nat.mul_comm (U / Y) Y]]; simp
 have hun : IntKind.u64.wrap ((IntKind.u64.wrap ((IntKind.u64.wrap ((U : Int) * 4294967296)) + ((W / 4294967296 : Nat) : Int))) - (IntKind.u64.wrap (((U / Y : Nat) : Int) * ((Y * 4294967296 : Nat) : Int)))) = ((U % Y * 4294967296 + W / 4294967296 : Nat) : Int) := by
  rw [hA, u64_mod, u64_mod, u64_mod, u64_mod, Int.sub_emod_emod, Int.emod_sub_emod, Int.add_sub_assoc, Int.emod_add_emod, ← Int.add_sub_assoc]
  generalize Y * (U / Y) = Aq at hdm ⊢
  have e := small_sum (R := U % Y) (Y := Y) (W := W) (U := U) (A := Aq) hdm
  rw [e]
  exact small_mod hmod e2 hW
 have hu : U % Y * 4294967296 + W / 4294967296 < 18446744073709551616 := small_lt hmod e2 hW
 rw [sW, hun, quo _ hu]
 simp only [Option.bind_some]
 have hq10 : (U % Y * 4294967296 + W / 4294967296) / Y < 4294967296 := small_q hmod hY hW
 rw [l2 _ _ hq10]
 simp only [Option.bind_some, joinK_next]
 simp only [shrI, if_neg (show ¬ IntKind.u64.wrap sh < 0 by omega), Option.bind_some]
 refine ⟨_, congrArg some (pair_eq ?_ rfl)⟩
 exact small_fin hq7 hq10
theorem div64_eq {y hi lo : Nat} (h1 : 1 ≤ y) (h2 : y < 256) (hh : hi < y) (hl : lo < 18446744073709551616) : ∃ r, M.math_bits_Div64 (hi : Int) (lo : Int) (y : Int) = some ((((hi * 18446744073709551616 + lo) / y : Nat) : Int), r) := by
 unfold M.math_bits_Div64
 rw [if_neg (by simp; omega), if_neg (by simp; omega)]
 have hres : (hi * 18446744073709551616 + lo) / y < 18446744073709551616 := by
  rw [Nat.div_lt_iff_lt_mul (by omega)]
  have := Nat.mul_le_mul_left 18446744073709551616 (show hi + 1 ≤ y from hh)
  omega
 by_cases h0 : hi = 0
 ·subst h0
  rw [if_pos (by simp)]
  unfold quoI remI
  rw [if_neg (by omega), if_neg (by omega), Int.tdiv_eq_ediv_of_nonneg (by omega), ← Int.natCast_ediv]
  simp only [Option.bind_some]
  have hle : lo / y ≤ lo := Nat.div_le_self _ _
  rw [show (0 * 18446744073709551616 + lo) / y = lo / y by simp]
  generalize lo / y = v at hle ⊢
  rw [u64_id (by omega) (by omega)]
  exact ⟨_, rfl⟩
 ·rw [if_neg (by simp; omega), len_small h1 h2]
  obtain ⟨s, T, K, D, hs, hs1, hK, hD, hlog, hT, e1, e2, e3, e4, e5, e6, e7⟩ := norm h1 h2 hh hl
  rw [hlog]
  simp only [Option.bind_some]
  have hKi : (2 : Int) ^ (s : Int).toNat = (K : Int) := by rw [Int.toNat_natCast, hK]; simp
  have hDi : (2 : Int) ^ ((64 : Int) - (s : Int)).toNat = (D : Int) := by rw [show ((64 : Int) - (s : Int)).toNat = 64 - s by omega, hD]; simp
  have hYK : (y : Int) * (K : Int) = ((y * T * 4294967296 : Nat) : Int) := by rw [← e1]; simp
  rw [u64_id (x := (s : Int)) (by omega) (by omega), u64_id (x := 64 - (s : Int)) (by omega) (by omega), shl_some (x := (y : Int)) (by omega) (by omega) (by rw [hKi, hYK]; omega) (by rw [hKi, hYK]; omega),
   shl_some (x := (hi : Int)) (by omega) (by omega) (by rw [hKi, ← Int.natCast_mul]; omega) (by rw [hKi, ← Int.natCast_mul]; omega), shr_some (x := (lo : Int)) (by omega) (by omega) (by omega), shl_wrap (x := (lo : Int)) (by omega) (by omega)]
  simp only [Option.bind_some]
  have hor := or_add (hi := (hi : Int)) (lo := (lo : Int) / (2 : Int) ^ ((64 : Int) - (s : Int)).toNat) s (by omega) (by omega) (by
   have : (2 : Int) ^ s = (K : Int) := by rw [hK]; simp
   rw [this, ← Int.natCast_mul]; omega) (by rw [hDi, ← Int.natCast_ediv]; exact Int.natCast_nonneg _) (by
   have : (2 : Int) ^ s = (K : Int) := by rw [hK]; simp
   rw [this, hDi, ← Int.natCast_ediv]; omega)
  rw [show (2 : Int) ^ s = (2 : Int) ^ (s : Int).toNat by rw [Int.toNat_natCast]] at hor
  rw [hor, hKi, hDi, hYK]
  have hU : (hi : Int) * (K : Int) + (lo : Int) / (D : Int) = ((hi * K + lo / D : Nat) : Int) := by simp
  have hlK : (lo : Int) * (K : Int) % 18446744073709551616 = ((lo * K % 18446744073709551616 : Nat) : Int) := by simp
  rw [hU, hlK]
  have hY : 0 < y * T := Nat.mul_pos (by omega) hT
  obtain ⟨r, hr⟩ := div_tail (Y := y * T) (U := hi * K + lo / D) (W := lo * K % 18446744073709551616) (sh := 63 - (y.log2 : Int)) (by rw [hlog, u64_id (by omega) (by omega)]; omega) (by rw [hlog, u64_id (by omega) (by omega)]; omega) hY e2 e5 (Nat.mod_lt _ (by omega)) e7
  rw [hlog] at hr
  have hfin : (hi * K + lo / D) / (y * T) * 4294967296 + ((hi * K + lo / D) % (y * T) * 4294967296 + lo * K % 18446744073709551616 / 4294967296) / (y * T) = (hi * 18446744073709551616 + lo) / y := by
   rw [← div_long hY, ← e6, Nat.mul_div_mul_right _ _ hT]
  rw [hfin] at hr
  rw [u64_id (x := (s : Int)) (by omega) (by omega)] at hr
  exact ⟨r, hr⟩
theorem ch_div {B i : Nat} (hi : i ≤ B) : ch B i * (B - i) / (i + 1) = ch B (i + 1) := by
 rw [← ch_step B i hi, Nat.mul_div_cancel _ (by omega)]
theorem pow_small {i : Nat} (h : 2 ^ i ≤ 9223372036854775807) : i < 63 := by
 have e : (2 : Nat) ^ 63 = 9223372036854775808 := by decide
 have := (Nat.pow_lt_pow_iff_right (show 1 < 2 by omega)).mp (show 2 ^ i < 2 ^ 63 by omega)
 exact this
theorem big_step {c n i : Nat} {p : Nat} (hp : c * (i + 1) = p) (h : i < p / 18446744073709551616) : 18446744073709551616 ≤ c := by
 have h1 : (i + 1) * 18446744073709551616 ≤ p := by
  have := Nat.div_mul_le_self p 18446744073709551616
  exact Nat.le_trans (Nat.mul_le_mul_right 18446744073709551616 (show i + 1 ≤ p / 18446744073709551616 from h)) this
 rw [← hp, Nat.mul_comm c] at h1
 exact Nat.le_of_mul_le_mul_left h1 (by omega)
theorem choose_eq {A B : Nat} (hAB : A ≤ B) (hB : B ≤ 9223372036854775807) : M.ints_choose (A : Int) (B : Int) = some (if ch B A ≤ 9223372036854775807 then ((ch B A : Int), true) else (0, false)) := by
 obtain ⟨n, hn, hn2, hsym⟩ : ∃ n : Nat, IntKind.u64.wrap (if IntKind.i64.wrap ((B : Int) - (A : Int)) < (A : Int) then IntKind.i64.wrap ((B : Int) - (A : Int)) else (A : Int)) = (n : Int) ∧ 2 * n ≤ B ∧ ch B n = ch B A := by
  rw [w64_id (x := (B : Int) - (A : Int)) (by omega) (by omega)]
  by_cases h : B - A < A
  ·refine ⟨B - A, ?_, by omega, ch_symm hAB⟩
   rw [if_pos (by omega), u64_id (by omega) (by omega)]; omega
  ·refine ⟨A, ?_, by omega, rfl⟩
   rw [if_neg (by omega), u64_id (by omega) (by omega)]
 unfold M.ints_choose
 rw [if_neg (by simp <;> omega), if_neg (by simp <;> omega)]
 have key := wloop_ind (f := M.ints_choose_L1 (A : Int) (B : Int)) (fun j st => ∃ i : Nat, j = n - i ∧ i ≤ n ∧ st = ((ch B i : Int), (i : Int)) ∧ ch B i ≤ 9223372036854775807)
  (fun b => (b = .next (ch B n : Int) ∧ ch B n ≤ 9223372036854775807) ∨ (b = .done (0, false) ∧ ¬ ch B n ≤ 9223372036854775807)) (fun j st h => by
   obtain ⟨i, rfl, hi, rfl, hc⟩ := h
   unfold M.ints_choose_L1
   simp only [hn]
   by_cases hlt : i < n
   ·rw [if_pos (by simpa using hlt)]
    have hpow := ch_pow (n := B) (k := i) (by omega)
    have hi63 := pow_small (Nat.le_trans hpow hc)
    have hst := ch_step B i (by omega)
    have hmono := ch_mono_to (n := B) (m := n) (n - (i + 1)) (i + 1) (by omega) hn2
    rw [u64_id (x := (B : Int)) (by omega) (by omega), u64_id (x := (B : Int) - (i : Int)) (by omega) (by omega), show (B : Int) - (i : Int) = ((B - i : Nat) : Int) by omega, mul64_eq (by omega) (by omega) (by omega) (by omega)]
    simp only [Option.bind_some]
    have e1 : (ch B i : Int) * ((B - i : Nat) : Int) / 18446744073709551616 = ((ch B i * (B - i) / 18446744073709551616 : Nat) : Int) := by simp
    have e2 : (ch B i : Int) * ((B - i : Nat) : Int) % 18446744073709551616 = ((ch B i * (B - i) % 18446744073709551616 : Nat) : Int) := by simp
    rw [e1, e2]
    by_cases hbig : i < ch B i * (B - i) / 18446744073709551616
    ·rw [if_pos (by simp only [decide_eq_true_eq]; omega)]
     have := big_step hst hbig (n := n)
     exact .inr ⟨_, rfl, .inr ⟨rfl, by omega⟩⟩
    ·rw [if_neg (by simp only [decide_eq_true_eq]; omega), u64_id (x := (i : Int) + 1) (by omega) (by omega), show (i : Int) + 1 = ((i + 1 : Nat) : Int) by omega]
     obtain ⟨r, hr⟩ := div64_eq (y := i + 1) (hi := ch B i * (B - i) / 18446744073709551616) (lo := ch B i * (B - i) % 18446744073709551616) (by omega) (by omega) (by omega) (Nat.mod_lt _ (by omega))
     have e3 : (ch B i * (B - i) / 18446744073709551616 * 18446744073709551616 + ch B i * (B - i) % 18446744073709551616) / (i + 1) = ch B (i + 1) := by
      rw [Nat.mul_comm (_ / _) 18446744073709551616, Nat.div_add_mod, ch_div (by omega)]
     rw [hr, e3]
     simp only [Option.bind_some]
     by_cases hb2 : ch B (i + 1) > 9223372036854775807
     ·rw [if_pos (by simp only [decide_eq_true_eq]; omega)]
      exact .inr ⟨_, rfl, .inr ⟨rfl, by omega⟩⟩
     ·rw [if_neg (by simp only [decide_eq_true_eq]; omega)]
      exact .inl ⟨_, n - (i + 1), rfl, by omega, i + 1, rfl, by omega, rfl, by omega⟩
   ·have : i = n := by omega
    subst this
    rw [if_neg (by simp)]
    exact .inr ⟨_, rfl, .inl ⟨rfl, hc⟩⟩) n ((1 : Int), (0 : Int)) ⟨0, by omega, by omega, by rw [ch_zero]; rfl, by rw [ch_zero]; omega⟩
 obtain ⟨b, hb, ⟨rfl, hle⟩ | ⟨rfl, hle⟩⟩ := key
 ·rw [hb, ← hsym, if_pos hle]
  simp only [Option.bind_some, joinK_next]
  rw [w64_id (by omega) (by omega)]
 ·rw [hb, ← hsym, if_neg hle]; rfl
def fCh (a b : Int) : Int × Bool := if a < 0 ∨ b < 0 then (0, false) else if ch b.toNat a.toNat ≤ 9223372036854775807 then ((ch b.toNat a.toNat : Int), true) else (0, false)
theorem choose_ok {a b : Int} (ha : rng a) (hb : rng b) : M.ints_choose a b = some (fCh a b) := by
 unfold rng at ha hb
 unfold fCh
 by_cases h : a < 0 ∨ b < 0
 ·unfold M.ints_choose
  rw [if_pos (by simpa using h), if_pos h]
 ·rw [if_neg h]
  obtain ⟨A, rfl⟩ := Int.eq_ofNat_of_zero_le (show 0 ≤ a by omega)
  obtain ⟨B, rfl⟩ := Int.eq_ofNat_of_zero_le (show 0 ≤ b by omega)
  simp only [Int.toNat_natCast]
  by_cases hAB : A ≤ B
  ·exact choose_eq hAB (by omega)
  ·rw [ch_out (by omega)]
   unfold M.ints_choose
   rw [if_neg (by simp <;> omega), if_pos (by simp <;> omega)]; rfl
theorem dy_choose {a b : Int} (ha : rng a) (hb : rng b) : M.ints_Dyad str_33 a b = some (tl (fCh a b)) := sel_choose (choose_ok ha hb)
theorem id_43 : M.ints_Identity str_43 = some (0, 0) := by
 unfold M.ints_Identity
 simp only [ByteArray.toList_eq]
 rfl
theorem id_45 : M.ints_Identity str_45 = some (0, 0) := by
 unfold M.ints_Identity
 simp only [ByteArray.toList_eq]
 rfl
theorem id_124 : M.ints_Identity str_124 = some (0, 0) := by
 unfold M.ints_Identity
 simp only [ByteArray.toList_eq]
 rfl
theorem id_60 : M.ints_Identity str_60 = some (0, 0) := by
 unfold M.ints_Identity
 simp only [ByteArray.toList_eq]
 rfl
theorem id_62 : M.ints_Identity str_62 = some (0, 0) := by
 unfold M.ints_Identity
 simp only [ByteArray.toList_eq]
 rfl
theorem id_226_137_160 : M.ints_Identity str_226_137_160 = some (0, 0) := by
 unfold M.ints_Identity
 simp only [ByteArray.toList_eq]
 rfl
theorem id_226_136_168 : M.ints_Identity str_226_136_168 = some (0, 0) := by
 unfold M.ints_Identity
 simp only [ByteArray.toList_eq]
 rfl
theorem id_195_151 : M.ints_Identity str_195_151 = some (1, 0) := by
 unfold M.ints_Identity
 simp only [ByteArray.toList_eq]
 rfl
theorem id_195_183 : M.ints_Identity str_195_183 = some (1, 0) := by
 unfold M.ints_Identity
 simp only [ByteArray.toList_eq]
 rfl
theorem id_42 : M.ints_Identity str_42 = some (1, 0) := by
 unfold M.ints_Identity
 simp only [ByteArray.toList_eq]
 rfl
theorem id_33 : M.ints_Identity str_33 = some (1, 0) := by
 unfold M.ints_Identity
 simp only [ByteArray.toList_eq]
 rfl
theorem id_226_137_164 : M.ints_Identity str_226_137_164 = some (1, 0) := by
 unfold M.ints_Identity
 simp only [ByteArray.toList_eq]
 rfl
theorem id_61 : M.ints_Identity str_61 = some (1, 0) := by
 unfold M.ints_Identity
 simp only [ByteArray.toList_eq]
 rfl
theorem id_226_137_165 : M.ints_Identity str_226_137_165 = some (1, 0) := by
 unfold M.ints_Identity
 simp only [ByteArray.toList_eq]
 rfl
theorem id_226_136_167 : M.ints_Identity str_226_136_167 = some (1, 0) := by
 unfold M.ints_Identity
 simp only [ByteArray.toList_eq]
 rfl
theorem id_226_140_136 : M.ints_Identity str_226_140_136 = some (-9223372036854775808, 0) := by
 unfold M.ints_Identity
 simp only [ByteArray.toList_eq]
 rfl
theorem id_226_140_138 : M.ints_Identity str_226_140_138 = some (9223372036854775807, 0) := by
 unfold M.ints_Identity
 simp only [ByteArray.toList_eq]
 rfl
theorem id_226_141_178 : M.ints_Identity str_226_141_178 = some (0, 23) := by
 unfold M.ints_Identity
 simp only [ByteArray.toList_eq]
 rfl
theorem id_226_141_177 : M.ints_Identity str_226_141_177 = some (0, 23) := by
 unfold M.ints_Identity
 simp only [ByteArray.toList_eq]
 rfl
theorem ba_eq {a b : ByteArray} (h : (a == b) = true) : a = b := by
 obtain ⟨d⟩ := a
 obtain ⟨e⟩ := b
 have h' : (d == e) = true := h
 rw [eq_of_beq h']
theorem bind_ex {α β : Type} {E : Option α} {F : α → Option β} (h : ∃ t, E = some t) (k : ∀ t, ∃ p, F t = some p) : ∃ p, E.bind F = some p := by
 obtain ⟨t, rfl⟩ := h; exact k t
theorem power_ex {a b : Int} (ha : rng a) (hb : rng b) : ∃ p, M.ints_power a b = some p := by
 unfold rng at hb
 unfold M.ints_power
 split
 ·exact ⟨_, rfl⟩
 ·refine bind_ex (by split <;> exact ⟨_, rfl⟩) (fun t => ?_)
  split
  ·exact ⟨_, rfl⟩
  ·split
   ·exact ⟨_, rfl⟩
   ·split
    ·exact ⟨_, rfl⟩
    ·have key := wloop_ind (f := M.ints_power_L1 a b) (fun j st => ∃ (c : Int) (ok : Bool) (i : Nat), st = (c, ok, (i : Int)) ∧ j = (b + 2 - i).toNat ∧ (i : Int) ≤ 9223372036854775807 ∧ (ok = true → rng c)) (fun c => ∃ x y, c = .next (x, y)) (fun j st h => by
      obtain ⟨c, ok, i, rfl, rfl, hi, hok⟩ := h
      unfold M.ints_power_L1
      simp only []
      by_cases hg : (i : Int) < b ∧ ok = true
      ·left
       obtain ⟨hg1, hg2⟩ := hg
       rw [if_pos (by simp [hg1, hg2])]
       obtain ⟨d, h1, h2⟩ := mul_ok (hok hg2) ha
       rw [h1]
       simp only [Option.bind_some]
       rw [w64_id (by omega) (by omega)]
       refine ⟨_, (b + 2 - (i + 1 : Nat)).toNat, rfl, by omega, d, _, i + 1, rfl, rfl, by omega, fun h => ?_⟩
       have hr := of_decide_eq_true h
       rw [h2 hr]; exact hr
      ·right
       rw [if_neg (by simp only [Bool.and_eq_true, decide_eq_true_eq]; exact hg)]
       exact ⟨_, rfl, _, _, rfl⟩) (b + 2 - (1 : Nat)).toNat (a, true, 1) ⟨a, true, 1, rfl, rfl, by omega, fun _ => ha⟩
     obtain ⟨c, hc, x, y, rfl⟩ := key
     rw [hc]; exact ⟨_, rfl⟩
theorem dyad_ex {fn : ByteArray} {a b : Int} (ha : rng a) (hb : rng b) : ∃ p, M.ints_Dyad fn a b = some p := by
 by_cases h : (fn == str_43) = true
 ·have e : fn = str_43 := ba_eq h
  subst e; exact ⟨_, dy_add ha hb⟩
 have h_43 : ¬ (fn == str_43) = true := h
 clear h
 by_cases h : (fn == str_45) = true
 ·have e : fn = str_45 := ba_eq h
  subst e; exact ⟨_, dy_sub ha hb⟩
 have h_45 : ¬ (fn == str_45) = true := h
 clear h
 by_cases h : (fn == str_195_151) = true
 ·have e : fn = str_195_151 := ba_eq h
  subst e; exact ⟨_, dy_mul ha hb⟩
 have h_195_151 : ¬ (fn == str_195_151) = true := h
 clear h
 by_cases h : (fn == str_195_183) = true
 ·have e : fn = str_195_183 := ba_eq h
  subst e; exact ⟨_, dy_div ha hb⟩
 have h_195_183 : ¬ (fn == str_195_183) = true := h
 clear h
 by_cases h : (fn == str_42) = true
 ·have e : fn = str_42 := ba_eq h
  subst e; obtain ⟨p, hp⟩ := power_ex ha hb; exact ⟨_, sel_power hp⟩
 have h_42 : ¬ (fn == str_42) = true := h
 clear h
 by_cases h : (fn == str_124) = true
 ·have e : fn = str_124 := ba_eq h
  subst e; exact ⟨_, dy_res ha hb⟩
 have h_124 : ¬ (fn == str_124) = true := h
 clear h
 by_cases h : (fn == str_33) = true
 ·have e : fn = str_33 := ba_eq h
  subst e; exact ⟨_, dy_choose ha hb⟩
 have h_33 : ¬ (fn == str_33) = true := h
 clear h
 by_cases h : (fn == str_226_140_136) = true
 ·have e : fn = str_226_140_136 := ba_eq h
  subst e; exact ⟨_, dy_max a b⟩
 have h_226_140_136 : ¬ (fn == str_226_140_136) = true := h
 clear h
 by_cases h : (fn == str_226_140_138) = true
 ·have e : fn = str_226_140_138 := ba_eq h
  subst e; exact ⟨_, dy_min a b⟩
 have h_226_140_138 : ¬ (fn == str_226_140_138) = true := h
 clear h
 by_cases h : (fn == str_60) = true
 ·have e : fn = str_60 := ba_eq h
  subst e; exact ⟨_, dy_lt a b⟩
 have h_60 : ¬ (fn == str_60) = true := h
 clear h
 by_cases h : (fn == str_226_137_164) = true
 ·have e : fn = str_226_137_164 := ba_eq h
  subst e; exact ⟨_, dy_le a b⟩
 have h_226_137_164 : ¬ (fn == str_226_137_164) = true := h
 clear h
 by_cases h : (fn == str_61) = true
 ·have e : fn = str_61 := ba_eq h
  subst e; exact ⟨_, dy_eq a b⟩
 have h_61 : ¬ (fn == str_61) = true := h
 clear h
 by_cases h : (fn == str_226_137_165) = true
 ·have e : fn = str_226_137_165 := ba_eq h
  subst e; exact ⟨_, dy_ge a b⟩
 have h_226_137_165 : ¬ (fn == str_226_137_165) = true := h
 clear h
 by_cases h : (fn == str_62) = true
 ·have e : fn = str_62 := ba_eq h
  subst e; exact ⟨_, dy_gt a b⟩
 have h_62 : ¬ (fn == str_62) = true := h
 clear h
 by_cases h : (fn == str_226_137_160) = true
 ·have e : fn = str_226_137_160 := ba_eq h
  subst e; exact ⟨_, dy_ne a b⟩
 have h_226_137_160 : ¬ (fn == str_226_137_160) = true := h
 clear h
 by_cases h : (fn == str_226_136_167) = true
 ·have e : fn = str_226_136_167 := ba_eq h
  subst e; exact ⟨_, dy_and a b⟩
 have h_226_136_167 : ¬ (fn == str_226_136_167) = true := h
 clear h
 by_cases h : (fn == str_226_136_168) = true
 ·have e : fn = str_226_136_168 := ba_eq h
  subst e; exact ⟨_, dy_or a b⟩
 have h_226_136_168 : ¬ (fn == str_226_136_168) = true := h
 clear h
 by_cases h : (fn == str_226_141_178) = true
 ·have e : fn = str_226_141_178 := ba_eq h
  subst e; exact ⟨_, dy_nand a b⟩
 have h_226_141_178 : ¬ (fn == str_226_141_178) = true := h
 clear h
 by_cases h : (fn == str_226_141_177) = true
 ·have e : fn = str_226_141_177 := ba_eq h
  subst e; exact ⟨_, dy_nor a b⟩
 have h_226_141_177 : ¬ (fn == str_226_141_177) = true := h
 clear h
 unfold M.ints_Dyad M.ints_dyads
 simp only [Option.bind_some]
 rw [if_neg h_43, if_neg h_45, if_neg h_195_151, if_neg h_195_183, if_neg h_42, if_neg h_124, if_neg h_33, if_neg h_226_140_136, if_neg h_226_140_138, if_neg h_60, if_neg h_226_137_164, if_neg h_61, if_neg h_226_137_165, if_neg h_62, if_neg h_226_137_160, if_neg h_226_136_167, if_neg h_226_136_168, if_neg h_226_141_178, if_neg h_226_141_177]
 exact ⟨_, rfl⟩
noncomputable def dyD (fn : ByteArray) (a b : Int) : Int × Int := (M.ints_Dyad fn a b).getD (0, 4)
theorem dyD_eq {fn : ByteArray} {a b : Int} (ha : rng a) (hb : rng b) : M.ints_Dyad fn a b = some (dyD fn a b) := by
 obtain ⟨p, hp⟩ := dyad_ex (fn := fn) ha hb
 unfold dyD; rw [hp]; rfl
def gl19 : List ByteArray := [str_43, str_45, str_195_151, str_195_183, str_42, str_124, str_33, str_226_140_136, str_226_140_138, str_60, str_226_137_164, str_61, str_226_137_165, str_62, str_226_137_160, str_226_136_167, str_226_136_168, str_226_141_178, str_226_141_177]
theorem ref07_Size_eq {s : List Int} (hl : s.length ≤ 9223372036854775807) : M.anamnesisref07_Size s = some (if shOk s then prod s else -1) := by
 unfold M.anamnesisref07_Size
 by_cases h4 : s.length > 4
 ·rw [if_pos (by simp; omega), if_neg (fun h => by have := h.1; omega)]
 ·rw [if_neg (by simp; omega)]
  have key := wloop_ind (f := M.anamnesisref07_Size_L1 s) (fun n st => ∃ k : Nat, st = (prod (s.take k), (k : Int)) ∧ k ≤ s.length ∧ n = s.length - k ∧ ∀ x ∈ s.take k, 0 ≤ x ∧ x ≤ 10000)
   (fun b => (b = .next (prod s) ∧ ∀ x ∈ s, 0 ≤ x ∧ x ≤ 10000) ∨ (b = .done (-1) ∧ ¬ ∀ x ∈ s, 0 ≤ x ∧ x ≤ 10000)) (fun n st h => by
    obtain ⟨k, rfl, hk, rfl, hb⟩ := h
    unfold M.anamnesisref07_Size_L1
    by_cases hlt : k < s.length
    ·simp only [show decide ((k : Int) < (s.length : Int)) = true from by simp; exact hlt, if_true, idx_get hlt, Option.bind_some]
     have e : (if decide (s[k] < 0) = true then some true else some (decide (s[k] > 10000))) = some (decide (s[k] < 0 ∨ s[k] > 10000)) := by
      by_cases h : s[k] < 0
      ·rw [if_pos (by simpa using h), decide_eq_true (.inl h)]
      ·rw [if_neg (by simpa using h)]; simp [h]
     rw [e]
     simp only [Option.bind_some]
     by_cases hbad : s[k] < 0 ∨ s[k] > 10000
     ·right
      rw [if_pos (by simpa using hbad)]
      refine ⟨_, rfl, .inr ⟨rfl, fun h => ?_⟩⟩
      have := h _ (List.getElem_mem hlt)
      omega
     ·left
      rw [if_neg (by simpa using hbad)]
      have e : prod (s.take k) * s[k] = prod (s.take (k + 1)) := by
       rw [List.take_succ_eq_append_getElem hlt, prod_append]; simp [prod]
      have hb' : ∀ x ∈ s.take (k + 1), 0 ≤ x ∧ x ≤ 10000 := by
       intro x hx
       rw [List.take_succ_eq_append_getElem hlt] at hx
       rcases List.mem_append.mp hx with hx | hx
       ·exact hb x hx
       ·obtain rfl := List.mem_singleton.mp hx; omega
      have hp := prod_bound (s.take (k + 1)) 4 (by rw [List.length_take]; omega) hb'
      refine ⟨_, s.length - (k + 1), rfl, by omega, k + 1, ?_, by omega, rfl, hb'⟩
      rw [e, w64_id (by omega) (by omega), w64_id (by omega) (by omega)]
      simp
    ·have : k = s.length := by omega
     subst this
     right
     rw [List.take_length] at hb ⊢
     exact ⟨_, by simp, .inl ⟨rfl, hb⟩⟩)
   s.length (1, 0) ⟨0, by simp [prod], by omega, by omega, by simp⟩
  obtain ⟨b, hb, ⟨rfl, h⟩ | ⟨rfl, h⟩⟩ := key
  ·rw [hb]
   simp only [Option.bind_some, joinK_next]
   by_cases hp : prod s > 10000
   ·rw [if_pos (by simpa using hp), if_neg (fun h => by have := h.2.2; omega)]
   ·rw [if_neg (by simpa using hp), if_pos ⟨by omega, h, by omega⟩]
  ·rw [hb, if_neg (fun h' => h h'.2.1)]; rfl
theorem mod_split {k x P : Int} (hx : 0 < x) (hP : 0 < P) : k % (x * P) / P = k / P % x ∧ k % (x * P) % P = k % P := by
 have h1 : k % (x * P) % P = k % P := Int.emod_emod_of_dvd k ⟨x, Int.mul_comm x P⟩
 refine ⟨?_, h1⟩
 have e1 := Int.emod_add_mul_ediv k P
 have e2 := Int.emod_add_mul_ediv (k / P) x
 have r1 := Int.emod_nonneg k (show P ≠ 0 by omega)
 have r2 := Int.emod_lt_of_pos k hP
 have b1 := Int.emod_nonneg (k / P) (show x ≠ 0 by omega)
 have b2 := Int.emod_lt_of_pos (k / P) hx
 have e3 : k = k % P + P * (k / P % x) + x * P * (k / P / x) := by
  have : P * (k / P) = P * (k / P % x) + x * P * (k / P / x) := by
   rw [Int.mul_comm x P, Int.mul_assoc, ← Int.mul_add, e2]
  omega
 have lo : 0 ≤ P * (k / P % x) := Int.mul_nonneg (by omega) b1
 have hi : P * (k / P % x) + P ≤ x * P := by
  have := Int.mul_le_mul_of_nonneg_left (show k / P % x + 1 ≤ x by omega) (show 0 ≤ P by omega)
  rw [Int.mul_add, Int.mul_one, Int.mul_comm P x] at this
  exact this
 have e4 : k % (x * P) = k % P + P * (k / P % x) := by
  conv => lhs; rw [e3]
  rw [Int.add_mul_emod_self_left]
  exact Int.emod_eq_of_lt (by omega) (by omega)
 rw [e4, Int.add_mul_ediv_left _ _ (by omega), Int.ediv_eq_zero_of_lt r1 r2, Int.zero_add]
theorem ref07_At_eq {s : List Int} {k : Nat} (hs : shOk s) (hk : (k : Int) < prod s) : M.anamnesisref07_At s k = some (dig s k) := by
 have hpos : allPos s := allPos_of (fun x hx => (hs.2.1 x hx).1) (by omega)
 have h4 := hs.1
 have hp := hs.2.2
 unfold M.anamnesisref07_At
 rw [mk_ok (by omega) (by omega), w64_id (x := (s.length : Int) - 1) (by omega) (by omega)]
 simp only [Option.bind_some]
 obtain ⟨b, hb, rfl⟩ := wloop_ind (f := M.anamnesisref07_At_L1 s) (fun n st => ∃ j : Nat, j ≤ s.length ∧ n = j ∧ st = ((k : Int) / prod (s.drop j), (j : Int) - 1, List.replicate j 0 ++ dig (s.drop j) ((k : Int) % prod (s.drop j)))) (fun b => b = .next (dig s k)) (fun n st h => by
  obtain ⟨j, hj, rfl, rfl⟩ := h
  simp only [M.anamnesisref07_At_L1]
  cases n with
  | zero =>
   right
   rw [if_neg (by simp)]
   refine ⟨_, rfl, ?_⟩
   rw [List.drop_zero, Int.emod_eq_of_lt (by omega) hk]
   simp
  | succ i =>
   left
   have hi : i < s.length := by omega
   have hP : 0 < prod (s.drop (i + 1)) := allPos.pprod fun x hx => hpos x (List.mem_of_mem_drop hx)
   have hx := hpos _ (List.getElem_mem hi)
   have ed : s.drop i = s[i] :: s.drop (i + 1) := List.drop_eq_getElem_cons hi
   have ei : ((i + 1 : Nat) : Int) - 1 = (i : Int) := by omega
   generalize hPe : prod (s.drop (i + 1)) = P at *
   have q0 : 0 ≤ (k : Int) / P := Int.ediv_nonneg (by omega) (by omega)
   have q1 : (k : Int) / P ≤ k := Int.ediv_le_self _ (by omega)
   have q2 : 0 ≤ (k : Int) / P / s[i] := Int.ediv_nonneg q0 (by omega)
   have q3 : (k : Int) / P / s[i] ≤ (k : Int) / P := Int.ediv_le_self _ q0
   have hlen : (List.replicate (i + 1) (0 : Int) ++ dig (s.drop (i + 1)) ((k : Int) % P)).length = s.length := by
    rw [List.length_append, List.length_replicate, dig_len, List.length_drop]; omega
   rw [ei, if_pos (by simp), idx_get hi]
   simp only [Option.bind_some]
   have er : remI ((k : Int) / P) s[i] = some ((k : Int) / P % s[i]) := by
    unfold remI; rw [if_neg (by omega), Int.tmod_eq_emod_of_nonneg q0]
   have eq : quoI .i64 ((k : Int) / P) s[i] = some ((k : Int) / P / s[i]) := by
    unfold quoI; rw [if_neg (by omega), Int.tdiv_eq_ediv_of_nonneg q0, w64_id (by omega) (by omega)]
   rw [er, idx_get (by omega), eq]
   simp only [Option.bind_some]
   rw [upd_nat (by omega), w64_id (x := (i : Int) - 1) (by omega) (by omega)]
   simp only [Option.bind_some]
   refine ⟨_, i, rfl, by omega, i, by omega, rfl, ?_⟩
   have m := mod_split (k := (k : Int)) hx hP
   have eP : prod (s.drop i) = s[i] * P := by rw [ed]; simp [prod, hPe]
   have e1 : (k : Int) / prod (s.drop i) = (k : Int) / P / s[i] := by
    rw [eP, Int.mul_comm, Int.ediv_ediv_of_nonneg (by omega)]
   have e2 : dig (s.drop i) ((k : Int) % prod (s.drop i)) = ((k : Int) / P % s[i]) :: dig (s.drop (i + 1)) ((k : Int) % P) := by
    rw [eP, ed]
    show _ / prod (s.drop (i + 1)) :: dig _ (_ % prod (s.drop (i + 1))) = _
    rw [hPe, m.1, m.2]
   rw [e1, e2, List.set_append_left _ _ (by simp)]
   congr 2
   rw [List.replicate_succ', List.set_append_right _ _ (by simp)]
   simp) s.length ((k : Int), (s.length : Int) - 1, List.replicate s.length 0) ⟨s.length, by omega, rfl, by simp [prod, dig]⟩
 rw [hb]; rfl
theorem off_snoc : ∀ {a p : List Int} {x y : Int}, p.length = a.length → off (a ++ [x]) (p ++ [y]) = off a p * x + y
 | [], [], x, y, _ => by simp [off, prod]
 | a :: s, i :: p, x, y, h => by
  simp only [List.cons_append, off, prod_append]
  rw [off_snoc (by simpa using h)]
  simp [prod, Int.add_mul, Int.mul_assoc, Int.add_assoc]
theorem inShape_snoc2 : ∀ {a p : List Int} {x y : Int}, p.length = a.length → (inShape (a ++ [x]) (p ++ [y]) ↔ inShape a p ∧ 0 ≤ y ∧ y < x)
 | [], [], x, y, _ => by simp [inShape]
 | a :: s, i :: p, x, y, h => by
  simp only [List.cons_append, inShape]
  rw [inShape_snoc2 (by simpa using h)]
  constructor
  ·rintro ⟨h1, h2, h3, h4, h5⟩; exact ⟨⟨h1, h2, h3⟩, h4, h5⟩
  ·rintro ⟨⟨h1, h2, h3⟩, h4, h5⟩; exact ⟨h1, h2, h3, h4, h5⟩
theorem inShape_take2 : ∀ {a p : List Int} (n : Nat), inShape a p → inShape (a.take n) (p.take n)
 | [], [], n, _ => by simp [inShape]
 | a :: s, i :: p, 0, _ => by simp [inShape]
 | a :: s, i :: p, n + 1, ⟨h1, h2, h3⟩ => ⟨h1, h2, inShape_take2 n h3⟩
theorem prod_take_le2 {s : List Int} (hpos : allPos s) (n : Nat) : prod (s.take n) ≤ prod s := by
 have e : prod s = prod (s.take n) * prod (s.drop n) := by rw [← prod_append, List.take_append_drop]
 have h1 : 0 < prod (s.take n) := allPos.pprod fun x hx => hpos x (List.mem_of_mem_take hx)
 have h2 : 0 < prod (s.drop n) := allPos.pprod fun x hx => hpos x (List.mem_of_mem_drop hx)
 have := Int.mul_le_mul_of_nonneg_left (show 1 ≤ prod (s.drop n) by omega) (show 0 ≤ prod (s.take n) by omega)
 rw [Int.mul_one] at this
 omega
theorem ref07_Offset_eq {s p : List Int} (hs : shOk s) (hi : inShape s p) : M.anamnesisref07_Offset s p = some (off s p) := by
 have hpos : allPos s := allPos_of (fun x hx => (hs.2.1 x hx).1) (inShape.pos hi)
 have h4 := hs.1
 have hp := hs.2.2
 have hl := hi.len
 have bd : ∀ i, 0 ≤ off (s.take i) (p.take i) ∧ off (s.take i) (p.take i) < 10000 := fun i => by
  have := off_range (inShape_take2 i hi)
  have := prod_take_le2 hpos i
  omega
 unfold M.anamnesisref07_Offset
 rw [show wloop (M.anamnesisref07_Offset_L1 s p) (0, 0) = some (.next (off s p)) from by
  refine loop_fun (f := M.anamnesisref07_Offset_L1 s p) (fun k => (off (s.take k) (p.take k), (k : Int))) s.length (fun k hk => ?_) ?_
  ·have hk2 : k < p.length := by omega
   simp only [M.anamnesisref07_Offset_L1]
   rw [if_pos (by simp; omega), idx_get hk, idx_get hk2]
   simp only [Option.bind_some]
   have b0 := bd k
   have b1 := bd (k + 1)
   have b2 := hs.2.1 _ (List.getElem_mem hk)
   have b3 := Int.mul_le_mul (show off (s.take k) (p.take k) ≤ 10000 by omega) b2.2 b2.1 (by omega)
   have b4 := Int.mul_nonneg b0.1 b2.1
   have e : off (s.take (k + 1)) (p.take (k + 1)) = off (s.take k) (p.take k) * s[k] + p[k] := by
    rw [List.take_succ_eq_append_getElem hk, List.take_succ_eq_append_getElem hk2, off_snoc (by rw [List.length_take, List.length_take]; omega)]
   rw [w64_id (x := off (s.take k) (p.take k) * s[k]) (by omega) (by omega), ← e, w64_id (by omega) (by omega), w64_id (x := (k : Int) + 1) (by omega) (by omega)]
   rfl
  ·simp only [M.anamnesisref07_Offset_L1]
   rw [if_neg (by simp), List.take_of_length_le (by omega), List.take_of_length_le (by omega)]]
 rfl
theorem off_app : ∀ {a p : List Int} {b q : List Int}, p.length = a.length → off (a ++ b) (p ++ q) = off a p * prod b + off b q
 | [], [], b, q, _ => by simp [off]
 | x :: a, y :: p, b, q, h => by
  simp only [List.cons_append, off]
  rw [off_app (by simpa using h), prod_append, Int.add_mul, Int.mul_assoc, Int.add_assoc]
 | [], _ :: _, _, _, h => by simp at h
 | _ :: _, [], _, _, h => by simp at h
theorem times_eq {a b : Int} (ha : rng a) (hb : rng b) : M.anamnesisref01_times a b = some (if rng (a * b) then (a * b, true) else (0, false)) := by
 unfold M.anamnesisref01_times
 by_cases h0 : a = 0 ∨ b = 0
 ·have e : a * b = 0 := by rcases h0 with rfl | rfl <;> simp
  rw [if_pos (by simpa using h0), e, if_pos (by unfold rng; omega)]
 ·have ha0 : a ≠ 0 := fun h => h0 (.inl h)
  have hb0 : b ≠ 0 := fun h => h0 (.inr h)
  rw [if_neg (by simpa using h0)]
  by_cases h1 : (a = -1 ∧ b = -9223372036854775808) ∨ (b = -1 ∧ a = -9223372036854775808)
  ·have e : a * b = 9223372036854775808 := by rcases h1 with ⟨rfl, rfl⟩ | ⟨rfl, rfl⟩ <;> rfl
   rw [if_pos (by simpa using h1), e, if_neg (by unfold rng; omega)]
  ·rw [if_neg (by simpa using h1)]
   have hq : quoI .i64 (IntKind.i64.wrap (a * b)) a = some (IntKind.i64.wrap ((IntKind.i64.wrap (a * b)).tdiv a)) := by unfold quoI; rw [if_neg ha0]
   rw [hq]
   simp only [Option.bind_some]
   by_cases hr : rng (a * b)
   ·rw [w64_id hr.1 hr.2, Int.mul_tdiv_cancel_left b ha0, w64_id hb.1 hb.2, if_neg (by simp), if_pos hr]
   ·rw [if_neg hr]
    have hc := i64_range (a * b)
    have hm := i64_eq (a * b)
    generalize hP : a * b = p at *
    generalize IntKind.i64.wrap p = c at *
    have hne : IntKind.i64.wrap (c.tdiv a) ≠ b := fun hEq => by
     have hd : c.tdiv a = b := by
      by_cases hx : c = -9223372036854775808 ∧ a = -1
      ·obtain ⟨rfl, rfl⟩ := hx
       have : IntKind.i64.wrap ((-9223372036854775808 : Int).tdiv (-1)) = -9223372036854775808 := by decide
       rw [this] at hEq
       exact absurd (.inl ⟨rfl, hEq.symm⟩) h1
      ·have hr2 := tdiv_rng (a := c) (b := a) hc ha0 hx
       rw [w64_id hr2.1 hr2.2] at hEq
       exact hEq
     have h5 := Int.tmod_add_mul_tdiv c a
     rw [hd, hP] at h5
     have h6 : -9223372036854775808 ≤ c.tmod a ∧ c.tmod a ≤ 9223372036854775808 := by
      have := Int.natAbs_tmod c a
      have := Nat.mod_lt c.natAbs (show 0 < a.natAbs by omega)
      unfold rng at ha
      omega
     generalize c.tmod a = r at *
     unfold rng at hr
     split at hm <;> omega
    rw [if_pos (by simpa using hne)]
theorem nrng_mul {x a : Int} (ha : a ≤ -2 ∨ 2 ≤ a) (h : ¬ rng x) : ¬ rng (x * a) := fun hh => by
 have h1 : 9223372036854775808 ≤ x.natAbs := by unfold rng at h; omega
 have h2 := Nat.mul_le_mul h1 (show 2 ≤ a.natAbs by omega)
 have h3 := Int.natAbs_mul x a
 unfold rng at hh
 omega
theorem nrng_pow {a : Int} (ha : a ≤ -2 ∨ 2 ≤ a) {j : Nat} (h : ¬ rng (a ^ j)) : ∀ d, ¬ rng (a ^ (j + d))
 | 0 => h
 | d + 1 => by rw [← Nat.add_assoc, Int.pow_succ]; exact nrng_mul ha (nrng_pow ha h d)
theorem nrng_64 {a : Int} (ha : a ≤ -2 ∨ 2 ≤ a) : ¬ rng (a ^ 64) := fun hh => by
 have h3 := Int.natAbs_pow a 64
 have h2 := Nat.pow_le_pow_left (show 2 ≤ a.natAbs by omega) 64
 have e : (2 : Nat) ^ 64 = 18446744073709551616 := by decide
 unfold rng at hh
 omega
def pwF (a : Int) (n : Nat) : Int × Bool := if rng (a ^ n) then (a ^ n, true) else (0, false)
theorem rpower_eq {a : Int} {n : Nat} (ha : rng a) (hn : (n : Int) ≤ 9223372036854775807) (h2 : a ≤ -2 ∨ 2 ≤ a) : M.anamnesisref01_power a n = some (pwF a n) := by
 unfold M.anamnesisref01_power
 rw [if_neg (by simp; omega), if_neg (by simp; omega)]
 obtain ⟨b, hb, hQ⟩ := wloop_ind (f := M.anamnesisref01_power_L1 a n) (fun m st => ∃ i : Nat, st = (a ^ i, (i : Int)) ∧ i ≤ n ∧ m = n - i ∧ rng (a ^ i))
  (fun b => (b = .next (a ^ n) ∧ rng (a ^ n)) ∨ (b = .done (0, false) ∧ ¬ rng (a ^ n))) (fun m st h => by
   obtain ⟨i, rfl, hi, rfl, hr⟩ := h
   simp only [M.anamnesisref01_power_L1]
   by_cases hlt : i < n
   ·rw [if_pos (by simp; omega), times_eq hr ha, ← Int.pow_succ]
    by_cases hr2 : rng (a ^ (i + 1))
    ·left
     rw [if_pos hr2]
     simp only [Option.bind_some, Bool.not_true, Bool.false_eq_true, if_false]
     rw [w64_id (x := (i : Int) + 1) (by omega) (by omega)]
     exact ⟨_, n - (i + 1), rfl, by omega, i + 1, rfl, by omega, rfl, hr2⟩
    ·right
     rw [if_neg hr2]
     refine ⟨_, rfl, .inr ⟨rfl, ?_⟩⟩
     have := nrng_pow h2 hr2 (n - (i + 1))
     rwa [show i + 1 + (n - (i + 1)) = n by omega] at this
   ·right
    rw [if_neg (by simp; omega)]
    obtain rfl : i = n := by omega
    exact ⟨_, rfl, .inl ⟨rfl, hr⟩⟩) n (1, 0) ⟨0, by rw [Int.pow_zero]; rfl, by omega, rfl, by unfold rng; simp⟩
 rw [hb]
 unfold pwF
 rcases hQ with ⟨rfl, h⟩ | ⟨rfl, h⟩
 ·rw [if_pos h]; rfl
 ·rw [if_neg h]; rfl
theorem ipower_eq {a : Int} {n : Nat} (ha : rng a) (hn : 1 ≤ n) (hn2 : (n : Int) ≤ 9223372036854775807) (h2 : a ≤ -2 ∨ 2 ≤ a) : ∃ c, M.ints_power a n = some (c, (pwF a n).2) ∧ ((pwF a n).2 = true → c = (pwF a n).1) := by
 unfold M.ints_power
 rw [if_neg (by simp; omega), if_neg (by simp; omega)]
 rw [show ((a == 0) && decide ((n : Int) > 0)) = false from by simp; omega]
 simp only [Option.bind_some, Bool.false_eq_true, if_false]
 rw [if_neg (by simp; omega)]
 unfold pwF
 by_cases h63 : n > 63
 ·rw [if_pos (by simp; omega)]
  have := nrng_pow h2 (nrng_64 h2) (n - 64)
  rw [show 64 + (n - 64) = n by omega] at this
  rw [if_neg this]
  exact ⟨_, rfl, fun h => by cases h⟩
 ·rw [if_neg (by simp; omega)]
  obtain ⟨b, hb, hQ⟩ := wloop_ind (f := M.ints_power_L1 a n) (fun m st => ∃ (i : Nat) (c : Int) (ok : Bool), st = (c, ok, (i : Int)) ∧ i ≤ n ∧ m = n - i ∧ ((ok = true ∧ c = a ^ i ∧ rng (a ^ i)) ∨ (ok = false ∧ ¬ rng (a ^ i))))
   (fun b => ∃ c, (b = .next (c, true) ∧ c = a ^ n ∧ rng (a ^ n)) ∨ (b = .next (c, false) ∧ ¬ rng (a ^ n))) (fun m st h => by
    obtain ⟨i, c, ok, rfl, hi, rfl, hr⟩ := h
    simp only [M.ints_power_L1]
    rcases hr with ⟨rfl, rfl, hr⟩ | ⟨rfl, hr⟩
    ·by_cases hlt : i < n
     ·left
      rw [if_pos (by simp; omega)]
      obtain ⟨c, hc, hc2⟩ := mul_ok hr ha
      rw [hc]
      simp only [Option.bind_some]
      rw [w64_id (x := (i : Int) + 1) (by omega) (by omega), ← Int.pow_succ] at *
      refine ⟨_, n - (i + 1), rfl, by omega, i + 1, c, _, rfl, by omega, rfl, ?_⟩
      by_cases hr2 : rng (a ^ (i + 1))
      ·exact .inl ⟨by simpa using hr2, hc2 hr2, hr2⟩
      ·exact .inr ⟨by simpa using hr2, hr2⟩
     ·right
      rw [if_neg (by simp; omega)]
      obtain rfl : i = n := by omega
      exact ⟨_, rfl, _, .inl ⟨rfl, rfl, hr⟩⟩
    ·right
     rw [if_neg (by simp)]
     refine ⟨_, rfl, c, .inr ⟨rfl, ?_⟩⟩
     have := nrng_pow h2 hr (n - i)
     rwa [show i + (n - i) = n by omega] at this) (n - 1) (a, true, 1) ⟨1, a, true, rfl, hn, rfl, .inl ⟨rfl, by rw [Int.pow_succ, Int.pow_zero, Int.one_mul], by rw [Int.pow_succ, Int.pow_zero, Int.one_mul]; exact ha⟩⟩
  rw [hb]
  obtain ⟨c, ⟨rfl, h1, h3⟩ | ⟨rfl, h3⟩⟩ := hQ
  ·rw [if_pos h3]; exact ⟨_, rfl, fun _ => h1⟩
  ·rw [if_neg h3]; exact ⟨_, rfl, fun h => by cases h⟩
theorem and_one (b : Int) : ((BitVec.ofInt IntKind.i64.bits b &&& BitVec.ofInt IntKind.i64.bits 1).toNat : Int) = b % 2 := by
 show ((BitVec.ofInt 64 b &&& BitVec.ofInt 64 1).toNat : Int) = b % 2
 rw [BitVec.toNat_and]
 have e2 : (BitVec.ofInt 64 1).toNat = 2 ^ 1 - 1 := by decide
 rw [e2, Nat.and_two_pow_sub_one_eq_mod, BitVec.toNat_ofInt]
 omega
theorem pow_both {a b : Int} (ha : rng a) (hb : rng b) : ∃ p q, M.ints_power a b = some p ∧ (if (b == 0) = true then some ((1 : Int), true) else if decide (b > 0) = true then (M.anamnesisref01_power a b).bind fun (r3, r4) => some (r3, r4) else if ((a == 1) || (a == (-1))) = true then (M.anamnesisref01_power a (IntKind.i64.wrap (2 - (Int.tmod b 2)))).bind fun (r5, r6) => some (r5, r6) else some (0, false)) = some q ∧ tl p = tl q := by
 by_cases h0 : b = 0
 ·subst h0
  exact ⟨_, _, by unfold M.ints_power; rfl, rfl, rfl⟩
 ·rw [if_neg (by simpa using h0)]
  by_cases h2 : a ≤ -2 ∨ 2 ≤ a
  ·by_cases hp : b > 0
   ·obtain ⟨n, rfl⟩ : ∃ n : Nat, b = n := ⟨b.toNat, by omega⟩
    obtain ⟨c, e1, e2⟩ := ipower_eq ha (by omega) hb.2 h2
    rw [if_pos (by simpa using hp), rpower_eq ha hb.2 h2]
    refine ⟨(c, (pwF a n).2), pwF a n, e1, rfl, ?_⟩
    unfold tl
    cases h : (pwF a n).2
    ·simp
    ·simp [e2 h]
   ·refine ⟨(0, false), (0, false), ?_, ?_, rfl⟩
    ·unfold M.ints_power
     rw [if_neg (by simpa using h0), if_neg (by simp; omega), show ((a == 0) && decide (b > 0)) = false from by simp; omega]
     simp only [Option.bind_some, Bool.false_eq_true, if_false]
     rw [if_neg (by simp; omega), if_pos (by simp; omega)]
    ·rw [if_neg (by simpa using hp), if_neg (by simp; omega)]
  ·have h3 : a = 0 ∨ a = 1 ∨ a = -1 := by omega
   rcases h3 with rfl | rfl | rfl
   ·by_cases hp : b > 0
    ·refine ⟨(0, true), (0, true), ?_, ?_, rfl⟩
     ·unfold M.ints_power
      rw [if_neg (by simpa using h0), if_neg (by simp), show (((0 : Int) == 0) && decide (b > 0)) = true from by simpa using hp]
      rfl
     ·rw [if_pos (by simpa using hp)]; unfold M.anamnesisref01_power; rfl
    ·refine ⟨(0, false), (0, false), ?_, ?_, rfl⟩
     ·unfold M.ints_power
      rw [if_neg (by simpa using h0), if_neg (by simp), show (((0 : Int) == 0) && decide (b > 0)) = false from by simpa using hp]
      simp only [Option.bind_some, Bool.false_eq_true, if_false]
      rw [if_neg (by simp), if_pos (by simp; omega)]
     ·rw [if_neg (by simpa using hp), if_neg (by simp)]
   ·refine ⟨(1, true), (1, true), ?_, ?_, rfl⟩
    ·unfold M.ints_power
     rw [if_neg (by simpa using h0)]; rfl
    ·unfold M.anamnesisref01_power
     by_cases hp : b > 0
     ·rw [if_pos (by simpa using hp)]; rfl
     ·rw [if_neg (by simpa using hp)]; rfl
   ·have e1 : M.ints_power (-1) b = some (1 - 2 * (b % 2), true) := by
     unfold M.ints_power
     rw [if_neg (by simpa using h0), if_neg (by simp), show (((-1 : Int) == 0) && decide (b > 0)) = false from by simp]
     simp only [Option.bind_some, Bool.false_eq_true, if_false]
     rw [if_pos (by simp), and_one]
     have : 0 ≤ b % 2 ∧ b % 2 ≤ 1 := by omega
     rw [w64_id (x := b % 2) (by omega) (by omega), w64_id (x := 2 * (b % 2)) (by omega) (by omega), w64_id (by omega) (by omega)]
    have key : ∀ m : Int, rng m → M.anamnesisref01_power (-1) m = some (1 - 2 * (m % 2), true) := fun m hm => by
     unfold M.anamnesisref01_power
     rw [if_neg (by simp), if_pos (by simp)]
     have ht : (Int.tmod m 2 = 0 ∧ m % 2 = 0) ∨ (Int.tmod m 2 ≠ 0 ∧ m % 2 = 1) := by
      have := Int.tmod_add_mul_tdiv m 2
      have t1 := Int.tmod_lt_of_pos m (show (0 : Int) < 2 by omega)
      have t2 := Int.lt_tmod_of_pos m (show (0 : Int) < 2 by omega)
      rcases Int.emod_two_eq m with h | h
      ·exact .inl ⟨by omega, h⟩
      ·exact .inr ⟨by omega, h⟩
     rcases ht with ⟨h4, h5⟩ | ⟨h4, h5⟩
     ·rw [if_pos (by simpa using h4), h5]; rfl
     ·rw [if_neg (by simpa using h4), h5]; rfl
    refine ⟨_, (1 - 2 * (b % 2), true), e1, ?_, rfl⟩
    by_cases hp : b > 0
    ·rw [if_pos (by simpa using hp), key b hb]; rfl
    ·have t1 := Int.tmod_lt_of_pos b (show (0 : Int) < 2 by omega)
     have t2 := Int.lt_tmod_of_pos b (show (0 : Int) < 2 by omega)
     have h7 := Int.tmod_add_mul_tdiv b 2
     rw [if_neg (by simpa using hp), if_pos (by simp), w64_id (x := 2 - Int.tmod b 2) (by omega) (by omega), key _ (by unfold rng; omega)]
     simp only [Option.bind_some]
     congr 3
     omega
theorem gcd_eq {a b : Nat} (hb : (b : Int) ≤ 9223372036854775807) (ha : (a : Int) ≤ 9223372036854775807) : M.anamnesisref01_gcd a b = some (Nat.gcd a b : Int) := by
 unfold M.anamnesisref01_gcd
 obtain ⟨r, hr, rfl⟩ := wloop_ind (f := M.anamnesisref01_gcd_L1) (fun n st => ∃ x : Nat, st = ((x : Int), (n : Int)) ∧ Nat.gcd x n = Nat.gcd a b) (fun r => r = .next (Nat.gcd a b : Int)) (fun n st h => by
  obtain ⟨x, rfl, hg⟩ := h
  simp only [M.anamnesisref01_gcd_L1]
  by_cases hn : 0 < n
  ·left
   have hq : remI (x : Int) (n : Int) = some ((x % n : Nat) : Int) := by
    unfold remI
    rw [if_neg (by omega), Int.tmod_eq_emod_of_nonneg (by omega)]
    rfl
   rw [if_pos (by simpa using hn), hq]
   refine ⟨_, x % n, rfl, Nat.mod_lt _ hn, n, rfl, ?_⟩
   rw [← hg, Nat.gcd_comm n, Nat.gcd_comm x, Nat.gcd_rec n x]
  ·right
   obtain rfl : n = 0 := by omega
   rw [if_neg (by simp)]
   exact ⟨_, rfl, by rw [← hg, Nat.gcd_zero_right]⟩) b (a, b) ⟨a, rfl, rfl⟩
 rw [hr]; rfl
theorem ch_gcd {c B i e : Nat} (h : e * (i + 1) = c * (B - i)) (hc : 0 < c) : (c / Nat.gcd c (i + 1)) * ((B - i) / ((i + 1) / Nat.gcd c (i + 1))) = e := by
 have hg : 0 < Nat.gcd c (i + 1) := Nat.gcd_pos_of_pos_left _ hc
 obtain ⟨c', hc'⟩ := Nat.gcd_dvd_left c (i + 1)
 obtain ⟨d', hd'⟩ := Nat.gcd_dvd_right c (i + 1)
 have hcop : Nat.Coprime c' d' := by
  have := Nat.coprime_div_gcd_div_gcd hg
  have q1 : c / Nat.gcd c (i + 1) = c' := Nat.div_eq_of_eq_mul_right hg hc'
  have q2 : (i + 1) / Nat.gcd c (i + 1) = d' := Nat.div_eq_of_eq_mul_right hg hd'
  rw [q1, q2] at this
  exact this
 generalize Nat.gcd c (i + 1) = g at *
 have e1 : c / g = c' := by rw [hc']; exact Nat.mul_div_cancel_left _ hg
 have e2 : (i + 1) / g = d' := by rw [hd']; exact Nat.mul_div_cancel_left _ hg
 rw [e1, e2]
 have hd0 : 0 < d' := by
  rcases Nat.eq_zero_or_pos d' with h | h
  ·rw [h] at hd'; simp at hd'
  ·exact h
 rw [hd', hc'] at h
 have h2 : e * d' = c' * (B - i) := by
  have : g * (e * d') = g * (c' * (B - i)) := by
   rw [← Nat.mul_assoc g c', ← h]; rw [Nat.mul_left_comm]
  exact Nat.eq_of_mul_eq_mul_left hg this
 have hdv : d' ∣ B - i := Nat.Coprime.dvd_of_dvd_mul_left hcop.symm ⟨e, by rw [← h2, Nat.mul_comm]⟩
 obtain ⟨q, hq⟩ := hdv
 rw [hq, Nat.mul_div_cancel_left _ hd0]
 rw [hq] at h2
 have : d' * (c' * q) = d' * e := by rw [Nat.mul_comm d' e, h2, Nat.mul_left_comm]
 exact Nat.eq_of_mul_eq_mul_left hd0 this
theorem ch_pos : ∀ {n k : Nat}, k ≤ n → 0 < ch n k
 | n, 0, _ => by rw [ch_zero]; omega
 | n, k + 1, h => by
  have h1 := ch_step n k (by omega)
  have h2 := ch_pos (n := n) (k := k) (by omega)
  rcases Nat.eq_zero_or_pos (ch n (k + 1)) with h3 | h3
  ·rw [h3, Nat.zero_mul] at h1
   have := Nat.mul_pos h2 (show 0 < n - k by omega)
   omega
  ·exact h3
theorem rchoose_eq {A B : Nat} (hB : (B : Int) ≤ 9223372036854775807) (hA : (A : Int) ≤ 9223372036854775807) : M.anamnesisref01_choose A B = some (if ch B A ≤ 9223372036854775807 then ((ch B A : Int), true) else (0, false)) := by
 unfold M.anamnesisref01_choose
 by_cases hAB : A > B
 ·rw [if_pos (by simp; omega), ch_out hAB]; rfl
 ·rw [if_neg (by simp; omega)]
  obtain ⟨N, hN⟩ : ∃ N : Nat, N = min A (B - A) := ⟨_, rfl⟩
  have hn : (if decide (IntKind.i64.wrap ((B : Int) - A) < (A : Int)) = true then some (IntKind.i64.wrap ((B : Int) - A)) else some (A : Int)) = some (N : Int) := by
   rw [w64_id (x := (B : Int) - A) (by omega) (by omega)]
   by_cases h : (B : Int) - A < A
   ·rw [if_pos (by simpa using h)]; congr 1; omega
   ·rw [if_neg (by simpa using h)]; congr 1; omega
  rw [hn]
  simp only [Option.bind_some]
  have hsym : ch B N = ch B A := by
   rcases Nat.le_total A (B - A) with h | h
   ·rw [hN, Nat.min_eq_left h]
   ·rw [hN, Nat.min_eq_right h]; exact ch_symm (by omega)
  obtain ⟨r, hr, hQ⟩ := wloop_ind (f := M.anamnesisref01_choose_L1 B N) (fun m st => ∃ i : Nat, st = ((ch B i : Int), (i : Int)) ∧ i ≤ N ∧ m = N - i ∧ ch B i ≤ 9223372036854775807)
   (fun r => (r = .next (ch B N : Int) ∧ ch B N ≤ 9223372036854775807) ∨ (r = .done (0, false) ∧ ¬ ch B N ≤ 9223372036854775807)) (fun m st h => by
    obtain ⟨i, rfl, hi, rfl, hc⟩ := h
    simp only [M.anamnesisref01_choose_L1]
    by_cases hlt : i < N
    ·have hcp := ch_pos (n := B) (k := i) (by omega)
     have hst := ch_step B i (by omega)
     have hmul := ch_gcd hst hcp
     have hg : 0 < Nat.gcd (ch B i) (i + 1) := Nat.gcd_pos_of_pos_left _ hcp
     have hgd := Nat.gcd_dvd_right (ch B i) (i + 1)
     have hd0 : 0 < (i + 1) / Nat.gcd (ch B i) (i + 1) := Nat.div_pos (Nat.le_of_dvd (by omega) hgd) hg
     have q1b := Nat.div_le_self (ch B i) (Nat.gcd (ch B i) (i + 1))
     have q2b := Nat.div_le_self (i + 1) (Nat.gcd (ch B i) (i + 1))
     have q3b := Nat.div_le_self (B - i) ((i + 1) / Nat.gcd (ch B i) (i + 1))
     rw [if_pos (by simp; omega), w64_id (x := (i : Int) + 1) (by omega) (by omega), show (i : Int) + 1 = ((i + 1 : Nat) : Int) by omega, gcd_eq (by omega) (by omega)]
     simp only [Option.bind_some]
     generalize Nat.gcd (ch B i) (i + 1) = g at *
     have qq : ∀ x y : Nat, 0 < y → (x : Int) ≤ 9223372036854775807 → quoI .i64 (x : Int) (y : Int) = some ((x / y : Nat) : Int) := fun x y hy hx => by
      have := Nat.div_le_self x y
      unfold quoI
      rw [if_neg (by omega), Int.tdiv_eq_ediv_of_nonneg (by omega), ← Int.natCast_ediv]
      generalize x / y = z at *
      rw [w64_id (by omega) (by omega)]
     rw [qq _ _ hg (by omega), qq _ _ hg (by omega), w64_id (x := (B : Int) - i) (by omega) (by omega), show (B : Int) - i = ((B - i : Nat) : Int) by omega]
     simp only [Option.bind_some]
     rw [qq _ _ hd0 (by omega)]
     simp only [Option.bind_some]
     generalize (B - i) / ((i + 1) / g) = z3 at *
     generalize ch B i / g = z1 at *
     rw [times_eq (by unfold rng; omega) (by unfold rng; omega), ← Int.natCast_mul, hmul]
     by_cases hle : ch B (i + 1) ≤ 9223372036854775807
     ·left
      rw [if_pos (by unfold rng; omega)]
      exact ⟨_, N - (i + 1), rfl, by omega, i + 1, rfl, by omega, rfl, hle⟩
     ·right
      rw [if_neg (by unfold rng; omega)]
      refine ⟨_, rfl, .inr ⟨rfl, fun h => hle ?_⟩⟩
      have := ch_mono_to (n := B) (m := N) (N - (i + 1)) (i + 1) (by omega) (by omega)
      omega
    ·right
     rw [if_neg (by simp; omega)]
     obtain rfl : i = N := by omega
     exact ⟨_, rfl, .inl ⟨rfl, hc⟩⟩) N (1, 0) ⟨0, by rw [ch_zero]; rfl, by omega, rfl, by rw [ch_zero]; omega⟩
  rw [hr, ← hsym]
  rcases hQ with ⟨rfl, h⟩ | ⟨rfl, h⟩
  ·rw [if_pos h]; rfl
  ·rw [if_neg h]; rfl
theorem rtruth_eq (b : Bool) : M.anamnesisref01_truth b = some (if b = true then 1 else 0) := by unfold M.anamnesisref01_truth; cases b <;> rfl
theorem rlogic_no {fn : ByteArray} {a b : Int} (h : (isbit a && isbit b) = false) : M.anamnesisref01_logic fn a b = some (0, false) := by
 unfold M.anamnesisref01_logic
 rw [if_pos]
 unfold isbit at h
 by_cases h1 : a = 0 ∨ a = 1
 ·have : ¬ (b = 0 ∨ b = 1) := fun h2 => by
   rcases h1 with rfl | rfl <;> rcases h2 with rfl | rfl <;> simp at h
  simp; omega
 ·simp; omega
theorem st_0 {a b : Int} (ha : rng a) (hb : rng b) : ∃ q, M.anamnesisref01_Dyad str_43 a b = some q ∧ M.ints_Dyad str_43 a b = some (tl q) := by
 unfold rng at ha hb
 have e2 := dy_add (a := a) (b := b) ha hb
 by_cases h : rng (a + b)
 ·refine ⟨(a + b, true), ?_, by rw [e2, if_pos h]; rfl⟩
  unfold M.anamnesisref01_Dyad
  simp only [ByteArray.toList_eq]
  rw [if_pos (by decide), if_neg ?_, w64_id h.1 h.2]
  unfold rng at h
  intro hh
  simp only [Bool.or_eq_true, Bool.and_eq_true, decide_eq_true_eq] at hh
  rcases hh with ⟨h1, h2⟩ | ⟨h1, h2⟩
  ·rw [w64_id (by omega) (by omega)] at h2; omega
  ·rw [w64_id (by omega) (by omega)] at h2; omega
 ·refine ⟨(0, false), ?_, by rw [e2, if_neg h]; rfl⟩
  unfold M.anamnesisref01_Dyad
  simp only [ByteArray.toList_eq]
  rw [if_pos (by decide), if_pos ?_]
  unfold rng at h
  simp only [Bool.or_eq_true, Bool.and_eq_true, decide_eq_true_eq]
  by_cases h1 : b > 0
  ·left; rw [w64_id (by omega) (by omega)]; omega
  ·right; rw [w64_id (by omega) (by omega)]; omega
theorem st_1 {a b : Int} (ha : rng a) (hb : rng b) : ∃ q, M.anamnesisref01_Dyad str_45 a b = some q ∧ M.ints_Dyad str_45 a b = some (tl q) := by
 unfold rng at ha hb
 have e2 := dy_sub (a := a) (b := b) ha hb
 by_cases h : rng (a - b)
 ·refine ⟨(a - b, true), ?_, by rw [e2, if_pos h]; rfl⟩
  unfold M.anamnesisref01_Dyad
  simp only [ByteArray.toList_eq]
  iterate 1 rw [if_neg (by decide)]
  rw [if_pos (by decide), if_neg ?_, w64_id h.1 h.2]
  unfold rng at h
  intro hh
  simp only [Bool.or_eq_true, Bool.and_eq_true, decide_eq_true_eq] at hh
  rcases hh with ⟨h1, h2⟩ | ⟨h1, h2⟩
  ·rw [w64_id (by omega) (by omega)] at h2; omega
  ·rw [w64_id (by omega) (by omega)] at h2; omega
 ·refine ⟨(0, false), ?_, by rw [e2, if_neg h]; rfl⟩
  unfold M.anamnesisref01_Dyad
  simp only [ByteArray.toList_eq]
  iterate 1 rw [if_neg (by decide)]
  rw [if_pos (by decide), if_pos ?_]
  unfold rng at h
  simp only [Bool.or_eq_true, Bool.and_eq_true, decide_eq_true_eq]
  by_cases h1 : b > 0
  ·right; rw [w64_id (by omega) (by omega)]; omega
  ·left; rw [w64_id (by omega) (by omega)]; omega
theorem st_2 {a b : Int} (ha : rng a) (hb : rng b) : ∃ q, M.anamnesisref01_Dyad str_195_151 a b = some q ∧ M.ints_Dyad str_195_151 a b = some (tl q) := by
 refine ⟨if rng (a * b) then (a * b, true) else (0, false), ?_, by rw [dy_mul ha hb]; split <;> rfl⟩
 unfold M.anamnesisref01_Dyad
 simp only [ByteArray.toList_eq]
 iterate 2 rw [if_neg (by decide)]
 rw [if_pos (by decide), times_eq ha hb]
 rfl
theorem st_3 {a b : Int} (ha : rng a) (hb : rng b) : ∃ q, M.anamnesisref01_Dyad str_195_183 a b = some q ∧ M.ints_Dyad str_195_183 a b = some (tl q) := by
 have e2 := dy_div ha hb
 unfold fDiv at e2
 by_cases h1 : a = 0 ∧ b = 0
 ·rw [if_pos h1] at e2
  refine ⟨_, ?_, e2⟩
  unfold M.anamnesisref01_Dyad
  simp only [ByteArray.toList_eq]
  iterate 3 rw [if_neg (by decide)]
  rw [if_pos (by decide), if_pos (by simpa using h1)]
 ·rw [if_neg h1] at e2
  by_cases h2 : b = 0 ∨ a = -9223372036854775808 ∧ b = -1
  ·rw [if_pos h2] at e2
   refine ⟨_, ?_, e2⟩
   unfold M.anamnesisref01_Dyad
   simp only [ByteArray.toList_eq]
   iterate 3 rw [if_neg (by decide)]
   rw [if_pos (by decide), if_neg (by simpa using h1), show ((b == 0) || ((a == (-9223372036854775808)) && (b == (-1)))) = true from by simpa using h2]
   rfl
  ·rw [if_neg h2] at e2
   have hb0 : b ≠ 0 := fun h => h2 (.inl h)
   have hr := tdiv_rng ha hb0 (fun h => h2 (.inr h))
   have e3 : remI a b = some (a.tmod b) := by unfold remI; rw [if_neg hb0]
   have e4 : quoI .i64 a b = some (a.tdiv b) := by unfold quoI; rw [if_neg hb0, w64_id hr.1 hr.2]
   have e5 : ((b == 0) || ((a == (-9223372036854775808)) && (b == (-1)))) = false := by simpa using h2
   by_cases hz : a.tmod b = 0
   ·refine ⟨(a.tdiv b, true), ?_, by rw [e2, hz]; rfl⟩
    unfold M.anamnesisref01_Dyad
    simp only [ByteArray.toList_eq]
    iterate 3 rw [if_neg (by decide)]
    rw [if_pos (by decide), if_neg (by simpa using h1), e5, e3, e4, hz]
    rfl
   ·refine ⟨(0, false), ?_, by rw [e2, show (a.tmod b == 0) = false from by simpa using hz]; rfl⟩
    unfold M.anamnesisref01_Dyad
    simp only [ByteArray.toList_eq]
    iterate 3 rw [if_neg (by decide)]
    rw [if_pos (by decide), if_neg (by simpa using h1), e5, e3, e4]
    simp [hz]
theorem st_4 {a b : Int} (ha : rng a) (hb : rng b) : ∃ q, M.anamnesisref01_Dyad str_42 a b = some q ∧ M.ints_Dyad str_42 a b = some (tl q) := by
 obtain ⟨p, q, e1, e2, e3⟩ := pow_both ha hb
 refine ⟨q, ?_, by rw [sel_power e1, e3]⟩
 rw [← e2]
 unfold M.anamnesisref01_Dyad
 simp only [ByteArray.toList_eq]
 iterate 4 rw [if_neg (by decide)]
 rw [if_pos (by decide)]
theorem st_5 {a b : Int} (ha : rng a) (hb : rng b) : ∃ q, M.anamnesisref01_Dyad str_124 a b = some q ∧ M.ints_Dyad str_124 a b = some (tl q) := by
 refine ⟨(fRes a b, true), ?_, dy_res ha hb⟩
 unfold M.anamnesisref01_Dyad
 simp only [ByteArray.toList_eq]
 iterate 5 rw [if_neg (by decide)]
 rw [if_pos (by decide)]
 unfold fRes
 by_cases h0 : a = 0
 ·rw [if_pos (by simpa using h0), if_pos h0]
 ·rw [if_neg (by simpa using h0), if_neg h0]
  by_cases h1 : a = -1
  ·rw [if_pos (by simp [h1]), if_pos h1]
  ·rw [if_neg h1]
   have e3 : remI b a = some (b.tmod a) := by unfold remI; rw [if_neg h0]
   by_cases h2 : a = 1
   ·subst h2
    rw [if_pos (by rfl), if_neg (by simp)]
    simp
   ·rw [if_neg (by simp; omega), e3]
    simp only [Option.bind_some]
    have n1 := Int.natAbs_tmod b a
    have n2 := Nat.mod_lt b.natAbs (show 0 < a.natAbs by omega)
    unfold rng at ha hb
    generalize b.tmod a = r at *
    by_cases h3 : r < 0 ∧ a > 0 ∨ r > 0 ∧ a < 0
    ·rw [if_pos (by simpa using h3), if_pos ⟨by omega, by simp only [decide_eq_decide]; omega⟩, w64_id (by omega) (by omega)]
     rfl
    ·rw [if_neg (by simpa using h3), if_neg (by simp only [decide_eq_decide]; omega)]
     rfl
theorem st_6 {a b : Int} (ha : rng a) (hb : rng b) : ∃ q, M.anamnesisref01_Dyad str_33 a b = some q ∧ M.ints_Dyad str_33 a b = some (tl q) := by
 refine ⟨fCh a b, ?_, dy_choose ha hb⟩
 unfold M.anamnesisref01_Dyad
 simp only [ByteArray.toList_eq]
 iterate 6 rw [if_neg (by decide)]
 rw [if_pos (by decide)]
 unfold fCh
 by_cases h : a < 0 ∨ b < 0
 ·rw [if_pos (by simpa using h), if_pos h]
 ·rw [if_neg (by simpa using h), if_neg h]
  obtain ⟨A, rfl⟩ : ∃ A : Nat, a = A := ⟨a.toNat, by omega⟩
  obtain ⟨B, rfl⟩ : ∃ B : Nat, b = B := ⟨b.toNat, by omega⟩
  rw [rchoose_eq hb.2 ha.2]
  simp only [Int.toNat_natCast]
  rfl
theorem st_7 {a b : Int} (ha : rng a) (hb : rng b) : ∃ q, M.anamnesisref01_Dyad str_226_140_136 a b = some q ∧ M.ints_Dyad str_226_140_136 a b = some (tl q) := by
 refine ⟨(if a < b then b else a, true), ?_, dy_max a b⟩
 unfold M.anamnesisref01_Dyad
 simp only [ByteArray.toList_eq]
 iterate 7 rw [if_neg (by decide)]
 rw [if_pos (by decide)]
 by_cases h : a > b
 ·rw [if_pos (by simpa using h), if_neg (by omega)]
 ·rw [if_neg (by simpa using h)]
  by_cases h2 : a < b
  ·rw [if_pos h2]
  ·rw [if_neg h2]; congr 2; omega
theorem st_8 {a b : Int} (ha : rng a) (hb : rng b) : ∃ q, M.anamnesisref01_Dyad str_226_140_138 a b = some q ∧ M.ints_Dyad str_226_140_138 a b = some (tl q) := by
 refine ⟨(if b < a then b else a, true), ?_, dy_min a b⟩
 unfold M.anamnesisref01_Dyad
 simp only [ByteArray.toList_eq]
 iterate 8 rw [if_neg (by decide)]
 rw [if_pos (by decide)]
 by_cases h : a < b
 ·rw [if_pos (by simpa using h), if_neg (by omega)]
 ·rw [if_neg (by simpa using h)]
  by_cases h2 : b < a
  ·rw [if_pos h2]
  ·rw [if_neg h2]; congr 2; omega
theorem st_9 {a b : Int} (ha : rng a) (hb : rng b) : ∃ q, M.anamnesisref01_Dyad str_60 a b = some q ∧ M.ints_Dyad str_60 a b = some (tl q) := by
 refine ⟨(if a < b then 1 else 0, true), ?_, dy_lt a b⟩
 unfold M.anamnesisref01_Dyad
 simp only [ByteArray.toList_eq]
 iterate 9 rw [if_neg (by decide)]
 rw [if_pos (by decide), rtruth_eq]
 by_cases h : a < b
 ·rw [if_pos (by simpa using h), if_pos h]; rfl
 ·rw [if_neg (by simpa using h), if_neg h]; rfl
theorem st_10 {a b : Int} (ha : rng a) (hb : rng b) : ∃ q, M.anamnesisref01_Dyad str_226_137_164 a b = some q ∧ M.ints_Dyad str_226_137_164 a b = some (tl q) := by
 refine ⟨(if a ≤ b then 1 else 0, true), ?_, dy_le a b⟩
 unfold M.anamnesisref01_Dyad
 simp only [ByteArray.toList_eq]
 iterate 10 rw [if_neg (by decide)]
 rw [if_pos (by decide), rtruth_eq]
 by_cases h : a ≤ b
 ·rw [if_pos (by simpa using h), if_pos h]; rfl
 ·rw [if_neg (by simpa using h), if_neg h]; rfl
theorem st_11 {a b : Int} (ha : rng a) (hb : rng b) : ∃ q, M.anamnesisref01_Dyad str_61 a b = some q ∧ M.ints_Dyad str_61 a b = some (tl q) := by
 refine ⟨(if a = b then 1 else 0, true), ?_, dy_eq a b⟩
 unfold M.anamnesisref01_Dyad
 simp only [ByteArray.toList_eq]
 iterate 11 rw [if_neg (by decide)]
 rw [if_pos (by decide), rtruth_eq]
 by_cases h : a = b
 ·rw [if_pos (by simpa using h), if_pos h]; rfl
 ·rw [if_neg (by simpa using h), if_neg h]; rfl
theorem st_12 {a b : Int} (ha : rng a) (hb : rng b) : ∃ q, M.anamnesisref01_Dyad str_226_137_165 a b = some q ∧ M.ints_Dyad str_226_137_165 a b = some (tl q) := by
 refine ⟨(if b ≤ a then 1 else 0, true), ?_, dy_ge a b⟩
 unfold M.anamnesisref01_Dyad
 simp only [ByteArray.toList_eq]
 iterate 12 rw [if_neg (by decide)]
 rw [if_pos (by decide), rtruth_eq]
 by_cases h : b ≤ a
 ·rw [if_pos (by simpa using h), if_pos h]; rfl
 ·rw [if_neg (by simpa using h), if_neg h]; rfl
theorem st_13 {a b : Int} (ha : rng a) (hb : rng b) : ∃ q, M.anamnesisref01_Dyad str_62 a b = some q ∧ M.ints_Dyad str_62 a b = some (tl q) := by
 refine ⟨(if b < a then 1 else 0, true), ?_, dy_gt a b⟩
 unfold M.anamnesisref01_Dyad
 simp only [ByteArray.toList_eq]
 iterate 13 rw [if_neg (by decide)]
 rw [if_pos (by decide), rtruth_eq]
 by_cases h : b < a
 ·rw [if_pos (by simpa using h), if_pos h]; rfl
 ·rw [if_neg (by simpa using h), if_neg h]; rfl
theorem st_14 {a b : Int} (ha : rng a) (hb : rng b) : ∃ q, M.anamnesisref01_Dyad str_226_137_160 a b = some q ∧ M.ints_Dyad str_226_137_160 a b = some (tl q) := by
 refine ⟨(if a = b then 0 else 1, true), ?_, dy_ne a b⟩
 unfold M.anamnesisref01_Dyad
 simp only [ByteArray.toList_eq]
 iterate 14 rw [if_neg (by decide)]
 rw [if_pos (by decide), rtruth_eq]
 by_cases h : a = b
 ·rw [if_neg (by simpa using h), if_pos h]; rfl
 ·rw [if_pos (by simpa using h), if_neg h]; rfl
theorem st_15 {a b : Int} (ha : rng a) (hb : rng b) : ∃ q, M.anamnesisref01_Dyad str_226_136_167 a b = some q ∧ M.ints_Dyad str_226_136_167 a b = some (tl q) := by
 cases h : (isbit a && isbit b) with
 | false =>
  refine ⟨(0, false), ?_, by rw [dy_and a b, h]; rfl⟩
  unfold M.anamnesisref01_Dyad
  simp only [ByteArray.toList_eq]
  iterate 15 rw [if_neg (by decide)]
  rw [rlogic_no h]; rfl
 | true =>
  refine ⟨(a * b, true), ?_, by rw [dy_and a b, h]; rfl⟩
  unfold M.anamnesisref01_Dyad
  simp only [ByteArray.toList_eq]
  iterate 15 rw [if_neg (by decide)]
  rw [show M.anamnesisref01_logic str_226_136_167 a b = some (a * b, true) from by
   unfold M.anamnesisref01_logic
   simp only [ByteArray.toList_eq]
   obtain ⟨h1, h2⟩ := bit_cases h
   rcases h1 with rfl | rfl <;> rcases h2 with rfl | rfl <;> rfl]
  rfl
theorem st_16 {a b : Int} (ha : rng a) (hb : rng b) : ∃ q, M.anamnesisref01_Dyad str_226_136_168 a b = some q ∧ M.ints_Dyad str_226_136_168 a b = some (tl q) := by
 cases h : (isbit a && isbit b) with
 | false =>
  refine ⟨(0, false), ?_, by rw [dy_or a b, h]; rfl⟩
  unfold M.anamnesisref01_Dyad
  simp only [ByteArray.toList_eq]
  iterate 15 rw [if_neg (by decide)]
  rw [rlogic_no h]; rfl
 | true =>
  refine ⟨(a + b - a * b, true), ?_, by rw [dy_or a b, h]; rfl⟩
  unfold M.anamnesisref01_Dyad
  simp only [ByteArray.toList_eq]
  iterate 15 rw [if_neg (by decide)]
  rw [show M.anamnesisref01_logic str_226_136_168 a b = some (a + b - a * b, true) from by
   unfold M.anamnesisref01_logic
   simp only [ByteArray.toList_eq]
   obtain ⟨h1, h2⟩ := bit_cases h
   rcases h1 with rfl | rfl <;> rcases h2 with rfl | rfl <;> rfl]
  rfl
theorem st_17 {a b : Int} (ha : rng a) (hb : rng b) : ∃ q, M.anamnesisref01_Dyad str_226_141_178 a b = some q ∧ M.ints_Dyad str_226_141_178 a b = some (tl q) := by
 cases h : (isbit a && isbit b) with
 | false =>
  refine ⟨(0, false), ?_, by rw [dy_nand a b, h]; rfl⟩
  unfold M.anamnesisref01_Dyad
  simp only [ByteArray.toList_eq]
  iterate 15 rw [if_neg (by decide)]
  rw [rlogic_no h]; rfl
 | true =>
  refine ⟨(1 - a * b, true), ?_, by rw [dy_nand a b, h]; rfl⟩
  unfold M.anamnesisref01_Dyad
  simp only [ByteArray.toList_eq]
  iterate 15 rw [if_neg (by decide)]
  rw [show M.anamnesisref01_logic str_226_141_178 a b = some (1 - a * b, true) from by
   unfold M.anamnesisref01_logic
   simp only [ByteArray.toList_eq]
   obtain ⟨h1, h2⟩ := bit_cases h
   rcases h1 with rfl | rfl <;> rcases h2 with rfl | rfl <;> rfl]
  rfl
theorem st_18 {a b : Int} (ha : rng a) (hb : rng b) : ∃ q, M.anamnesisref01_Dyad str_226_141_177 a b = some q ∧ M.ints_Dyad str_226_141_177 a b = some (tl q) := by
 cases h : (isbit a && isbit b) with
 | false =>
  refine ⟨(0, false), ?_, by rw [dy_nor a b, h]; rfl⟩
  unfold M.anamnesisref01_Dyad
  simp only [ByteArray.toList_eq]
  iterate 15 rw [if_neg (by decide)]
  rw [rlogic_no h]; rfl
 | true =>
  refine ⟨(1 - (a + b - a * b), true), ?_, by rw [dy_nor a b, h]; rfl⟩
  unfold M.anamnesisref01_Dyad
  simp only [ByteArray.toList_eq]
  iterate 15 rw [if_neg (by decide)]
  rw [show M.anamnesisref01_logic str_226_141_177 a b = some (1 - (a + b - a * b), true) from by
   unfold M.anamnesisref01_logic
   simp only [ByteArray.toList_eq]
   obtain ⟨h1, h2⟩ := bit_cases h
   rcases h1 with rfl | rfl <;> rcases h2 with rfl | rfl <;> rfl]
  rfl
noncomputable instance : DecidableEq ByteArray := fun a b => Classical.propDecidable (a = b)
noncomputable instance (a : ByteArray) (l : List ByteArray) : Decidable (a ∈ l) := Classical.propDecidable (a ∈ l)
theorem list_beq (a b : ByteArray) : (a.toList == b.toList) = decide (a = b) := by
 rw [Bool.eq_iff_iff, beq_iff_eq, decide_eq_true_eq]
 constructor
 ·intro h
  rw [ByteArray.toList_eq, ByteArray.toList_eq] at h
  obtain ⟨x⟩ := a
  obtain ⟨y⟩ := b
  have : x = y := by
   have h2 : x.toList = y.toList := h
   exact Array.toList_inj.mp h2
  rw [this]
 ·rintro rfl; rfl
theorem In_eq {l : List ByteArray} {fn : ByteArray} (hl : l.length ≤ 1000) : M.anamnesisref01_In l fn = some (decide (fn ∈ l)) := by
 unfold M.anamnesisref01_In
 rcases loop_find (f := M.anamnesisref01_In_L1 l fn) (fun k => (k : Int)) l.length (fun k => decide (l[k]? = some fn)) (fun _ => .done true) (c := .next ()) (fun k hk => by
   simp only [M.anamnesisref01_In_L1]
   rw [if_pos (by simp; omega), idx_get hk, w64_id (x := (k : Int) + 1) (by omega) (by omega)]
   simp only [Option.bind_some]
   rw [list_beq, List.getElem?_eq_getElem hk]
   by_cases h : l[k] = fn
   ·rw [if_pos (by simpa using h), if_pos (by simpa using h)]
   ·rw [if_neg (by simpa using h), if_neg (by simpa using h)]; rfl) (by
   simp only [M.anamnesisref01_In_L1]
   rw [if_neg (by simp)]) with ⟨k, hk, hb, _, he⟩ | ⟨hg, he⟩
 ·have he' : wloop (M.anamnesisref01_In_L1 l fn) 0 = some (.done true) := he
  rw [he', decide_eq_true (List.mem_of_getElem? (by simpa using hb))]; rfl
 ·have he' : wloop (M.anamnesisref01_In_L1 l fn) 0 = some (.next ()) := he
  have hn : fn ∉ l := fun hm => by
   obtain ⟨k, hk⟩ := List.getElem?_of_mem hm
   have hkl : k < l.length := by
    rcases Nat.lt_or_ge k l.length with h | h
    ·exact h
    ·rw [List.getElem?_eq_none h] at hk; cases hk
   have := hg k hkl
   rw [hk] at this; simp at this
  rw [he', decide_eq_false hn]; rfl
theorem dyad_both {fn : ByteArray} {a b : Int} (h : fn ∈ gl19) (ha : rng a) (hb : rng b) : ∃ q, M.anamnesisref01_Dyad fn a b = some q ∧ M.ints_Dyad fn a b = some (tl q) := by
 simp only [gl19, List.mem_cons, List.not_mem_nil, or_false] at h
 rcases h with rfl | rfl | rfl | rfl | rfl | rfl | rfl | rfl | rfl | rfl | rfl | rfl | rfl | rfl | rfl | rfl | rfl | rfl | rfl
 ·exact st_0 ha hb
 ·exact st_1 ha hb
 ·exact st_2 ha hb
 ·exact st_3 ha hb
 ·exact st_4 ha hb
 ·exact st_5 ha hb
 ·exact st_6 ha hb
 ·exact st_7 ha hb
 ·exact st_8 ha hb
 ·exact st_9 ha hb
 ·exact st_10 ha hb
 ·exact st_11 ha hb
 ·exact st_12 ha hb
 ·exact st_13 ha hb
 ·exact st_14 ha hb
 ·exact st_15 ha hb
 ·exact st_16 ha hb
 ·exact st_17 ha hb
 ·exact st_18 ha hb
noncomputable def dyR (fn : ByteArray) (x y : Int) : Int × Bool := (M.anamnesisref01_Dyad fn x y).getD (0, false)
theorem dyR_eq {fn : ByteArray} {x y : Int} (h : fn ∈ gl19) (hx : rng x) (hy : rng y) : M.anamnesisref01_Dyad fn x y = some (dyR fn x y) ∧ M.ints_Dyad fn x y = some (tl (dyR fn x y)) := by
 obtain ⟨q, h1, h2⟩ := dyad_both h hx hy
 have e : dyR fn x y = q := by unfold dyR; rw [h1]; rfl
 rw [e]; exact ⟨h1, h2⟩
theorem nn {p : Prop} (h : p) : ¬ ¬ p := fun k => k h
def fe (E : Nat → Int) : Nat → Int
 | 0 => 0
 | m + 1 => if fe E m ≠ 0 then fe E m else E m
theorem fe_add (E : Nat → Int) (a b : Nat) : fe E (a + b) = if fe E a ≠ 0 then fe E a else fe (fun k => E (a + k)) b := by
 induction b with
 | zero => simp [fe]
 | succ b ih =>
  show (if fe E (a + b) ≠ 0 then fe E (a + b) else E (a + b)) = _
  rw [ih]
  by_cases h : fe E a = 0
  ·rw [if_neg (nn h), if_neg (nn h)]; rfl
  ·rw [if_pos h, if_pos h, if_pos h]
theorem fe_mul (E : Nat → Int) (B m : Nat) : fe E (B * m) = fe (fun i => fe (fun k => E (i * m + k)) m) B := by
 induction B with
 | zero => simp [fe]
 | succ B ih =>
  rw [Nat.succ_mul, fe_add, ih]; rfl
theorem fe_zero {E : Nat → Int} {m : Nat} : fe E m = 0 ↔ ∀ k, k < m → E k = 0 := by
 induction m with
 | zero => simp [fe]
 | succ m ih =>
  unfold fe
  by_cases h : fe E m = 0
  ·rw [if_neg (nn h)]
   rw [ih] at h
   constructor
   ·intro h1 k hk
    by_cases hkm : k = m
    ·subst hkm; exact h1
    ·exact h k (by omega)
   ·intro h1; exact h1 m (by omega)
  ·rw [if_pos h]
   constructor
   ·intro h1; exact absurd h1 h
   ·intro h1; exact absurd (ih.mpr fun k hk => h1 k (by omega)) h
theorem fe_at {E : Nat → Int} {m k : Nat} (hk : k < m) (h0 : ∀ j, j < k → E j = 0) (he : E k ≠ 0) : fe E m = E k := by
 obtain ⟨b, rfl⟩ : ∃ b, m = (k + 1) + b := ⟨m - (k + 1), by omega⟩
 have h1 : fe E (k + 1) = E k := by
  unfold fe
  rw [if_neg (nn (fe_zero.mpr h0))]
 rw [fe_add, h1, if_pos he]
theorem err_loop {σ β : Type} {F : σ → Option (Ctl σ β)} (st : Nat → σ) (E : Nat → Int) (ret : Int → β) (fin : β) (m : Nat)
  (hf : ∀ k, k < m → F (st k) = if E k ≠ 0 then some (.done (ret (E k))) else some (.next (st (k + 1))))
  (he : F (st m) = some (.done fin)) : wloop F (st 0) = some (if fe E m ≠ 0 then ret (fe E m) else fin) := by
 have key : ∀ j, j ≤ m → (∀ i, i < m - j → E i = 0) → wloop F (st (m - j)) = some (if fe E m ≠ 0 then ret (fe E m) else fin) := by
  intro j
  induction j with
  | zero =>
   intro _ h0
   rw [Nat.sub_zero] at h0 ⊢
   rw [fe_zero.mpr h0]
   exact wloop_done he
  | succ j ih =>
   intro hj h0
   have hk : m - (j + 1) < m := by omega
   by_cases hE : E (m - (j + 1)) = 0
   ·have h1 := hf _ hk
    rw [if_neg (nn hE)] at h1
    rw [wloop_next h1, show m - (j + 1) + 1 = m - j by omega]
    refine ih (by omega) fun i hi => ?_
    by_cases hi2 : i = m - (j + 1)
    ·subst hi2; exact hE
    ·exact h0 i (by omega)
   ·have h1 := hf _ hk
    rw [if_pos hE] at h1
    rw [wloop_done h1, fe_at hk h0 hE, if_pos hE]
 have := key m (Nat.le_refl m) (fun i hi => by omega)
 rwa [Nat.sub_self] at this
def vls (g : Nat → Int) (m : Nat) : List Int := (List.range m).map g
theorem vls_len (g : Nat → Int) (m : Nat) : (vls g m).length = m := by simp [vls]
theorem vls_succ (g : Nat → Int) (m : Nat) : vls g (m + 1) = vls g m ++ [g m] := by simp [vls, List.range_succ]
theorem grid_div {i k m : Nat} (h : k < m) : (i * m + k) / m = i ∧ (i * m + k) % m = k := by
 have hm : 0 < m := by omega
 constructor
 ·rw [Nat.mul_comm, Nat.mul_add_div hm, Nat.div_eq_of_lt h, Nat.add_zero]
 ·rw [Nat.mul_comm, Nat.mul_add_mod, Nat.mod_eq_of_lt h]
theorem grid_lt {i k B m : Nat} (hi : i < B) (hk : k < m) : i * m + k < B * m := by
 have : (i + 1) * m ≤ B * m := Nat.mul_le_mul_right m hi
 rw [Nat.succ_mul] at this
 omega
theorem tl_rng {p : Int × Bool} (h : p.2 = true → rng p.1) : rng (tl p).1 := by
 unfold tl
 by_cases h2 : p.2 = true
 ·rw [if_pos h2]; exact h h2
 ·rw [if_neg h2]; exact ⟨by decide, by decide⟩
theorem power_rng {a b : Int} (ha : rng a) (hb : rng b) : ∃ p, M.ints_power a b = some p ∧ (p.2 = true → rng p.1) := by
 have hb' := hb
 unfold rng at hb
 unfold M.ints_power
 split
 ·exact ⟨_, rfl, fun _ => ⟨by decide, by decide⟩⟩
 ·have e : ∃ t, (if (a == 1) = true then some (a == 1) else some ((a == 0) && decide (b > 0))) = some t := by split <;> exact ⟨_, rfl⟩
  obtain ⟨t, ht⟩ := e
  rw [ht]
  simp only [Option.bind_some]
  split
  ·exact ⟨_, rfl, fun _ => ha⟩
  ·split
   ·exact ⟨_, rfl, fun _ => i64_range _⟩
   ·split
    ·exact ⟨_, rfl, fun h => by cases h⟩
    ·have key := wloop_ind (f := M.ints_power_L1 a b) (fun j st => ∃ (c : Int) (ok : Bool) (i : Nat), st = (c, ok, (i : Int)) ∧ j = (b + 2 - i).toNat ∧ (i : Int) ≤ 9223372036854775807 ∧ (ok = true → rng c)) (fun c => ∃ x y, c = .next (x, y) ∧ (y = true → rng x)) (fun j st h => by
      obtain ⟨c, ok, i, rfl, rfl, hi, hok⟩ := h
      unfold M.ints_power_L1
      simp only []
      by_cases hg : (i : Int) < b ∧ ok = true
      ·left
       obtain ⟨hg1, hg2⟩ := hg
       rw [if_pos (by simp [hg1, hg2])]
       obtain ⟨d, h1, h2⟩ := mul_ok (hok hg2) ha
       rw [h1]
       simp only [Option.bind_some]
       rw [w64_id (by omega) (by omega)]
       refine ⟨_, (b + 2 - (i + 1 : Nat)).toNat, rfl, by omega, d, _, i + 1, rfl, rfl, by omega, fun h => ?_⟩
       have hr := of_decide_eq_true h
       rw [h2 hr]; exact hr
      ·right
       rw [if_neg (by simp only [Bool.and_eq_true, decide_eq_true_eq]; exact hg)]
       exact ⟨_, rfl, _, _, rfl, hok⟩) (b + 2 - (1 : Nat)).toNat (a, true, 1) ⟨a, true, 1, rfl, rfl, by omega, fun _ => ha⟩
     obtain ⟨c, hc, x, y, rfl, hr⟩ := key
     rw [hc]; exact ⟨_, rfl, hr⟩
theorem dyad_rng {fn : ByteArray} {a b : Int} (ha : rng a) (hb : rng b) {p : Int × Int} (hp : M.ints_Dyad fn a b = some p) : rng p.1 := by
 have r0 : rng 0 := ⟨by decide, by decide⟩
 have r1 : rng 1 := ⟨by decide, by decide⟩
 have k1 : ∀ {c : Prop} [Decidable c], rng (if c then (1 : Int) else 0) := fun {c} _ => by split <;> assumption
 have done : ∀ {q : Int × Int}, M.ints_Dyad fn a b = some q → rng q.1 → rng p.1 := fun h1 h2 => by
  rw [h1] at hp; obtain rfl := Option.some.inj hp; exact h2
 have kif : ∀ {c : Int}, rng (if rng c then (c, (0 : Int)) else (0, 23)).1 := fun {c} => by split <;> assumption
 have kb : ∀ {c : Int}, ((isbit a && isbit b) = true → rng c) → rng (if isbit a && isbit b then (c, (0 : Int)) else (0, 23)).1 := fun {c} h => by
  split
  ·rename_i h2; exact h h2
  ·exact r0
 have kk : ∀ {c : Int}, ((isbit a && isbit b) = true → 0 ≤ c ∧ c ≤ 1) → rng (if isbit a && isbit b then (c, (0 : Int)) else (0, 23)).1 := fun h => kb fun h2 => by
  have := h h2; exact ⟨by omega, by omega⟩
 have bits : (isbit a && isbit b) = true → (0 ≤ a * b ∧ a * b ≤ 1) ∧ (0 ≤ a + b - a * b ∧ a + b - a * b ≤ 1) := fun h => by
  rcases bit_cases h with ⟨rfl | rfl, rfl | rfl⟩ <;> decide
 by_cases h : (fn == str_43) = true
 ·have e : fn = str_43 := ba_eq h
  subst e; exact done (dy_add ha hb) kif
 have h_43 : ¬ (fn == str_43) = true := h
 clear h
 by_cases h : (fn == str_45) = true
 ·have e : fn = str_45 := ba_eq h
  subst e; exact done (dy_sub ha hb) kif
 have h_45 : ¬ (fn == str_45) = true := h
 clear h
 by_cases h : (fn == str_195_151) = true
 ·have e : fn = str_195_151 := ba_eq h
  subst e; exact done (dy_mul ha hb) kif
 have h_195_151 : ¬ (fn == str_195_151) = true := h
 clear h
 by_cases h : (fn == str_195_183) = true
 ·have e : fn = str_195_183 := ba_eq h
  subst e
  refine done (dy_div ha hb) (tl_rng fun h => ?_)
  unfold fDiv at h ⊢
  by_cases h1 : a = 0 ∧ b = 0
  ·rw [if_pos h1]; exact r1
  ·rw [if_neg h1] at h ⊢
   by_cases h2 : b = 0 ∨ a = -9223372036854775808 ∧ b = -1
   ·rw [if_pos h2]; exact r0
   ·rw [if_neg h2]
    exact tdiv_rng ha (fun h => h2 (.inl h)) (fun h => h2 (.inr h))
 have h_195_183 : ¬ (fn == str_195_183) = true := h
 clear h
 by_cases h : (fn == str_42) = true
 ·have e : fn = str_42 := ba_eq h
  subst e; obtain ⟨p, hp, hr⟩ := power_rng ha hb; exact done (sel_power hp) (tl_rng hr)
 have h_42 : ¬ (fn == str_42) = true := h
 clear h
 by_cases h : (fn == str_124) = true
 ·have e : fn = str_124 := ba_eq h
  subst e
  refine done (dy_res ha hb) ?_
  unfold rng at ha hb
  show rng (fRes a b)
  unfold fRes
  by_cases h0 : a = 0
  ·rw [if_pos h0]; exact hb
  rw [if_neg h0]
  by_cases h1 : a = -1
  ·rw [if_pos h1]; exact r0
  rw [if_neg h1]
  have t2 : (b.tmod a).natAbs < a.natAbs := by
   rw [Int.natAbs_tmod]; exact Nat.mod_lt _ (by omega)
  split
  ·rename_i hc
   unfold rng
   generalize b.tmod a = q at *
   obtain ⟨hc1, hc2⟩ := hc
   by_cases q0 : q < 0
   ·by_cases a0 : a < 0
    ·exact absurd (by rw [decide_eq_true q0, decide_eq_true a0]) hc2
    ·omega
   ·by_cases a0 : a < 0
    ·omega
    ·exact absurd (by rw [decide_eq_false q0, decide_eq_false a0]) hc2
  ·unfold rng
   generalize b.tmod a = q at *
   omega
 have h_124 : ¬ (fn == str_124) = true := h
 clear h
 by_cases h : (fn == str_33) = true
 ·have e : fn = str_33 := ba_eq h
  subst e
  refine done (dy_choose ha hb) (tl_rng fun h => ?_)
  unfold fCh at h ⊢
  by_cases h1 : a < 0 ∨ b < 0
  ·rw [if_pos h1]; exact r0
  ·rw [if_neg h1]
   by_cases h2 : ch b.toNat a.toNat ≤ 9223372036854775807
   ·rw [if_pos h2]
    show rng (ch b.toNat a.toNat : Int)
    unfold rng; omega
   ·rw [if_neg h2]; exact r0
 have h_33 : ¬ (fn == str_33) = true := h
 clear h
 by_cases h : (fn == str_226_140_136) = true
 ·have e : fn = str_226_140_136 := ba_eq h
  subst e; exact done (dy_max a b) (by show rng (if a < b then b else a); split <;> assumption)
 have h_226_140_136 : ¬ (fn == str_226_140_136) = true := h
 clear h
 by_cases h : (fn == str_226_140_138) = true
 ·have e : fn = str_226_140_138 := ba_eq h
  subst e; exact done (dy_min a b) (by show rng (if b < a then b else a); split <;> assumption)
 have h_226_140_138 : ¬ (fn == str_226_140_138) = true := h
 clear h
 by_cases h : (fn == str_60) = true
 ·have e : fn = str_60 := ba_eq h
  subst e; exact done (dy_lt a b) k1
 have h_60 : ¬ (fn == str_60) = true := h
 clear h
 by_cases h : (fn == str_226_137_164) = true
 ·have e : fn = str_226_137_164 := ba_eq h
  subst e; exact done (dy_le a b) k1
 have h_226_137_164 : ¬ (fn == str_226_137_164) = true := h
 clear h
 by_cases h : (fn == str_61) = true
 ·have e : fn = str_61 := ba_eq h
  subst e; exact done (dy_eq a b) k1
 have h_61 : ¬ (fn == str_61) = true := h
 clear h
 by_cases h : (fn == str_226_137_165) = true
 ·have e : fn = str_226_137_165 := ba_eq h
  subst e; exact done (dy_ge a b) k1
 have h_226_137_165 : ¬ (fn == str_226_137_165) = true := h
 clear h
 by_cases h : (fn == str_62) = true
 ·have e : fn = str_62 := ba_eq h
  subst e; exact done (dy_gt a b) k1
 have h_62 : ¬ (fn == str_62) = true := h
 clear h
 by_cases h : (fn == str_226_137_160) = true
 ·have e : fn = str_226_137_160 := ba_eq h
  subst e; exact done (dy_ne a b) (by show rng (if a = b then (0 : Int) else 1); split <;> assumption)
 have h_226_137_160 : ¬ (fn == str_226_137_160) = true := h
 clear h
 by_cases h : (fn == str_226_136_167) = true
 ·have e : fn = str_226_136_167 := ba_eq h
  subst e; exact done (dy_and a b) (kk fun h => (bits h).1)
 have h_226_136_167 : ¬ (fn == str_226_136_167) = true := h
 clear h
 by_cases h : (fn == str_226_136_168) = true
 ·have e : fn = str_226_136_168 := ba_eq h
  subst e; exact done (dy_or a b) (kk fun h => (bits h).2)
 have h_226_136_168 : ¬ (fn == str_226_136_168) = true := h
 clear h
 by_cases h : (fn == str_226_141_178) = true
 ·have e : fn = str_226_141_178 := ba_eq h
  subst e; exact done (dy_nand a b) (kk fun h => by have := (bits h).1; omega)
 have h_226_141_178 : ¬ (fn == str_226_141_178) = true := h
 clear h
 by_cases h : (fn == str_226_141_177) = true
 ·have e : fn = str_226_141_177 := ba_eq h
  subst e; exact done (dy_nor a b) (kk fun h => by have := (bits h).2; omega)
 have h_226_141_177 : ¬ (fn == str_226_141_177) = true := h
 clear h
 refine done (q := (0, 4)) ?_ r0
 unfold M.ints_Dyad M.ints_dyads
 simp only [Option.bind_some]
 rw [if_neg h_43, if_neg h_45, if_neg h_195_151, if_neg h_195_183, if_neg h_42, if_neg h_124, if_neg h_33, if_neg h_226_140_136, if_neg h_226_140_138, if_neg h_60, if_neg h_226_137_164, if_neg h_61, if_neg h_226_137_165, if_neg h_62, if_neg h_226_137_160, if_neg h_226_136_167, if_neg h_226_136_168, if_neg h_226_141_178, if_neg h_226_141_177]
theorem dyD_rng {fn : ByteArray} {a b : Int} (ha : rng a) (hb : rng b) : rng (dyD fn a b).1 := dyad_rng ha hb (dyD_eq ha hb)
noncomputable def f2 (fn : ByteArray) (a b : Am.Item) : Am.Item × Int := (M.over_function_1 a b fn).getD (⟨0, false⟩, 4)
theorem chars_ex (fn : ByteArray) (a b : Am.Item) : ∃ p, M.over_characters fn a b = some p ∧ rng p.1.n ∧ p.1.char = false := by
 unfold M.over_characters
 have e : ∃ t, (if ((fn.toList == str_61.toList) && ((a.n == b.n) && (a.char == b.char))) = true then some ((fn.toList == str_61.toList) && ((a.n == b.n) && (a.char == b.char))) else some ((fn.toList == str_226_137_160.toList) && (!((a.n == b.n) && (a.char == b.char))))) = some t := by split <;> exact ⟨_, rfl⟩
 obtain ⟨t, ht⟩ := e
 rw [ht]
 simp only [Option.bind_some]
 cases t with
 | true => exact ⟨_, rfl, ⟨by decide, by decide⟩, rfl⟩
 | false =>
  simp only [Bool.false_eq_true, if_false]
  split <;> exact ⟨_, rfl, ⟨by decide, by decide⟩, rfl⟩
theorem f2_ex {fn : ByteArray} {a b : Am.Item} (ha : rng a.n) (hb : rng b.n) : ∃ p, M.over_function_1 a b fn = some p ∧ rng p.1.n ∧ p.1.char = false := by
 unfold M.over_function_1
 by_cases h : (a.char || b.char) = true
 ·rw [if_pos h]
  obtain ⟨p, hp, hr, hc⟩ := chars_ex fn a b
  rw [hp]; exact ⟨_, rfl, hr, hc⟩
 ·rw [if_neg h, dyD_eq ha hb]
  exact ⟨_, rfl, dyD_rng ha hb, rfl⟩
theorem f2_eq {fn : ByteArray} {a b : Am.Item} (ha : rng a.n) (hb : rng b.n) : M.over_function_1 a b fn = some (f2 fn a b) := by
 obtain ⟨p, hp, _⟩ := f2_ex (fn := fn) ha hb
 unfold f2; rw [hp]; rfl
theorem f2_rng {fn : ByteArray} {a b : Am.Item} (ha : rng a.n) (hb : rng b.n) : rng (f2 fn a b).1.n := by
 obtain ⟨p, hp, hr, _⟩ := f2_ex (fn := fn) ha hb
 unfold f2; rw [hp]; exact hr
theorem Identity_ex (fn : ByteArray) : ∃ p, M.ints_Identity fn = some p ∧ rng p.1 := by
 unfold M.ints_Identity
 refine Exists.imp (fun p (h : _ ∧ _) => h) ?_
 have tot : ∀ {c : Bool} {x : Option Bool}, (∃ t, x = some t) → ∃ t, (if c = true then some c else x) = some t := fun h => by
  split
  ·exact ⟨_, rfl⟩
  ·exact h
 have r0 : rng 0 := ⟨by decide, by decide⟩
 obtain ⟨t1, h1⟩ := tot (c := fn.toList == str_43.toList) (tot (c := fn.toList == str_45.toList) (tot (c := fn.toList == str_124.toList) (tot (c := fn.toList == str_60.toList) (tot (c := fn.toList == str_62.toList) (tot (c := fn.toList == str_226_137_160.toList) ⟨_, rfl⟩)))))
 rw [h1]
 simp only [Option.bind_some]
 cases t1 with
 | true => exact ⟨_, rfl, r0⟩
 | false =>
  simp only [Bool.false_eq_true, if_false]
  obtain ⟨t2, h2⟩ := tot (c := fn.toList == str_195_151.toList) (tot (c := fn.toList == str_195_183.toList) (tot (c := fn.toList == str_42.toList) (tot (c := fn.toList == str_33.toList) (tot (c := fn.toList == str_226_137_164.toList) (tot (c := fn.toList == str_61.toList) (tot (c := fn.toList == str_226_137_165.toList) ⟨_, rfl⟩))))))
  rw [h2]
  simp only [Option.bind_some]
  cases t2 with
  | true => exact ⟨_, rfl, ⟨by decide, by decide⟩⟩
  | false =>
   simp only [Bool.false_eq_true, if_false]
   split
   ·exact ⟨_, rfl, ⟨by decide, by decide⟩⟩
   ·split
    ·exact ⟨_, rfl, ⟨by decide, by decide⟩⟩
    ·obtain ⟨t3, h3⟩ := tot (c := fn.toList == str_226_141_178.toList) ⟨_, rfl⟩
     rw [h3]
     simp only [Option.bind_some]
     cases t3 with
     | true => exact ⟨_, rfl, r0⟩
     | false => exact ⟨_, rfl, r0⟩
noncomputable def idF (fn : ByteArray) : Int × Int := (M.ints_Identity fn).getD (0, 0)
theorem idF_eq (fn : ByteArray) : M.ints_Identity fn = some (idF fn) := by
 obtain ⟨p, hp, _⟩ := Identity_ex fn
 unfold idF; rw [hp]; rfl
theorem idF_rng (fn : ByteArray) : rng (idF fn).1 := by
 obtain ⟨p, hp, hr⟩ := Identity_ex fn
 unfold idF; rw [hp]; exact hr
noncomputable def red (fn : ByteArray) : List Am.Item → Am.Item × Int
 | [] => (⟨(idF fn).1, false⟩, (idF fn).2)
 | [x] => (x, 0)
 | x :: y :: l => if (red fn (y :: l)).2 ≠ 0 then (⟨0, false⟩, (red fn (y :: l)).2) else if (f2 fn x (red fn (y :: l)).1).2 ≠ 0 then (⟨0, false⟩, (f2 fn x (red fn (y :: l)).1).2) else ((f2 fn x (red fn (y :: l)).1).1, 0)
theorem red_rng {fn : ByteArray} : ∀ {l : List Am.Item}, (∀ x ∈ l, rng x.n) → rng (red fn l).1.n
 | [], _ => idF_rng fn
 | [x], h => h x (by simp)
 | x :: y :: l, h => by
  have ih := red_rng (fn := fn) (l := y :: l) (fun z hz => h z (by simp [hz]))
  unfold red
  have r0 : rng 0 := ⟨by decide, by decide⟩
  split
  ·exact r0
  ·split
   ·exact r0
   ·exact f2_rng (h x (by simp)) ih
theorem red_cons {fn : ByteArray} {x : Am.Item} {l : List Am.Item} (h : l ≠ []) : red fn (x :: l) = if (red fn l).2 ≠ 0 then (⟨0, false⟩, (red fn l).2) else if (f2 fn x (red fn l).1).2 ≠ 0 then (⟨0, false⟩, (f2 fn x (red fn l).1).2) else ((f2 fn x (red fn l).1).1, 0) := by
 cases l with
 | nil => exact absurd rfl h
 | cons y l => simp only [red]
theorem red_err {fn : ByteArray} : ∀ (a : List Am.Item) {l : List Am.Item} {e : Int}, l ≠ [] → red fn l = (⟨0, false⟩, e) → e ≠ 0 → red fn (a ++ l) = (⟨0, false⟩, e)
 | [], _, _, _, h, _ => h
 | x :: a, l, e, hn, h, he => by
  rw [List.cons_append, red_cons (by simp [hn]), red_err a hn h he, if_pos he]
theorem reduced_eq {fn : ByteArray} {l : List Am.Item} (hl : l.length ≤ 1000000) (hr : ∀ x ∈ l, rng x.n) : M.over_reduced fn (some fn) l = some (red fn l) := by
 unfold M.over_reduced
 by_cases h0 : l = []
 ·subst h0
  rw [if_pos (by simp), idF_eq]; rfl
 have hpos : 0 < l.length := List.length_pos_iff.mpr h0
 rw [if_neg (by simp; omega), w64_id (by omega) (by omega), show ((l.length : Int) - 1) = ((l.length - 1 : Nat) : Int) by omega, idx_get (by omega), Option.bind_some, w64_id (by omega) (by omega)]
 have key : ∀ j, j < l.length → ∀ x, red fn (l.drop j) = (x, 0) → wloop (M.over_reduced_L1 (some fn) l) ((j : Int) - 1, x.n, x.char) = some (if (red fn l).2 ≠ 0 then .done (red fn l) else .next ((red fn l).1.n, (red fn l).1.char)) := by
  intro j
  induction j with
  | zero =>
   intro _ x hx
   rw [List.drop_zero] at hx
   rw [hx, if_neg (nn rfl)]
   refine wloop_done ?_
   unfold M.over_reduced_L1
   simp
  | succ j ih =>
   intro hj x hx
   have hm : l[j] ∈ l := List.getElem_mem (by omega)
   have hx0 : rng x.n := by
    have := red_rng (fn := fn) (l := l.drop (j + 1)) (fun z hz => hr z (List.mem_of_mem_drop hz))
    rw [hx] at this; exact this
   have hd : l.drop j = l[j] :: l.drop (j + 1) := drop_cons (by omega)
   have hne : l.drop (j + 1) ≠ [] := by
    intro h
    have := congrArg List.length h
    simp at this; omega
   have hrc := red_cons (fn := fn) (x := l[j]) hne
   rw [← hd, hx, if_neg (nn rfl)] at hrc
   have step : M.over_reduced_L1 (some fn) l (((j + 1 : Nat) : Int) - 1, x.n, x.char) = if (f2 fn l[j] x).2 ≠ 0 then some (.done (.done (⟨0, false⟩, (f2 fn l[j] x).2))) else some (.next ((j : Int) - 1, (f2 fn l[j] x).1.n, (f2 fn l[j] x).1.char)) := by
    unfold M.over_reduced_L1
    rw [show ((j + 1 : Nat) : Int) - 1 = (j : Int) by omega]
    simp only []
    rw [if_pos (by simp), idx_get (by omega), Option.bind_some, Option.bind_some, f2_eq (hr _ hm) (by exact hx0), Option.bind_some, w64_id (by omega) (by omega)]
    by_cases he : (f2 fn l[j] x).2 = 0
    ·rw [if_neg (nn he), if_neg (by rw [he]; simp)]
    ·rw [if_pos he, if_pos (by simpa using he)]
   by_cases he : (f2 fn l[j] x).2 = 0
   ·rw [if_neg (nn he)] at step hrc
    rw [wloop_next step]
    exact ih (by omega) _ hrc
   ·rw [if_pos he] at step hrc
    rw [wloop_done step]
    have := red_err (l.take j) (l := l.drop j) (by intro h; have := congrArg List.length h; simp at this; omega) hrc he
    rw [List.take_append_drop] at this
    rw [this, if_pos he]
 have h1 : l.drop (l.length - 1) = [l[l.length - 1]] := by
  rw [drop_cons (by omega), List.drop_of_length_le (by omega)]
 have := key (l.length - 1) (by omega) l[l.length - 1] (by rw [h1]; rfl)
 rw [show ((l.length - 1 : Nat) : Int) - 1 = (l.length : Int) - 2 by omega] at this
 rw [this]
 by_cases he : (red fn l).2 = 0
 ·rw [if_neg (nn he)]
  show some ((⟨(red fn l).1.n, (red fn l).1.char⟩ : Am.Item), (0 : Int)) = _
  rw [← he]
 ·rw [if_pos he]; rfl
theorem fe_none (m : Nat) : fe (fun _ => 0) m = 0 := fe_zero.mpr fun _ _ => rfl
theorem go_loop {σ β : Type} {F : σ → Option (Ctl σ β)} (st : Nat → σ) (fin : β) (m : Nat)
  (hf : ∀ k, k < m → F (st k) = some (.next (st (k + 1)))) (he : F (st m) = some (.done fin)) : wloop F (st 0) = some fin := by
 have := err_loop (F := F) st (fun _ => 0) (fun _ => fin) fin m (fun k hk => by rw [if_neg (nn rfl)]; exact hf k hk) he
 rw [fe_none, if_neg (nn rfl)] at this
 exact this
theorem takes_eq {fn : ByteArray} {l : List Val} (hl : l.length ≤ 10) (hd : ∀ v ∈ l, v.Data.length ≤ 9223372036854775807) : M.over_takes fn l = some (if (l.any fun v => !vRight v) = true then (none, 1) else if (idF fn).2 = 4 then (none, 4) else (some fn, 0)) := by
 unfold M.over_takes
 rw [contains_Val (g := fun v => !vRight v) (fun x hx => by unfold M.over_takes_1; rw [value_Right_eq (hd x hx)]; rfl) (by omega)]
 simp only [Option.bind_some]
 by_cases h : (l.any fun v => !vRight v) = true
 ·rw [if_pos h, if_pos h]
 ·rw [if_neg h, if_neg h]
  unfold M.over_function
  rw [idF_eq]
  simp only [Option.bind_some]
  by_cases h4 : (idF fn).2 = 4
  ·rw [if_pos (by simpa using h4), if_pos h4]; rfl
  ·rw [if_neg (by simpa using h4), if_neg h4]; rfl
def rowG (v : Val) (n B i k : Nat) (x : Nat) : Am.Item := ⟨(v.Data[(i * n + x) * B + k]?).getD 0, v.Char⟩
def rowF (v : Val) (n B i k : Nat) : List Am.Item := (List.range n).map (rowG v n B i k)
def axK (s : List Int) (axis : Int) : Int := if axis = -1 then (s.length : Int) - 1 else axis
def bef (s : List Int) (k : Nat) : Nat := (prod (s.take k)).toNat
def len (s : List Int) (k : Nat) : Nat := ((s[k]?).getD 0).toNat
def bhd (s : List Int) (k : Nat) : Nat := (prod (s.drop (k + 1))).toNat
theorem axis_nat {s : List Int} {k : Nat} (h : shOk s) (hk : k < s.length) : prod (s.take k) = (bef s k : Int) ∧ s[k] = (len s k : Int) ∧ prod (s.drop (k + 1)) = (bhd s k : Int) ∧ prod s = ((bef s k * len s k * bhd s k : Nat) : Int) ∧ bef s k * len s k * bhd s k ≤ 10000 := by
 have h0 : ∀ x ∈ s, 0 ≤ x := fun x hx => (h.2.1 x hx).1
 have h1 := prod_nonneg (s := s.take k) fun x hx => h0 x (List.mem_of_mem_take hx)
 have h2 := prod_nonneg (s := s.drop (k + 1)) fun x hx => h0 x (List.mem_of_mem_drop hx)
 have h3 := h0 _ (List.getElem_mem hk)
 have e1 : prod (s.take k) = (bef s k : Int) := by unfold bef; omega
 have e2 : s[k] = (len s k : Int) := by unfold len; rw [List.getElem?_eq_getElem hk]; simp; omega
 have e3 : prod (s.drop (k + 1)) = (bhd s k : Int) := by unfold bhd; omega
 have e4 : prod s = ((bef s k * len s k * bhd s k : Nat) : Int) := by
  rw [prod_split hk, e1, e2, e3]; simp
 refine ⟨e1, e2, e3, e4, ?_⟩
 have := h.2.2
 rw [e4] at this
 omega
noncomputable def redG (fn : ByteArray) (v : Val) (k : Nat) (q : Nat) : Am.Item × Int := red fn (rowF v (len v.Shape k) (bhd v.Shape k) (q / bhd v.Shape k) (q % bhd v.Shape k))
noncomputable def redD (fn : ByteArray) (v : Val) (k : Nat) : Val × Int :=
 if fe (fun q => (redG fn v k q).2) (bef v.Shape k * bhd v.Shape k) ≠ 0 then (⟨false, [], []⟩, fe (fun q => (redG fn v k q).2) (bef v.Shape k * bhd v.Shape k))
 else (⟨v.Char && decide (len v.Shape k = 1), wo v.Shape k, vls (fun q => (redG fn v k q).1.n) (bef v.Shape k * bhd v.Shape k)⟩, 0)
noncomputable def redV (fn : ByteArray) (v : Val) (axis : Int) : Val × Int :=
 if vRight v = false then (⟨false, [], []⟩, 1) else if (idF fn).2 = 4 then (⟨false, [], []⟩, 4) else if v.Shape.length = 0 then (v, 0)
 else if ¬ (0 ≤ axK v.Shape axis ∧ axK v.Shape axis < v.Shape.length) then (⟨false, [], []⟩, 26)
 else if ¬ shOk (wo v.Shape (axK v.Shape axis)) then (⟨false, [], []⟩, 27) else redD fn v (axK v.Shape axis).toNat
theorem Concat_eq {ls : List (List Int)} (h : ls.length ≤ 10) (hf : ls.flatten.length ≤ 1000000) : M.slices_Concat__int ls = some ls.flatten := by
 have hl : ∀ k, ((ls.take k).flatten).length ≤ 1000000 := fun k => by
  have e : ls.flatten = (ls.take k).flatten ++ (ls.drop k).flatten := by rw [← List.flatten_append, List.take_append_drop]
  rw [e, List.length_append] at hf; omega
 have hs : ∀ k (hk : k < ls.length), (ls.take (k + 1)).flatten = (ls.take k).flatten ++ ls[k] := fun k hk => by
  rw [List.take_succ_eq_append_getElem hk, List.flatten_append]; simp
 have k1 := go_loop (F := M.slices_Concat__int_L1 ls) (fun k => ((((ls.take k).flatten).length : Int), (k : Int))) (.next (ls.flatten.length : Int)) ls.length (fun k hk => by
  have h1 := hl (k + 1)
  rw [hs k hk, List.length_append] at h1
  unfold M.slices_Concat__int_L1
  simp only []
  rw [if_pos (by simp; omega), idx_get hk, Option.bind_some, w64_id (by omega) (by omega), if_neg (by simp; omega), w64_id (by omega) (by omega), hs k hk]
  simp) (by
  unfold M.slices_Concat__int_L1
  simp)
 have k2 := go_loop (F := M.slices_Concat__int_L2 ls) (fun k => ((ls.take k).flatten, (k : Int))) (.next ls.flatten) ls.length (fun k hk => by
  have h1 := hl (k + 1)
  rw [hs k hk, List.length_append] at h1
  unfold M.slices_Concat__int_L2
  simp only []
  rw [if_pos (by simp; omega), idx_get hk, Option.bind_some, app_ok (by omega), Option.bind_some, w64_id (by omega) (by omega), hs k hk]
  rfl) (by
  unfold M.slices_Concat__int_L2
  simp)
 simp only [List.take_zero, List.flatten_nil, List.length_nil, Int.natCast_zero] at k1 k2
 unfold M.slices_Concat__int M.slices_Grow__int grow
 rw [k1]
 simp only [Option.bind_some, joinK]
 rw [if_pos ⟨by omega, by omega⟩, Option.bind_some, k2]
 rfl
def itA (v : Val) (k : Nat) : Am.Item := ⟨(v.Data[k]?).getD 0, v.Char⟩
theorem at_item {v : Val} {k : Nat} (h : k < v.Data.length) : M.over_at v (k : Int) = some (itA v k) := by
 unfold M.over_at itA
 rw [idx_get h, List.getElem?_eq_getElem h]; rfl
theorem itA_rng {v : Val} (h : ∀ x ∈ v.Data, rng x) (k : Nat) : rng (itA v k).n := by
 unfold itA
 cases hx : v.Data[k]? with
 | none => exact (⟨by decide, by decide⟩ : rng 0)
 | some z => exact h z (List.mem_of_getElem? hx)
noncomputable def outG (fn : ByteArray) (a b : Val) (q : Nat) : Am.Item × Int := f2 fn (itA a (q / b.Data.length)) (itA b (q % b.Data.length))
noncomputable def outV (fn : ByteArray) (a b : Val) : Val × Int :=
 if vRight a = false ∨ vRight b = false then (⟨false, [], []⟩, 1) else if (idF fn).2 = 4 then (⟨false, [], []⟩, 4) else if 4 < (a.Shape ++ b.Shape).length then (⟨false, [], []⟩, 24)
 else if ¬ shOk (a.Shape ++ b.Shape) then (⟨false, [], []⟩, 27)
 else if fe (fun q => (outG fn a b q).2) (a.Data.length * b.Data.length) ≠ 0 then (⟨false, [], []⟩, fe (fun q => (outG fn a b q).2) (a.Data.length * b.Data.length))
 else (⟨false, a.Shape ++ b.Shape, vls (fun q => (outG fn a b q).1.n) (a.Data.length * b.Data.length)⟩, 0)
theorem grid_loop {β : Type} {F : Int × List Int → Option (Ctl (Int × List Int) (Ctl (List Int) β))} {g : Nat → Am.Item × Int} {ret : Int → β} {b B : Nat}
  (hb : b * B ≤ 1000000)
  (hf : ∀ i, i < b → 0 < B → F ((i : Int), vls (fun q => (g q).1.n) (i * B)) = if fe (fun j => (g (i * B + j)).2) B ≠ 0 then some (.done (.done (ret (fe (fun j => (g (i * B + j)).2) B)))) else some (.next (((i + 1 : Nat) : Int), vls (fun q => (g q).1.n) (i * B + B))))
  (he : 0 < B → F ((b : Int), vls (fun q => (g q).1.n) (b * B)) = some (.done (.next (vls (fun q => (g q).1.n) (b * B)))))
  (hz : B = 0 → F (0, []) = some (.done (.next []))) :
  wloop F (0, []) = some (if fe (fun q => (g q).2) (b * B) ≠ 0 then .done (ret (fe (fun q => (g q).2) (b * B))) else .next (vls (fun q => (g q).1.n) (b * B))) := by
 have outer := err_loop (F := F) (fun i => ((i : Int), vls (fun q => (g q).1.n) (i * B))) (fun i => fe (fun j => (g (i * B + j)).2) B) (fun e => .done (ret e)) (.next (vls (fun q => (g q).1.n) (b * B))) (if 0 < B then b else 0) (fun i hi => by
   have hBp : 0 < B := by
    by_cases h : 0 < B
    ·exact h
    ·rw [if_neg h] at hi; omega
   rw [if_pos hBp] at hi
   rw [hf i hi hBp, Nat.succ_mul]) (by
   by_cases hBp : 0 < B
   ·rw [if_pos hBp]; exact he hBp
   ·rw [if_neg hBp]
    obtain rfl : B = 0 := by omega
    simp only [Nat.mul_zero]
    exact hz rfl)
 simp only [Int.natCast_zero, Nat.zero_mul] at outer
 have ev : vls (fun q => (g q).1.n) 0 = [] := rfl
 rw [ev] at outer
 rw [outer]
 have ef : fe (fun i => fe (fun j => (g (i * B + j)).2) B) (if 0 < B then b else 0) = fe (fun q => (g q).2) (b * B) := by
  rw [fe_mul]
  by_cases hBp : 0 < B
  ·rw [if_pos hBp]
  ·obtain rfl : B = 0 := by omega
   rw [if_neg hBp]
   exact (fe_none b).symm
 rw [ef]
theorem Outer_eq {fn : ByteArray} {a b : Val} (hda : a.Data.length ≤ 1000000000) (hdb : b.Data.length ≤ 1000000000) (hra : ∀ x ∈ a.Data, rng x) (hrb : ∀ x ∈ b.Data, rng x) : M.over_Outer fn a b = some (outV fn a b) := by
 have hmax : maxLen = 9223372036854775807 := rfl
 unfold M.over_Outer outV
 have ht := takes_eq (fn := fn) (l := [a, b]) (by simp) (fun x hx => by
  simp only [List.mem_cons, List.not_mem_nil, or_false] at hx
  rcases hx with rfl | rfl <;> omega)
 by_cases hv : vRight a = false ∨ vRight b = false
 ·rw [if_pos (by rcases hv with h | h <;> simp [h])] at ht
  rw [ht, if_pos hv]; rfl
 have hva : vRight a = true := by
  cases h : vRight a with
  | true => rfl
  | false => exact absurd (.inl h) hv
 have hvb : vRight b = true := by
  cases h : vRight b with
  | true => rfl
  | false => exact absurd (.inr h) hv
 rw [if_neg (by simp [hva, hvb])] at ht
 rw [if_neg hv]
 by_cases h4 : (idF fn).2 = 4
 ·rw [if_pos h4] at ht
  rw [ht, if_pos h4]; rfl
 rw [if_neg h4] at ht
 rw [ht, if_neg h4]
 simp only [Option.bind_some]
 obtain ⟨hoka, hla, _⟩ := vRight_iff.mp hva
 obtain ⟨hokb, hlb, _⟩ := vRight_iff.mp hvb
 have ha4 := hoka.1
 have hb4 := hokb.1
 have e0 : ([([] : List Int), a.Shape, b.Shape] : List (List Int)).flatten = a.Shape ++ b.Shape := by simp
 rw [if_neg (by simp), Concat_eq (by simp) (by rw [e0]; simp; omega), e0, Option.bind_some]
 by_cases hl : 4 < (a.Shape ++ b.Shape).length
 ·rw [if_pos (by simp only [decide_eq_true_eq]; omega), if_pos hl]
 rw [if_neg (by simp only [decide_eq_true_eq]; omega), if_neg hl, shape_Size_eq (by omega)]
 simp only [Option.bind_some]
 rcases shSize_cases (a.Shape ++ b.Shape) with ⟨hw, he⟩ | ⟨hw, he, _⟩
 case inr => rw [if_pos (by simpa using he), if_pos hw]
 have hpr : prod (a.Shape ++ b.Shape) = ((a.Data.length * b.Data.length : Nat) : Int) := by
  rw [prod_append, hla, hlb]; simp
 have hws := hw.2.2
 rw [hpr] at hws
 rw [he, if_neg (by simp), if_neg (nn hw), hpr]
 have hsz : a.Data.length * b.Data.length ≤ 10000 := by omega
 have hmk : mk 8 (0 : Int) 0 ((a.Data.length * b.Data.length : Nat) : Int) = some [] := by
  unfold mk
  rw [if_pos ⟨by omega, by omega, by omega, by omega⟩]; rfl
 rw [hmk, Option.bind_some]
 have inner : ∀ i, i < a.Data.length → 0 < b.Data.length → wloop (M.over_Outer_L2 a b (some fn) (i : Int)) (0, vls (fun q => (outG fn a b q).1.n) (i * b.Data.length)) =
   some (if fe (fun j => (outG fn a b (i * b.Data.length + j)).2) b.Data.length ≠ 0 then .done (.done (.done (⟨false, [], []⟩, fe (fun j => (outG fn a b (i * b.Data.length + j)).2) b.Data.length))) else .next (vls (fun q => (outG fn a b q).1.n) (i * b.Data.length + b.Data.length))) := by
  intro i hi hBp
  have hiB : i * b.Data.length + b.Data.length ≤ a.Data.length * b.Data.length := by
   have := Nat.mul_le_mul_right b.Data.length (show i + 1 ≤ a.Data.length by omega)
   rw [Nat.succ_mul] at this; exact this
  refine err_loop (F := M.over_Outer_L2 a b (some fn) (i : Int)) (fun j => ((j : Int), vls (fun q => (outG fn a b q).1.n) (i * b.Data.length + j))) (fun j => (outG fn a b (i * b.Data.length + j)).2) (fun e => .done (.done (.done (⟨false, [], []⟩, e)))) (.next (vls (fun q => (outG fn a b q).1.n) (i * b.Data.length + b.Data.length))) b.Data.length (fun j hj => ?_) ?_
  ·unfold M.over_Outer_L2
   simp only []
   have eg : f2 fn (itA a i) (itA b j) = outG fn a b (i * b.Data.length + j) := by
    unfold outG
    rw [(grid_div hj).1, (grid_div hj).2]
   rw [if_pos (by simp; exact hj), at_item hi, Option.bind_some, at_item hj, Option.bind_some, Option.bind_some, f2_eq (itA_rng hra i) (itA_rng hrb j), eg]
   simp only [Option.bind_some]
   by_cases hE : (outG fn a b (i * b.Data.length + j)).2 = 0
   ·rw [if_neg (by simpa using hE), if_neg (nn hE), app_ok (by rw [vls_len]; simp; omega), Option.bind_some, w64_id (by omega) (by omega), ← vls_succ]
    rfl
   ·rw [if_pos (by simpa using hE), if_pos hE]
  ·unfold M.over_Outer_L2
   simp
 have outer := grid_loop (F := M.over_Outer_L1 a b (some fn) ((a.Data.length * b.Data.length : Nat) : Int)) (g := outG fn a b) (ret := fun e => ((⟨false, [], []⟩ : Val), e)) (b := a.Data.length) (B := b.Data.length) (by omega) (fun i hi hBp => by
   have hpos : 0 < a.Data.length * b.Data.length := Nat.mul_pos (by omega) hBp
   unfold M.over_Outer_L1
   simp only []
   rw [if_pos (by simp only [Bool.and_eq_true, decide_eq_true_eq]; omega), inner i hi hBp]
   simp only [Option.bind_some]
   by_cases hE : fe (fun j => (outG fn a b (i * b.Data.length + j)).2) b.Data.length = 0
   ·rw [if_neg (nn hE), if_neg (nn hE), w64_id (by omega) (by omega)]
    rfl
   ·rw [if_pos hE, if_pos hE]; rfl) (fun hBp => by
   unfold M.over_Outer_L1
   simp only []
   rw [if_neg (by simp)]) (fun h0 => by
   unfold M.over_Outer_L1
   simp only []
   rw [if_neg (by simp [h0])])
 rw [outer]
 simp only [Option.bind_some]
 by_cases hE : fe (fun q => (outG fn a b q).2) (a.Data.length * b.Data.length) = 0
 ·rw [if_neg (nn hE), if_neg (nn hE)]; rfl
 ·rw [if_pos hE, if_pos hE]; rfl
def lN (v : Val) : Nat := if v.Shape.length = 0 then 1 else len v.Shape (v.Shape.length - 1)
def lZ (v : Val) : Nat := if v.Shape.length = 0 then 1 else bef v.Shape (v.Shape.length - 1)
def lShp (v : Val) : List Int := v.Shape.take (v.Shape.length - 1)
def rN (v : Val) : Nat := if v.Shape.length = 0 then 1 else len v.Shape 0
def rZ (v : Val) : Nat := if v.Shape.length = 0 then 1 else bhd v.Shape 0
def rShp (v : Val) : List Int := v.Shape.drop 1
def stp (n by_ : Nat) : Nat := if n = 1 then 0 else by_
theorem step_eq (n by_ : Nat) : M.over_step (n : Int) (by_ : Int) = some ((stp n by_ : Nat) : Int) := by
 unfold M.over_step stp
 by_cases h : n = 1
 ·rw [if_pos (by simp; omega), if_pos h]; rfl
 ·rw [if_neg (by simp; omega), if_neg h]
theorem left_eq {v : Val} (hv : vRight v = true) : M.over_left v = some ⟨v, lShp v, (lN v : Int), (lZ v : Int), (lN v : Int), (stp (lN v) 1 : Nat)⟩ := by
 have hmax : maxLen = 9223372036854775807 := rfl
 obtain ⟨hok, _, _⟩ := vRight_iff.mp hv
 have h4 := hok.1
 unfold M.over_left lShp lN lZ
 by_cases h0 : v.Shape.length = 0
 ·have : v.Shape = [] := List.length_eq_zero_iff.mp h0
  rw [if_pos (by simpa using h0), if_pos h0, if_pos h0, this]; rfl
 ·have hk : v.Shape.length - 1 < v.Shape.length := by omega
  obtain ⟨e1, e2, e3, e4, hsm⟩ := axis_nat hok hk
  rw [if_neg (by simpa using h0), if_neg h0, if_neg h0, w64_id (by omega) (by omega), show (v.Shape.length : Int) - 1 = ((v.Shape.length - 1 : Nat) : Int) by omega, idx_get hk, Option.bind_some, shape_Split_eq (by omega) (by omega)]
  unfold splitOf
  rw [dif_pos ⟨hok, by omega, by omega⟩]
  simp only [Option.bind_some, Int.toNat_natCast]
  rw [sub_take (by omega), Option.bind_some, e2, show (1 : Int) = ((1 : Nat) : Int) from rfl, step_eq, Option.bind_some, e1]
theorem right_eq {v : Val} (hv : vRight v = true) : M.over_right v = some ⟨v, rShp v, (rN v : Int), (rZ v : Int), 1, (stp (rN v) (rZ v) : Nat)⟩ := by
 have hmax : maxLen = 9223372036854775807 := rfl
 obtain ⟨hok, _, _⟩ := vRight_iff.mp hv
 have h4 := hok.1
 unfold M.over_right rShp rN rZ
 by_cases h0 : v.Shape.length = 0
 ·have : v.Shape = [] := List.length_eq_zero_iff.mp h0
  rw [if_pos (by simpa using h0), if_pos h0, if_pos h0, this]; rfl
 ·have hk : 0 < v.Shape.length := by omega
  obtain ⟨e1, e2, e3, e4, hsm⟩ := axis_nat hok hk
  rw [if_neg (by simpa using h0), if_neg h0, if_neg h0, shape_Split_eq (by omega) (by omega)]
  unfold splitOf
  rw [dif_pos ⟨hok, by omega, by omega⟩]
  simp only [Option.bind_some, Int.toNat_zero]
  rw [show (1 : Int) = ((1 : Nat) : Int) from rfl, sub_drop (by omega), Option.bind_some, e2, e3, step_eq, Option.bind_some]
theorem left_len {v : Val} (hv : vRight v = true) : lZ v * lN v = v.Data.length ∧ lZ v * lN v ≤ 10000 ∧ lN v ≤ 10000 ∧ prod (lShp v) = (lZ v : Int) := by
 obtain ⟨hok, hlen, _⟩ := vRight_iff.mp hv
 unfold lShp lN lZ
 by_cases h0 : v.Shape.length = 0
 ·have : v.Shape = [] := List.length_eq_zero_iff.mp h0
  rw [this] at hlen
  simp only [prod] at hlen
  rw [if_pos h0, if_pos h0, this]
  refine ⟨by omega, by omega, by omega, rfl⟩
 ·have hk : v.Shape.length - 1 < v.Shape.length := by omega
  obtain ⟨e1, e2, e3, e4, hsm⟩ := axis_nat hok hk
  have hb := (hok.2.1 _ (List.getElem_mem hk)).2
  have e5 : bhd v.Shape (v.Shape.length - 1) = 1 := by
   have : v.Shape.drop (v.Shape.length - 1 + 1) = [] := List.drop_of_length_le (by omega)
   rw [this] at e3; simp only [prod] at e3; omega
  rw [e5, Nat.mul_one] at e4 hsm
  rw [if_neg h0, if_neg h0]
  exact ⟨by omega, hsm, by omega, e1⟩
theorem right_len {v : Val} (hv : vRight v = true) : rN v * rZ v = v.Data.length ∧ rN v * rZ v ≤ 10000 ∧ rN v ≤ 10000 ∧ prod (rShp v) = (rZ v : Int) := by
 obtain ⟨hok, hlen, _⟩ := vRight_iff.mp hv
 unfold rShp rN rZ
 by_cases h0 : v.Shape.length = 0
 ·have : v.Shape = [] := List.length_eq_zero_iff.mp h0
  rw [this] at hlen
  simp only [prod] at hlen
  rw [if_pos h0, if_pos h0, this]
  refine ⟨by omega, by omega, by omega, rfl⟩
 ·have hk : 0 < v.Shape.length := by omega
  obtain ⟨e1, e2, e3, e4, hsm⟩ := axis_nat hok hk
  have hb := (hok.2.1 _ (List.getElem_mem hk)).2
  have e5 : bef v.Shape 0 = 1 := by
   rw [List.take_zero] at e1; simp only [prod] at e1; omega
  rw [e5, Nat.one_mul] at e4 hsm
  rw [if_neg h0, if_neg h0]
  exact ⟨by omega, hsm, by omega, e3⟩
def inN (a b : Val) : Nat := if lN a = 1 then rN b else lN a
def inBad (a b : Val) : Prop := (lN a ≠ inN a b ∨ rN b ≠ inN a b) ∧ lN a ≠ 1 ∧ rN b ≠ 1
instance (a b : Val) : Decidable (inBad a b) := inferInstanceAs (Decidable (_ ∧ _))
noncomputable def inG (g : ByteArray) (a b : Val) (i k j : Nat) : Am.Item × Int := f2 g (itA a (i * lN a + j * stp (lN a) 1)) (itA b (k + j * stp (rN b) (rZ b)))
def inL (h : Nat → Am.Item × Int) (n : Nat) : List Am.Item := (List.range n).map fun j => (h j).1
noncomputable def inC (f g : ByteArray) (a b : Val) (i k : Nat) : Am.Item × Int :=
 if fe (fun j => (inG g a b i k j).2) (inN a b) ≠ 0 then (⟨0, false⟩, fe (fun j => (inG g a b i k j).2) (inN a b)) else red f (inL (inG g a b i k) (inN a b))
noncomputable def inQ (f g : ByteArray) (a b : Val) (q : Nat) : Am.Item × Int := inC f g a b (q / rZ b) (q % rZ b)
noncomputable def innV (f g : ByteArray) (a b : Val) : Val × Int :=
 if vRight a = false ∨ vRight b = false then (⟨false, [], []⟩, 1) else if (idF f).2 = 4 ∨ (idF g).2 = 4 then (⟨false, [], []⟩, 4)
 else if inBad a b then (⟨false, [], []⟩, 25)
 else if 4 < (lShp a ++ rShp b).length then (⟨false, [], []⟩, 24)
 else if ¬ shOk (lShp a ++ rShp b) ∨ 1000000 < lZ a * rZ b * inN a b then (⟨false, [], []⟩, 27)
 else if fe (fun q => (inQ f g a b q).2) (lZ a * rZ b) ≠ 0 then (⟨false, [], []⟩, fe (fun q => (inQ f g a b q).2) (lZ a * rZ b))
 else (⟨false, lShp a ++ rShp b, vls (fun q => (inQ f g a b q).1.n) (lZ a * rZ b)⟩, 0)
theorem inG_rng {g : ByteArray} {a b : Val} (hra : ∀ x ∈ a.Data, rng x) (hrb : ∀ x ∈ b.Data, rng x) (i k j : Nat) : rng (inG g a b i k j).1.n :=
 f2_rng (itA_rng hra _) (itA_rng hrb _)
theorem left_place {a b : Val} (hva : vRight a = true) (hvb : vRight b = true) (hbad : ¬ inBad a b) {i k j : Nat} (hi : i < lZ a) (hk : k < rZ b) (hj : j < inN a b) :
  i * lN a + j * stp (lN a) 1 < a.Data.length ∧ k + j * stp (rN b) (rZ b) < b.Data.length := by
 obtain ⟨h1, h2, h3, _⟩ := left_len hva
 obtain ⟨g1, g2, g3, _⟩ := right_len hvb
 constructor
 ·rw [← h1]
  unfold stp
  by_cases h : lN a = 1
  ·rw [if_pos h, h]; omega
  ·rw [if_neg h]
   unfold inN at hj
   rw [if_neg h] at hj
   have := grid_lt hi hj
   omega
 ·rw [← g1]
  unfold stp
  by_cases h : rN b = 1
  ·rw [if_pos h, h]; omega
  ·rw [if_neg h]
   have hj' : j < rN b := by
    unfold inN at hj
    by_cases h5 : lN a = 1
    ·rw [if_pos h5] at hj; exact hj
    ·rw [if_neg h5] at hj
     unfold inBad inN at hbad
     rw [if_neg h5] at hbad
     have : rN b = lN a := by
      by_cases h6 : rN b = lN a
      ·exact h6
      ·exact absurd ⟨.inr h6, h5, h⟩ hbad
     omega
   have := grid_lt hj' hk
   omega
theorem Inner_eq {f g : ByteArray} {a b : Val} (hda : a.Data.length ≤ 1000000000) (hdb : b.Data.length ≤ 1000000000) (hra : ∀ x ∈ a.Data, rng x) (hrb : ∀ x ∈ b.Data, rng x) : M.over_Inner f g a b = some (innV f g a b) := by
 have hmax : maxLen = 9223372036854775807 := rfl
 unfold M.over_Inner innV
 have ht := takes_eq (fn := f) (l := [a, b]) (by simp) (fun x hx => by
  simp only [List.mem_cons, List.not_mem_nil, or_false] at hx
  rcases hx with rfl | rfl <;> omega)
 have hu := takes_eq (fn := g) (l := []) (by simp) (fun x hx => by cases hx)
 rw [if_neg (by simp)] at hu
 by_cases hv : vRight a = false ∨ vRight b = false
 ·rw [if_pos (by rcases hv with h | h <;> simp [h])] at ht
  rw [ht, if_pos hv]; rfl
 have hva : vRight a = true := by
  cases h : vRight a with
  | true => rfl
  | false => exact absurd (.inl h) hv
 have hvb : vRight b = true := by
  cases h : vRight b with
  | true => rfl
  | false => exact absurd (.inr h) hv
 rw [if_neg (by simp [hva, hvb])] at ht
 rw [if_neg hv]
 by_cases hf4 : (idF f).2 = 4
 ·rw [if_pos hf4] at ht
  rw [ht, if_pos (.inl hf4)]; rfl
 rw [if_neg hf4] at ht
 rw [ht]
 simp only [Option.bind_some]
 rw [if_neg (by simp)]
 by_cases hg4 : (idF g).2 = 4
 ·rw [if_pos hg4] at hu
  rw [hu, if_pos (.inr hg4)]; rfl
 rw [if_neg hg4] at hu
 rw [hu, if_neg (by rintro (h | h) <;> contradiction)]
 simp only [Option.bind_some]
 rw [if_neg (by simp), left_eq hva, Option.bind_some, right_eq hvb, Option.bind_some]
 simp only []
 obtain ⟨l1, l2, l3, l4⟩ := left_len hva
 obtain ⟨r1, r2, r3, r4⟩ := right_len hvb
 have hn : (if ((lN a : Int) == 1) = true then some (rN b : Int) else some (lN a : Int)) = some ((inN a b : Nat) : Int) := by
  unfold inN
  by_cases h : lN a = 1
  ·rw [if_pos (by simp; omega), if_pos h]
  ·rw [if_neg (by simp; omega), if_neg h]
 rw [hn, Option.bind_some]
 by_cases hbad : inBad a b
 ·rw [if_pos hbad]
  unfold inBad at hbad
  rw [if_pos (by simp only [Bool.or_eq_true, bne_iff_ne, ne_eq]; omega), if_pos (by simp only [Bool.and_eq_true, bne_iff_ne, ne_eq]; omega)]
  rfl
 rw [if_neg hbad]
 have hnb : (if (((lN a : Int) != ((inN a b : Nat) : Int)) || ((rN b : Int) != ((inN a b : Nat) : Int))) = true then (if (((lN a : Int) != 1) && ((rN b : Int) != 1)) = true then some (Ctl.done ((⟨false, [], []⟩ : Val), (25 : Int))) else some (Ctl.next ())) else some (Ctl.next ())) = some (Ctl.next ()) := by
  split
  ·rename_i h1
   split
   ·rename_i h2
    exfalso; apply hbad
    simp only [Bool.or_eq_true, bne_iff_ne, ne_eq] at h1
    simp only [Bool.and_eq_true, bne_iff_ne, ne_eq] at h2
    unfold inBad
    omega
   ·rfl
  ·rfl
 rw [hnb]
 simp only [Option.bind_some, joinK]
 obtain ⟨hoka, _, _⟩ := vRight_iff.mp hva
 obtain ⟨hokb, _, _⟩ := vRight_iff.mp hvb
 have ha4 := hoka.1
 have hb4 := hokb.1
 have hsl : (lShp a ++ rShp b).length ≤ 100 := by unfold lShp rShp; simp; omega
 have e0 : ([([] : List Int), lShp a, rShp b] : List (List Int)).flatten = lShp a ++ rShp b := by simp
 rw [Concat_eq (by simp) (by rw [e0]; omega), e0, Option.bind_some]
 by_cases hl : 4 < (lShp a ++ rShp b).length
 ·rw [if_pos (by simp only [decide_eq_true_eq]; omega), if_pos hl]
 rw [if_neg (by simp only [decide_eq_true_eq]; omega), if_neg hl, shape_Size_eq (by omega)]
 simp only [Option.bind_some]
 have hpr : prod (lShp a ++ rShp b) = ((lZ a * rZ b : Nat) : Int) := by
  rw [prod_append, l4, r4]; simp
 have hnn : inN a b ≤ 10000 := by unfold inN; split <;> omega
 rcases shSize_cases (lShp a ++ rShp b) with ⟨hw, he⟩ | ⟨hw, he, _⟩
 case inr => rw [if_pos (by simp [he]), if_pos (.inl hw)]
 have hws := hw.2.2
 rw [hpr] at hws
 rw [he, hpr]
 have hsz : lZ a * rZ b ≤ 10000 := by omega
 have hszn := Nat.mul_le_mul hsz hnn
 have c1 : ((lZ a * rZ b : Nat) : Int) * ((inN a b : Nat) : Int) = ((lZ a * rZ b * inN a b : Nat) : Int) := by simp
 simp only []
 rw [c1, w64_id (by omega) (by omega)]
 by_cases hbig : 1000000 < lZ a * rZ b * inN a b
 ·rw [if_pos (by simp only [Bool.or_eq_true, decide_eq_true_eq]; right; omega), if_pos (.inr hbig)]
 rw [if_neg (by simp only [Bool.or_eq_true, decide_eq_true_eq, bne_self_eq_false, Bool.false_eq_true, false_or]; omega), if_neg (by rintro (h | h); exact h hw; exact hbig h)]
 have hmk : mk 8 (0 : Int) 0 ((lZ a * rZ b : Nat) : Int) = some [] := by
  unfold mk
  rw [if_pos ⟨by omega, by omega, by omega, by omega⟩]; rfl
 rw [hmk, Option.bind_some]
 have cell : ∀ i k, i < lZ a → k < rZ b → wloop (M.over_Inner_L3 a b (some g) ⟨a, lShp a, (lN a : Int), (lZ a : Int), (lN a : Int), (stp (lN a) 1 : Nat)⟩ ⟨b, rShp b, (rN b : Int), (rZ b : Int), 1, (stp (rN b) (rZ b) : Nat)⟩ (i : Int) (k : Int) (List.replicate (inN a b) (⟨0, false⟩ : Am.Item))) (0, List.replicate (inN a b) (⟨0, false⟩ : Am.Item)) =
   some (if fe (fun j => (inG g a b i k j).2) (inN a b) ≠ 0 then .done (.done (.done (.done (.done (⟨false, [], []⟩, fe (fun j => (inG g a b i k j).2) (inN a b)))))) else .next (inL (inG g a b i k) (inN a b))) := by
  intro i k hi hk
  have key := err_loop (F := M.over_Inner_L3 a b (some g) ⟨a, lShp a, (lN a : Int), (lZ a : Int), (lN a : Int), (stp (lN a) 1 : Nat)⟩ ⟨b, rShp b, (rN b : Int), (rZ b : Int), 1, (stp (rN b) (rZ b) : Nat)⟩ (i : Int) (k : Int) (List.replicate (inN a b) (⟨0, false⟩ : Am.Item)))
   (fun j => ((j : Int), inL (inG g a b i k) j ++ List.replicate (inN a b - j) (⟨0, false⟩ : Am.Item))) (fun j => (inG g a b i k j).2) (fun e => .done (.done (.done (.done (.done (⟨false, [], []⟩, e)))))) (.next (inL (inG g a b i k) (inN a b))) (inN a b) (fun j hj => by
    obtain ⟨p1, p2⟩ := left_place hva hvb hbad hi hk hj
    unfold M.over_Inner_L3
    simp only []
    rw [if_pos (by simp; omega)]
    have d1 : (i : Int) * ((lN a : Nat) : Int) = ((i * lN a : Nat) : Int) := by simp
    have d2 : (j : Int) * ((stp (lN a) 1 : Nat) : Int) = ((j * stp (lN a) 1 : Nat) : Int) := by simp
    have d3 : (k : Int) * 1 = (k : Int) := by omega
    have d4 : (j : Int) * ((stp (rN b) (rZ b) : Nat) : Int) = ((j * stp (rN b) (rZ b) : Nat) : Int) := by simp
    rw [d1, d2, d3, d4, w64_id (x := ((i * lN a : Nat) : Int)) (by omega) (by omega), w64_id (x := ((j * stp (lN a) 1 : Nat) : Int)) (by omega) (by omega), w64_id (x := (k : Int)) (by omega) (by omega), w64_id (x := ((j * stp (rN b) (rZ b) : Nat) : Int)) (by omega) (by omega),
     show ((i * lN a : Nat) : Int) + ((j * stp (lN a) 1 : Nat) : Int) = ((i * lN a + j * stp (lN a) 1 : Nat) : Int) by omega, show (k : Int) + ((j * stp (rN b) (rZ b) : Nat) : Int) = ((k + j * stp (rN b) (rZ b) : Nat) : Int) by omega,
     w64_id (x := ((i * lN a + j * stp (lN a) 1 : Nat) : Int)) (by omega) (by omega), w64_id (x := ((k + j * stp (rN b) (rZ b) : Nat) : Int)) (by omega) (by omega), at_item p1, Option.bind_some, at_item p2, Option.bind_some, Option.bind_some, f2_eq (itA_rng hra _) (itA_rng hrb _)]
    simp only [Option.bind_some]
    have hlen : j < (inL (inG g a b i k) j ++ List.replicate (inN a b - j) (⟨0, false⟩ : Am.Item)).length := by simp [inL]; omega
    rw [idx_get hlen, Option.bind_some, upd_nat hlen, Option.bind_some]
    have eG : f2 g (itA a (i * lN a + j * stp (lN a) 1)) (itA b (k + j * stp (rN b) (rZ b))) = inG g a b i k j := rfl
    rw [eG]
    by_cases hE : (inG g a b i k j).2 = 0
    ·rw [if_neg (by simpa using hE), if_neg (nn hE), w64_id (by omega) (by omega)]
     congr 3
     have hil : (inL (inG g a b i k) j).length = j := by simp [inL]
     rw [List.set_append_right _ _ (by omega), hil, Nat.sub_self, show inN a b - j = (inN a b - (j + 1)) + 1 by omega, List.replicate_succ, List.set_cons_zero]
     unfold inL
     rw [List.range_succ, List.map_append, List.append_assoc]
     rfl
    ·rw [if_pos (by simpa using hE), if_pos hE]) (by
    unfold M.over_Inner_L3
    simp)
  simp only [Int.natCast_zero, Nat.sub_zero] at key
  have e : inL (inG g a b i k) 0 = [] := rfl
  rw [e, List.nil_append] at key
  exact key
 have hB1 : 0 < lZ a → rZ b ≤ 10000 := fun h => by
  have : 1 * rZ b ≤ lZ a * rZ b := Nat.mul_le_mul_right _ h
  omega
 have inner : ∀ i, i < lZ a → 0 < rZ b → wloop (M.over_Inner_L2 f a b (some f) (some g) ⟨a, lShp a, (lN a : Int), (lZ a : Int), (lN a : Int), (stp (lN a) 1 : Nat)⟩ ⟨b, rShp b, (rN b : Int), (rZ b : Int), 1, (stp (rN b) (rZ b) : Nat)⟩ ((inN a b : Nat) : Int) (i : Int)) (0, vls (fun q => (inQ f g a b q).1.n) (i * rZ b)) =
   some (if fe (fun j => (inQ f g a b (i * rZ b + j)).2) (rZ b) ≠ 0 then .done (.done (.done (⟨false, [], []⟩, fe (fun j => (inQ f g a b (i * rZ b + j)).2) (rZ b)))) else .next (vls (fun q => (inQ f g a b q).1.n) (i * rZ b + rZ b))) := by
  intro i hi hBp
  have hB := hB1 (by omega)
  have hiB : i * rZ b + rZ b ≤ lZ a * rZ b := by
   have := Nat.mul_le_mul_right (rZ b) (show i + 1 ≤ lZ a by omega)
   rw [Nat.succ_mul] at this; exact this
  refine err_loop (F := M.over_Inner_L2 f a b (some f) (some g) ⟨a, lShp a, (lN a : Int), (lZ a : Int), (lN a : Int), (stp (lN a) 1 : Nat)⟩ ⟨b, rShp b, (rN b : Int), (rZ b : Int), 1, (stp (rN b) (rZ b) : Nat)⟩ ((inN a b : Nat) : Int) (i : Int)) (fun j => ((j : Int), vls (fun q => (inQ f g a b q).1.n) (i * rZ b + j))) (fun j => (inQ f g a b (i * rZ b + j)).2) (fun e => .done (.done (.done (⟨false, [], []⟩, e)))) (.next (vls (fun q => (inQ f g a b q).1.n) (i * rZ b + rZ b))) (rZ b) (fun k hk => ?_) ?_
  ·unfold M.over_Inner_L2
   simp only []
   have eq : inQ f g a b (i * rZ b + k) = inC f g a b i k := by
    unfold inQ
    rw [(grid_div hk).1, (grid_div hk).2]
   rw [if_pos (by simp; exact hk), mk_ok (by omega) (by omega), Option.bind_some, cell i k hi hk, eq]
   unfold inC
   by_cases hC : fe (fun j => (inG g a b i k j).2) (inN a b) = 0
   ·simp only [Option.bind_some]
    rw [if_neg (nn hC), if_neg (nn hC)]
    simp only [joinK]
    rw [reduced_eq (by simp [inL]; omega) (fun x hx => by
     obtain ⟨j, _, rfl⟩ := List.mem_map.mp hx
     exact inG_rng hra hrb i k j)]
    simp only [Option.bind_some]
    by_cases hE : (red f (inL (inG g a b i k) (inN a b))).2 = 0
    ·rw [if_neg (by simpa using hE), if_neg (nn hE), app_ok (by rw [vls_len]; simp; omega), Option.bind_some, w64_id (by omega) (by omega), ← Nat.add_assoc, vls_succ, eq]
     unfold inC
     rw [if_neg (nn hC)]
     rfl
    ·rw [if_pos (by simpa using hE), if_pos hE]
   ·simp only [Option.bind_some]
    rw [if_pos hC, if_pos hC, if_pos hC]
    rfl
  ·unfold M.over_Inner_L2
   simp
 have outer := grid_loop (F := M.over_Inner_L1 f a b (some f) (some g) ⟨a, lShp a, (lN a : Int), (lZ a : Int), (lN a : Int), (stp (lN a) 1 : Nat)⟩ ⟨b, rShp b, (rN b : Int), (rZ b : Int), 1, (stp (rN b) (rZ b) : Nat)⟩ ((inN a b : Nat) : Int) ((lZ a * rZ b : Nat) : Int)) (g := inQ f g a b) (ret := fun e => ((⟨false, [], []⟩ : Val), e)) (b := lZ a) (B := rZ b) (by omega) (fun i hi hBp => by
   have hpos : 0 < lZ a * rZ b := Nat.mul_pos (by omega) hBp
   have hb1 : lZ a * 1 ≤ lZ a * rZ b := Nat.mul_le_mul_left (lZ a) hBp
   unfold M.over_Inner_L1
   simp only []
   rw [if_pos (by simp only [Bool.and_eq_true, decide_eq_true_eq]; omega), inner i hi hBp]
   simp only [Option.bind_some]
   by_cases hE : fe (fun j => (inQ f g a b (i * rZ b + j)).2) (rZ b) = 0
   ·rw [if_neg (nn hE), if_neg (nn hE), w64_id (by omega) (by omega)]
    rfl
   ·rw [if_pos hE, if_pos hE]; rfl) (fun hBp => by
   unfold M.over_Inner_L1
   simp only []
   rw [if_neg (by simp)]) (fun h0 => by
   unfold M.over_Inner_L1
   simp only []
   rw [if_neg (by simp [h0])])
 rw [outer]
 simp only [Option.bind_some]
 by_cases hE : fe (fun q => (inQ f g a b q).2) (lZ a * rZ b) = 0
 ·rw [if_neg (nn hE), if_neg (nn hE)]
 ·rw [if_pos hE, if_pos hE]
theorem rid_43 : M.anamnesisref12_identity str_43 = M.ints_Identity str_43 := by
 rw [id_43]
 unfold M.anamnesisref12_identity
 simp only [ByteArray.toList_eq]
 rfl
theorem rid_45 : M.anamnesisref12_identity str_45 = M.ints_Identity str_45 := by
 rw [id_45]
 unfold M.anamnesisref12_identity
 simp only [ByteArray.toList_eq]
 rfl
theorem rid_195_151 : M.anamnesisref12_identity str_195_151 = M.ints_Identity str_195_151 := by
 rw [id_195_151]
 unfold M.anamnesisref12_identity
 simp only [ByteArray.toList_eq]
 rfl
theorem rid_195_183 : M.anamnesisref12_identity str_195_183 = M.ints_Identity str_195_183 := by
 rw [id_195_183]
 unfold M.anamnesisref12_identity
 simp only [ByteArray.toList_eq]
 rfl
theorem rid_42 : M.anamnesisref12_identity str_42 = M.ints_Identity str_42 := by
 rw [id_42]
 unfold M.anamnesisref12_identity
 simp only [ByteArray.toList_eq]
 rfl
theorem rid_124 : M.anamnesisref12_identity str_124 = M.ints_Identity str_124 := by
 rw [id_124]
 unfold M.anamnesisref12_identity
 simp only [ByteArray.toList_eq]
 rfl
theorem rid_33 : M.anamnesisref12_identity str_33 = M.ints_Identity str_33 := by
 rw [id_33]
 unfold M.anamnesisref12_identity
 simp only [ByteArray.toList_eq]
 rfl
theorem rid_226_140_136 : M.anamnesisref12_identity str_226_140_136 = M.ints_Identity str_226_140_136 := by
 rw [id_226_140_136]
 unfold M.anamnesisref12_identity
 simp only [ByteArray.toList_eq]
 rfl
theorem rid_226_140_138 : M.anamnesisref12_identity str_226_140_138 = M.ints_Identity str_226_140_138 := by
 rw [id_226_140_138]
 unfold M.anamnesisref12_identity
 simp only [ByteArray.toList_eq]
 rfl
theorem rid_60 : M.anamnesisref12_identity str_60 = M.ints_Identity str_60 := by
 rw [id_60]
 unfold M.anamnesisref12_identity
 simp only [ByteArray.toList_eq]
 rfl
theorem rid_226_137_164 : M.anamnesisref12_identity str_226_137_164 = M.ints_Identity str_226_137_164 := by
 rw [id_226_137_164]
 unfold M.anamnesisref12_identity
 simp only [ByteArray.toList_eq]
 rfl
theorem rid_61 : M.anamnesisref12_identity str_61 = M.ints_Identity str_61 := by
 rw [id_61]
 unfold M.anamnesisref12_identity
 simp only [ByteArray.toList_eq]
 rfl
theorem rid_226_137_165 : M.anamnesisref12_identity str_226_137_165 = M.ints_Identity str_226_137_165 := by
 rw [id_226_137_165]
 unfold M.anamnesisref12_identity
 simp only [ByteArray.toList_eq]
 rfl
theorem rid_62 : M.anamnesisref12_identity str_62 = M.ints_Identity str_62 := by
 rw [id_62]
 unfold M.anamnesisref12_identity
 simp only [ByteArray.toList_eq]
 rfl
theorem rid_226_137_160 : M.anamnesisref12_identity str_226_137_160 = M.ints_Identity str_226_137_160 := by
 rw [id_226_137_160]
 unfold M.anamnesisref12_identity
 simp only [ByteArray.toList_eq]
 rfl
theorem rid_226_136_167 : M.anamnesisref12_identity str_226_136_167 = M.ints_Identity str_226_136_167 := by
 rw [id_226_136_167]
 unfold M.anamnesisref12_identity
 simp only [ByteArray.toList_eq]
 rfl
theorem rid_226_136_168 : M.anamnesisref12_identity str_226_136_168 = M.ints_Identity str_226_136_168 := by
 rw [id_226_136_168]
 unfold M.anamnesisref12_identity
 simp only [ByteArray.toList_eq]
 rfl
theorem rid_226_141_178 : M.anamnesisref12_identity str_226_141_178 = M.ints_Identity str_226_141_178 := by
 rw [id_226_141_178]
 unfold M.anamnesisref12_identity
 simp only [ByteArray.toList_eq]
 rfl
theorem rid_226_141_177 : M.anamnesisref12_identity str_226_141_177 = M.ints_Identity str_226_141_177 := by
 rw [id_226_141_177]
 unfold M.anamnesisref12_identity
 simp only [ByteArray.toList_eq]
 rfl
theorem rid_eq {fn : ByteArray} (h : fn ∈ gl19) : M.anamnesisref12_identity fn = some (idF fn) := by
 rw [← idF_eq]
 simp only [gl19, List.mem_cons, List.not_mem_nil, or_false] at h
 rcases h with rfl | rfl | rfl | rfl | rfl | rfl | rfl | rfl | rfl | rfl | rfl | rfl | rfl | rfl | rfl | rfl | rfl | rfl | rfl
 ·exact rid_43
 ·exact rid_45
 ·exact rid_195_151
 ·exact rid_195_183
 ·exact rid_42
 ·exact rid_124
 ·exact rid_33
 ·exact rid_226_140_136
 ·exact rid_226_140_138
 ·exact rid_60
 ·exact rid_226_137_164
 ·exact rid_61
 ·exact rid_226_137_165
 ·exact rid_62
 ·exact rid_226_137_160
 ·exact rid_226_136_167
 ·exact rid_226_136_168
 ·exact rid_226_141_178
 ·exact rid_226_141_177
theorem id_no {fn : ByteArray} (h : fn ∉ gl19) : (idF fn).2 = 4 := by
 have e : M.ints_Identity fn = some (0, 4) := by
  simp only [gl19, List.mem_cons, List.not_mem_nil, or_false, not_or] at h
  obtain ⟨h0, h1, h2, h3, h4, h5, h6, h7, h8, h9, h10, h11, h12, h13, h14, h15, h16, h17, h18⟩ := h
  unfold M.ints_Identity
  simp only [list_beq, h0, h1, h2, h3, h4, h5, h6, h7, h8, h9, h10, h11, h12, h13, h14, h15, h16, h17, h18, decide_false, Bool.false_eq_true, if_false, Option.bind_some]
 rw [idF_eq] at e
 rw [Option.some.inj e]
theorem id_yes {fn : ByteArray} (h : fn ∈ gl19) : (idF fn).2 ≠ 4 := by
 have k : ∀ {p : Int × Int}, M.ints_Identity fn = some p → p.2 ≠ 4 → (idF fn).2 ≠ 4 := fun h1 h2 => by
  rw [idF_eq] at h1
  rw [Option.some.inj h1]; exact h2
 simp only [gl19, List.mem_cons, List.not_mem_nil, or_false] at h
 rcases h with rfl | rfl | rfl | rfl | rfl | rfl | rfl | rfl | rfl | rfl | rfl | rfl | rfl | rfl | rfl | rfl | rfl | rfl | rfl
 ·exact k id_43 (by decide)
 ·exact k id_45 (by decide)
 ·exact k id_195_151 (by decide)
 ·exact k id_195_183 (by decide)
 ·exact k id_42 (by decide)
 ·exact k id_124 (by decide)
 ·exact k id_33 (by decide)
 ·exact k id_226_140_136 (by decide)
 ·exact k id_226_140_138 (by decide)
 ·exact k id_60 (by decide)
 ·exact k id_226_137_164 (by decide)
 ·exact k id_61 (by decide)
 ·exact k id_226_137_165 (by decide)
 ·exact k id_62 (by decide)
 ·exact k id_226_137_160 (by decide)
 ·exact k id_226_136_167 (by decide)
 ·exact k id_226_136_168 (by decide)
 ·exact k id_226_141_178 (by decide)
 ·exact k id_226_141_177 (by decide)
theorem gl_iff (fn : ByteArray) : fn ∈ gl19 ↔ (idF fn).2 ≠ 4 := ⟨id_yes, fun h => Classical.byContradiction fun hn => h (id_no hn)⟩
theorem known_eq (fn : ByteArray) : M.anamnesisref12_known fn = some (decide (fn ∈ gl19)) := by
 unfold M.anamnesisref12_known M.anamnesisref01_Dyads
 simp only [Option.bind_some]
 have := In_eq (l := gl19) (fn := fn) (by decide)
 unfold gl19 at this
 rw [this]
 rfl
theorem f2_of {fn : ByteArray} {a b : Am.Item} {p : Am.Item × Int} (h : M.over_function_1 a b fn = some p) : f2 fn a b = p := by unfold f2; rw [h]; rfl
theorem Two_both {fn : ByteArray} {a b : Am.Item} (h : fn ∈ gl19) (ha : rng a.n) (hb : rng b.n) : M.anamnesisref12_Two fn a b = some (f2 fn a b) ∧ ((f2 fn a b).2 ≠ 0 → f2 fn a b = (⟨0, false⟩, 23)) := by
 have k : ∀ {p : Am.Item × Int}, M.over_function_1 a b fn = some p → M.anamnesisref12_Two fn a b = some p → (p.2 ≠ 0 → p = (⟨0, false⟩, 23)) → M.anamnesisref12_Two fn a b = some (f2 fn a b) ∧ ((f2 fn a b).2 ≠ 0 → f2 fn a b = (⟨0, false⟩, 23)) := fun h1 h2 h3 => by
  rw [f2_of h1]; exact ⟨h2, h3⟩
 by_cases hc : (a.char || b.char) = true
 ·have hn : ¬ ((!a.char) && (!b.char)) = true := by cases h1 : a.char <;> cases h2 : b.char <;> simp_all
  unfold M.over_function_1 M.anamnesisref12_Two M.over_characters at *
  rw [if_pos hc] at k
  rw [if_neg hn] at k ⊢
  generalize (fn.toList == str_61.toList) = p at *
  generalize (fn.toList == str_226_137_160.toList) = q at *
  generalize (a.n == b.n) = e at *
  generalize (a.char == b.char) = d at *
  cases p <;> cases q <;> cases e <;> cases d <;> first | exact k rfl rfl (fun h => absurd rfl h) | exact k rfl rfl (fun _ => rfl)
 ·obtain ⟨h1, h2⟩ := dyR_eq h ha hb
  have hn : ((!a.char) && (!b.char)) = true := by cases h1 : a.char <;> cases h2 : b.char <;> simp_all
  unfold M.over_function_1 M.anamnesisref12_Two at *
  rw [if_neg hc, h2] at k
  rw [if_pos hn, h1] at k ⊢
  generalize dyR fn a.n b.n = r at *
  obtain ⟨n, ok⟩ := r
  cases ok
  ·exact k rfl rfl (fun _ => rfl)
  ·exact k rfl rfl (fun h => absurd rfl h)
theorem Two_eq {fn : ByteArray} {a b : Am.Item} (h : fn ∈ gl19) (ha : rng a.n) (hb : rng b.n) : M.anamnesisref12_Two fn a b = some (f2 fn a b) := (Two_both h ha hb).1
theorem Row_F_eq {fn : ByteArray} (h : fn ∈ gl19) : ∀ (kf : Nat) (l : List Am.Item), l.length < kf → l.length ≤ 1000000 → (∀ x ∈ l, rng x.n) → M.anamnesisref12_Row_F kf fn l = some (red fn l)
 | 0, l, hk, _, _ => by omega
 | kf + 1, [], hk, hl, hr => by
  unfold M.anamnesisref12_Row_F
  rw [if_pos (by simp), rid_eq h]; rfl
 | kf + 1, [x], hk, hl, hr => by
  unfold M.anamnesisref12_Row_F
  rw [if_neg (by simp), if_pos (by simp)]
  have : idx [x] 0 = some x := idx_get (l := [x]) (k := 0) (by simp)
  rw [this]; rfl
 | kf + 1, x :: y :: l, hk, hl, hr => by
  have ih := Row_F_eq h kf (y :: l) (by simpa using hk) (by simp only [List.length_cons] at hl ⊢; omega) (fun z hz => hr z (by simp [List.mem_cons.mp hz]))
  have hrr := red_rng (fn := fn) (l := y :: l) (fun z hz => hr z (by simp [List.mem_cons.mp hz]))
  obtain ⟨h1, h2⟩ := Two_both h (hr x (by simp)) hrr
  unfold M.anamnesisref12_Row_F
  rw [if_neg (by simp; omega), if_neg (by simp; omega)]
  have e1 : sub (x :: y :: l) 1 ((x :: y :: l).length : Int) = some (y :: l) := sub_drop (l := x :: y :: l) (k := 1) (by simp)
  have e2 : idx (x :: y :: l) 0 = some x := idx_get (l := x :: y :: l) (k := 0) (by simp)
  rw [e1, Option.bind_some, ih, e2]
  simp only [Option.bind_some]
  rw [h1, red_cons (x := x) (l := y :: l) (by simp)]
  by_cases he : (red fn (y :: l)).2 = 0
  ·rw [if_neg (by simpa using he), if_neg (nn he)]
   simp only [Option.bind_some]
   by_cases hf : (f2 fn x (red fn (y :: l)).1).2 = 0
   ·rw [if_neg (nn hf), ← hf]
   ·rw [if_pos hf, h2 hf]
  ·rw [if_pos (by simpa using he), if_pos he]
theorem Row_eq {fn : ByteArray} {l : List Am.Item} (h : fn ∈ gl19) (hl : l.length ≤ 1000000) (hr : ∀ x ∈ l, rng x.n) : M.anamnesisref12_Row fn l = some (red fn l) := Row_F_eq h _ l (by omega) hl hr
end Go.Proofs.Ytblgdjpeedgnoaa.overTwo
