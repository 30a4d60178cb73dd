/- IntsNothing: what the code that the law reaches computes, as plain functions; and that the law comes to true. -/
import Derived.Test.YtamlcpligkkciaaAmU
set_option linter.unusedVariables false
set_option linter.unusedSimpArgs false
set_option maxRecDepth 100000
open Go Go.Am
namespace Go.Proofs.Ytamlcpligkkciaa.intsNothing
def str_0_1_2_2_3_3_3_3_4_4_4_4_4_4_4_4_5_5_5_5_5_5_5_5_5_5_5_5_5_5_5_5_6_6_6_6_6_6_6_6_6_6_6_6_6_6_6_6_6_6_6_6_6_6_6_6_6_6_6_6_6_6_6_6_7_7_7_7_7_7_7_7_7_7_7_7_7_7_7_7_7_7_7_7_7_7_7_7_7_7_7_7_7_7_7_7_7_7_7_7_7_7_7_7_7_7_7_7_7_7_7_7_7_7_7_7_7_7_7_7_7_7_7_7_7_7_7_7_8_8_8_8_8_8_8_8_8_8_8_8_8_8_8_8_8_8_8_8_8_8_8_8_8_8_8_8_8_8_8_8_8_8_8_8_8_8_8_8_8_8_8_8_8_8_8_8_8_8_8_8_8_8_8_8_8_8_8_8_8_8_8_8_8_8_8_8_8_8_8_8_8_8_8_8_8_8_8_8_8_8_8_8_8_8_8_8_8_8_8_8_8_8_8_8_8_8_8_8_8_8_8_8_8_8_8_8_8_8_8_8_8_8_8_8_8_8_8_8_8_8_8_8_8_8_8_8 : ByteArray := ⟨#[0, 1, 2, 2, 3, 3, 3, 3, 4, 4, 4, 4, 4, 4, 4, 4, 5, 5, 5, 5, 5, 5, 5, 5, 5, 5, 5, 5, 5, 5, 5, 5, 6, 6, 6, 6, 6, 6, 6, 6, 6, 6, 6, 6, 6, 6, 6, 6, 6, 6, 6, 6, 6, 6, 6, 6, 6, 6, 6, 6, 6, 6, 6, 6, 7, 7, 7, 7, 7, 7, 7, 7, 7, 7, 7, 7, 7, 7, 7, 7, 7, 7, 7, 7, 7, 7, 7, 7, 7, 7, 7, 7, 7, 7, 7, 7, 7, 7, 7, 7, 7, 7, 7, 7, 7, 7, 7, 7, 7, 7, 7, 7, 7, 7, 7, 7, 7, 7, 7, 7, 7, 7, 7, 7, 7, 7, 7, 7, 8, 8, 8, 8, 8, 8, 8, 8, 8, 8, 8, 8, 8, 8, 8, 8, 8, 8, 8, 8, 8, 8, 8, 8, 8, 8, 8, 8, 8, 8, 8, 8, 8, 8, 8, 8, 8, 8, 8, 8, 8, 8, 8, 8, 8, 8, 8, 8, 8, 8, 8, 8, 8, 8, 8, 8, 8, 8, 8, 8, 8, 8, 8, 8, 8, 8, 8, 8, 8, 8, 8, 8, 8, 8, 8, 8, 8, 8, 8, 8, 8, 8, 8, 8, 8, 8, 8, 8, 8, 8, 8, 8, 8, 8, 8, 8, 8, 8, 8, 8, 8, 8, 8, 8, 8, 8, 8, 8, 8, 8, 8, 8, 8, 8, 8, 8, 8, 8, 8, 8, 8, 8, 8, 8, 8, 8, 8, 8]⟩
def str_124 : ByteArray := ⟨#[124]⟩
def str_195_151 : ByteArray := ⟨#[195, 151]⟩
def str_195_183 : ByteArray := ⟨#[195, 183]⟩
def str_226_136_167 : ByteArray := ⟨#[226, 136, 167]⟩
def str_226_136_168 : ByteArray := ⟨#[226, 136, 168]⟩
def str_226_137_160 : ByteArray := ⟨#[226, 137, 160]⟩
def str_226_137_164 : ByteArray := ⟨#[226, 137, 164]⟩
def str_226_137_165 : ByteArray := ⟨#[226, 137, 165]⟩
def str_226_140_136 : ByteArray := ⟨#[226, 140, 136]⟩
def str_226_140_138 : ByteArray := ⟨#[226, 140, 138]⟩
def str_226_141_177 : ByteArray := ⟨#[226, 141, 177]⟩
def str_226_141_178 : ByteArray := ⟨#[226, 141, 178]⟩
def str_33 : ByteArray := ⟨#[33]⟩
def str_42 : ByteArray := ⟨#[42]⟩
def str_43 : ByteArray := ⟨#[43]⟩
def str_45 : ByteArray := ⟨#[45]⟩
def str_60 : ByteArray := ⟨#[60]⟩
def str_61 : ByteArray := ⟨#[61]⟩
def str_62 : ByteArray := ⟨#[62]⟩
noncomputable def M.ints_Identity (fn1 : ByteArray) : Option (Int × Int) :=
  (if (fn1.toList == str_43.toList) then
    some (fn1.toList == str_43.toList)
  else
    if (fn1.toList == str_45.toList) then
      some (fn1.toList == str_45.toList)
    else
      if (fn1.toList == str_124.toList) then
        some (fn1.toList == str_124.toList)
      else
        if (fn1.toList == str_60.toList) then
          some (fn1.toList == str_60.toList)
        else
          if (fn1.toList == str_62.toList) then
            some (fn1.toList == str_62.toList)
          else
            if (fn1.toList == str_226_137_160.toList) then
              some (fn1.toList == str_226_137_160.toList)
            else
              some (fn1.toList == str_226_136_168.toList)).bind fun t1 =>
  if t1 then
    some (0, 0)
  else
    (if (fn1.toList == str_195_151.toList) then
      some (fn1.toList == str_195_151.toList)
    else
      if (fn1.toList == str_195_183.toList) then
        some (fn1.toList == str_195_183.toList)
      else
        if (fn1.toList == str_42.toList) then
          some (fn1.toList == str_42.toList)
        else
          if (fn1.toList == str_33.toList) then
            some (fn1.toList == str_33.toList)
          else
            if (fn1.toList == str_226_137_164.toList) then
              some (fn1.toList == str_226_137_164.toList)
            else
              if (fn1.toList == str_61.toList) then
                some (fn1.toList == str_61.toList)
              else
                if (fn1.toList == str_226_137_165.toList) then
                  some (fn1.toList == str_226_137_165.toList)
                else
                  some (fn1.toList == str_226_136_167.toList)).bind fun t2 =>
    if t2 then
      some (1, 0)
    else
      if (fn1.toList == str_226_140_136.toList) then
        some ((-9223372036854775808), 0)
      else
        if (fn1.toList == str_226_140_138.toList) then
          some (9223372036854775807, 0)
        else
          (if (fn1.toList == str_226_141_178.toList) then
            some (fn1.toList == str_226_141_178.toList)
          else
            some (fn1.toList == str_226_141_177.toList)).bind fun t3 =>
          if t3 then
            some (0, 23)
          else
            some (0, 4)
noncomputable def M.ints_dyads : Option (Unit) :=
  some ()
noncomputable def M.ints_add (a1 : Int) (b1 : Int) : Option (Int × Bool) :=
  some ((IntKind.i64.wrap (a1 + b1)), (((decide ((IntKind.i64.wrap (a1 + b1)) > a1)) == (decide (b1 > 0))) || (b1 == 0)))
noncomputable def M.ints_told (c1 : Int) (ok1 : Bool) : Option (Int × Int) :=
  if (!ok1) then
    some (0, 23)
  else
    some (c1, 0)
noncomputable def M.ints_sub (a1 : Int) (b1 : Int) : Option (Int × Bool) :=
  some ((IntKind.i64.wrap (a1 - b1)), (((decide ((IntKind.i64.wrap (a1 - b1)) < a1)) == (decide (b1 > 0))) || (b1 == 0)))
noncomputable def M.ints_size (a1 : Int) : Option (Int) :=
  if (decide (a1 < 0)) then
    some (IntKind.u64.wrap (0 - (IntKind.u64.wrap a1)))
  else
    some (IntKind.u64.wrap a1)
noncomputable def M.math_bits_Mul64 (x1 : Int) (y1 : Int) : Option (Int × Int) :=
  some ((IntKind.u64.wrap ((IntKind.u64.wrap ((IntKind.u64.wrap ((Int.fdiv x1 (2 ^ (min (Int.toNat 32) IntKind.u64.bits))) * (Int.fdiv y1 (2 ^ (min (Int.toNat 32) IntKind.u64.bits))))) + (Int.fdiv (IntKind.u64.wrap ((IntKind.u64.wrap ((Int.fdiv x1 (2 ^ (min (Int.toNat 32) IntKind.u64.bits))) * (IntKind.u64.wrap (BitVec.ofInt IntKind.u64.bits y1 &&& BitVec.ofInt IntKind.u64.bits 4294967295).toNat))) + (Int.fdiv (IntKind.u64.wrap ((IntKind.u64.wrap (BitVec.ofInt IntKind.u64.bits x1 &&& BitVec.ofInt IntKind.u64.bits 4294967295).toNat) * (IntKind.u64.wrap (BitVec.ofInt IntKind.u64.bits y1 &&& BitVec.ofInt IntKind.u64.bits 4294967295).toNat))) (2 ^ (min (Int.toNat 32) IntKind.u64.bits))))) (2 ^ (min (Int.toNat 32) IntKind.u64.bits))))) + (Int.fdiv (IntKind.u64.wrap ((IntKind.u64.wrap (BitVec.ofInt IntKind.u64.bits (IntKind.u64.wrap ((IntKind.u64.wrap ((Int.fdiv x1 (2 ^ (min (Int.toNat 32) IntKind.u64.bits))) * (IntKind.u64.wrap (BitVec.ofInt IntKind.u64.bits y1 &&& BitVec.ofInt IntKind.u64.bits 4294967295).toNat))) + (Int.fdiv (IntKind.u64.wrap ((IntKind.u64.wrap (BitVec.ofInt IntKind.u64.bits x1 &&& BitVec.ofInt IntKind.u64.bits 4294967295).toNat) * (IntKind.u64.wrap (BitVec.ofInt IntKind.u64.bits y1 &&& BitVec.ofInt IntKind.u64.bits 4294967295).toNat))) (2 ^ (min (Int.toNat 32) IntKind.u64.bits))))) &&& BitVec.ofInt IntKind.u64.bits 4294967295).toNat) + (IntKind.u64.wrap ((IntKind.u64.wrap (BitVec.ofInt IntKind.u64.bits x1 &&& BitVec.ofInt IntKind.u64.bits 4294967295).toNat) * (Int.fdiv y1 (2 ^ (min (Int.toNat 32) IntKind.u64.bits))))))) (2 ^ (min (Int.toNat 32) IntKind.u64.bits))))), (IntKind.u64.wrap (x1 * y1)))
noncomputable def M.ints_mul (a1 : Int) (b1 : Int) : Option (Int × Bool) :=
  (M.ints_size a1).bind fun r1 =>
  (M.ints_size b1).bind fun r2 =>
  (M.math_bits_Mul64 r1 r2).bind fun (r3, r4) =>
  if (!((decide (a1 < 0)) == (decide (b1 < 0)))) then
    some ((IntKind.i64.wrap (0 - (IntKind.i64.wrap r4))), ((r3 == 0) && (decide (r4 ≤ 9223372036854775808))))
  else
    some ((IntKind.i64.wrap r4), ((r3 == 0) && (decide (r4 < 9223372036854775808))))
noncomputable def M.ints_div (a1 : Int) (b1 : Int) : Option (Int × Bool) :=
  if ((a1 == 0) && (b1 == 0)) then
    some (1, true)
  else
    (if (b1 == 0) then
      some (b1 == 0)
    else
      some ((a1 == (-9223372036854775808)) && (b1 == (-1)))).bind fun t1 =>
    if t1 then
      some (0, false)
    else
      (quoI .i64 a1 b1).bind fun q1 =>
      (remI a1 b1).bind fun q2 =>
      some (q1, (q2 == 0))
noncomputable def M.ints_power_L1 (a1 : Int) (b1 : Int) (s : Int × Bool × Int) : Option (Ctl (Int × Bool × Int) (Ctl (Int × Bool) (Int × Bool))) :=
  match s with
  | (c3, ok1, i1) =>
    if ((decide (i1 < b1)) && ok1) then
      (M.ints_mul c3 a1).bind fun (r1, r2) =>
      some (.next (r1, r2, (IntKind.i64.wrap (i1 + 1))))
    else
      some (.done (.next (c3, ok1)))
noncomputable def M.ints_power (a1 : Int) (b1 : Int) : Option (Int × Bool) :=
  if (b1 == 0) then
    some (1, true)
  else
    (if (a1 == 1) then
      some (a1 == 1)
    else
      some ((a1 == 0) && (decide (b1 > 0)))).bind fun t1 =>
    if t1 then
      some (a1, true)
    else
      if (a1 == (-1)) then
        some ((IntKind.i64.wrap (1 - (IntKind.i64.wrap (2 * (IntKind.i64.wrap (BitVec.ofInt IntKind.i64.bits b1 &&& BitVec.ofInt IntKind.i64.bits 1).toNat))))), true)
      else
        if ((decide (b1 < 0)) || (decide (b1 > 63))) then
          some (0, false)
        else
          (wloop (M.ints_power_L1 a1 b1) (a1, true, 1)).bind fun k => joinK k fun (c3, ok1) =>
          some (c3, ok1)
noncomputable def M.ints_residue (a1 : Int) (b1 : Int) : Option (Int × Bool) :=
  if (a1 == 0) then
    some (b1, true)
  else
    if (a1 == (-1)) then
      some (0, true)
    else
      (remI b1 a1).bind fun q1 =>
      (if ((q1 != 0) && (!((decide (q1 < 0)) == (decide (a1 < 0))))) then
        some (IntKind.i64.wrap (q1 + a1))
      else
        some q1).bind fun r1 =>
      some (r1, true)
noncomputable def M.math_bits_Len64 (x1 : Int) : Option (Int) :=
  (if (decide (x1 ≥ 4294967296)) then
    some ((Int.fdiv x1 (2 ^ (min (Int.toNat 32) IntKind.u64.bits))), 32)
  else
    some (x1, 0)).bind fun (x2, n1) =>
  (if (decide (x2 ≥ 65536)) then
    some ((Int.fdiv x2 (2 ^ (min (Int.toNat 16) IntKind.u64.bits))), (IntKind.i64.wrap (n1 + 16)))
  else
    some (x2, n1)).bind fun (x3, n2) =>
  (if (decide (x3 ≥ 256)) then
    some ((Int.fdiv x3 (2 ^ (min (Int.toNat 8) IntKind.u64.bits))), (IntKind.i64.wrap (n2 + 8)))
  else
    some (x3, n2)).bind fun (x4, n3) =>
  (sidx str_0_1_2_2_3_3_3_3_4_4_4_4_4_4_4_4_5_5_5_5_5_5_5_5_5_5_5_5_5_5_5_5_6_6_6_6_6_6_6_6_6_6_6_6_6_6_6_6_6_6_6_6_6_6_6_6_6_6_6_6_6_6_6_6_7_7_7_7_7_7_7_7_7_7_7_7_7_7_7_7_7_7_7_7_7_7_7_7_7_7_7_7_7_7_7_7_7_7_7_7_7_7_7_7_7_7_7_7_7_7_7_7_7_7_7_7_7_7_7_7_7_7_7_7_7_7_7_7_8_8_8_8_8_8_8_8_8_8_8_8_8_8_8_8_8_8_8_8_8_8_8_8_8_8_8_8_8_8_8_8_8_8_8_8_8_8_8_8_8_8_8_8_8_8_8_8_8_8_8_8_8_8_8_8_8_8_8_8_8_8_8_8_8_8_8_8_8_8_8_8_8_8_8_8_8_8_8_8_8_8_8_8_8_8_8_8_8_8_8_8_8_8_8_8_8_8_8_8_8_8_8_8_8_8_8_8_8_8_8_8_8_8_8_8_8_8_8_8_8_8_8_8_8_8_8_8 (IntKind.u8.wrap x4)).bind fun y1 =>
  some (IntKind.i64.wrap (n3 + (IntKind.i64.wrap y1)))
noncomputable def M.math_bits_LeadingZeros64 (x1 : Int) : Option (Int) :=
  (M.math_bits_Len64 x1).bind fun r1 =>
  some (IntKind.i64.wrap (64 - r1))
noncomputable def M.math_bits_Div64_L1 (q3 : Int) (q6 : Int) (s : Int × Int) : Option (Ctl (Int × Int) (Ctl (Int) (Int))) :=
  match s with
  | (q9, rhat1) =>
    if ((decide (q9 ≥ 4294967296)) || (decide ((IntKind.u64.wrap (q9 * (IntKind.u64.wrap (BitVec.ofInt IntKind.u64.bits q3 &&& BitVec.ofInt IntKind.u64.bits 4294967295).toNat))) > (IntKind.u64.wrap ((IntKind.u64.wrap (4294967296 * rhat1)) + (Int.fdiv q6 (2 ^ (min (Int.toNat 32) IntKind.u64.bits)))))))) then
      if (decide ((IntKind.u64.wrap (rhat1 + (Int.fdiv q3 (2 ^ (min (Int.toNat 32) IntKind.u64.bits))))) ≥ 4294967296)) then
        some (.done (.next (IntKind.u64.wrap (q9 - 1))))
      else
        some (.next ((IntKind.u64.wrap (q9 - 1)), (IntKind.u64.wrap (rhat1 + (Int.fdiv q3 (2 ^ (min (Int.toNat 32) IntKind.u64.bits)))))))
    else
      some (.done (.next q9))
noncomputable def M.math_bits_Div64_L2 (q3 : Int) (q6 : Int) (s : Int × Int) : Option (Ctl (Int × Int) (Ctl (Int) (Int))) :=
  match s with
  | (rhat2, q12) =>
    if ((decide (q12 ≥ 4294967296)) || (decide ((IntKind.u64.wrap (q12 * (IntKind.u64.wrap (BitVec.ofInt IntKind.u64.bits q3 &&& BitVec.ofInt IntKind.u64.bits 4294967295).toNat))) > (IntKind.u64.wrap ((IntKind.u64.wrap (4294967296 * rhat2)) + (IntKind.u64.wrap (BitVec.ofInt IntKind.u64.bits q6 &&& BitVec.ofInt IntKind.u64.bits 4294967295).toNat)))))) then
      if (decide ((IntKind.u64.wrap (rhat2 + (Int.fdiv q3 (2 ^ (min (Int.toNat 32) IntKind.u64.bits))))) ≥ 4294967296)) then
        some (.done (.next (IntKind.u64.wrap (q12 - 1))))
      else
        some (.next ((IntKind.u64.wrap (rhat2 + (Int.fdiv q3 (2 ^ (min (Int.toNat 32) IntKind.u64.bits))))), (IntKind.u64.wrap (q12 - 1))))
    else
      some (.done (.next q12))
noncomputable def M.math_bits_Div64 (hi1 : Int) (lo1 : Int) (y1 : Int) : Option (Int × Int) :=
  if (y1 == 0) then
    none
  else
    if (decide (y1 ≤ hi1)) then
      none
    else
      if (hi1 == 0) then
        (quoI .u64 lo1 y1).bind fun q1 =>
        (remI lo1 y1).bind fun q2 =>
        some (q1, q2)
      else
        (M.math_bits_LeadingZeros64 y1).bind fun r1 =>
        (shlI .u64 y1 (IntKind.u64.wrap r1)).bind fun q3 =>
        (shlI .u64 hi1 (IntKind.u64.wrap r1)).bind fun q4 =>
        (shrI .u64 lo1 (IntKind.u64.wrap (64 - (IntKind.u64.wrap r1)))).bind fun q5 =>
        (shlI .u64 lo1 (IntKind.u64.wrap r1)).bind fun q6 =>
        (quoI .u64 (IntKind.u64.wrap (BitVec.ofInt IntKind.u64.bits q4 ||| BitVec.ofInt IntKind.u64.bits q5).toNat) (Int.fdiv q3 (2 ^ (min (Int.toNat 32) IntKind.u64.bits)))).bind fun q7 =>
        ((wloop (M.math_bits_Div64_L1 q3 q6) (q7, (IntKind.u64.wrap ((IntKind.u64.wrap (BitVec.ofInt IntKind.u64.bits q4 ||| BitVec.ofInt IntKind.u64.bits q5).toNat) - (IntKind.u64.wrap (q7 * (Int.fdiv q3 (2 ^ (min (Int.toNat 32) IntKind.u64.bits))))))))).bind fun k => joinK k fun jx =>
        some jx).bind fun q8 =>
        (quoI .u64 (IntKind.u64.wrap ((IntKind.u64.wrap ((IntKind.u64.wrap ((IntKind.u64.wrap (BitVec.ofInt IntKind.u64.bits q4 ||| BitVec.ofInt IntKind.u64.bits q5).toNat) * 4294967296)) + (Int.fdiv q6 (2 ^ (min (Int.toNat 32) IntKind.u64.bits))))) - (IntKind.u64.wrap (q8 * q3)))) (Int.fdiv q3 (2 ^ (min (Int.toNat 32) IntKind.u64.bits)))).bind fun q10 =>
        ((wloop (M.math_bits_Div64_L2 q3 q6) ((IntKind.u64.wrap ((IntKind.u64.wrap ((IntKind.u64.wrap ((IntKind.u64.wrap ((IntKind.u64.wrap (BitVec.ofInt IntKind.u64.bits q4 ||| BitVec.ofInt IntKind.u64.bits q5).toNat) * 4294967296)) + (Int.fdiv q6 (2 ^ (min (Int.toNat 32) IntKind.u64.bits))))) - (IntKind.u64.wrap (q8 * q3)))) - (IntKind.u64.wrap (q10 * (Int.fdiv q3 (2 ^ (min (Int.toNat 32) IntKind.u64.bits))))))), q10)).bind fun k => joinK k fun jx =>
        some jx).bind fun q11 =>
        (shrI .u64 (IntKind.u64.wrap ((IntKind.u64.wrap ((IntKind.u64.wrap ((IntKind.u64.wrap ((IntKind.u64.wrap ((IntKind.u64.wrap ((IntKind.u64.wrap (BitVec.ofInt IntKind.u64.bits q4 ||| BitVec.ofInt IntKind.u64.bits q5).toNat) * 4294967296)) + (Int.fdiv q6 (2 ^ (min (Int.toNat 32) IntKind.u64.bits))))) - (IntKind.u64.wrap (q8 * q3)))) * 4294967296)) + (IntKind.u64.wrap (BitVec.ofInt IntKind.u64.bits q6 &&& BitVec.ofInt IntKind.u64.bits 4294967295).toNat))) - (IntKind.u64.wrap (q11 * q3)))) (IntKind.u64.wrap r1)).bind fun q13 =>
        some ((IntKind.u64.wrap ((IntKind.u64.wrap (q8 * 4294967296)) + q11)), q13)
noncomputable def M.ints_choose_L1 (a1 : Int) (b1 : Int) (s : Int × Int) : Option (Ctl (Int × Int) (Ctl (Int) (Int × Bool))) :=
  match s with
  | (c2, t1) =>
    if (decide (t1 < (IntKind.u64.wrap (if (IntKind.i64.wrap (b1 - a1)) < a1 then (IntKind.i64.wrap (b1 - a1)) else a1)))) then
      (M.math_bits_Mul64 c2 (IntKind.u64.wrap ((IntKind.u64.wrap b1) - t1))).bind fun (r1, r2) =>
      if (decide (r1 > t1)) then
        some (.done (.done (0, false)))
      else
        (M.math_bits_Div64 r1 r2 (IntKind.u64.wrap (t1 + 1))).bind fun (r3, r4) =>
        if (decide (r3 > 9223372036854775807)) then
          some (.done (.done (0, false)))
        else
          some (.next (r3, (IntKind.u64.wrap (t1 + 1))))
    else
      some (.done (.next c2))
noncomputable def M.ints_choose (a1 : Int) (b1 : Int) : Option (Int × Bool) :=
  if ((decide (a1 < 0)) || (decide (b1 < 0))) then
    some (0, false)
  else
    if (decide (a1 > b1)) then
      some (0, true)
    else
      (wloop (M.ints_choose_L1 a1 b1) (1, 0)).bind fun k => joinK k fun c2 =>
      some ((IntKind.i64.wrap c2), true)
noncomputable def M.ints_dyads_1 (a1 : Int) (b1 : Int) : Option (Int × Bool) :=
  some ((if a1 < b1 then b1 else a1), true)
noncomputable def M.ints_dyads_2 (a1 : Int) (b1 : Int) : Option (Int × Bool) :=
  some ((if b1 < a1 then b1 else a1), true)
noncomputable def M.ints_truth (b1 : Bool) : Option (Int × Bool) :=
  if b1 then
    some (1, true)
  else
    some (0, true)
noncomputable def M.ints_dyads_3 (a1 : Int) (b1 : Int) : Option (Int × Bool) :=
  (M.ints_truth (decide (a1 < b1))).bind fun (r1, r2) =>
  some (r1, r2)
noncomputable def M.ints_dyads_4 (a1 : Int) (b1 : Int) : Option (Int × Bool) :=
  (M.ints_truth (decide (a1 ≤ b1))).bind fun (r1, r2) =>
  some (r1, r2)
noncomputable def M.ints_dyads_5 (a1 : Int) (b1 : Int) : Option (Int × Bool) :=
  (M.ints_truth (a1 == b1)).bind fun (r1, r2) =>
  some (r1, r2)
noncomputable def M.ints_dyads_6 (a1 : Int) (b1 : Int) : Option (Int × Bool) :=
  (M.ints_truth (decide (a1 ≥ b1))).bind fun (r1, r2) =>
  some (r1, r2)
noncomputable def M.ints_dyads_7 (a1 : Int) (b1 : Int) : Option (Int × Bool) :=
  (M.ints_truth (decide (a1 > b1))).bind fun (r1, r2) =>
  some (r1, r2)
noncomputable def M.ints_dyads_8 (a1 : Int) (b1 : Int) : Option (Int × Bool) :=
  (M.ints_truth (a1 != b1)).bind fun (r1, r2) =>
  some (r1, r2)
noncomputable def M.ints_bit (b1 : Int) : Option (Bool) :=
  some ((b1 == 0) || (b1 == 1))
noncomputable def M.ints_dyads_9 (a1 : Int) (b1 : Int) : Option (Int × Bool) :=
  (M.ints_bit a1).bind fun r1 =>
  (if r1 then
  (M.ints_bit b1).bind fun r2 =>
  some r2 else
  some false).bind fun c1 =>
  some ((IntKind.i64.wrap (BitVec.ofInt IntKind.i64.bits a1 &&& BitVec.ofInt IntKind.i64.bits b1).toNat), c1)
noncomputable def M.ints_dyads_10 (a1 : Int) (b1 : Int) : Option (Int × Bool) :=
  (M.ints_bit a1).bind fun r1 =>
  (if r1 then
  (M.ints_bit b1).bind fun r2 =>
  some r2 else
  some false).bind fun c1 =>
  some ((IntKind.i64.wrap (BitVec.ofInt IntKind.i64.bits a1 ||| BitVec.ofInt IntKind.i64.bits b1).toNat), c1)
noncomputable def M.ints_dyads_11 (a1 : Int) (b1 : Int) : Option (Int × Bool) :=
  (M.ints_bit a1).bind fun r1 =>
  (if r1 then
  (M.ints_bit b1).bind fun r2 =>
  some r2 else
  some false).bind fun c1 =>
  some ((IntKind.i64.wrap (1 - (IntKind.i64.wrap (BitVec.ofInt IntKind.i64.bits a1 &&& BitVec.ofInt IntKind.i64.bits b1).toNat))), c1)
noncomputable def M.ints_dyads_12 (a1 : Int) (b1 : Int) : Option (Int × Bool) :=
  (M.ints_bit a1).bind fun r1 =>
  (if r1 then
  (M.ints_bit b1).bind fun r2 =>
  some r2 else
  some false).bind fun c1 =>
  some ((IntKind.i64.wrap (1 - (IntKind.i64.wrap (BitVec.ofInt IntKind.i64.bits a1 ||| BitVec.ofInt IntKind.i64.bits b1).toNat))), c1)
noncomputable def M.ints_Dyad (fn1 : ByteArray) (a1 : Int) (b1 : Int) : Option (Int × Int) :=
  (M.ints_dyads).bind fun r1 =>
  if (fn1 == str_43) then
    (M.ints_add a1 b1).bind fun (r2, r3) =>
    (M.ints_told r2 r3).bind fun (r4, r5) =>
    some (r4, r5)
  else if (fn1 == str_45) then
    (M.ints_sub a1 b1).bind fun (r6, r7) =>
    (M.ints_told r6 r7).bind fun (r8, r9) =>
    some (r8, r9)
  else if (fn1 == str_195_151) then
    (M.ints_mul a1 b1).bind fun (r10, r11) =>
    (M.ints_told r10 r11).bind fun (r12, r13) =>
    some (r12, r13)
  else if (fn1 == str_195_183) then
    (M.ints_div a1 b1).bind fun (r14, r15) =>
    (M.ints_told r14 r15).bind fun (r16, r17) =>
    some (r16, r17)
  else if (fn1 == str_42) then
    (M.ints_power a1 b1).bind fun (r18, r19) =>
    (M.ints_told r18 r19).bind fun (r20, r21) =>
    some (r20, r21)
  else if (fn1 == str_124) then
    (M.ints_residue a1 b1).bind fun (r22, r23) =>
    (M.ints_told r22 r23).bind fun (r24, r25) =>
    some (r24, r25)
  else if (fn1 == str_33) then
    (M.ints_choose a1 b1).bind fun (r26, r27) =>
    (M.ints_told r26 r27).bind fun (r28, r29) =>
    some (r28, r29)
  else if (fn1 == str_226_140_136) then
    (M.ints_dyads_1 a1 b1).bind fun (r30, r31) =>
    (M.ints_told r30 r31).bind fun (r32, r33) =>
    some (r32, r33)
  else if (fn1 == str_226_140_138) then
    (M.ints_dyads_2 a1 b1).bind fun (r34, r35) =>
    (M.ints_told r34 r35).bind fun (r36, r37) =>
    some (r36, r37)
  else if (fn1 == str_60) then
    (M.ints_dyads_3 a1 b1).bind fun (r38, r39) =>
    (M.ints_told r38 r39).bind fun (r40, r41) =>
    some (r40, r41)
  else if (fn1 == str_226_137_164) then
    (M.ints_dyads_4 a1 b1).bind fun (r42, r43) =>
    (M.ints_told r42 r43).bind fun (r44, r45) =>
    some (r44, r45)
  else if (fn1 == str_61) then
    (M.ints_dyads_5 a1 b1).bind fun (r46, r47) =>
    (M.ints_told r46 r47).bind fun (r48, r49) =>
    some (r48, r49)
  else if (fn1 == str_226_137_165) then
    (M.ints_dyads_6 a1 b1).bind fun (r50, r51) =>
    (M.ints_told r50 r51).bind fun (r52, r53) =>
    some (r52, r53)
  else if (fn1 == str_62) then
    (M.ints_dyads_7 a1 b1).bind fun (r54, r55) =>
    (M.ints_told r54 r55).bind fun (r56, r57) =>
    some (r56, r57)
  else if (fn1 == str_226_137_160) then
    (M.ints_dyads_8 a1 b1).bind fun (r58, r59) =>
    (M.ints_told r58 r59).bind fun (r60, r61) =>
    some (r60, r61)
  else if (fn1 == str_226_136_167) then
    (M.ints_dyads_9 a1 b1).bind fun (r62, r63) =>
    (M.ints_told r62 r63).bind fun (r64, r65) =>
    some (r64, r65)
  else if (fn1 == str_226_136_168) then
    (M.ints_dyads_10 a1 b1).bind fun (r66, r67) =>
    (M.ints_told r66 r67).bind fun (r68, r69) =>
    some (r68, r69)
  else if (fn1 == str_226_141_178) then
    (M.ints_dyads_11 a1 b1).bind fun (r70, r71) =>
    (M.ints_told r70 r71).bind fun (r72, r73) =>
    some (r72, r73)
  else if (fn1 == str_226_141_177) then
    (M.ints_dyads_12 a1 b1).bind fun (r74, r75) =>
    (M.ints_told r74 r75).bind fun (r76, r77) =>
    some (r76, r77)
  else 
  some (0, 4)
noncomputable def M.anamnesislaw01_is (fn1 : ByteArray) (a1 : Int) (b1 : Int) (c1 : Int) : Option (Bool) :=
  (M.ints_Dyad fn1 a1 b1).bind fun (r1, r2) =>
  some ((r1 == c1) && (r2 == 0))
noncomputable def M.anamnesislaw01_IntsNothing_L3 (b1 : Int) (s : Int) : Option (Ctl (Int) (Ctl (Unit) (Bool))) :=
  match s with
  | i3 =>
    if (decide (i3 < (([str_124, str_60, str_226_137_164]).length : Int))) then
      (idx ([str_124, str_60, str_226_137_164]) i3).bind fun y5 =>
      (M.ints_Identity y5).bind fun (r7, r8) =>
      (if (decide (i3 > 0)) then
        some (IntKind.i64.wrap (BitVec.ofInt IntKind.i64.bits b1 &&& BitVec.ofInt IntKind.i64.bits 1).toNat)
      else
        some b1).bind fun x1 =>
      (if (r8 != 0) then
      some true else
      (idx ([str_124, str_60, str_226_137_164]) i3).bind fun y6 =>
      (M.anamnesislaw01_is y6 r7 x1 x1).bind fun r9 =>
      some (!r9)).bind fun c6 =>
      if c6 then
        some (.done (.done false))
      else
        some (.next (IntKind.i64.wrap (i3 + 1)))
    else
      some (.done (.next ()))
noncomputable def M.anamnesislaw01_IntsNothing_L2 (b1 : Int) (s : Int) : Option (Ctl (Int) (Ctl (Unit) (Bool))) :=
  match s with
  | i2 =>
    if (decide (i2 < (([str_61, str_226_137_165, str_62, str_226_137_160, str_226_136_167, str_226_136_168]).length : Int))) then
      (idx ([str_61, str_226_137_165, str_62, str_226_137_160, str_226_136_167, str_226_136_168]) i2).bind fun y3 =>
      (M.ints_Identity y3).bind fun (r4, r5) =>
      (if (r5 != 0) then
      some true else
      (idx ([str_61, str_226_137_165, str_62, str_226_137_160, str_226_136_167, str_226_136_168]) i2).bind fun y4 =>
      (M.anamnesislaw01_is y4 (IntKind.i64.wrap (BitVec.ofInt IntKind.i64.bits b1 &&& BitVec.ofInt IntKind.i64.bits 1).toNat) r4 (IntKind.i64.wrap (BitVec.ofInt IntKind.i64.bits b1 &&& BitVec.ofInt IntKind.i64.bits 1).toNat)).bind fun r6 =>
      some (!r6)).bind fun c4 =>
      if c4 then
        some (.done (.done false))
      else
        some (.next (IntKind.i64.wrap (i2 + 1)))
    else
      some (.done (.next ()))
noncomputable def M.anamnesislaw01_IntsNothing_L1 (b1 : Int) (s : Int) : Option (Ctl (Int) (Ctl (Unit) (Bool))) :=
  match s with
  | i1 =>
    if (decide (i1 < (([str_43, str_45, str_195_151, str_195_183, str_42, str_226_140_136, str_226_140_138]).length : Int))) then
      (idx ([str_43, str_45, str_195_151, str_195_183, str_42, str_226_140_136, str_226_140_138]) i1).bind fun y1 =>
      (M.ints_Identity y1).bind fun (r1, r2) =>
      (if (r2 != 0) then
      some true else
      (idx ([str_43, str_45, str_195_151, str_195_183, str_42, str_226_140_136, str_226_140_138]) i1).bind fun y2 =>
      (M.anamnesislaw01_is y2 b1 r1 b1).bind fun r3 =>
      some (!r3)).bind fun c2 =>
      if c2 then
        some (.done (.done false))
      else
        some (.next (IntKind.i64.wrap (i1 + 1)))
    else
      some (.done (.next ()))
noncomputable def M.anamnesislaw01_IntsNothing (b1 : Int) : Option (Bool) :=
  (wloop (M.anamnesislaw01_IntsNothing_L1 b1) 0).bind fun k => joinK k fun _ =>
  (wloop (M.anamnesislaw01_IntsNothing_L2 b1) 0).bind fun k => joinK k fun _ =>
  (wloop (M.anamnesislaw01_IntsNothing_L3 b1) 0).bind fun k => joinK k fun _ =>
  (M.ints_Identity str_33).bind fun (r10, r11) =>
  (if (r11 == 0) then
  (if (decide (b1 < 0)) then
  some true else
  (M.anamnesislaw01_is str_33 r10 b1 b1).bind fun r12 =>
  some r12).bind fun c7 =>
  some c7 else
  some false).bind fun c7 =>
  some (c7 && true)
theorem w64_id {x : Int} (h1 : -9223372036854775808 ≤ x) (h2 : x ≤ 9223372036854775807) : IntKind.i64.wrap x = x := wrap_id h1 h2
theorem u8_mod (x : Int) : IntKind.u8.wrap x = x % 256 := by simp [IntKind.wrap, IntKind.bits, IntKind.signed]
theorem u8_id {x : Int} (h1 : 0 ≤ x) (h2 : x ≤ 255) : IntKind.u8.wrap x = x := by rw [u8_mod]; omega
theorem u32_id {x : Int} (h1 : 0 ≤ x) (h2 : x ≤ 1114111) : IntKind.u32.wrap x = x := by
  have : IntKind.u32.wrap x = x % 4294967296 := by simp [IntKind.wrap, IntKind.bits, IntKind.signed]
  rw [this]; omega
/-- A loop comes to an end in a state with Q: P holds ahead of each round, and its number falls. -/
theorem wloop_ind {σ β : Type} {f : σ → Option (Ctl σ β)} (P : Nat → σ → Prop) (Q : β → Prop)
    (h : ∀ n s, P n s → (∃ s' n', f s = some (.next s') ∧ n' < n ∧ P n' s') ∨ (∃ b, f s = some (.done b) ∧ Q b)) : ∀ n s, P n s → ∃ b, wloop f s = some b ∧ Q b := by
  intro n
  induction n using Nat.strongRecOn with
  | _ n ih =>
    intro s hp
    rcases h n s hp with ⟨s', n', hf, hn, hp'⟩ | ⟨b, hf, hq⟩
    · obtain ⟨b, hb, hq⟩ := ih n' hn s' hp'
      exact ⟨b, by rw [wloop_next hf]; exact hb, hq⟩
    · exact ⟨b, wloop_done hf, hq⟩
theorem idx_nat {α : Type} (l : List α) (k : Nat) : idx l (k : Int) = l[k]? := by
  unfold idx; rw [if_pos (by omega)]; rfl
theorem idx_get {α : Type} {l : List α} {k : Nat} (h : k < l.length) : idx l (k : Int) = some l[k] := by rw [idx_nat, List.getElem?_eq_getElem h]
theorem upd_nat {α : Type} {l : List α} {k : Nat} {x : α} (h : k < l.length) : upd l (k : Int) x = some (l.set k x) := by
  unfold upd; rw [if_pos ⟨by omega, by omega⟩]; rfl
theorem app_ok {α : Type} {b : Nat} {l m : List α} (h : (l.length + m.length) * b ≤ 140737488355328) : app b l m = some (l ++ m) := by
  unfold app; rw [if_pos (.inr h)]
theorem mk_ok {α : Type} {b : Nat} {z : α} {n : Nat} (h : b * n ≤ 140737488355328) (h' : n ≤ 140737488355328) : mk b z (n : Int) (n : Int) = some (List.replicate n z) := by
  unfold mk
  have : ((b : Int) * (n : Int)) ≤ 140737488355328 := by
    have h2 : ((b * n : Nat) : Int) ≤ 140737488355328 := by omega
    rwa [Int.natCast_mul] at h2
  rw [if_pos ⟨by omega, by omega, this, by omega⟩]; rfl
/-- the numbers that a kind has. -/
theorem wf64 {n : Int} (h : (Lit.int .i64 n).wf = true) : -9223372036854775808 ≤ n ∧ n ≤ 9223372036854775807 := by
  have h2 : (decide (IntKind.i64.min ≤ n) && decide (n ≤ IntKind.i64.max)) = true := h
  have e1 : IntKind.i64.min = -9223372036854775808 := by decide
  have e2 : IntKind.i64.max = 9223372036854775807 := by decide
  rw [e1, e2] at h2
  simpa using h2
theorem sub_drop {α : Type} {l : List α} {k : Nat} (h : k ≤ l.length) : sub l (k : Int) (l.length : Int) = some (l.drop k) := by
  unfold sub
  rw [if_pos ⟨by omega, by omega, by omega⟩]
  simp
theorem drop_cons {α : Type} {l : List α} {k : Nat} (h : k < l.length) : l.drop k = l[k] :: l.drop (k + 1) := List.drop_eq_getElem_cons h
theorem same_loop {f : Int → Option (Ctl Int (Ctl Unit Bool))} {a b : List Int} (hl : a.length = b.length) (hm : a.length ≤ maxLen)
    (hf : ∀ k : Nat, ∀ h : k < a.length, f k = if a[k] = b[k]'(hl ▸ h) then some (.next ((k : Int) + 1)) else some (.done (.done false))) (he : f a.length = some (.done (.next ()))) :
    wloop f 0 = some (if a = b then .next () else .done false) := by
  have key := wloop_ind (f := f) (fun n i => ∃ k : Nat, i = k ∧ k ≤ a.length ∧ n = a.length - k ∧ a.take k = b.take k)
    (fun c => (c = .done false ∧ a ≠ b) ∨ (c = .next () ∧ a = b)) (fun n i h => by
      obtain ⟨k, rfl, hk, rfl, hn⟩ := h
      by_cases hlt : k < a.length
      · rw [hf k hlt]
        by_cases he : a[k] = b[k]
        · rw [if_pos he]
          left
          refine ⟨_, a.length - (k + 1), rfl, by omega, k + 1, by omega, by omega, rfl, ?_⟩
          rw [List.take_succ_eq_append_getElem hlt, List.take_succ_eq_append_getElem (by omega), hn, he]
        · rw [if_neg he]
          right
          refine ⟨_, rfl, .inl ⟨rfl, fun h => he ?_⟩⟩
          subst h; rfl
      · have : k = a.length := by omega
        subst this
        right
        refine ⟨_, he, .inr ⟨rfl, ?_⟩⟩
        rw [List.take_length, hl, List.take_length] at hn
        exact hn) a.length 0 ⟨0, rfl, by omega, by omega, by simp⟩
  obtain ⟨c, hc, ⟨rfl, h⟩ | ⟨rfl, h⟩⟩ := key
  · rw [hc]; simp [h]
  · rw [hc]; simp [h]

theorem same_step {f : Int → Option (Ctl Int (Ctl Unit Bool))} {a b : List Int} (hl : a.length = b.length) (hm : a.length ≤ maxLen)
    (hf : ∀ k : Nat, ∀ h : k < a.length, f k = if a[k] = b[k]'(hl ▸ h) then some (.next ((k : Int) + 1)) else some (.done (.done false))) (he : f a.length = some (.done (.next ()))) :
    (wloop f 0).bind (fun k => joinK k fun _ => some true) = some (decide (a = b)) := by
  rw [same_loop hl hm hf he]
  by_cases h : a = b
  · rw [if_pos h, decide_eq_true h]; rfl
  · rw [if_neg h, decide_eq_false h]; rfl
/-- a loop that counts up. -/
theorem loop_up {S τ β : Type} {f : S → Option (Ctl S β)} (st : Nat → τ → S) (n : Nat) (I : Nat → τ → Prop) (out : τ → β) (a : τ) (h0 : I 0 a)
    (hf : ∀ k m, k < n → I k m → ∃ m', f (st k m) = some (.next (st (k + 1) m')) ∧ I (k + 1) m') (he : ∀ m, I n m → f (st n m) = some (.done (out m))) :
    ∃ m, I n m ∧ wloop f (st 0 a) = some (out m) := by
  have key := wloop_ind (f := f) (fun j s => ∃ k m, s = st k m ∧ j = n - k ∧ k ≤ n ∧ I k m) (fun b => ∃ m, b = out m ∧ I n m) (fun j s h => by
    obtain ⟨k, m, rfl, rfl, hk, hi⟩ := h
    by_cases hlt : k < n
    · left
      obtain ⟨m', h1, h2⟩ := hf k m hlt hi
      exact ⟨_, n - (k + 1), h1, by omega, k + 1, m', rfl, rfl, by omega, h2⟩
    · have : k = n := by omega
      subst this
      exact .inr ⟨_, he m hi, m, rfl, hi⟩) n (st 0 a) ⟨0, a, rfl, by omega, by omega, h0⟩
  obtain ⟨b, hb, m, rfl, hi⟩ := key
  exact ⟨m, hi, hb⟩
/-- a loop that counts up, each of whose states is told. -/
theorem loop_fun {S β : Type} {f : S → Option (Ctl S β)} (st : Nat → S) (n : Nat) {b : β} (hf : ∀ k, k < n → f (st k) = some (.next (st (k + 1)))) (he : f (st n) = some (.done b)) : wloop f (st 0) = some b := by
  obtain ⟨_, _, h⟩ := loop_up (f := f) (fun k (_ : Unit) => st k) n (fun _ _ => True) (fun _ => b) () trivial (fun k m hk _ => ⟨(), hf k hk, trivial⟩) (fun m _ => he)
  exact h
theorem lin_lt {i k R C : Nat} (h : i < R) (hk : k < C) : i * C + k < R * C := by
  have := Nat.mul_le_mul_right C (show i + 1 ≤ R from h)
  rw [Nat.succ_mul] at this; omega
theorem lin_inj {i k i' k' C : Nat} (hk : k < C) (hk' : k' < C) (h : i * C + k = i' * C + k') : i = i' ∧ k = k' := by
  have hc : 0 < C := by omega
  have e : ∀ (a b : Nat), b < C → (a * C + b) / C = a := fun a b hb => by
    rw [Nat.mul_comm, Nat.mul_add_div hc, Nat.div_eq_of_lt hb, Nat.add_zero]
  have h1 := e i k hk
  rw [h, e i' k' hk'] at h1
  subst h1; omega
/-- a matrix, row by row. -/
def tab (R C : Nat) (f : Nat → Nat → Int) : List Int := (List.range (R * C)).map fun p => f (p / C) (p % C)
theorem tab_len (R C : Nat) (f : Nat → Nat → Int) : (tab R C f).length = R * C := by simp [tab]
theorem tab_get {R C i k : Nat} (f : Nat → Nat → Int) (hi : i < R) (hk : k < C) : (tab R C f)[i * C + k]? = some (f i k) := by
  have hc : 0 < C := by omega
  unfold tab
  rw [List.getElem?_map, List.getElem?_range (lin_lt hi hk)]
  show some (f ((i * C + k) / C) ((i * C + k) % C)) = _
  rw [Nat.mul_comm, Nat.mul_add_div hc, Nat.div_eq_of_lt hk, Nat.mul_add_mod, Nat.mod_eq_of_lt hk, Nat.add_zero]
theorem tab_ext {R C : Nat} {f : Nat → Nat → Int} {l : List Int} (hl : l.length = R * C) (h : ∀ i k, i < R → k < C → l[i * C + k]? = some (f i k)) : l = tab R C f := by
  apply List.ext_getElem?
  intro p
  by_cases hp : p < R * C
  · have hc : 0 < C := by
      rcases Nat.eq_zero_or_pos C with h | h
      · subst h; simp at hp
      · exact h
    have h1 : p / C < R := by rw [Nat.div_lt_iff_lt_mul hc]; exact hp
    have h2 : p % C < C := Nat.mod_lt _ hc
    have e : p / C * C + p % C = p := by rw [Nat.mul_comm]; exact Nat.div_add_mod p C
    have a := h _ _ h1 h2
    have b := tab_get f h1 h2
    rw [e] at a b
    rw [a, b]
  · rw [List.getElem?_eq_none (by omega), List.getElem?_eq_none (by rw [tab_len]; omega)]
theorem u64_mod (x : Int) : IntKind.u64.wrap x = x % 18446744073709551616 := by simp [IntKind.wrap, IntKind.bits, IntKind.signed]
theorem u64_id {x : Int} (h1 : 0 ≤ x) (h2 : x < 18446744073709551616) : IntKind.u64.wrap x = x := by rw [u64_mod]; omega
theorem i64_eq (x : Int) : IntKind.i64.wrap x = if x % 18446744073709551616 ≥ 9223372036854775808 then x % 18446744073709551616 - 18446744073709551616 else x % 18446744073709551616 := by simp [IntKind.wrap, IntKind.bits, IntKind.signed]
theorem i64_range (x : Int) : -9223372036854775808 ≤ IntKind.i64.wrap x ∧ IntKind.i64.wrap x ≤ 9223372036854775807 := by
  rw [i64_eq]; split <;> omega
theorem bv_toNat {x : Int} (h1 : 0 ≤ x) (h2 : x < 18446744073709551616) : (BitVec.ofInt IntKind.u64.bits x).toNat = x.toNat := by
  have : IntKind.u64.bits = 64 := rfl
  rw [this, BitVec.toNat_ofInt]
  congr 1
  show x % 18446744073709551616 = x
  omega
theorem and32 {x : Int} (h1 : 0 ≤ x) (h2 : x < 18446744073709551616) : IntKind.u64.wrap (BitVec.ofInt IntKind.u64.bits x &&& BitVec.ofInt IntKind.u64.bits 4294967295).toNat = x % 4294967296 := by
  rw [BitVec.toNat_and, bv_toNat h1 h2, bv_toNat (by omega) (by omega), show (4294967295 : Int).toNat = 2 ^ 32 - 1 from rfl, Nat.and_two_pow_sub_one_eq_mod, u64_id (by omega) (by omega)]
  omega
theorem shr32 {x : Int} (h1 : 0 ≤ x) : Int.fdiv x (2 ^ (min (Int.toNat 32) IntKind.u64.bits)) = x / 4294967296 := by
  rw [show (2 : Int) ^ (min (Int.toNat 32) IntKind.u64.bits) = 4294967296 from rfl, Int.fdiv_eq_ediv_of_nonneg _ (by omega)]
theorem pair_eq {α β : Type} {a c : α} {b d : β} (h1 : a = c) (h2 : b = d) : (a, b) = (c, d) := by rw [h1, h2]
theorem mul64_eq {x y : Int} (hx : 0 ≤ x) (hx2 : x < 18446744073709551616) (hy : 0 ≤ y) (hy2 : y < 18446744073709551616) :
    M.math_bits_Mul64 x y = some (x * y / 18446744073709551616, x * y % 18446744073709551616) := by
  unfold M.math_bits_Mul64
  rw [and32 hx hx2, and32 hy hy2, shr32 hx, shr32 hy]
  obtain ⟨x1, hx1⟩ : ∃ x1, x1 = x / 4294967296 := ⟨_, rfl⟩
  obtain ⟨x0, hx0⟩ : ∃ x0, x0 = x % 4294967296 := ⟨_, rfl⟩
  obtain ⟨y1, hy1⟩ : ∃ y1, y1 = y / 4294967296 := ⟨_, rfl⟩
  obtain ⟨y0, hy0⟩ : ∃ y0, y0 = y % 4294967296 := ⟨_, rfl⟩
  rw [← hx1, ← hx0, ← hy1, ← hy0]
  have bx1 : 0 ≤ x1 ∧ x1 ≤ 4294967295 := by omega
  have bx0 : 0 ≤ x0 ∧ x0 ≤ 4294967295 := by omega
  have by1 : 0 ≤ y1 ∧ y1 ≤ 4294967295 := by omega
  have by0 : 0 ≤ y0 ∧ y0 ≤ 4294967295 := by omega
  have prodb : ∀ a b : Int, (0 ≤ a ∧ a ≤ 4294967295) → (0 ≤ b ∧ b ≤ 4294967295) → 0 ≤ a * b ∧ a * b ≤ 18446744065119617025 := fun a b ha hb =>
    ⟨Int.mul_nonneg ha.1 hb.1, by have := Int.mul_le_mul ha.2 hb.2 hb.1 (show (0 : Int) ≤ 4294967295 by omega); omega⟩
  have key : x * y = (x1 * y1) * 18446744073709551616 + (x1 * y0) * 4294967296 + (x0 * y1) * 4294967296 + x0 * y0 := by
    have ex : x = x1 * 4294967296 + x0 := by omega
    have ey : y = y1 * 4294967296 + y0 := by omega
    rw [ex, ey]
    grind
  have pA := prodb x1 y1 bx1 by1
  have pB := prodb x1 y0 bx1 by0
  have pC := prodb x0 y1 bx0 by1
  have pD := prodb x0 y0 bx0 by0
  rw [key]
  clear key
  generalize x1 * y1 = A at *
  generalize x1 * y0 = B at *
  generalize x0 * y1 = C at *
  generalize x0 * y0 = D at *
  rw [u64_id (x := A) (by omega) (by omega), u64_id (x := B) (by omega) (by omega), u64_id (x := C) (by omega) (by omega), u64_id (x := D) (by omega) (by omega), shr32 (x := D) (by omega), u64_id (x := B + D / 4294967296) (by omega) (by omega),
    and32 (x := B + D / 4294967296) (by omega) (by omega), shr32 (x := B + D / 4294967296) (by omega), u64_id (x := (B + D / 4294967296) % 4294967296 + C) (by omega) (by omega), shr32 (x := (B + D / 4294967296) % 4294967296 + C) (by omega),
    u64_id (x := A + (B + D / 4294967296) / 4294967296) (by omega) (by omega), u64_id (by omega) (by omega), u64_mod]
  exact congrArg some (pair_eq (by omega) rfl)
def rng (x : Int) : Prop := -9223372036854775808 ≤ x ∧ x ≤ 9223372036854775807
instance (x : Int) : Decidable (rng x) := inferInstanceAs (Decidable (_ ∧ _))
/-- a result, or Domain. -/
def tl (p : Int × Bool) : Int × Int := if p.2 then (p.1, 0) else (0, 23)
theorem told_eq (c : Int) (ok : Bool) : M.ints_told c ok = some (tl (c, ok)) := by
  unfold M.ints_told tl; cases ok <;> rfl
theorem told_bind (p : Int × Bool) : ((some p).bind fun x => match x with | (c, ok) => (M.ints_told c ok).bind fun y => match y with | (u, v) => some (u, v)) = some (tl p) := by
  obtain ⟨c, ok⟩ := p
  simp only [Option.bind_some, told_eq]
theorem sel_add {a b : Int} {p : Int × Bool} (h : M.ints_add a b = some p) : M.ints_Dyad str_43 a b = some (tl p) := by
  have e : M.ints_Dyad str_43 a b = (M.ints_add a b).bind fun x => match x with | (c, ok) => (M.ints_told c ok).bind fun y => match y with | (u, v) => some (u, v) := by
    unfold M.ints_Dyad M.ints_dyads
    simp only [Option.bind_some]
    iterate 0 rw [if_neg (by decide)]
    rw [if_pos (by decide)]
  rw [e, h, told_bind]
theorem sel_sub {a b : Int} {p : Int × Bool} (h : M.ints_sub a b = some p) : M.ints_Dyad str_45 a b = some (tl p) := by
  have e : M.ints_Dyad str_45 a b = (M.ints_sub a b).bind fun x => match x with | (c, ok) => (M.ints_told c ok).bind fun y => match y with | (u, v) => some (u, v) := by
    unfold M.ints_Dyad M.ints_dyads
    simp only [Option.bind_some]
    iterate 1 rw [if_neg (by decide)]
    rw [if_pos (by decide)]
  rw [e, h, told_bind]
theorem sel_mul {a b : Int} {p : Int × Bool} (h : M.ints_mul a b = some p) : M.ints_Dyad str_195_151 a b = some (tl p) := by
  have e : M.ints_Dyad str_195_151 a b = (M.ints_mul a b).bind fun x => match x with | (c, ok) => (M.ints_told c ok).bind fun y => match y with | (u, v) => some (u, v) := by
    unfold M.ints_Dyad M.ints_dyads
    simp only [Option.bind_some]
    iterate 2 rw [if_neg (by decide)]
    rw [if_pos (by decide)]
  rw [e, h, told_bind]
theorem sel_div {a b : Int} {p : Int × Bool} (h : M.ints_div a b = some p) : M.ints_Dyad str_195_183 a b = some (tl p) := by
  have e : M.ints_Dyad str_195_183 a b = (M.ints_div a b).bind fun x => match x with | (c, ok) => (M.ints_told c ok).bind fun y => match y with | (u, v) => some (u, v) := by
    unfold M.ints_Dyad M.ints_dyads
    simp only [Option.bind_some]
    iterate 3 rw [if_neg (by decide)]
    rw [if_pos (by decide)]
  rw [e, h, told_bind]
theorem sel_power {a b : Int} {p : Int × Bool} (h : M.ints_power a b = some p) : M.ints_Dyad str_42 a b = some (tl p) := by
  have e : M.ints_Dyad str_42 a b = (M.ints_power a b).bind fun x => match x with | (c, ok) => (M.ints_told c ok).bind fun y => match y with | (u, v) => some (u, v) := by
    unfold M.ints_Dyad M.ints_dyads
    simp only [Option.bind_some]
    iterate 4 rw [if_neg (by decide)]
    rw [if_pos (by decide)]
  rw [e, h, told_bind]
theorem sel_residue {a b : Int} {p : Int × Bool} (h : M.ints_residue a b = some p) : M.ints_Dyad str_124 a b = some (tl p) := by
  have e : M.ints_Dyad str_124 a b = (M.ints_residue a b).bind fun x => match x with | (c, ok) => (M.ints_told c ok).bind fun y => match y with | (u, v) => some (u, v) := by
    unfold M.ints_Dyad M.ints_dyads
    simp only [Option.bind_some]
    iterate 5 rw [if_neg (by decide)]
    rw [if_pos (by decide)]
  rw [e, h, told_bind]
theorem sel_choose {a b : Int} {p : Int × Bool} (h : M.ints_choose a b = some p) : M.ints_Dyad str_33 a b = some (tl p) := by
  have e : M.ints_Dyad str_33 a b = (M.ints_choose a b).bind fun x => match x with | (c, ok) => (M.ints_told c ok).bind fun y => match y with | (u, v) => some (u, v) := by
    unfold M.ints_Dyad M.ints_dyads
    simp only [Option.bind_some]
    iterate 6 rw [if_neg (by decide)]
    rw [if_pos (by decide)]
  rw [e, h, told_bind]
theorem sel_dyads_1 {a b : Int} {p : Int × Bool} (h : M.ints_dyads_1 a b = some p) : M.ints_Dyad str_226_140_136 a b = some (tl p) := by
  have e : M.ints_Dyad str_226_140_136 a b = (M.ints_dyads_1 a b).bind fun x => match x with | (c, ok) => (M.ints_told c ok).bind fun y => match y with | (u, v) => some (u, v) := by
    unfold M.ints_Dyad M.ints_dyads
    simp only [Option.bind_some]
    iterate 7 rw [if_neg (by decide)]
    rw [if_pos (by decide)]
  rw [e, h, told_bind]
theorem sel_dyads_2 {a b : Int} {p : Int × Bool} (h : M.ints_dyads_2 a b = some p) : M.ints_Dyad str_226_140_138 a b = some (tl p) := by
  have e : M.ints_Dyad str_226_140_138 a b = (M.ints_dyads_2 a b).bind fun x => match x with | (c, ok) => (M.ints_told c ok).bind fun y => match y with | (u, v) => some (u, v) := by
    unfold M.ints_Dyad M.ints_dyads
    simp only [Option.bind_some]
    iterate 8 rw [if_neg (by decide)]
    rw [if_pos (by decide)]
  rw [e, h, told_bind]
theorem sel_dyads_3 {a b : Int} {p : Int × Bool} (h : M.ints_dyads_3 a b = some p) : M.ints_Dyad str_60 a b = some (tl p) := by
  have e : M.ints_Dyad str_60 a b = (M.ints_dyads_3 a b).bind fun x => match x with | (c, ok) => (M.ints_told c ok).bind fun y => match y with | (u, v) => some (u, v) := by
    unfold M.ints_Dyad M.ints_dyads
    simp only [Option.bind_some]
    iterate 9 rw [if_neg (by decide)]
    rw [if_pos (by decide)]
  rw [e, h, told_bind]
theorem sel_dyads_4 {a b : Int} {p : Int × Bool} (h : M.ints_dyads_4 a b = some p) : M.ints_Dyad str_226_137_164 a b = some (tl p) := by
  have e : M.ints_Dyad str_226_137_164 a b = (M.ints_dyads_4 a b).bind fun x => match x with | (c, ok) => (M.ints_told c ok).bind fun y => match y with | (u, v) => some (u, v) := by
    unfold M.ints_Dyad M.ints_dyads
    simp only [Option.bind_some]
    iterate 10 rw [if_neg (by decide)]
    rw [if_pos (by decide)]
  rw [e, h, told_bind]
theorem sel_dyads_5 {a b : Int} {p : Int × Bool} (h : M.ints_dyads_5 a b = some p) : M.ints_Dyad str_61 a b = some (tl p) := by
  have e : M.ints_Dyad str_61 a b = (M.ints_dyads_5 a b).bind fun x => match x with | (c, ok) => (M.ints_told c ok).bind fun y => match y with | (u, v) => some (u, v) := by
    unfold M.ints_Dyad M.ints_dyads
    simp only [Option.bind_some]
    iterate 11 rw [if_neg (by decide)]
    rw [if_pos (by decide)]
  rw [e, h, told_bind]
theorem sel_dyads_6 {a b : Int} {p : Int × Bool} (h : M.ints_dyads_6 a b = some p) : M.ints_Dyad str_226_137_165 a b = some (tl p) := by
  have e : M.ints_Dyad str_226_137_165 a b = (M.ints_dyads_6 a b).bind fun x => match x with | (c, ok) => (M.ints_told c ok).bind fun y => match y with | (u, v) => some (u, v) := by
    unfold M.ints_Dyad M.ints_dyads
    simp only [Option.bind_some]
    iterate 12 rw [if_neg (by decide)]
    rw [if_pos (by decide)]
  rw [e, h, told_bind]
theorem sel_dyads_7 {a b : Int} {p : Int × Bool} (h : M.ints_dyads_7 a b = some p) : M.ints_Dyad str_62 a b = some (tl p) := by
  have e : M.ints_Dyad str_62 a b = (M.ints_dyads_7 a b).bind fun x => match x with | (c, ok) => (M.ints_told c ok).bind fun y => match y with | (u, v) => some (u, v) := by
    unfold M.ints_Dyad M.ints_dyads
    simp only [Option.bind_some]
    iterate 13 rw [if_neg (by decide)]
    rw [if_pos (by decide)]
  rw [e, h, told_bind]
theorem sel_dyads_8 {a b : Int} {p : Int × Bool} (h : M.ints_dyads_8 a b = some p) : M.ints_Dyad str_226_137_160 a b = some (tl p) := by
  have e : M.ints_Dyad str_226_137_160 a b = (M.ints_dyads_8 a b).bind fun x => match x with | (c, ok) => (M.ints_told c ok).bind fun y => match y with | (u, v) => some (u, v) := by
    unfold M.ints_Dyad M.ints_dyads
    simp only [Option.bind_some]
    iterate 14 rw [if_neg (by decide)]
    rw [if_pos (by decide)]
  rw [e, h, told_bind]
theorem sel_dyads_9 {a b : Int} {p : Int × Bool} (h : M.ints_dyads_9 a b = some p) : M.ints_Dyad str_226_136_167 a b = some (tl p) := by
  have e : M.ints_Dyad str_226_136_167 a b = (M.ints_dyads_9 a b).bind fun x => match x with | (c, ok) => (M.ints_told c ok).bind fun y => match y with | (u, v) => some (u, v) := by
    unfold M.ints_Dyad M.ints_dyads
    simp only [Option.bind_some]
    iterate 15 rw [if_neg (by decide)]
    rw [if_pos (by decide)]
  rw [e, h, told_bind]
theorem sel_dyads_10 {a b : Int} {p : Int × Bool} (h : M.ints_dyads_10 a b = some p) : M.ints_Dyad str_226_136_168 a b = some (tl p) := by
  have e : M.ints_Dyad str_226_136_168 a b = (M.ints_dyads_10 a b).bind fun x => match x with | (c, ok) => (M.ints_told c ok).bind fun y => match y with | (u, v) => some (u, v) := by
    unfold M.ints_Dyad M.ints_dyads
    simp only [Option.bind_some]
    iterate 16 rw [if_neg (by decide)]
    rw [if_pos (by decide)]
  rw [e, h, told_bind]
theorem sel_dyads_11 {a b : Int} {p : Int × Bool} (h : M.ints_dyads_11 a b = some p) : M.ints_Dyad str_226_141_178 a b = some (tl p) := by
  have e : M.ints_Dyad str_226_141_178 a b = (M.ints_dyads_11 a b).bind fun x => match x with | (c, ok) => (M.ints_told c ok).bind fun y => match y with | (u, v) => some (u, v) := by
    unfold M.ints_Dyad M.ints_dyads
    simp only [Option.bind_some]
    iterate 17 rw [if_neg (by decide)]
    rw [if_pos (by decide)]
  rw [e, h, told_bind]
theorem sel_dyads_12 {a b : Int} {p : Int × Bool} (h : M.ints_dyads_12 a b = some p) : M.ints_Dyad str_226_141_177 a b = some (tl p) := by
  have e : M.ints_Dyad str_226_141_177 a b = (M.ints_dyads_12 a b).bind fun x => match x with | (c, ok) => (M.ints_told c ok).bind fun y => match y with | (u, v) => some (u, v) := by
    unfold M.ints_Dyad M.ints_dyads
    simp only [Option.bind_some]
    iterate 18 rw [if_neg (by decide)]
    rw [if_pos (by decide)]
  rw [e, h, told_bind]
theorem dy_add {a b : Int} (ha : rng a) (hb : rng b) : M.ints_Dyad str_43 a b = some (if rng (a + b) then (a + b, 0) else (0, 23)) := by
  unfold rng at ha hb
  rw [sel_add (p := (IntKind.i64.wrap (a + b), (((decide ((IntKind.i64.wrap (a + b)) > a)) == (decide (b > 0))) || (b == 0)))) rfl]
  congr 1
  unfold tl
  simp only []
  by_cases h : rng (a + b)
  · have h' := h
    unfold rng at h'
    rw [if_pos h, w64_id (by omega) (by omega), if_pos]
    simp only [Bool.or_eq_true, beq_iff_eq]
    by_cases hb0 : b > 0
    · left; rw [decide_eq_true hb0, decide_eq_true (by omega)]
    · by_cases hz : b = 0
      · right; exact hz
      · left; rw [decide_eq_false hb0, decide_eq_false (by omega)]
  · have h' := h
    unfold rng at h'
    rw [if_neg h, if_neg]
    have := i64_eq (a + b)
    simp only [Bool.or_eq_true, beq_iff_eq, not_or]
    refine ⟨?_, by omega⟩
    rw [this]
    by_cases hb0 : b > 0
    · rw [decide_eq_true hb0, decide_eq_false (by split <;> omega)]; simp
    · rw [decide_eq_false hb0, decide_eq_true (by split <;> omega)]; simp
theorem dy_sub {a b : Int} (ha : rng a) (hb : rng b) : M.ints_Dyad str_45 a b = some (if rng (a - b) then (a - b, 0) else (0, 23)) := by
  unfold rng at ha hb
  rw [sel_sub (p := (IntKind.i64.wrap (a - b), (((decide ((IntKind.i64.wrap (a - b)) < a)) == (decide (b > 0))) || (b == 0)))) rfl]
  congr 1
  unfold tl
  simp only []
  by_cases h : rng (a - b)
  · have h' := h
    unfold rng at h'
    rw [if_pos h, w64_id (by omega) (by omega), if_pos]
    simp only [Bool.or_eq_true, beq_iff_eq]
    by_cases hb0 : b > 0
    · left; rw [decide_eq_true hb0, decide_eq_true (by omega)]
    · by_cases hz : b = 0
      · right; exact hz
      · left; rw [decide_eq_false hb0, decide_eq_false (by omega)]
  · have h' := h
    unfold rng at h'
    rw [if_neg h, if_neg]
    have := i64_eq (a - b)
    simp only [Bool.or_eq_true, beq_iff_eq, not_or]
    refine ⟨?_, by omega⟩
    rw [this]
    by_cases hb0 : b > 0
    · rw [decide_eq_true hb0, decide_eq_false (by split <;> omega)]; simp
    · rw [decide_eq_false hb0, decide_eq_true (by split <;> omega)]; simp
def absI (a : Int) : Int := if a < 0 then -a else a
theorem size_eq {a : Int} (ha : rng a) : M.ints_size a = some (absI a) := by
  unfold rng at ha
  unfold M.ints_size absI
  by_cases h : a < 0
  · rw [if_pos (by simpa using h), if_pos h, u64_mod, u64_mod]; congr 1; omega
  · rw [if_neg (by simpa using h), if_neg h, u64_id (by omega) (by omega)]
theorem absI_bounds {a : Int} (ha : rng a) : 0 ≤ absI a ∧ absI a ≤ 9223372036854775808 := by
  unfold rng at ha; unfold absI; split <;> omega
theorem absI_mul (a b : Int) : a * b = if (decide (a < 0)) = decide (b < 0) then absI a * absI b else -(absI a * absI b) := by
  unfold absI
  by_cases ha : a < 0 <;> by_cases hb : b < 0 <;> simp [ha, hb, Int.neg_mul, Int.mul_neg]
theorem mul_ok {a b : Int} (ha : rng a) (hb : rng b) : ∃ c, M.ints_mul a b = some (c, decide (rng (a * b))) ∧ (rng (a * b) → c = a * b) := by
  have ba := absI_bounds ha
  have bb := absI_bounds hb
  have hp : 0 ≤ absI a * absI b := Int.mul_nonneg ba.1 bb.1
  unfold M.ints_mul
  rw [size_eq ha, size_eq hb]
  simp only [Option.bind_some]
  rw [mul64_eq ba.1 (by omega) bb.1 (by omega), absI_mul a b]
  generalize absI a * absI b = P at hp
  simp only [Option.bind_some]
  cases hs : (decide (a < 0) == decide (b < 0)) with
  | false =>
    have hne : ¬ (decide (a < 0) = decide (b < 0)) := by simpa using hs
    rw [if_neg hne]
    simp only [Bool.not_false, if_true]
    refine ⟨_, congrArg some (pair_eq rfl ?_), fun hr => ?_⟩
    · rw [Bool.eq_iff_iff]
      simp only [Bool.and_eq_true, beq_iff_eq, decide_eq_true_eq]
      unfold rng
      omega
    · unfold rng at hr
      rw [i64_eq (P % _), i64_eq]
      split <;> split <;> omega
  | true =>
    have he : decide (a < 0) = decide (b < 0) := by simpa using hs
    rw [if_pos he]
    simp only [Bool.not_true, Bool.false_eq_true, if_false]
    refine ⟨_, congrArg some (pair_eq rfl ?_), fun hr => ?_⟩
    · rw [Bool.eq_iff_iff]
      simp only [Bool.and_eq_true, beq_iff_eq, decide_eq_true_eq]
      unfold rng
      omega
    · unfold rng at hr
      rw [i64_eq]
      split <;> omega
theorem dy_mul {a b : Int} (ha : rng a) (hb : rng b) : M.ints_Dyad str_195_151 a b = some (if rng (a * b) then (a * b, 0) else (0, 23)) := by
  obtain ⟨c, h1, h2⟩ := mul_ok ha hb
  rw [sel_mul h1]
  congr 1
  unfold tl
  by_cases h : rng (a * b)
  · rw [if_pos h, h2 h]; simp [h]
  · rw [if_neg h]; simp [h]
def fDiv (a b : Int) : Int × Bool := if a = 0 ∧ b = 0 then (1, true) else if b = 0 ∨ a = -9223372036854775808 ∧ b = -1 then (0, false) else (a.tdiv b, a.tmod b == 0)
theorem tdiv_rng {a b : Int} (ha : rng a) (hb : b ≠ 0) (h : ¬ (a = -9223372036854775808 ∧ b = -1)) : rng (a.tdiv b) := by
  unfold rng at *
  have h1 := Int.natAbs_tdiv_le_natAbs a b
  by_cases hb1 : b = -1
  · subst hb1
    rw [Int.tdiv_neg, Int.tdiv_one]; omega
  · by_cases hm : a = -9223372036854775808
    · by_cases h1' : b = 1
      · subst h1'; rw [Int.tdiv_one]; omega
      · have h2 : (a.tdiv b).natAbs = a.natAbs / b.natAbs := Int.natAbs_tdiv a b
        have h3 : a.natAbs / b.natAbs ≤ a.natAbs / 2 := Nat.div_le_div_left (by omega) (by omega)
        omega
    · omega
theorem div_eq {a b : Int} (ha : rng a) (hb : rng b) : M.ints_div a b = some (fDiv a b) := by
  unfold M.ints_div fDiv
  by_cases h1 : a = 0 ∧ b = 0
  · rw [if_pos h1, if_pos (by simp [h1.1, h1.2])]
  · rw [if_neg h1, if_neg (by simp; omega)]
    have e : (if (b == 0) = true then some (b == 0) else some (a == -9223372036854775808 && b == -1)) = some (decide (b = 0 ∨ a = -9223372036854775808 ∧ b = -1)) := by
      by_cases hb0 : b = 0
      · rw [if_pos (by simpa using hb0), decide_eq_true (.inl hb0)]; simp [hb0]
      · rw [if_neg (by simpa using hb0)]
        congr 1
        rw [Bool.eq_iff_iff]; simp [hb0]
    rw [e]
    simp only [Option.bind_some]
    by_cases h2 : b = 0 ∨ a = -9223372036854775808 ∧ b = -1
    · rw [if_pos h2, if_pos (by simpa using h2)]
    · rw [if_neg h2, if_neg (by simpa using h2)]
      have hb0 : b ≠ 0 := fun h => h2 (.inl h)
      have hr := tdiv_rng ha hb0 (fun h => h2 (.inr h))
      unfold rng at hr
      unfold quoI remI
      rw [if_neg hb0, if_neg hb0, w64_id hr.1 hr.2]; rfl
theorem dy_div {a b : Int} (ha : rng a) (hb : rng b) : M.ints_Dyad str_195_183 a b = some (tl (fDiv a b)) := sel_div (div_eq ha hb)
theorem dy_max (a b : Int) : M.ints_Dyad str_226_140_136 a b = some (if a < b then b else a, 0) := sel_dyads_1 rfl
theorem dy_min (a b : Int) : M.ints_Dyad str_226_140_138 a b = some (if b < a then b else a, 0) := sel_dyads_2 rfl
theorem truth_eq (b : Bool) : ((M.ints_truth b).bind fun x => match x with | (u, v) => some (u, v)) = some (if b then 1 else 0, true) := by cases b <;> rfl
theorem dy_lt (a b : Int) : M.ints_Dyad str_60 a b = some (if a < b then 1 else 0, 0) := by
  rw [sel_dyads_3 (p := (if decide (a < b) then 1 else 0, true)) (truth_eq _)]; simp [tl]
theorem dy_le (a b : Int) : M.ints_Dyad str_226_137_164 a b = some (if a ≤ b then 1 else 0, 0) := by
  rw [sel_dyads_4 (p := (if decide (a ≤ b) then 1 else 0, true)) (truth_eq _)]; simp [tl]
theorem dy_eq (a b : Int) : M.ints_Dyad str_61 a b = some (if a = b then 1 else 0, 0) := by
  rw [sel_dyads_5 (p := (if a == b then 1 else 0, true)) (truth_eq _)]; simp [tl]
theorem dy_ge (a b : Int) : M.ints_Dyad str_226_137_165 a b = some (if b ≤ a then 1 else 0, 0) := by
  rw [sel_dyads_6 (p := (if decide (a ≥ b) then 1 else 0, true)) (truth_eq _)]; simp [tl]
theorem dy_gt (a b : Int) : M.ints_Dyad str_62 a b = some (if b < a then 1 else 0, 0) := by
  rw [sel_dyads_7 (p := (if decide (a > b) then 1 else 0, true)) (truth_eq _)]; simp [tl]
theorem dy_ne (a b : Int) : M.ints_Dyad str_226_137_160 a b = some (if a = b then 0 else 1, 0) := by
  rw [sel_dyads_8 (p := (if a != b then 1 else 0, true)) (truth_eq _)]
  by_cases h : a = b <;> simp [tl, h]
def isbit (a : Int) : Bool := a == 0 || a == 1
theorem bit2 (a b : Int) : ((M.ints_bit a).bind fun r1 => if r1 = true then (M.ints_bit b).bind fun r2 => some r2 else some false) = some (isbit a && isbit b) := by
  unfold M.ints_bit
  show (if isbit a = true then _ else _) = _
  cases isbit a <;> rfl
theorem bit_cases {a b : Int} (h : (isbit a && isbit b) = true) : (a = 0 ∨ a = 1) ∧ (b = 0 ∨ b = 1) := by
  unfold isbit at h; simpa using h
theorem logic_tl {a b v w : Int} (h : (isbit a && isbit b) = true → v = w) : tl (v, isbit a && isbit b) = if isbit a && isbit b then (w, 0) else (0, 23) := by
  unfold tl
  cases hb : (isbit a && isbit b) with
  | false => rfl
  | true => simp [h hb]
theorem dyads_9_eq (a b : Int) : M.ints_dyads_9 a b = some (IntKind.i64.wrap (BitVec.ofInt IntKind.i64.bits a &&& BitVec.ofInt IntKind.i64.bits b).toNat, isbit a && isbit b) := by
  have := bit2 a b
  unfold M.ints_dyads_9
  revert this
  cases M.ints_bit a with
  | none => intro h; cases h
  | some r => intro h; simp only [Option.bind_some] at h ⊢; rw [h]; rfl
theorem dyads_10_eq (a b : Int) : M.ints_dyads_10 a b = some (IntKind.i64.wrap (BitVec.ofInt IntKind.i64.bits a ||| BitVec.ofInt IntKind.i64.bits b).toNat, isbit a && isbit b) := by
  have := bit2 a b
  unfold M.ints_dyads_10
  revert this
  cases M.ints_bit a with
  | none => intro h; cases h
  | some r => intro h; simp only [Option.bind_some] at h ⊢; rw [h]; rfl
theorem dyads_11_eq (a b : Int) : M.ints_dyads_11 a b = some (IntKind.i64.wrap (1 - (IntKind.i64.wrap (BitVec.ofInt IntKind.i64.bits a &&& BitVec.ofInt IntKind.i64.bits b).toNat)), isbit a && isbit b) := by
  have := bit2 a b
  unfold M.ints_dyads_11
  revert this
  cases M.ints_bit a with
  | none => intro h; cases h
  | some r => intro h; simp only [Option.bind_some] at h ⊢; rw [h]; rfl
theorem dyads_12_eq (a b : Int) : M.ints_dyads_12 a b = some (IntKind.i64.wrap (1 - (IntKind.i64.wrap (BitVec.ofInt IntKind.i64.bits a ||| BitVec.ofInt IntKind.i64.bits b).toNat)), isbit a && isbit b) := by
  have := bit2 a b
  unfold M.ints_dyads_12
  revert this
  cases M.ints_bit a with
  | none => intro h; cases h
  | some r => intro h; simp only [Option.bind_some] at h ⊢; rw [h]; rfl
theorem dy_and (a b : Int) : M.ints_Dyad str_226_136_167 a b = some (if isbit a && isbit b then (a * b, 0) else (0, 23)) := by
  rw [sel_dyads_9 (dyads_9_eq a b), logic_tl (w := a * b) (fun h => by
    rcases bit_cases h with ⟨rfl | rfl, rfl | rfl⟩ <;> decide)]
theorem dy_or (a b : Int) : M.ints_Dyad str_226_136_168 a b = some (if isbit a && isbit b then (a + b - a * b, 0) else (0, 23)) := by
  rw [sel_dyads_10 (dyads_10_eq a b), logic_tl (w := a + b - a * b) (fun h => by
    rcases bit_cases h with ⟨rfl | rfl, rfl | rfl⟩ <;> decide)]
theorem dy_nand (a b : Int) : M.ints_Dyad str_226_141_178 a b = some (if isbit a && isbit b then (1 - a * b, 0) else (0, 23)) := by
  rw [sel_dyads_11 (dyads_11_eq a b), logic_tl (w := 1 - a * b) (fun h => by
    rcases bit_cases h with ⟨rfl | rfl, rfl | rfl⟩ <;> decide)]
theorem dy_nor (a b : Int) : M.ints_Dyad str_226_141_177 a b = some (if isbit a && isbit b then (1 - (a + b - a * b), 0) else (0, 23)) := by
  rw [sel_dyads_12 (dyads_12_eq a b), logic_tl (w := 1 - (a + b - a * b)) (fun h => by
    rcases bit_cases h with ⟨rfl | rfl, rfl | rfl⟩ <;> decide)]
def fRes (a b : Int) : Int := if a = 0 then b else if a = -1 then 0 else if b.tmod a ≠ 0 ∧ ¬ (decide (b.tmod a < 0) = decide (a < 0)) then b.tmod a + a else b.tmod a
theorem residue_eq {a b : Int} (ha : rng a) (hb : rng b) : M.ints_residue a b = some (fRes a b, true) := by
  unfold M.ints_residue fRes
  by_cases h0 : a = 0
  · rw [if_pos h0, if_pos (by simpa using h0)]
  · rw [if_neg h0, if_neg (by simpa using h0)]
    by_cases h1 : a = -1
    · rw [if_pos h1, if_pos (by simpa using h1)]
    · rw [if_neg h1, if_neg (by simpa using h1)]
      unfold remI
      rw [if_neg h0]
      simp only [Option.bind_some]
      by_cases h2 : b.tmod a ≠ 0 ∧ ¬ (decide (b.tmod a < 0) = decide (a < 0))
      · rw [if_pos h2, if_pos (by simp only [Bool.and_eq_true, bne_iff_ne, Bool.not_eq_true']; refine ⟨h2.1, ?_⟩; simpa using h2.2)]
        have hlt : (b.tmod a).natAbs < a.natAbs := by rw [Int.natAbs_tmod]; exact Nat.mod_lt _ (by omega)
        unfold rng at ha
        have hs : (b.tmod a < 0 ∧ ¬ a < 0) ∨ (¬ b.tmod a < 0 ∧ a < 0) := by
          have := h2.2
          by_cases q1 : b.tmod a < 0 <;> by_cases q2 : a < 0 <;> simp [q1, q2] at this ⊢
        rw [w64_id (by omega) (by omega)]; rfl
      · rw [if_neg h2, if_neg (by simp only [Bool.and_eq_true, bne_iff_ne, Bool.not_eq_true']; intro h; exact h2 ⟨h.1, by simpa using h.2⟩)]; rfl
theorem dy_res {a b : Int} (ha : rng a) (hb : rng b) : M.ints_Dyad str_124 a b = some (fRes a b, 0) := by
  rw [sel_residue (residue_eq ha hb)]; rfl
/-- the ways to choose. -/
def ch : Nat → Nat → Nat
  | _, 0 => 1
  | 0, _ + 1 => 0
  | n + 1, k + 1 => ch n k + ch n (k + 1)
theorem ch_zero (n : Nat) : ch n 0 = 1 := by cases n <;> rfl
theorem ch_out : ∀ {n k : Nat}, n < k → ch n k = 0
  | n, 0, h => by omega
  | 0, k + 1, _ => rfl
  | n + 1, k + 1, h => by rw [ch, ch_out (show n < k by omega), ch_out (show n < k + 1 by omega)]
theorem ch_self : ∀ n : Nat, ch n n = 1
  | 0 => rfl
  | n + 1 => by rw [ch, ch_self n, ch_out (show n < n + 1 by omega)]
theorem ch_step : ∀ (n k : Nat), k ≤ n → ch n (k + 1) * (k + 1) = ch n k * (n - k)
  | 0, k, h => by
    have : k = 0 := by omega
    subst this; rfl
  | n + 1, 0, _ => by
    show (ch n 0 + ch n 1) * 1 = ch (n + 1) 0 * (n + 1)
    rw [ch_zero, ch_zero]
    cases n with
    | zero => rfl
    | succ n =>
      have := ch_step (n + 1) 0 (by omega)
      rw [ch_zero] at this
      simp only [Nat.zero_add, Nat.mul_one, Nat.one_mul, Nat.sub_zero] at this ⊢
      omega
  | n + 1, k + 1, h => by
    by_cases hk : k + 1 ≤ n
    · have i1 := ch_step n (k + 1) hk
      have i2 := ch_step n k (by omega)
      rw [ch, ch, Nat.add_mul, i1, Nat.add_mul]
      have e1 : n + 1 - (k + 1) = n - k := by omega
      rw [e1, ← i2, ← Nat.mul_add, ← Nat.mul_add]
      congr 1
      omega
    · have hk2 : k = n := by omega
      subst hk2
      rw [ch, ch_out (show k < k + 1 by omega), ch_out (show k < k + 1 + 1 by omega), Nat.sub_self]; simp
theorem ch_symm : ∀ {n k : Nat}, k ≤ n → ch n (n - k) = ch n k
  | 0, k, h => by
    have : k = 0 := by omega
    subst this; rfl
  | n + 1, 0, _ => by rw [Nat.sub_zero, ch_self, ch_zero]
  | n + 1, k + 1, h => by
    by_cases hk : k + 1 ≤ n
    · obtain ⟨j, hj⟩ : ∃ j, n - k = j + 1 := ⟨n - k - 1, by omega⟩
      rw [show n + 1 - (k + 1) = j + 1 by omega, ch, ch, show j = n - (k + 1) by omega, ch_symm hk, show n - (k + 1) + 1 = n - k by omega, ch_symm (show k ≤ n by omega), Nat.add_comm]
    · have : k = n := by omega
      subst this
      rw [Nat.sub_self, ch_zero, ch_self]
theorem ch_mono {n k : Nat} (h : 2 * (k + 1) ≤ n + 1) : ch n k ≤ ch n (k + 1) := by
  have := ch_step n k (by omega)
  have h2 : k + 1 ≤ n - k := by omega
  have h3 := Nat.mul_le_mul_left (ch n k) h2
  rw [← this] at h3
  exact Nat.le_of_mul_le_mul_right h3 (by omega)
theorem ch_mono_to {n m : Nat} : ∀ (j k : Nat), k + j = m → 2 * m ≤ n → ch n k ≤ ch n m
  | 0, k, h, _ => by rw [show k = m by omega]; exact Nat.le_refl _
  | j + 1, k, h, hm => Nat.le_trans (ch_mono (by omega)) (ch_mono_to j (k + 1) (by omega) hm)
theorem ch_pow : ∀ {n k : Nat}, 2 * k ≤ n → 2 ^ k ≤ ch n k
  | n, 0, _ => by rw [ch_zero]; exact Nat.le_refl _
  | 0, k + 1, h => by omega
  | n + 1, k + 1, h => by
    have h1 := ch_pow (n := n) (k := k) (by omega)
    have h2 := ch_mono (n := n) (k := k) (by omega)
    rw [ch, Nat.pow_succ]; omega
theorem div_long {U u1 Y : Nat} (hY : 0 < Y) : (U * 4294967296 + u1) / Y = U / Y * 4294967296 + (U % Y * 4294967296 + u1) / Y := by
  have h := Nat.div_add_mod U Y
  have e : U * 4294967296 + u1 = Y * (U / Y * 4294967296) + (U % Y * 4294967296 + u1) := by
    have : U * 4294967296 = (Y * (U / Y) + U % Y) * 4294967296 := by rw [h]
    rw [this, Nat.add_mul, Nat.mul_assoc]; omega
  rw [e, Nat.mul_add_div hY]
theorem or_add {hi lo : Int} (s : Nat) (hs : s ≤ 64) (h1 : 0 ≤ hi) (h2 : hi * 2 ^ s < 18446744073709551616) (h3 : 0 ≤ lo) (h4 : lo < 2 ^ s) :
    IntKind.u64.wrap (BitVec.ofInt IntKind.u64.bits (hi * 2 ^ s) ||| BitVec.ofInt IntKind.u64.bits lo).toNat = hi * 2 ^ s + lo := by
  obtain ⟨H, rfl⟩ := Int.eq_ofNat_of_zero_le h1
  obtain ⟨L, rfl⟩ := Int.eq_ofNat_of_zero_le h3
  have e2 : ((2 : Int) ^ s) = ((2 ^ s : Nat) : Int) := by simp
  rw [e2, ← Int.natCast_mul] at h2 ⊢
  rw [e2] at h4
  have hp : 2 ^ s ≤ 2 ^ 64 := Nat.pow_le_pow_right (by omega) hs
  have hL : L < 2 ^ s := by omega
  have hN : (2 : Nat) ^ 64 = 18446744073709551616 := by decide
  rw [BitVec.toNat_or, bv_toNat (by omega) (by omega), bv_toNat (by omega) (by omega), Int.toNat_natCast, Int.toNat_natCast]
  have : H * 2 ^ s ||| L = H * 2 ^ s + L := by
    rw [Nat.mul_comm, ← Nat.two_pow_add_eq_or_of_lt hL]
  rw [this]
  have hb : H * 2 ^ s + L < 18446744073709551616 := by
    have h5 : (H + 1) * 2 ^ s ≤ 2 ^ 64 := by
      have hd : 2 ^ 64 = 2 ^ (64 - s) * 2 ^ s := by rw [← Nat.pow_add]; congr 1; omega
      rw [hd]
      refine Nat.mul_le_mul_right _ ?_
      have h6 : H * 2 ^ s < 2 ^ (64 - s) * 2 ^ s := by rw [← hd, hN]; omega
      exact Nat.lt_of_mul_lt_mul_right h6
    rw [Nat.add_mul, Nat.one_mul] at h5
    omega
  rw [u64_id (by omega) (by omega)]; omega
theorem shl_some {x s : Int} (h : 0 ≤ s) (h2 : s ≤ 64) (hb : 0 ≤ x * 2 ^ s.toNat) (hb2 : x * 2 ^ s.toNat < 18446744073709551616) : shlI .u64 x s = some (x * 2 ^ s.toNat) := by
  unfold shlI
  rw [if_neg (by omega), Nat.min_eq_left (by show s.toNat ≤ 64; omega), u64_id hb hb2]
theorem shr_some {x s : Int} (h : 0 ≤ s) (h2 : s ≤ 64) (hx : 0 ≤ x) : shrI .u64 x s = some (x / 2 ^ s.toNat) := by
  unfold shrI
  rw [if_neg (by omega), Nat.min_eq_left (by show s.toNat ≤ 64; omega), Int.fdiv_eq_ediv_of_nonneg _ (by
    exact Int.le_of_lt (Int.pow_pos (by omega)))]
theorem len_tab : ∀ k : Fin 256, sidx str_0_1_2_2_3_3_3_3_4_4_4_4_4_4_4_4_5_5_5_5_5_5_5_5_5_5_5_5_5_5_5_5_6_6_6_6_6_6_6_6_6_6_6_6_6_6_6_6_6_6_6_6_6_6_6_6_6_6_6_6_6_6_6_6_7_7_7_7_7_7_7_7_7_7_7_7_7_7_7_7_7_7_7_7_7_7_7_7_7_7_7_7_7_7_7_7_7_7_7_7_7_7_7_7_7_7_7_7_7_7_7_7_7_7_7_7_7_7_7_7_7_7_7_7_7_7_7_7_8_8_8_8_8_8_8_8_8_8_8_8_8_8_8_8_8_8_8_8_8_8_8_8_8_8_8_8_8_8_8_8_8_8_8_8_8_8_8_8_8_8_8_8_8_8_8_8_8_8_8_8_8_8_8_8_8_8_8_8_8_8_8_8_8_8_8_8_8_8_8_8_8_8_8_8_8_8_8_8_8_8_8_8_8_8_8_8_8_8_8_8_8_8_8_8_8_8_8_8_8_8_8_8_8_8_8_8_8_8_8_8_8_8_8_8_8_8_8_8_8_8_8_8_8_8_8_8 (k.val : Int) = some (if k.val = 0 then 0 else (k.val.log2 : Int) + 1) := by decide
theorem len_small {y : Nat} (h1 : 1 ≤ y) (h2 : y < 256) : M.math_bits_LeadingZeros64 (y : Int) = some (63 - (y.log2 : Int)) := by
  have hl : y.log2 < 8 := (Nat.log2_lt (by omega)).mpr h2
  unfold M.math_bits_LeadingZeros64 M.math_bits_Len64
  rw [if_neg (by simp; omega)]
  simp only [Option.bind_some]
  rw [if_neg (by simp; omega)]
  simp only [Option.bind_some]
  rw [if_neg (by simp; omega)]
  simp only [Option.bind_some]
  rw [u8_id (by omega) (by omega)]
  have := len_tab ⟨y, h2⟩
  simp only [] at this
  rw [if_neg (by omega)] at this
  rw [this]
  simp only [Option.bind_some]
  rw [w64_id (x := (y.log2 : Int) + 1) (by omega) (by omega), w64_id (x := 0 + ((y.log2 : Int) + 1)) (by omega) (by omega), w64_id (by omega) (by omega)]
  congr 1; omega
theorem norm {y hi lo : Nat} (h1 : 1 ≤ y) (h2 : y < 256) (hh : hi < y) (hl : lo < 18446744073709551616) : ∃ s T K D : Nat, s ≤ 63 ∧ 1 ≤ s ∧ K = 2 ^ s ∧ D = 2 ^ (64 - s) ∧ 63 - (y.log2 : Int) = s ∧ 0 < T ∧ y * K = y * T * 4294967296 ∧ y * T < 4294967296 ∧
    hi * K < 18446744073709551616 ∧ lo / D < K ∧ hi * K + lo / D < y * T * 4294967296 ∧ (hi * 18446744073709551616 + lo) * T = (hi * K + lo / D) * 4294967296 + lo * K % 18446744073709551616 / 4294967296 ∧ lo * K % 18446744073709551616 % 4294967296 = 0 := by
  have hl8 : y.log2 < 8 := (Nat.log2_lt (by omega)).mpr h2
  have a1 := Nat.log2_self_le (show y ≠ 0 by omega)
  have a2 := @Nat.lt_log2_self y
  have : y.log2 = 0 ∨ y.log2 = 1 ∨ y.log2 = 2 ∨ y.log2 = 3 ∨ y.log2 = 4 ∨ y.log2 = 5 ∨ y.log2 = 6 ∨ y.log2 = 7 := by omega
  rcases this with h | h | h | h | h | h | h | h <;> rw [h] at a1 a2 ⊢ <;> simp only [Nat.reducePow, Nat.reduceAdd] at a1 a2
  · exact ⟨63, 2 ^ 31, 2 ^ 63, 2 ^ 1, by omega, by omega, rfl, rfl, by omega, by omega, by omega, by omega, by omega, by omega, by omega, by omega, by omega⟩
  · exact ⟨62, 2 ^ 30, 2 ^ 62, 2 ^ 2, by omega, by omega, rfl, rfl, by omega, by omega, by omega, by omega, by omega, by omega, by omega, by omega, by omega⟩
  · exact ⟨61, 2 ^ 29, 2 ^ 61, 2 ^ 3, by omega, by omega, rfl, rfl, by omega, by omega, by omega, by omega, by omega, by omega, by omega, by omega, by omega⟩
  · exact ⟨60, 2 ^ 28, 2 ^ 60, 2 ^ 4, by omega, by omega, rfl, rfl, by omega, by omega, by omega, by omega, by omega, by omega, by omega, by omega, by omega⟩
  · exact ⟨59, 2 ^ 27, 2 ^ 59, 2 ^ 5, by omega, by omega, rfl, rfl, by omega, by omega, by omega, by omega, by omega, by omega, by omega, by omega, by omega⟩
  · exact ⟨58, 2 ^ 26, 2 ^ 58, 2 ^ 6, by omega, by omega, rfl, rfl, by omega, by omega, by omega, by omega, by omega, by omega, by omega, by omega, by omega⟩
  · exact ⟨57, 2 ^ 25, 2 ^ 57, 2 ^ 7, by omega, by omega, rfl, rfl, by omega, by omega, by omega, by omega, by omega, by omega, by omega, by omega, by omega⟩
  · exact ⟨56, 2 ^ 24, 2 ^ 56, 2 ^ 8, by omega, by omega, rfl, rfl, by omega, by omega, by omega, by omega, by omega, by omega, by omega, by omega, by omega⟩
theorem small_q {R Y W : Nat} (hR : R < Y) (hY : 0 < Y) (hW : W < 18446744073709551616) : (R * 4294967296 + W / 4294967296) / Y < 4294967296 := by
  rw [Nat.div_lt_iff_lt_mul hY]; omega
theorem small_fin {a b : Nat} (ha : a < 4294967296) (hb : b < 4294967296) : IntKind.u64.wrap (IntKind.u64.wrap ((a : Int) * 4294967296) + (b : Int)) = ((a * 4294967296 + b : Nat) : Int) := by
  rw [u64_id (x := (a : Int) * 4294967296) (by omega) (by omega), u64_id (by omega) (by omega)]; omega
theorem small_lt {R Y W : Nat} (hR : R < Y) (hY : Y < 4294967296) (hW : W < 18446744073709551616) : R * 4294967296 + W / 4294967296 < 18446744073709551616 := by omega
theorem small_mod {R Y W : Nat} (hR : R < Y) (hY : Y < 4294967296) (hW : W < 18446744073709551616) : ((R * 4294967296 + W / 4294967296 : Nat) : Int) % 18446744073709551616 = ((R * 4294967296 + W / 4294967296 : Nat) : Int) := by
  have : R * 4294967296 + W / 4294967296 < 18446744073709551616 := by omega
  generalize R * 4294967296 + W / 4294967296 = x at this ⊢
  exact Int.emod_eq_of_lt (by omega) (by omega)
theorem small_sum {R Y W U A : Nat} (h : A + R = U) : (U : Int) * 4294967296 + ((W / 4294967296 : Nat) : Int) - (A : Int) * 4294967296 = ((R * 4294967296 + W / 4294967296 : Nat) : Int) := by
  generalize W / 4294967296 = x
  omega
theorem small_div {R Y W : Nat} (hR : R < Y) (hY : 0 < Y) : (R * 4294967296 + W) / Y < 4294967296 + W := by
  have := Nat.div_lt_iff_lt_mul hY (x := R * 4294967296 + W) (y := 4294967296 + W)
  rw [this, Nat.add_mul]
  have h1 : W ≤ W * Y := Nat.le_mul_of_pos_right _ hY
  have h2 := Nat.mul_le_mul_left 4294967296 (show R + 1 ≤ Y from hR)
  omega
theorem shl_wrap {x s : Int} (h : 0 ≤ s) (h2 : s ≤ 64) : shlI .u64 x s = some (x * 2 ^ s.toNat % 18446744073709551616) := by
  unfold shlI
  rw [if_neg (by omega), Nat.min_eq_left (by show s.toNat ≤ 64; omega), u64_mod]
theorem div_tail {Y U W : Nat} {sh : Int} (hsh : 0 ≤ IntKind.u64.wrap sh) (hsh2 : IntKind.u64.wrap sh ≤ 64) (hY : 0 < Y) (e2 : Y < 4294967296) (e5 : U < Y * 4294967296) (hW : W < 18446744073709551616) (e7 : W % 4294967296 = 0) : ∃ r, (
        (quoI .u64 (U : Int) (Int.fdiv ((Y * 4294967296 : Nat) : Int) (2 ^ (min (Int.toNat 32) IntKind.u64.bits)))).bind fun q7 =>
        ((wloop (M.math_bits_Div64_L1 ((Y * 4294967296 : Nat) : Int) (W : Int)) (q7, (IntKind.u64.wrap ((U : Int) - (IntKind.u64.wrap (q7 * (Int.fdiv ((Y * 4294967296 : Nat) : Int) (2 ^ (min (Int.toNat 32) IntKind.u64.bits))))))))).bind fun k => joinK k fun jx =>
        some jx).bind fun q8 =>
        (quoI .u64 (IntKind.u64.wrap ((IntKind.u64.wrap ((IntKind.u64.wrap ((U : Int) * 4294967296)) + (Int.fdiv (W : Int) (2 ^ (min (Int.toNat 32) IntKind.u64.bits))))) - (IntKind.u64.wrap (q8 * ((Y * 4294967296 : Nat) : Int))))) (Int.fdiv ((Y * 4294967296 : Nat) : Int) (2 ^ (min (Int.toNat 32) IntKind.u64.bits)))).bind fun q10 =>
        ((wloop (M.math_bits_Div64_L2 ((Y * 4294967296 : Nat) : Int) (W : Int)) ((IntKind.u64.wrap ((IntKind.u64.wrap ((IntKind.u64.wrap ((IntKind.u64.wrap ((U : Int) * 4294967296)) + (Int.fdiv (W : Int) (2 ^ (min (Int.toNat 32) IntKind.u64.bits))))) - (IntKind.u64.wrap (q8 * ((Y * 4294967296 : Nat) : Int))))) - (IntKind.u64.wrap (q10 * (Int.fdiv ((Y * 4294967296 : Nat) : Int) (2 ^ (min (Int.toNat 32) IntKind.u64.bits))))))), q10)).bind fun k => joinK k fun jx =>
        some jx).bind fun q11 =>
        (shrI .u64 (IntKind.u64.wrap ((IntKind.u64.wrap ((IntKind.u64.wrap ((IntKind.u64.wrap ((IntKind.u64.wrap ((IntKind.u64.wrap ((U : Int) * 4294967296)) + (Int.fdiv (W : Int) (2 ^ (min (Int.toNat 32) IntKind.u64.bits))))) - (IntKind.u64.wrap (q8 * ((Y * 4294967296 : Nat) : Int))))) * 4294967296)) + (IntKind.u64.wrap (BitVec.ofInt IntKind.u64.bits (W : Int) &&& BitVec.ofInt IntKind.u64.bits 4294967295).toNat))) - (IntKind.u64.wrap (q11 * ((Y * 4294967296 : Nat) : Int))))) (IntKind.u64.wrap sh)).bind fun q13 =>
        some ((IntKind.u64.wrap ((IntKind.u64.wrap (q8 * 4294967296)) + q11)), q13)) = some (((U / Y * 4294967296 + (U % Y * 4294967296 + W / 4294967296) / Y : Nat) : Int), r) := by
  have sY : Int.fdiv ((Y * 4294967296 : Nat) : Int) (2 ^ (min (Int.toNat 32) IntKind.u64.bits)) = (Y : Int) := by rw [shr32 (by omega)]; omega
  have aY : IntKind.u64.wrap (BitVec.ofInt IntKind.u64.bits ((Y * 4294967296 : Nat) : Int) &&& BitVec.ofInt IntKind.u64.bits 4294967295).toNat = 0 := by rw [and32 (by omega) (by omega)]; omega
  have sW : Int.fdiv (W : Int) (2 ^ (min (Int.toNat 32) IntKind.u64.bits)) = ((W / 4294967296 : Nat) : Int) := by rw [shr32 (by omega)]; omega
  have quo : ∀ u : Nat, u < 18446744073709551616 → quoI .u64 (u : Int) (Y : Int) = some ((u / Y : Nat) : Int) := by
    intro u hu
    unfold quoI
    have h := Nat.div_le_self u Y
    rw [if_neg (by omega), Int.tdiv_eq_ediv_of_nonneg (by omega), ← Int.natCast_ediv]
    generalize u / Y = v at h ⊢
    rw [u64_id (by omega) (by omega)]
  rw [sY, quo U (by omega)]
  simp only [Option.bind_some]
  have hq7 : U / Y < 4294967296 := by rw [Nat.div_lt_iff_lt_mul hY, Nat.mul_comm]; exact e5
  have hdm := Nat.div_add_mod U Y
  have hmod := Nat.mod_lt U hY
  have l1 : ∀ (q : Nat) (r : Int), q < 4294967296 → wloop (M.math_bits_Div64_L1 ((Y * 4294967296 : Nat) : Int) (W : Int)) ((q : Int), IntKind.u64.wrap r) = some (.next (q : Int)) := by
    intro q r hq
    refine wloop_done ?_
    unfold M.math_bits_Div64_L1
    simp only [aY, Int.mul_zero]
    have nn := u64_mod (IntKind.u64.wrap (4294967296 * IntKind.u64.wrap r) + Int.fdiv (W : Int) (2 ^ (min (Int.toNat 32) IntKind.u64.bits)))
    rw [if_neg]
    simp only [Bool.or_eq_true, decide_eq_true_eq, not_or]
    refine ⟨by omega, ?_⟩
    rw [nn, u64_mod 0]; omega
  have l2 : ∀ (q : Nat) (r : Int), q < 4294967296 → wloop (M.math_bits_Div64_L2 ((Y * 4294967296 : Nat) : Int) (W : Int)) (IntKind.u64.wrap r, (q : Int)) = some (.next (q : Int)) := by
    intro q r hq
    refine wloop_done ?_
    unfold M.math_bits_Div64_L2
    simp only [aY, Int.mul_zero]
    rw [if_neg]
    simp only [Bool.or_eq_true, decide_eq_true_eq, not_or]
    refine ⟨by omega, ?_⟩
    rw [u64_mod 0, u64_mod (_ + _)]; omega
  rw [l1 _ _ hq7]
  simp only [Option.bind_some, joinK_next]
  have hA : ((U / Y : Nat) : Int) * ((Y * 4294967296 : Nat) : Int) = ((Y * (U / Y) : Nat) : Int) * 4294967296 := by
    rw [← Int.natCast_mul, show U / Y * (Y * 4294967296) = Y * (U / Y) * 4294967296 by rw [← Nat.mul_assoc, Nat.mul_comm (U / Y) Y]]; simp
  have hun : IntKind.u64.wrap ((IntKind.u64.wrap ((IntKind.u64.wrap ((U : Int) * 4294967296)) + ((W / 4294967296 : Nat) : Int))) - (IntKind.u64.wrap (((U / Y : Nat) : Int) * ((Y * 4294967296 : Nat) : Int)))) = ((U % Y * 4294967296 + W / 4294967296 : Nat) : Int) := by
    rw [hA, u64_mod, u64_mod, u64_mod, u64_mod, Int.sub_emod_emod, Int.emod_sub_emod, Int.add_sub_assoc, Int.emod_add_emod, ← Int.add_sub_assoc]
    generalize Y * (U / Y) = Aq at hdm ⊢
    have e := small_sum (R := U % Y) (Y := Y) (W := W) (U := U) (A := Aq) hdm
    rw [e]
    exact small_mod hmod e2 hW
  have hu : U % Y * 4294967296 + W / 4294967296 < 18446744073709551616 := small_lt hmod e2 hW
  rw [sW, hun, quo _ hu]
  simp only [Option.bind_some]
  have hq10 : (U % Y * 4294967296 + W / 4294967296) / Y < 4294967296 := small_q hmod hY hW
  rw [l2 _ _ hq10]
  simp only [Option.bind_some, joinK_next]
  simp only [shrI, if_neg (show ¬ IntKind.u64.wrap sh < 0 by omega), Option.bind_some]
  refine ⟨_, congrArg some (pair_eq ?_ rfl)⟩
  exact small_fin hq7 hq10
theorem div64_eq {y hi lo : Nat} (h1 : 1 ≤ y) (h2 : y < 256) (hh : hi < y) (hl : lo < 18446744073709551616) : ∃ r, M.math_bits_Div64 (hi : Int) (lo : Int) (y : Int) = some ((((hi * 18446744073709551616 + lo) / y : Nat) : Int), r) := by
  unfold M.math_bits_Div64
  rw [if_neg (by simp; omega), if_neg (by simp; omega)]
  have hres : (hi * 18446744073709551616 + lo) / y < 18446744073709551616 := by
    rw [Nat.div_lt_iff_lt_mul (by omega)]
    have := Nat.mul_le_mul_left 18446744073709551616 (show hi + 1 ≤ y from hh)
    omega
  by_cases h0 : hi = 0
  · subst h0
    rw [if_pos (by simp)]
    unfold quoI remI
    rw [if_neg (by omega), if_neg (by omega), Int.tdiv_eq_ediv_of_nonneg (by omega), ← Int.natCast_ediv]
    simp only [Option.bind_some]
    have hle : lo / y ≤ lo := Nat.div_le_self _ _
    rw [show (0 * 18446744073709551616 + lo) / y = lo / y by simp]
    generalize lo / y = v at hle ⊢
    rw [u64_id (by omega) (by omega)]
    exact ⟨_, rfl⟩
  · rw [if_neg (by simp; omega), len_small h1 h2]
    obtain ⟨s, T, K, D, hs, hs1, hK, hD, hlog, hT, e1, e2, e3, e4, e5, e6, e7⟩ := norm h1 h2 hh hl
    rw [hlog]
    simp only [Option.bind_some]
    have hKi : (2 : Int) ^ (s : Int).toNat = (K : Int) := by rw [Int.toNat_natCast, hK]; simp
    have hDi : (2 : Int) ^ ((64 : Int) - (s : Int)).toNat = (D : Int) := by rw [show ((64 : Int) - (s : Int)).toNat = 64 - s by omega, hD]; simp
    have hYK : (y : Int) * (K : Int) = ((y * T * 4294967296 : Nat) : Int) := by rw [← e1]; simp
    rw [u64_id (x := (s : Int)) (by omega) (by omega), u64_id (x := 64 - (s : Int)) (by omega) (by omega), shl_some (x := (y : Int)) (by omega) (by omega) (by rw [hKi, hYK]; omega) (by rw [hKi, hYK]; omega),
      shl_some (x := (hi : Int)) (by omega) (by omega) (by rw [hKi, ← Int.natCast_mul]; omega) (by rw [hKi, ← Int.natCast_mul]; omega), shr_some (x := (lo : Int)) (by omega) (by omega) (by omega), shl_wrap (x := (lo : Int)) (by omega) (by omega)]
    simp only [Option.bind_some]
    have hor := or_add (hi := (hi : Int)) (lo := (lo : Int) / (2 : Int) ^ ((64 : Int) - (s : Int)).toNat) s (by omega) (by omega) (by
      have : (2 : Int) ^ s = (K : Int) := by rw [hK]; simp
      rw [this, ← Int.natCast_mul]; omega) (by rw [hDi, ← Int.natCast_ediv]; exact Int.natCast_nonneg _) (by
      have : (2 : Int) ^ s = (K : Int) := by rw [hK]; simp
      rw [this, hDi, ← Int.natCast_ediv]; omega)
    rw [show (2 : Int) ^ s = (2 : Int) ^ (s : Int).toNat by rw [Int.toNat_natCast]] at hor
    rw [hor, hKi, hDi, hYK]
    have hU : (hi : Int) * (K : Int) + (lo : Int) / (D : Int) = ((hi * K + lo / D : Nat) : Int) := by simp
    have hlK : (lo : Int) * (K : Int) % 18446744073709551616 = ((lo * K % 18446744073709551616 : Nat) : Int) := by simp
    rw [hU, hlK]
    have hY : 0 < y * T := Nat.mul_pos (by omega) hT
    obtain ⟨r, hr⟩ := div_tail (Y := y * T) (U := hi * K + lo / D) (W := lo * K % 18446744073709551616) (sh := 63 - (y.log2 : Int)) (by rw [hlog, u64_id (by omega) (by omega)]; omega) (by rw [hlog, u64_id (by omega) (by omega)]; omega) hY e2 e5 (Nat.mod_lt _ (by omega)) e7
    rw [hlog] at hr
    have hfin : (hi * K + lo / D) / (y * T) * 4294967296 + ((hi * K + lo / D) % (y * T) * 4294967296 + lo * K % 18446744073709551616 / 4294967296) / (y * T) = (hi * 18446744073709551616 + lo) / y := by
      rw [← div_long hY, ← e6, Nat.mul_div_mul_right _ _ hT]
    rw [hfin] at hr
    rw [u64_id (x := (s : Int)) (by omega) (by omega)] at hr
    exact ⟨r, hr⟩
theorem ch_div {B i : Nat} (hi : i ≤ B) : ch B i * (B - i) / (i + 1) = ch B (i + 1) := by
  rw [← ch_step B i hi, Nat.mul_div_cancel _ (by omega)]
theorem pow_small {i : Nat} (h : 2 ^ i ≤ 9223372036854775807) : i < 63 := by
  have e : (2 : Nat) ^ 63 = 9223372036854775808 := by decide
  have := (Nat.pow_lt_pow_iff_right (show 1 < 2 by omega)).mp (show 2 ^ i < 2 ^ 63 by omega)
  exact this
theorem big_step {c n i : Nat} {p : Nat} (hp : c * (i + 1) = p) (h : i < p / 18446744073709551616) : 18446744073709551616 ≤ c := by
  have h1 : (i + 1) * 18446744073709551616 ≤ p := by
    have := Nat.div_mul_le_self p 18446744073709551616
    exact Nat.le_trans (Nat.mul_le_mul_right 18446744073709551616 (show i + 1 ≤ p / 18446744073709551616 from h)) this
  rw [← hp, Nat.mul_comm c] at h1
  exact Nat.le_of_mul_le_mul_left h1 (by omega)
theorem choose_eq {A B : Nat} (hAB : A ≤ B) (hB : B ≤ 9223372036854775807) : M.ints_choose (A : Int) (B : Int) = some (if ch B A ≤ 9223372036854775807 then ((ch B A : Int), true) else (0, false)) := by
  obtain ⟨n, hn, hn2, hsym⟩ : ∃ n : Nat, IntKind.u64.wrap (if IntKind.i64.wrap ((B : Int) - (A : Int)) < (A : Int) then IntKind.i64.wrap ((B : Int) - (A : Int)) else (A : Int)) = (n : Int) ∧ 2 * n ≤ B ∧ ch B n = ch B A := by
    rw [w64_id (x := (B : Int) - (A : Int)) (by omega) (by omega)]
    by_cases h : B - A < A
    · refine ⟨B - A, ?_, by omega, ch_symm hAB⟩
      rw [if_pos (by omega), u64_id (by omega) (by omega)]; omega
    · refine ⟨A, ?_, by omega, rfl⟩
      rw [if_neg (by omega), u64_id (by omega) (by omega)]
  unfold M.ints_choose
  rw [if_neg (by simp <;> omega), if_neg (by simp <;> omega)]
  have key := wloop_ind (f := M.ints_choose_L1 (A : Int) (B : Int)) (fun j st => ∃ i : Nat, j = n - i ∧ i ≤ n ∧ st = ((ch B i : Int), (i : Int)) ∧ ch B i ≤ 9223372036854775807)
    (fun b => (b = .next (ch B n : Int) ∧ ch B n ≤ 9223372036854775807) ∨ (b = .done (0, false) ∧ ¬ ch B n ≤ 9223372036854775807)) (fun j st h => by
      obtain ⟨i, rfl, hi, rfl, hc⟩ := h
      unfold M.ints_choose_L1
      simp only [hn]
      by_cases hlt : i < n
      · rw [if_pos (by simpa using hlt)]
        have hpow := ch_pow (n := B) (k := i) (by omega)
        have hi63 := pow_small (Nat.le_trans hpow hc)
        have hst := ch_step B i (by omega)
        have hmono := ch_mono_to (n := B) (m := n) (n - (i + 1)) (i + 1) (by omega) hn2
        rw [u64_id (x := (B : Int)) (by omega) (by omega), u64_id (x := (B : Int) - (i : Int)) (by omega) (by omega), show (B : Int) - (i : Int) = ((B - i : Nat) : Int) by omega, mul64_eq (by omega) (by omega) (by omega) (by omega)]
        simp only [Option.bind_some]
        have e1 : (ch B i : Int) * ((B - i : Nat) : Int) / 18446744073709551616 = ((ch B i * (B - i) / 18446744073709551616 : Nat) : Int) := by simp
        have e2 : (ch B i : Int) * ((B - i : Nat) : Int) % 18446744073709551616 = ((ch B i * (B - i) % 18446744073709551616 : Nat) : Int) := by simp
        rw [e1, e2]
        by_cases hbig : i < ch B i * (B - i) / 18446744073709551616
        · rw [if_pos (by simp only [decide_eq_true_eq]; omega)]
          have := big_step hst hbig (n := n)
          exact .inr ⟨_, rfl, .inr ⟨rfl, by omega⟩⟩
        · rw [if_neg (by simp only [decide_eq_true_eq]; omega), u64_id (x := (i : Int) + 1) (by omega) (by omega), show (i : Int) + 1 = ((i + 1 : Nat) : Int) by omega]
          obtain ⟨r, hr⟩ := div64_eq (y := i + 1) (hi := ch B i * (B - i) / 18446744073709551616) (lo := ch B i * (B - i) % 18446744073709551616) (by omega) (by omega) (by omega) (Nat.mod_lt _ (by omega))
          have e3 : (ch B i * (B - i) / 18446744073709551616 * 18446744073709551616 + ch B i * (B - i) % 18446744073709551616) / (i + 1) = ch B (i + 1) := by
            rw [Nat.mul_comm (_ / _) 18446744073709551616, Nat.div_add_mod, ch_div (by omega)]
          rw [hr, e3]
          simp only [Option.bind_some]
          by_cases hb2 : ch B (i + 1) > 9223372036854775807
          · rw [if_pos (by simp only [decide_eq_true_eq]; omega)]
            exact .inr ⟨_, rfl, .inr ⟨rfl, by omega⟩⟩
          · rw [if_neg (by simp only [decide_eq_true_eq]; omega)]
            exact .inl ⟨_, n - (i + 1), rfl, by omega, i + 1, rfl, by omega, rfl, by omega⟩
      · have : i = n := by omega
        subst this
        rw [if_neg (by simp)]
        exact .inr ⟨_, rfl, .inl ⟨rfl, hc⟩⟩) n ((1 : Int), (0 : Int)) ⟨0, by omega, by omega, by rw [ch_zero]; rfl, by rw [ch_zero]; omega⟩
  obtain ⟨b, hb, ⟨rfl, hle⟩ | ⟨rfl, hle⟩⟩ := key
  · rw [hb, ← hsym, if_pos hle]
    simp only [Option.bind_some, joinK_next]
    rw [w64_id (by omega) (by omega)]
  · rw [hb, ← hsym, if_neg hle]; rfl
/-- the ways to choose, of any two numbers. -/
def fCh (a b : Int) : Int × Bool := if a < 0 ∨ b < 0 then (0, false) else if ch b.toNat a.toNat ≤ 9223372036854775807 then ((ch b.toNat a.toNat : Int), true) else (0, false)
theorem choose_ok {a b : Int} (ha : rng a) (hb : rng b) : M.ints_choose a b = some (fCh a b) := by
  unfold rng at ha hb
  unfold fCh
  by_cases h : a < 0 ∨ b < 0
  · unfold M.ints_choose
    rw [if_pos (by simpa using h), if_pos h]
  · rw [if_neg h]
    obtain ⟨A, rfl⟩ := Int.eq_ofNat_of_zero_le (show 0 ≤ a by omega)
    obtain ⟨B, rfl⟩ := Int.eq_ofNat_of_zero_le (show 0 ≤ b by omega)
    simp only [Int.toNat_natCast]
    by_cases hAB : A ≤ B
    · exact choose_eq hAB (by omega)
    · rw [ch_out (by omega)]
      unfold M.ints_choose
      rw [if_neg (by simp <;> omega), if_pos (by simp <;> omega)]; rfl
theorem dy_choose {a b : Int} (ha : rng a) (hb : rng b) : M.ints_Dyad str_33 a b = some (tl (fCh a b)) := sel_choose (choose_ok ha hb)
theorem id_43 : M.ints_Identity str_43 = some (0, 0) := by
  unfold M.ints_Identity
  simp only [ByteArray.toList_eq]
  rfl
theorem id_45 : M.ints_Identity str_45 = some (0, 0) := by
  unfold M.ints_Identity
  simp only [ByteArray.toList_eq]
  rfl
theorem id_124 : M.ints_Identity str_124 = some (0, 0) := by
  unfold M.ints_Identity
  simp only [ByteArray.toList_eq]
  rfl
theorem id_60 : M.ints_Identity str_60 = some (0, 0) := by
  unfold M.ints_Identity
  simp only [ByteArray.toList_eq]
  rfl
theorem id_62 : M.ints_Identity str_62 = some (0, 0) := by
  unfold M.ints_Identity
  simp only [ByteArray.toList_eq]
  rfl
theorem id_226_137_160 : M.ints_Identity str_226_137_160 = some (0, 0) := by
  unfold M.ints_Identity
  simp only [ByteArray.toList_eq]
  rfl
theorem id_226_136_168 : M.ints_Identity str_226_136_168 = some (0, 0) := by
  unfold M.ints_Identity
  simp only [ByteArray.toList_eq]
  rfl
theorem id_195_151 : M.ints_Identity str_195_151 = some (1, 0) := by
  unfold M.ints_Identity
  simp only [ByteArray.toList_eq]
  rfl
theorem id_195_183 : M.ints_Identity str_195_183 = some (1, 0) := by
  unfold M.ints_Identity
  simp only [ByteArray.toList_eq]
  rfl
theorem id_42 : M.ints_Identity str_42 = some (1, 0) := by
  unfold M.ints_Identity
  simp only [ByteArray.toList_eq]
  rfl
theorem id_33 : M.ints_Identity str_33 = some (1, 0) := by
  unfold M.ints_Identity
  simp only [ByteArray.toList_eq]
  rfl
theorem id_226_137_164 : M.ints_Identity str_226_137_164 = some (1, 0) := by
  unfold M.ints_Identity
  simp only [ByteArray.toList_eq]
  rfl
theorem id_61 : M.ints_Identity str_61 = some (1, 0) := by
  unfold M.ints_Identity
  simp only [ByteArray.toList_eq]
  rfl
theorem id_226_137_165 : M.ints_Identity str_226_137_165 = some (1, 0) := by
  unfold M.ints_Identity
  simp only [ByteArray.toList_eq]
  rfl
theorem id_226_136_167 : M.ints_Identity str_226_136_167 = some (1, 0) := by
  unfold M.ints_Identity
  simp only [ByteArray.toList_eq]
  rfl
theorem id_226_140_136 : M.ints_Identity str_226_140_136 = some (-9223372036854775808, 0) := by
  unfold M.ints_Identity
  simp only [ByteArray.toList_eq]
  rfl
theorem id_226_140_138 : M.ints_Identity str_226_140_138 = some (9223372036854775807, 0) := by
  unfold M.ints_Identity
  simp only [ByteArray.toList_eq]
  rfl
theorem rng_of {n : Int} (h : (Lit.int .i64 n).wf = true) : rng n := wf64 h
theorem and1i (x : Int) : ∃ X : Nat, X < 2 ∧ IntKind.i64.wrap (BitVec.ofInt IntKind.i64.bits x &&& BitVec.ofInt IntKind.i64.bits 1).toNat = (X : Int) := by
  have : (BitVec.ofInt IntKind.i64.bits x &&& BitVec.ofInt IntKind.i64.bits 1).toNat < 2 := by
    rw [BitVec.toNat_and, show (BitVec.ofInt IntKind.i64.bits 1).toNat = 2 ^ 1 - 1 from rfl, Nat.and_two_pow_sub_one_eq_mod]
    omega
  exact ⟨_, this, by rw [w64_id (by omega) (by omega)]⟩
theorem ch_one : ∀ n : Nat, ch n 1 = n
  | 0 => rfl
  | n + 1 => by
    show ch n 0 + ch n 1 = n + 1
    rw [ch_zero, ch_one n]; omega
theorem power_one {b : Int} (hb : rng b) : M.ints_power b 1 = some (b, true) := by
  unfold M.ints_power
  rw [if_neg (by simp)]
  by_cases h1 : b = 1
  · subst h1; rfl
  · rw [if_neg (by simpa using h1)]
    simp only [Option.bind_some]
    by_cases h0 : b = 0
    · subst h0; rfl
    · rw [if_neg (by simpa using h0)]
      by_cases h2 : b = -1
      · subst h2; rfl
      · rw [if_neg (by simpa using h2), if_neg (by simp)]
        have : M.ints_power_L1 b 1 (b, true, 1) = some (.done (.next (b, true))) := by
          unfold M.ints_power_L1; rfl
        rw [wloop_done this]; rfl
theorem is_ok {fn : ByteArray} {a b c : Int} (h : M.ints_Dyad fn a b = some (c, 0)) : M.anamnesislaw01_is fn a b c = some true := by
  unfold M.anamnesislaw01_is
  rw [h]; simp
theorem intsNothing_true (b : Int) (gb : (Lit.int .i64 b).wf = true) : M.anamnesislaw01_IntsNothing b = some true := by
  have hb := rng_of gb
  have hb2 := hb
  unfold rng at hb2
  obtain ⟨X, hX, eX⟩ := and1i b
  have r0 : rng 0 := by decide
  have r1 : rng 1 := by decide
  have hX2 : X = 0 ∨ X = 1 := by omega
  have s1 : ∀ k : Nat, k < 7 → ∀ s, ([str_43, str_45, str_195_151, str_195_183, str_42, str_226_140_136, str_226_140_138] : List ByteArray)[k]? = some s →
      ∃ n, M.ints_Identity s = some (n, 0) ∧ M.anamnesislaw01_is s b n b = some true := by
    intro k hk s hs
    match k, hk with
    | 0, _ => obtain rfl := Option.some.inj hs; exact ⟨0, id_43, is_ok (by rw [dy_add hb r0, Int.add_zero, if_pos hb])⟩
    | 1, _ => obtain rfl := Option.some.inj hs; exact ⟨0, id_45, is_ok (by rw [dy_sub hb r0, Int.sub_zero, if_pos hb])⟩
    | 2, _ => obtain rfl := Option.some.inj hs; exact ⟨1, id_195_151, is_ok (by rw [dy_mul hb r1, Int.mul_one, if_pos hb])⟩
    | 3, _ => obtain rfl := Option.some.inj hs; exact ⟨1, id_195_183, is_ok (by rw [dy_div hb r1]; unfold fDiv; rw [if_neg (by omega), if_neg (by omega), Int.tdiv_one, Int.tmod_one]; rfl)⟩
    | 4, _ => obtain rfl := Option.some.inj hs; exact ⟨1, id_42, is_ok (by rw [sel_power (power_one hb)]; rfl)⟩
    | 5, _ => obtain rfl := Option.some.inj hs; exact ⟨-9223372036854775808, id_226_140_136, is_ok (by rw [dy_max]; congr 2; split <;> omega)⟩
    | 6, _ => obtain rfl := Option.some.inj hs; exact ⟨9223372036854775807, id_226_140_138, is_ok (by rw [dy_min]; congr 2; split <;> omega)⟩
  have s2 : ∀ k : Nat, k < 6 → ∀ s, ([str_61, str_226_137_165, str_62, str_226_137_160, str_226_136_167, str_226_136_168] : List ByteArray)[k]? = some s →
      ∃ n, M.ints_Identity s = some (n, 0) ∧ M.anamnesislaw01_is s (X : Int) n (X : Int) = some true := by
    intro k hk s hs
    match k, hk with
    | 0, _ => obtain rfl := Option.some.inj hs; exact ⟨1, id_61, is_ok (by rw [dy_eq]; rcases hX2 with rfl | rfl <;> rfl)⟩
    | 1, _ => obtain rfl := Option.some.inj hs; exact ⟨1, id_226_137_165, is_ok (by rw [dy_ge]; rcases hX2 with rfl | rfl <;> rfl)⟩
    | 2, _ => obtain rfl := Option.some.inj hs; exact ⟨0, id_62, is_ok (by rw [dy_gt]; rcases hX2 with rfl | rfl <;> rfl)⟩
    | 3, _ => obtain rfl := Option.some.inj hs; exact ⟨0, id_226_137_160, is_ok (by rw [dy_ne]; rcases hX2 with rfl | rfl <;> rfl)⟩
    | 4, _ => obtain rfl := Option.some.inj hs; exact ⟨1, id_226_136_167, is_ok (by rw [dy_and]; rcases hX2 with rfl | rfl <;> rfl)⟩
    | 5, _ => obtain rfl := Option.some.inj hs; exact ⟨0, id_226_136_168, is_ok (by rw [dy_or]; rcases hX2 with rfl | rfl <;> rfl)⟩
  have s3 : ∀ k : Nat, k < 3 → ∀ s, ([str_124, str_60, str_226_137_164] : List ByteArray)[k]? = some s →
      ∃ n x, M.ints_Identity s = some (n, 0) ∧ (if decide ((k : Int) > 0) = true then some (X : Int) else some b) = some x ∧ M.anamnesislaw01_is s n x x = some true := by
    intro k hk s hs
    match k, hk with
    | 0, _ => obtain rfl := Option.some.inj hs; exact ⟨0, b, id_124, rfl, is_ok (by rw [dy_res r0 hb]; rfl)⟩
    | 1, _ => obtain rfl := Option.some.inj hs; exact ⟨0, (X : Int), id_60, rfl, is_ok (by rw [dy_lt]; rcases hX2 with rfl | rfl <;> rfl)⟩
    | 2, _ => obtain rfl := Option.some.inj hs; exact ⟨1, (X : Int), id_226_137_164, rfl, is_ok (by rw [dy_le]; rcases hX2 with rfl | rfl <;> rfl)⟩
  unfold M.anamnesislaw01_IntsNothing
  have l1 := loop_fun (f := M.anamnesislaw01_IntsNothing_L1 b) (fun k => (k : Int)) 7 (b := .next ()) (fun k hk => by
    have hk2 : k < ([str_43, str_45, str_195_151, str_195_183, str_42, str_226_140_136, str_226_140_138] : List ByteArray).length := hk
    obtain ⟨n, h1, h2⟩ := s1 k hk _ (List.getElem?_eq_getElem hk2)
    unfold M.anamnesislaw01_IntsNothing_L1
    simp only []
    rw [if_pos (by simp only [decide_eq_true_eq]; show (k : Int) < ((7 : Nat) : Int); omega), idx_get hk2]
    simp only [Option.bind_some, h1, h2]
    rw [w64_id (by omega) (by omega)]; rfl) (by
    unfold M.anamnesislaw01_IntsNothing_L1
    rfl)
  have l2 := loop_fun (f := M.anamnesislaw01_IntsNothing_L2 b) (fun k => (k : Int)) 6 (b := .next ()) (fun k hk => by
    have hk2 : k < ([str_61, str_226_137_165, str_62, str_226_137_160, str_226_136_167, str_226_136_168] : List ByteArray).length := hk
    obtain ⟨n, h1, h2⟩ := s2 k hk _ (List.getElem?_eq_getElem hk2)
    unfold M.anamnesislaw01_IntsNothing_L2
    simp only []
    rw [if_pos (by simp only [decide_eq_true_eq]; show (k : Int) < ((6 : Nat) : Int); omega), idx_get hk2, eX]
    simp only [Option.bind_some, h1, h2]
    rw [w64_id (by omega) (by omega)]; rfl) (by
    unfold M.anamnesislaw01_IntsNothing_L2
    rfl)
  have l3 := loop_fun (f := M.anamnesislaw01_IntsNothing_L3 b) (fun k => (k : Int)) 3 (b := .next ()) (fun k hk => by
    have hk2 : k < ([str_124, str_60, str_226_137_164] : List ByteArray).length := hk
    obtain ⟨n, x, h1, h2, h3⟩ := s3 k hk _ (List.getElem?_eq_getElem hk2)
    unfold M.anamnesislaw01_IntsNothing_L3
    simp only []
    rw [if_pos (by simp only [decide_eq_true_eq]; show (k : Int) < ((3 : Nat) : Int); omega), idx_get hk2, eX]
    simp only [Option.bind_some, h1, h2, h3]
    rw [w64_id (by omega) (by omega)]; rfl) (by
    unfold M.anamnesislaw01_IntsNothing_L3
    rfl)
  simp only [Int.natCast_zero] at l1 l2 l3
  rw [l1, l2, l3]
  simp only [Option.bind_some, joinK_next]
  rw [id_33]
  simp only [Option.bind_some, BEq.rfl, if_true]
  by_cases hneg : b < 0
  · rw [if_pos (by simpa using hneg)]; rfl
  · rw [if_neg (by simpa using hneg)]
    have : M.anamnesislaw01_is str_33 1 b b = some true := is_ok (by
      rw [dy_choose r1 hb]
      unfold fCh
      have e : ch b.toNat (1 : Int).toNat = b.toNat := ch_one _
      rw [if_neg (by omega), e, if_pos (by omega), Int.toNat_of_nonneg (by omega)]; rfl)
    rw [this]; rfl

end Go.Proofs.Ytamlcpligkkciaa.intsNothing
