/- TurnPlane: what the code that the law reaches computes, as plain functions; and that the law comes to true. -/
import Derived.Test.YteoojnahehgakaaAmU
set_option maxHeartbeats 4000000
set_option linter.unusedVariables false
set_option linter.unusedSimpArgs false
set_option maxRecDepth 100000
open Go Go.Am
namespace Go.Proofs.Yteoojnahehgakaa.turnPlane
def str_226_138_150 : ByteArray := ⟨#[226, 138, 150]⟩
def str_226_140_189 : ByteArray := ⟨#[226, 140, 189]⟩
def str_226_141_137 : ByteArray := ⟨#[226, 141, 137]⟩
noncomputable def M.slices_IndexFunc__int64_L1 (s1 : (List Int)) (f1 : (Int → Option (Bool))) (s : Int) : Option (Ctl (Int) (Ctl (Unit) (Int))) :=
  match s with
  | t1 =>
    if (decide (t1 < (s1.length : Int))) then
      (idx s1 t1).bind fun y1 =>
      (f1 y1).bind fun r1 =>
      if r1 then
        some (.done (.done t1))
      else
        some (.next (IntKind.i64.wrap (t1 + 1)))
    else
      some (.done (.next ()))
noncomputable def M.slices_IndexFunc__int64 (s1 : (List Int)) (f1 : (Int → Option (Bool))) : Option (Int) :=
  (wloop (M.slices_IndexFunc__int64_L1 s1 f1) 0).bind fun k => joinK k fun _ =>
  some (-1)
noncomputable def M.slices_ContainsFunc__int64 (s1 : (List Int)) (f1 : (Int → Option (Bool))) : Option (Bool) :=
  (M.slices_IndexFunc__int64 s1 f1).bind fun r1 =>
  some (decide (r1 ≥ 0))
noncomputable def M.unicode_utf8_ValidRune (r1 : Int) : Option (Bool) :=
  if ((decide (0 ≤ r1)) && (decide (r1 < 55296))) then
    some true
  else
    if ((decide (57343 < r1)) && (decide (r1 ≤ 1114111))) then
      some true
    else
      some false
noncomputable def M.value_character (n1 : Int) : Option (Bool) :=
  (if ((decide (n1 ≥ 0)) && (decide (n1 ≤ 1114111))) then
  (M.unicode_utf8_ValidRune (IntKind.i32.wrap n1)).bind fun r1 =>
  some r1 else
  some false).bind fun c2 =>
  some c2
noncomputable def M.value_Right_1 (n1 : Int) : Option (Bool) :=
  (M.value_character n1).bind fun r1 =>
  some (!r1)
noncomputable def M.value_Right_L1 (v1 : Val) (s : Int × Int) : Option (Ctl (Int × Int) (Ctl (Int) (Bool))) :=
  match s with
  | (size1, t1) =>
    if (decide (t1 < (v1.Shape.length : Int))) then
      (idx v1.Shape t1).bind fun y1 =>
      if ((decide (y1 < 0)) || (decide (y1 > 10000))) then
        some (.done (.done false))
      else
        some (.next ((IntKind.i64.wrap (size1 * y1)), (IntKind.i64.wrap (t1 + 1))))
    else
      some (.done (.next size1))
noncomputable def M.value_Right (v1 : Val) : Option (Bool) :=
  if (decide ((v1.Shape.length : Int) > 4)) then
    some false
  else
    (wloop (M.value_Right_L1 v1) (1, 0)).bind fun k => joinK k fun size1 =>
    if ((decide (size1 > 10000)) || (size1 != (v1.Data.length : Int))) then
      some false
    else
      (if (!v1.Char) then
      some true else
      (M.slices_ContainsFunc__int64 v1.Data (fun x0 => M.value_Right_1 x0)).bind fun r1 =>
      some (!r1)).bind fun c4 =>
      some c4
noncomputable def M.turn_axes (s1 : (List Int)) (axis1 : Int) : Option (Int × Bool) :=
  if (axis1 == (-1)) then
    some ((if (IntKind.i64.wrap ((s1.length : Int) - 1)) < 0 then 0 else (IntKind.i64.wrap ((s1.length : Int) - 1))), true)
  else
    some (axis1, ((decide (axis1 ≥ 0)) && (decide (axis1 < (s1.length : Int)))))
noncomputable def M.slices_Clone__int (s1 : (List Int)) : Option ((List Int)) :=
  app 8 [] s1
noncomputable def M.slices_Clone__int64 (s1 : (List Int)) : Option ((List Int)) :=
  app 8 [] s1
noncomputable def M.value_Copy (v1 : Val) : Option (Val) :=
  (M.slices_Clone__int v1.Shape).bind fun r1 =>
  (M.slices_Clone__int64 v1.Data).bind fun r2 =>
  some (Val.mk v1.Char r1 r2)
noncomputable def M.turn_glyphs : Option ((List ByteArray)) :=
  some ([str_226_138_150, str_226_140_189])
noncomputable def M.plane_Of (glyph1 : ByteArray) : Option (Sym × Bool) :=
  if (glyph1.toList == str_226_140_189.toList) then
    some ((Sym.mk 2 true), true)
  else
    if (glyph1.toList == str_226_138_150.toList) then
      some ((Sym.mk 0 true), true)
    else
      if (glyph1.toList == str_226_141_137.toList) then
        some ((Sym.mk 3 true), true)
      else
        some ((Sym.mk 0 false), false)
noncomputable def M.plane_right (turn1 : Int) : Option (Int) :=
  some (Int.tmod (IntKind.i64.wrap ((Int.tmod turn1 4) + 4)) 4)
noncomputable def M.plane_place (rows1 : Int) (cols1 : Int) (i1 : Int) (k1 : Int) : Option ((Nat × Nat)) :=
  some ((FloatKind.f64.nearest (IntKind.i64.wrap ((IntKind.i64.wrap (2 * k1)) - (IntKind.i64.wrap (cols1 - 1))))), (FloatKind.f64.nearest (IntKind.i64.wrap ((IntKind.i64.wrap (rows1 - 1)) - (IntKind.i64.wrap (2 * i1))))))
noncomputable def M.plane_conjugate (z1 : (Nat × Nat)) : Option ((Nat × Nat)) :=
  some (z1.1, (Op.negFloat .f64 z1.2))
noncomputable def M.plane_unit (turn1 : Int) : Option ((Nat × Nat)) :=
  (M.plane_right turn1).bind fun r1 =>
  (idx [(4607182418800017408, 0), (0, 4607182418800017408), (13830554455654793216, 0), (0, 13830554455654793216)] r1).bind fun y1 =>
  some (y1.1, y1.2)
noncomputable def M.plane_Sym_takes (a1 : Sym) (z1 : (Nat × Nat)) : Option ((Nat × Nat)) :=
  (if a1.Flip then
    (M.plane_conjugate (z1.1, z1.2)).bind fun r1 =>
    some r1
  else
    some z1).bind fun z2 =>
  (M.plane_unit a1.Turn).bind fun r2 =>
  (cMul .f64 r2.1 r2.2 z2.1 z2.2).bind fun z3 =>
  some (z3.1, z3.2)
noncomputable def M.plane_offset (rows1 : Int) (cols1 : Int) (z1 : (Nat × Nat)) : Option (Int) :=
  (f2i .i64 z1.1).bind fun n1 =>
  (f2i .i64 z1.2).bind fun n2 =>
  some (IntKind.i64.wrap ((IntKind.i64.wrap ((IntKind.i64.wrap (Int.tdiv (IntKind.i64.wrap ((IntKind.i64.wrap (rows1 - 1)) - n2)) 2)) * cols1)) + (IntKind.i64.wrap (Int.tdiv (IntKind.i64.wrap ((IntKind.i64.wrap (n1 + cols1)) - 1)) 2))))
noncomputable def M.plane_Apply_L2 (a1 : Sym) (v1 : Val) (y1 : Int) (y2 : Int) (Shape1 : (List Int)) (t1 : Int) (s : Int × (List Int)) : Option (Ctl (Int × (List Int)) (Ctl ((List Int)) (Ctl (Int × (List Int)) (Ctl ((List Int)) (Val × Int))))) :=
  match s with
  | (t2, l3) =>
    if (decide (t2 < y2)) then
      (idx Shape1 0).bind fun y3 =>
      (idx Shape1 1).bind fun y4 =>
      (M.plane_place y1 y2 t1 t2).bind fun r3 =>
      (M.plane_Sym_takes a1 (r3.1, r3.2)).bind fun r4 =>
      (M.plane_offset y3 y4 (r4.1, r4.2)).bind fun r5 =>
      (idx v1.Data (IntKind.i64.wrap ((IntKind.i64.wrap (t1 * y2)) + t2))).bind fun y5 =>
      (idx l3 r5).bind fun y6 =>
      (upd l3 r5 y5).bind fun l4 =>
      some (.next ((IntKind.i64.wrap (t2 + 1)), l4))
    else
      some (.done (.next l3))
noncomputable def M.plane_Apply_L1 (a1 : Sym) (v1 : Val) (y1 : Int) (y2 : Int) (Shape1 : (List Int)) (s : Int × (List Int)) : Option (Ctl (Int × (List Int)) (Ctl ((List Int)) (Val × Int))) :=
  match s with
  | (t1, l2) =>
    if (decide (t1 < y1)) then
      (wloop (M.plane_Apply_L2 a1 v1 y1 y2 Shape1 t1) (0, l2)).bind fun k => joinK k fun l3 =>
      some (.next ((IntKind.i64.wrap (t1 + 1)), l3))
    else
      some (.done (.next l2))
noncomputable def M.plane_Apply (a1 : Sym) (v1 : Val) : Option (Val × Int) :=
  (M.value_Right v1).bind fun r1 =>
  if (!r1) then
    some ((Val.mk false ([]) ([])), 1)
  else
    if ((v1.Shape.length : Int) != 2) then
      some ((Val.mk false ([]) ([])), 24)
    else
      (idx v1.Shape 0).bind fun y1 =>
      (idx v1.Shape 1).bind fun y2 =>
      (mk 8 (0 : Int) (v1.Data.length : Int) (v1.Data.length : Int)).bind fun l1 =>
      ((M.plane_right a1.Turn).bind fun r2 =>
      if ((Int.tmod r2 2) == 1) then
        some [y2, y1]
      else
        some [y1, y2]).bind fun Shape1 =>
      (wloop (M.plane_Apply_L1 a1 v1 y1 y2 Shape1) (0, l1)).bind fun k => joinK k fun l2 =>
      some ((Val.mk v1.Char Shape1 l2), 0)
noncomputable def M.turn_matrix (b1 : Val) (glyph1 : ByteArray) : Option (Val × Int) :=
  (M.plane_Of glyph1).bind fun (r1, r2) =>
  (M.plane_Apply r1 b1).bind fun (r3, r4) =>
  some (r3, r4)
noncomputable def M.slices_IndexFunc__int_L1 (s1 : (List Int)) (f1 : (Int → Option (Bool))) (s : Int) : Option (Ctl (Int) (Ctl (Unit) (Int))) :=
  match s with
  | t1 =>
    if (decide (t1 < (s1.length : Int))) then
      (idx s1 t1).bind fun y1 =>
      (f1 y1).bind fun r1 =>
      if r1 then
        some (.done (.done t1))
      else
        some (.next (IntKind.i64.wrap (t1 + 1)))
    else
      some (.done (.next ()))
noncomputable def M.slices_IndexFunc__int (s1 : (List Int)) (f1 : (Int → Option (Bool))) : Option (Int) :=
  (wloop (M.slices_IndexFunc__int_L1 s1 f1) 0).bind fun k => joinK k fun _ =>
  some (-1)
noncomputable def M.slices_ContainsFunc__int (s1 : (List Int)) (f1 : (Int → Option (Bool))) : Option (Bool) :=
  (M.slices_IndexFunc__int s1 f1).bind fun r1 =>
  some (decide (r1 ≥ 0))
noncomputable def M.shape_Size_1 (n1 : Int) : Option (Bool) :=
  some (decide (n1 < 0))
noncomputable def M.shape_Size_2 (n1 : Int) : Option (Bool) :=
  some (decide (n1 > 10000))
noncomputable def M.shape_product_L1 (s1 : (List Int)) (s : Int × Int) : Option (Ctl (Int × Int) (Ctl (Int) (Int))) :=
  match s with
  | (p1, t1) =>
    if (decide (t1 < (s1.length : Int))) then
      (idx s1 t1).bind fun y1 =>
      some (.next ((IntKind.i64.wrap (p1 * y1)), (IntKind.i64.wrap (t1 + 1))))
    else
      some (.done (.next p1))
noncomputable def M.shape_product (s1 : (List Int)) : Option (Int) :=
  (wloop (M.shape_product_L1 s1) (1, 0)).bind fun k => joinK k fun p1 =>
  some p1
noncomputable def M.shape_Size (s1 : (List Int)) : Option (Int × Int) :=
  if (decide ((s1.length : Int) > 4)) then
    some (0, 24)
  else
    (M.slices_ContainsFunc__int s1 (fun x0 => M.shape_Size_1 x0)).bind fun r1 =>
    if r1 then
      some (0, 1)
    else
      ((M.slices_ContainsFunc__int s1 (fun x0 => M.shape_Size_2 x0)).bind fun r2 =>
      if r2 then
        some r2
      else
        (M.shape_product s1).bind fun r3 =>
        some (decide (r3 > 10000))).bind fun t1 =>
      if t1 then
        some (0, 27)
      else
        (M.shape_product s1).bind fun r4 =>
        some (r4, 0)
noncomputable def M.shape_sized (s1 : (List Int)) : Option (Bool) :=
  (M.shape_Size s1).bind fun (r1, r2) =>
  some (r2 == 0)
noncomputable def M.shape_Split (s1 : (List Int)) (axis1 : Int) : Option (Int × Int × Int × Bool) :=
  (if ((decide (axis1 < 0)) || (decide (axis1 ≥ (s1.length : Int)))) then
  some true else
  (M.shape_sized s1).bind fun r1 =>
  some (!r1)).bind fun c2 =>
  if c2 then
    some (0, 0, 0, false)
  else
    (sub s1 0 axis1).bind fun l1 =>
    (M.shape_product l1).bind fun r2 =>
    (idx s1 axis1).bind fun y1 =>
    (sub s1 (IntKind.i64.wrap (axis1 + 1)) s1.length).bind fun l2 =>
    (M.shape_product l2).bind fun r3 =>
    some (r2, y1, r3, true)
noncomputable def M.turn_flipped_1 (k1 : Int) (x1 : Int) (x2 : Int) : Option (Int) :=
  (quoI .i64 k1 x1).bind fun q1 =>
  (remI q1 x2).bind fun q2 =>
  some (IntKind.i64.wrap (k1 + (IntKind.i64.wrap ((IntKind.i64.wrap ((IntKind.i64.wrap (x2 - 1)) - (IntKind.i64.wrap (2 * q2)))) * x1))))
noncomputable def M.turn_moved_L1 (b1 : Val) (from1 : (Int → Option (Int))) (l1 : List Int) (s : Int × (List Int)) : Option (Ctl (Int × (List Int)) (Ctl ((List Int)) (Val))) :=
  match s with
  | (t1, l2) =>
    if (decide (t1 < (l1.length : Int))) then
      (from1 t1).bind fun r2 =>
      (idx b1.Data r2).bind fun y1 =>
      (idx l2 t1).bind fun y2 =>
      (upd l2 t1 y1).bind fun l3 =>
      some (.next ((IntKind.i64.wrap (t1 + 1)), l3))
    else
      some (.done (.next l2))
noncomputable def M.turn_moved (b1 : Val) (s1 : (List Int)) (from1 : (Int → Option (Int))) : Option (Val) :=
  (M.slices_Clone__int s1).bind fun r1 =>
  (mk 8 (0 : Int) (b1.Data.length : Int) (b1.Data.length : Int)).bind fun l1 =>
  (wloop (M.turn_moved_L1 b1 from1 l1) (0, l1)).bind fun k => joinK k fun l2 =>
  some (Val.mk b1.Char r1 l2)
noncomputable def M.turn_flipped (b1 : Val) (axis1 : Int) : Option (Val) :=
  (M.shape_Split b1.Shape axis1).bind fun (r1, r2, r3, r4) =>
  (M.turn_moved b1 b1.Shape (fun x0 => M.turn_flipped_1 x0 r3 r2)).bind fun r5 =>
  some r5
noncomputable def M.turn_Reverse (b1 : Val) (axis1 : Int) : Option (Val × Int) :=
  (M.value_Right b1).bind fun r1 =>
  if (!r1) then
    some ((Val.mk false ([]) ([])), 1)
  else
    (M.turn_axes b1.Shape axis1).bind fun (r2, r3) =>
    if (!r3) then
      some ((Val.mk false ([]) ([])), 26)
    else
      if ((b1.Shape.length : Int) == 0) then
        (M.value_Copy b1).bind fun r4 =>
        some (r4, 0)
      else
        if ((b1.Shape.length : Int) == 2) then
          (M.turn_glyphs).bind fun r5 =>
          (idx r5 r2).bind fun y1 =>
          (M.turn_matrix b1 y1).bind fun (r6, r7) =>
          some (r6, r7)
        else
          (M.turn_flipped b1 r2).bind fun r8 =>
          some (r8, 0)
noncomputable def M.shape_At_L1 (s1 : (List Int)) (s : Int × Int × (List Int)) : Option (Ctl (Int × Int × (List Int)) (Ctl ((List Int)) ((List Int) × Bool))) :=
  match s with
  | (k2, i1, l2) =>
    if (decide (i1 ≥ 0)) then
      (idx s1 i1).bind fun y1 =>
      (remI k2 y1).bind fun q1 =>
      (idx s1 i1).bind fun y2 =>
      (quoI .i64 k2 y2).bind fun q2 =>
      (idx l2 i1).bind fun y3 =>
      (upd l2 i1 q1).bind fun l3 =>
      some (.next (q2, (IntKind.i64.wrap (i1 - 1)), l3))
    else
      some (.done (.next l2))
noncomputable def M.shape_At (s1 : (List Int)) (k1 : Int) : Option ((List Int) × Bool) :=
  (M.shape_Size s1).bind fun (r1, r2) =>
  if (((r2 != 0) || (decide (k1 < 0))) || (decide (k1 ≥ r1))) then
    some ([], false)
  else
    (mk 8 (0 : Int) (s1.length : Int) (s1.length : Int)).bind fun l1 =>
    (wloop (M.shape_At_L1 s1) (k1, (IntKind.i64.wrap ((s1.length : Int) - 1)), l1)).bind fun k => joinK k fun l2 =>
    some (l2, true)
noncomputable def M.shape_Offset_L1 (s1 : (List Int)) (at1 : (List Int)) (s : Int × Int) : Option (Ctl (Int × Int) (Ctl (Int) (Int × Bool))) :=
  match s with
  | (k1, t1) =>
    if (decide (t1 < (at1.length : Int))) then
      (idx at1 t1).bind fun y1 =>
      (if (decide (y1 < 0)) then
      some true else
      (idx s1 t1).bind fun y2 =>
      some (decide (y1 ≥ y2))).bind fun c3 =>
      if c3 then
        some (.done (.done (0, false)))
      else
        (idx s1 t1).bind fun y3 =>
        some (.next ((IntKind.i64.wrap ((IntKind.i64.wrap (k1 * y3)) + y1)), (IntKind.i64.wrap (t1 + 1))))
    else
      some (.done (.next k1))
noncomputable def M.shape_Offset (s1 : (List Int)) (at1 : (List Int)) : Option (Int × Bool) :=
  (if ((at1.length : Int) != (s1.length : Int)) then
  some true else
  (M.shape_sized s1).bind fun r1 =>
  some (!r1)).bind fun c1 =>
  if c1 then
    some (0, false)
  else
    (wloop (M.shape_Offset_L1 s1 at1) (0, 0)).bind fun k => joinK k fun k1 =>
    some (k1, true)
noncomputable def M.turn_permuted_1_L1 (x2 : (List Int)) (r1 : (List Int)) (s : Int × (List Int)) : Option (Ctl (Int × (List Int)) (Ctl ((List Int)) (Int))) :=
  match s with
  | (t1, l2) =>
    if (decide (t1 < (x2.length : Int))) then
      (idx x2 t1).bind fun y1 =>
      (idx r1 y1).bind fun y2 =>
      (idx l2 t1).bind fun y3 =>
      (upd l2 t1 y2).bind fun l3 =>
      some (.next ((IntKind.i64.wrap (t1 + 1)), l3))
    else
      some (.done (.next l2))
noncomputable def M.turn_permuted_1 (k1 : Int) (x1 : (List Int)) (x2 : (List Int)) (x3 : Val) : Option (Int) :=
  (M.shape_At x1 k1).bind fun (r1, r2) =>
  (mk 8 (0 : Int) (x2.length : Int) (x2.length : Int)).bind fun l1 =>
  (wloop (M.turn_permuted_1_L1 x2 r1) (0, l1)).bind fun k => joinK k fun l2 =>
  (M.shape_Offset x3.Shape l2).bind fun (r3, r4) =>
  some r3
noncomputable def M.turn_permuted_L1 (b1 : Val) (to1 : (List Int)) (s : Int × (List Int)) : Option (Ctl (Int × (List Int)) (Ctl ((List Int)) (Val))) :=
  match s with
  | (t1, l2) =>
    if (decide (t1 < (to1.length : Int))) then
      (idx to1 t1).bind fun y1 =>
      (idx b1.Shape t1).bind fun y2 =>
      (idx l2 y1).bind fun y3 =>
      (upd l2 y1 y2).bind fun l3 =>
      some (.next ((IntKind.i64.wrap (t1 + 1)), l3))
    else
      some (.done (.next l2))
noncomputable def M.turn_permuted (b1 : Val) (to1 : (List Int)) : Option (Val) :=
  (mk 8 (0 : Int) (to1.length : Int) (to1.length : Int)).bind fun l1 =>
  (wloop (M.turn_permuted_L1 b1 to1) (0, l1)).bind fun k => joinK k fun l2 =>
  (M.turn_moved b1 l2 (fun x0 => M.turn_permuted_1 x0 l2 to1 b1)).bind fun r1 =>
  some r1
noncomputable def M.turn_Transpose_L1 (b1 : Val) (l1 : List Int) (s : Int × (List Int)) : Option (Ctl (Int × (List Int)) (Ctl ((List Int)) (Val × Int))) :=
  match s with
  | (t1, l2) =>
    if (decide (t1 < (l1.length : Int))) then
      (idx l2 t1).bind fun y1 =>
      (upd l2 t1 (IntKind.i64.wrap ((IntKind.i64.wrap ((b1.Shape.length : Int) - 1)) - t1))).bind fun l3 =>
      some (.next ((IntKind.i64.wrap (t1 + 1)), l3))
    else
      some (.done (.next l2))
noncomputable def M.turn_Transpose (b1 : Val) : Option (Val × Int) :=
  (M.value_Right b1).bind fun r1 =>
  if (!r1) then
    some ((Val.mk false ([]) ([])), 1)
  else
    if ((b1.Shape.length : Int) == 2) then
      (M.turn_matrix b1 str_226_141_137).bind fun (r2, r3) =>
      some (r2, r3)
    else
      (mk 8 (0 : Int) (b1.Shape.length : Int) (b1.Shape.length : Int)).bind fun l1 =>
      (wloop (M.turn_Transpose_L1 b1 l1) (0, l1)).bind fun k => joinK k fun l2 =>
      (M.turn_permuted b1 l2).bind fun r4 =>
      some (r4, 0)
noncomputable def M.plane_Then (a1 : Sym) (b1 : Sym) : Option (Sym) :=
  (M.plane_right a1.Turn).bind fun r1 =>
  (if b1.Flip then
    some (IntKind.i64.wrap (0 - r1))
  else
    some r1).bind fun turn1 =>
  (M.plane_right b1.Turn).bind fun r2 =>
  (M.plane_right (IntKind.i64.wrap (turn1 + r2))).bind fun r3 =>
  some (Sym.mk r3 (!(a1.Flip == b1.Flip)))
noncomputable def M.anamnesisref06_Same_L2 (a1 : Val) (b1 : Val) (s : Int) : Option (Ctl (Int) (Ctl (Unit) (Bool))) :=
  match s with
  | i2 =>
    if (decide (i2 < (a1.Data.length : Int))) then
      (idx a1.Data i2).bind fun y3 =>
      (idx b1.Data i2).bind fun y4 =>
      if (y3 != y4) then
        some (.done (.done false))
      else
        some (.next (IntKind.i64.wrap (i2 + 1)))
    else
      some (.done (.next ()))
noncomputable def M.anamnesisref06_Same_L1 (a1 : Val) (b1 : Val) (s : Int) : Option (Ctl (Int) (Ctl (Unit) (Bool))) :=
  match s with
  | i1 =>
    if (decide (i1 < (a1.Shape.length : Int))) then
      (idx a1.Shape i1).bind fun y1 =>
      (idx b1.Shape i1).bind fun y2 =>
      if (y1 != y2) then
        some (.done (.done false))
      else
        some (.next (IntKind.i64.wrap (i1 + 1)))
    else
      some (.done (.next ()))
noncomputable def M.anamnesisref06_Same (a1 : Val) (b1 : Val) : Option (Bool) :=
  if (((!(a1.Char == b1.Char)) || ((a1.Shape.length : Int) != (b1.Shape.length : Int))) || ((a1.Data.length : Int) != (b1.Data.length : Int))) then
    some false
  else
    (wloop (M.anamnesisref06_Same_L1 a1 b1) 0).bind fun k => joinK k fun _ =>
    (wloop (M.anamnesisref06_Same_L2 a1 b1) 0).bind fun k => joinK k fun _ =>
    some true
noncomputable def M.anamnesislaw08_TurnPlane_L2 (l1 : (List Int)) (s : Int × Bool × (List Int) × (List Int) × Int × Bool) : Option (Ctl (Int × Bool × (List Int) × (List Int) × Int × Bool) (Ctl (Bool × (List Int) × (List Int) × Int × Bool) (Bool))) :=
  match s with
  | (i2, Char1, Shape1, Data2, Turn1, Flip1) =>
    if (decide (i2 < (l1.length : Int))) then
      (idx l1 i2).bind fun y1 =>
      (idx ([str_226_140_189, str_226_138_150, str_226_141_137]) (Int.tmod y1 3)).bind fun y2 =>
      ((idx l1 i2).bind fun y3 =>
      if ((Int.tmod y3 3) == 0) then
        (M.turn_Reverse (Val.mk Char1 Shape1 Data2) 1).bind fun (r1, r2) =>
        some (r2, r1.Char, r1.Shape, r1.Data)
      else
        if ((Int.tmod y3 3) == 1) then
          (M.turn_Reverse (Val.mk Char1 Shape1 Data2) 0).bind fun (r3, r4) =>
          some (r4, r3.Char, r3.Shape, r3.Data)
        else
          (M.turn_Transpose (Val.mk Char1 Shape1 Data2)).bind fun (r5, r6) =>
          some (r6, r5.Char, r5.Shape, r5.Data)).bind fun (e1, Char2, Shape2, Data3) =>
      (M.plane_Of y2).bind fun (r7, r8) =>
      (M.plane_Then (Sym.mk Turn1 Flip1) r7).bind fun r9 =>
      if ((e1 != 0) || (!r8)) then
        some (.done (.done false))
      else
        some (.next ((IntKind.i64.wrap (i2 + 1)), Char2, Shape2, Data3, r9.Turn, r9.Flip))
    else
      some (.done (.next (Char1, Shape1, Data2, Turn1, Flip1)))
noncomputable def M.anamnesislaw08_TurnPlane_L1 (rows1 : Int) (cols1 : Int) (s : Int × (List Int)) : Option (Ctl (Int × (List Int)) (Ctl ((List Int)) (Bool))) :=
  match s with
  | (i1, Data1) =>
    if (decide (i1 < (IntKind.i64.wrap ((IntKind.i64.wrap (Int.tmod rows1 21)) * (IntKind.i64.wrap (Int.tmod cols1 21)))))) then
      (app 8 Data1 ([(IntKind.i64.wrap (i1 + 32))])).bind fun l2 =>
      some (.next ((IntKind.i64.wrap (i1 + 1)), l2))
    else
      some (.done (.next Data1))
noncomputable def M.anamnesislaw08_TurnPlane (rows1 : Int) (cols1 : Int) (char1 : Bool) (l1 : (List Int)) : Option (Bool) :=
  if (decide ((l1.length : Int) > 8)) then
    some true
  else
    (wloop (M.anamnesislaw08_TurnPlane_L1 rows1 cols1) (0, [])).bind fun k => joinK k fun Data1 =>
    (wloop (M.anamnesislaw08_TurnPlane_L2 l1) (0, char1, [(IntKind.i64.wrap (Int.tmod rows1 21)), (IntKind.i64.wrap (Int.tmod cols1 21))], Data1, 0, false)).bind fun k => joinK k fun (Char1, Shape1, Data2, Turn1, Flip1) =>
    (M.plane_Apply (Sym.mk Turn1 Flip1) (Val.mk char1 ([(IntKind.i64.wrap (Int.tmod rows1 21)), (IntKind.i64.wrap (Int.tmod cols1 21))]) Data1)).bind fun (r10, r11) =>
    (if (r11 == 0) then
    (M.anamnesisref06_Same r10 (Val.mk Char1 Shape1 Data2)).bind fun r12 =>
    some r12 else
    some false).bind fun c4 =>
    some (c4 && true)
theorem w64_id {x : Int} (h1 : -9223372036854775808 ≤ x) (h2 : x ≤ 9223372036854775807) : IntKind.i64.wrap x = x := wrap_id h1 h2
theorem u8_mod (x : Int) : IntKind.u8.wrap x = x % 256 := by simp [IntKind.wrap, IntKind.bits, IntKind.signed]
theorem u8_id {x : Int} (h1 : 0 ≤ x) (h2 : x ≤ 255) : IntKind.u8.wrap x = x := by rw [u8_mod]; omega
theorem u32_id {x : Int} (h1 : 0 ≤ x) (h2 : x ≤ 1114111) : IntKind.u32.wrap x = x := by
  have : IntKind.u32.wrap x = x % 4294967296 := by simp [IntKind.wrap, IntKind.bits, IntKind.signed]
  rw [this]; omega
/-- A loop comes to an end in a state with Q: P holds ahead of each round, and its number falls. -/
theorem wloop_ind {σ β : Type} {f : σ → Option (Ctl σ β)} (P : Nat → σ → Prop) (Q : β → Prop)
    (h : ∀ n s, P n s → (∃ s' n', f s = some (.next s') ∧ n' < n ∧ P n' s') ∨ (∃ b, f s = some (.done b) ∧ Q b)) : ∀ n s, P n s → ∃ b, wloop f s = some b ∧ Q b := by
  intro n
  induction n using Nat.strongRecOn with
  | _ n ih =>
    intro s hp
    rcases h n s hp with ⟨s', n', hf, hn, hp'⟩ | ⟨b, hf, hq⟩
    · obtain ⟨b, hb, hq⟩ := ih n' hn s' hp'
      exact ⟨b, by rw [wloop_next hf]; exact hb, hq⟩
    · exact ⟨b, wloop_done hf, hq⟩
theorem idx_nat {α : Type} (l : List α) (k : Nat) : idx l (k : Int) = l[k]? := by
  unfold idx; rw [if_pos (by omega)]; rfl
theorem idx_get {α : Type} {l : List α} {k : Nat} (h : k < l.length) : idx l (k : Int) = some l[k] := by rw [idx_nat, List.getElem?_eq_getElem h]
theorem upd_nat {α : Type} {l : List α} {k : Nat} {x : α} (h : k < l.length) : upd l (k : Int) x = some (l.set k x) := by
  unfold upd; rw [if_pos ⟨by omega, by omega⟩]; rfl
theorem app_ok {α : Type} {b : Nat} {l m : List α} (h : (l.length + m.length) * b ≤ 140737488355328) : app b l m = some (l ++ m) := by
  unfold app; rw [if_pos (.inr h)]
theorem mk_ok {α : Type} {b : Nat} {z : α} {n : Nat} (h : b * n ≤ 140737488355328) (h' : n ≤ 140737488355328) : mk b z (n : Int) (n : Int) = some (List.replicate n z) := by
  unfold mk
  have : ((b : Int) * (n : Int)) ≤ 140737488355328 := by
    have h2 : ((b * n : Nat) : Int) ≤ 140737488355328 := by omega
    rwa [Int.natCast_mul] at h2
  rw [if_pos ⟨by omega, by omega, this, by omega⟩]; rfl
/-- the numbers that a kind has. -/
theorem wf64 {n : Int} (h : (Lit.int .i64 n).wf = true) : -9223372036854775808 ≤ n ∧ n ≤ 9223372036854775807 := by
  have h2 : (decide (IntKind.i64.min ≤ n) && decide (n ≤ IntKind.i64.max)) = true := h
  have e1 : IntKind.i64.min = -9223372036854775808 := by decide
  have e2 : IntKind.i64.max = 9223372036854775807 := by decide
  rw [e1, e2] at h2
  simpa using h2
theorem sub_drop {α : Type} {l : List α} {k : Nat} (h : k ≤ l.length) : sub l (k : Int) (l.length : Int) = some (l.drop k) := by
  unfold sub
  rw [if_pos ⟨by omega, by omega, by omega⟩]
  simp
theorem drop_cons {α : Type} {l : List α} {k : Nat} (h : k < l.length) : l.drop k = l[k] :: l.drop (k + 1) := List.drop_eq_getElem_cons h
theorem same_loop {f : Int → Option (Ctl Int (Ctl Unit Bool))} {a b : List Int} (hl : a.length = b.length) (hm : a.length ≤ maxLen)
    (hf : ∀ k : Nat, ∀ h : k < a.length, f k = if a[k] = b[k]'(hl ▸ h) then some (.next ((k : Int) + 1)) else some (.done (.done false))) (he : f a.length = some (.done (.next ()))) :
    wloop f 0 = some (if a = b then .next () else .done false) := by
  have key := wloop_ind (f := f) (fun n i => ∃ k : Nat, i = k ∧ k ≤ a.length ∧ n = a.length - k ∧ a.take k = b.take k)
    (fun c => (c = .done false ∧ a ≠ b) ∨ (c = .next () ∧ a = b)) (fun n i h => by
      obtain ⟨k, rfl, hk, rfl, hn⟩ := h
      by_cases hlt : k < a.length
      · rw [hf k hlt]
        by_cases he : a[k] = b[k]
        · rw [if_pos he]
          left
          refine ⟨_, a.length - (k + 1), rfl, by omega, k + 1, by omega, by omega, rfl, ?_⟩
          rw [List.take_succ_eq_append_getElem hlt, List.take_succ_eq_append_getElem (by omega), hn, he]
        · rw [if_neg he]
          right
          refine ⟨_, rfl, .inl ⟨rfl, fun h => he ?_⟩⟩
          subst h; rfl
      · have : k = a.length := by omega
        subst this
        right
        refine ⟨_, he, .inr ⟨rfl, ?_⟩⟩
        rw [List.take_length, hl, List.take_length] at hn
        exact hn) a.length 0 ⟨0, rfl, by omega, by omega, by simp⟩
  obtain ⟨c, hc, ⟨rfl, h⟩ | ⟨rfl, h⟩⟩ := key
  · rw [hc]; simp [h]
  · rw [hc]; simp [h]

theorem same_step {f : Int → Option (Ctl Int (Ctl Unit Bool))} {a b : List Int} (hl : a.length = b.length) (hm : a.length ≤ maxLen)
    (hf : ∀ k : Nat, ∀ h : k < a.length, f k = if a[k] = b[k]'(hl ▸ h) then some (.next ((k : Int) + 1)) else some (.done (.done false))) (he : f a.length = some (.done (.next ()))) :
    (wloop f 0).bind (fun k => joinK k fun _ => some true) = some (decide (a = b)) := by
  rw [same_loop hl hm hf he]
  by_cases h : a = b
  · rw [if_pos h, decide_eq_true h]; rfl
  · rw [if_neg h, decide_eq_false h]; rfl
/-- a loop that counts up. -/
theorem loop_up {S τ β : Type} {f : S → Option (Ctl S β)} (st : Nat → τ → S) (n : Nat) (I : Nat → τ → Prop) (out : τ → β) (a : τ) (h0 : I 0 a)
    (hf : ∀ k m, k < n → I k m → ∃ m', f (st k m) = some (.next (st (k + 1) m')) ∧ I (k + 1) m') (he : ∀ m, I n m → f (st n m) = some (.done (out m))) :
    ∃ m, I n m ∧ wloop f (st 0 a) = some (out m) := by
  have key := wloop_ind (f := f) (fun j s => ∃ k m, s = st k m ∧ j = n - k ∧ k ≤ n ∧ I k m) (fun b => ∃ m, b = out m ∧ I n m) (fun j s h => by
    obtain ⟨k, m, rfl, rfl, hk, hi⟩ := h
    by_cases hlt : k < n
    · left
      obtain ⟨m', h1, h2⟩ := hf k m hlt hi
      exact ⟨_, n - (k + 1), h1, by omega, k + 1, m', rfl, rfl, by omega, h2⟩
    · have : k = n := by omega
      subst this
      exact .inr ⟨_, he m hi, m, rfl, hi⟩) n (st 0 a) ⟨0, a, rfl, by omega, by omega, h0⟩
  obtain ⟨b, hb, m, rfl, hi⟩ := key
  exact ⟨m, hi, hb⟩
/-- a loop that counts up, each of whose states is told. -/
theorem loop_fun {S β : Type} {f : S → Option (Ctl S β)} (st : Nat → S) (n : Nat) {b : β} (hf : ∀ k, k < n → f (st k) = some (.next (st (k + 1)))) (he : f (st n) = some (.done b)) : wloop f (st 0) = some b := by
  obtain ⟨_, _, h⟩ := loop_up (f := f) (fun k (_ : Unit) => st k) n (fun _ _ => True) (fun _ => b) () trivial (fun k m hk _ => ⟨(), hf k hk, trivial⟩) (fun m _ => he)
  exact h
theorem lin_lt {i k R C : Nat} (h : i < R) (hk : k < C) : i * C + k < R * C := by
  have := Nat.mul_le_mul_right C (show i + 1 ≤ R from h)
  rw [Nat.succ_mul] at this; omega
theorem lin_inj {i k i' k' C : Nat} (hk : k < C) (hk' : k' < C) (h : i * C + k = i' * C + k') : i = i' ∧ k = k' := by
  have hc : 0 < C := by omega
  have e : ∀ (a b : Nat), b < C → (a * C + b) / C = a := fun a b hb => by
    rw [Nat.mul_comm, Nat.mul_add_div hc, Nat.div_eq_of_lt hb, Nat.add_zero]
  have h1 := e i k hk
  rw [h, e i' k' hk'] at h1
  subst h1; omega
/-- a matrix, row by row. -/
def tab (R C : Nat) (f : Nat → Nat → Int) : List Int := (List.range (R * C)).map fun p => f (p / C) (p % C)
theorem tab_len (R C : Nat) (f : Nat → Nat → Int) : (tab R C f).length = R * C := by simp [tab]
theorem tab_get {R C i k : Nat} (f : Nat → Nat → Int) (hi : i < R) (hk : k < C) : (tab R C f)[i * C + k]? = some (f i k) := by
  have hc : 0 < C := by omega
  unfold tab
  rw [List.getElem?_map, List.getElem?_range (lin_lt hi hk)]
  show some (f ((i * C + k) / C) ((i * C + k) % C)) = _
  rw [Nat.mul_comm, Nat.mul_add_div hc, Nat.div_eq_of_lt hk, Nat.mul_add_mod, Nat.mod_eq_of_lt hk, Nat.add_zero]
theorem tab_ext {R C : Nat} {f : Nat → Nat → Int} {l : List Int} (hl : l.length = R * C) (h : ∀ i k, i < R → k < C → l[i * C + k]? = some (f i k)) : l = tab R C f := by
  apply List.ext_getElem?
  intro p
  by_cases hp : p < R * C
  · have hc : 0 < C := by
      rcases Nat.eq_zero_or_pos C with h | h
      · subst h; simp at hp
      · exact h
    have h1 : p / C < R := by rw [Nat.div_lt_iff_lt_mul hc]; exact hp
    have h2 : p % C < C := Nat.mod_lt _ hc
    have e : p / C * C + p % C = p := by rw [Nat.mul_comm]; exact Nat.div_add_mod p C
    have a := h _ _ h1 h2
    have b := tab_get f h1 h2
    rw [e] at a b
    rw [a, b]
  · rw [List.getElem?_eq_none (by omega), List.getElem?_eq_none (by rw [tab_len]; omega)]
theorem contains_int {s : List Int} {f : Int → Option Bool} {g : Int → Bool} (hf : ∀ x ∈ s, f x = some (g x)) (hl : s.length ≤ 4611686018427387904) : M.slices_ContainsFunc__int s f = some (s.any g) := by
  have key := wloop_ind (f := M.slices_IndexFunc__int_L1 s f) (fun n i => ∃ k : Nat, i = k ∧ k ≤ s.length ∧ n = s.length - k ∧ (s.take k).any g = false)
    (fun b => (∃ i : Int, b = .done i ∧ 0 ≤ i ∧ s.any g = true) ∨ (b = .next () ∧ s.any g = false)) (fun n i h => by
      obtain ⟨k, rfl, hk, rfl, hn⟩ := h
      unfold M.slices_IndexFunc__int_L1
      by_cases hlt : k < s.length
      · simp only [show decide ((k : Int) < (s.length : Int)) = true from by simp; exact hlt, if_true, idx_get hlt, Option.bind_some, hf _ (List.getElem_mem hlt)]
        cases hg : g s[k] with
        | true =>
          right
          refine ⟨_, rfl, .inl ⟨_, rfl, by omega, ?_⟩⟩
          rw [List.any_eq_true]
          exact ⟨_, List.getElem_mem hlt, hg⟩
        | false =>
          left
          refine ⟨_, s.length - (k + 1), rfl, by omega, k + 1, ?_, by omega, rfl, ?_⟩
          · rw [w64_id (by omega) (by omega)]; omega
          · rw [List.take_succ_eq_append_getElem hlt, List.any_append, hn]; simp [hg]
      · have : k = s.length := by omega
        subst this
        right
        simp only [show decide ((s.length : Int) < (s.length : Int)) = false from by simp, Bool.false_eq_true, if_false]
        exact ⟨_, rfl, .inr ⟨rfl, by simpa using hn⟩⟩) s.length 0 ⟨0, rfl, by omega, by omega, by simp⟩
  unfold M.slices_ContainsFunc__int M.slices_IndexFunc__int
  obtain ⟨b, hb, ⟨i, rfl, h0, ha⟩ | ⟨rfl, ha⟩⟩ := key
  · rw [hb, ha]; simp [h0]
  · rw [hb, ha]; simp
theorem contains_int64 {s : List Int} {f : Int → Option Bool} {g : Int → Bool} (hf : ∀ x ∈ s, f x = some (g x)) (hl : s.length ≤ 9223372036854775807) : M.slices_ContainsFunc__int64 s f = some (s.any g) := by
  have key := wloop_ind (f := M.slices_IndexFunc__int64_L1 s f) (fun n i => ∃ k : Nat, i = k ∧ k ≤ s.length ∧ n = s.length - k ∧ (s.take k).any g = false)
    (fun b => (∃ i : Int, b = .done i ∧ 0 ≤ i ∧ s.any g = true) ∨ (b = .next () ∧ s.any g = false)) (fun n i h => by
      obtain ⟨k, rfl, hk, rfl, hn⟩ := h
      unfold M.slices_IndexFunc__int64_L1
      by_cases hlt : k < s.length
      · simp only [show decide ((k : Int) < (s.length : Int)) = true from by simp; exact hlt, if_true, idx_get hlt, Option.bind_some, hf _ (List.getElem_mem hlt)]
        cases hg : g s[k] with
        | true =>
          right
          refine ⟨_, rfl, .inl ⟨_, rfl, by omega, ?_⟩⟩
          rw [List.any_eq_true]
          exact ⟨_, List.getElem_mem hlt, hg⟩
        | false =>
          left
          refine ⟨_, s.length - (k + 1), rfl, by omega, k + 1, ?_, by omega, rfl, ?_⟩
          · rw [w64_id (by omega) (by omega)]; omega
          · rw [List.take_succ_eq_append_getElem hlt, List.any_append, hn]; simp [hg]
      · have : k = s.length := by omega
        subst this
        right
        simp only [show decide ((s.length : Int) < (s.length : Int)) = false from by simp, Bool.false_eq_true, if_false]
        exact ⟨_, rfl, .inr ⟨rfl, by simpa using hn⟩⟩) s.length 0 ⟨0, rfl, by omega, by omega, by simp⟩
  unfold M.slices_ContainsFunc__int64 M.slices_IndexFunc__int64
  obtain ⟨b, hb, ⟨i, rfl, h0, ha⟩ | ⟨rfl, ha⟩⟩ := key
  · rw [hb, ha]; simp [h0]
  · rw [hb, ha]; simp
def prod : List Int → Int
  | [] => 1
  | x :: s => x * prod s
def off : List Int → List Int → Int
  | x :: s, a :: at_ => a * prod s + off s at_
  | _, _ => 0
def dig : List Int → Int → List Int
  | [], _ => []
  | _ :: s, k => k / prod s :: dig s (k % prod s)
/-- is a place in a shape? -/
def inShape : List Int → List Int → Prop
  | [], [] => True
  | x :: s, a :: at_ => 0 ≤ a ∧ a < x ∧ inShape s at_
  | _, _ => False
instance : (s at_ : List Int) → Decidable (inShape s at_)
  | [], [] => isTrue trivial
  | x :: s, a :: at_ =>
    have := instDecidableInShape s at_
    by unfold inShape; exact inferInstance
  | [], _ :: _ => isFalse (fun h => h)
  | _ :: _, [] => isFalse (fun h => h)
theorem inShape.len : ∀ {s at_ : List Int}, inShape s at_ → at_.length = s.length
  | [], [], _ => rfl
  | x :: s, a :: at_, ⟨_, _, h⟩ => by simp [h.len]
  | [], _ :: _, h => h.elim
  | _ :: _, [], h => h.elim
theorem inShape.pos : ∀ {s at_ : List Int}, inShape s at_ → 0 < prod s
  | [], [], _ => by simp [prod]
  | x :: s, a :: at_, ⟨h0, h1, h⟩ => by
    have := h.pos
    exact Int.mul_pos (by omega) this
  | [], _ :: _, h => h.elim
  | _ :: _, [], h => h.elim
theorem off_range : ∀ {s at_ : List Int}, inShape s at_ → 0 ≤ off s at_ ∧ off s at_ < prod s
  | [], [], _ => by simp [prod, off]
  | x :: s, a :: at_, ⟨h0, h1, h⟩ => by
    have h2 := off_range h
    have h3 := h.pos
    have h4 : (a + 1) * prod s ≤ x * prod s := Int.mul_le_mul_of_nonneg_right (by omega) (by omega)
    have h5 : 0 ≤ a * prod s := Int.mul_nonneg h0 (by omega)
    rw [Int.add_mul] at h4
    simp only [prod, off]
    omega
  | [], _ :: _, h => h.elim
  | _ :: _, [], h => h.elim
theorem dig_off : ∀ {s at_ : List Int}, inShape s at_ → dig s (off s at_) = at_
  | [], [], _ => rfl
  | x :: s, a :: at_, ⟨h0, h1, h⟩ => by
    have h2 := off_range h
    have h3 := h.pos
    simp only [dig, off]
    rw [Int.add_comm, Int.mul_comm, Int.add_mul_ediv_left _ _ (by omega), Int.add_mul_emod_self_left, Int.emod_eq_of_lt h2.1 h2.2, dig_off h, Int.ediv_eq_zero_of_lt h2.1 h2.2]
    simp
  | [], _ :: _, h => h.elim
  | _ :: _, [], h => h.elim
def allPos (s : List Int) : Prop := ∀ x ∈ s, 0 < x
theorem allPos.pprod : ∀ {s : List Int}, allPos s → 0 < prod s
  | [], _ => by simp [prod]
  | x :: s, h => Int.mul_pos (h x List.mem_cons_self) (allPos.pprod fun y hy => h y (List.mem_cons_of_mem _ hy))
theorem allPos_of {s : List Int} (h : ∀ x ∈ s, 0 ≤ x) (hp : 0 < prod s) : allPos s := by
  intro x hx
  have h0 := h x hx
  rcases Int.lt_or_eq_of_le h0 with h1 | h1
  · exact h1
  · exfalso
    have : ∀ s : List Int, (0 : Int) ∈ s → prod s = 0 := by
      intro s
      induction s with
      | nil => intro h; simp at h
      | cons y s ih =>
        intro h
        rcases List.mem_cons.mp h with h | h
        · simp [prod, ← h]
        · simp [prod, ih h]
    rw [this s (h1 ▸ hx)] at hp
    omega
theorem dig_in : ∀ {s : List Int} {k : Int}, allPos s → 0 ≤ k → k < prod s → inShape s (dig s k)
  | [], k, _, h0, h1 => trivial
  | x :: s, k, h, h0, h1 => by
    have hs : allPos s := fun y hy => h y (List.mem_cons_of_mem _ hy)
    have hp := hs.pprod
    refine ⟨Int.ediv_nonneg h0 (by omega), ?_, dig_in hs (Int.emod_nonneg _ (by omega)) (Int.emod_lt_of_pos _ hp)⟩
    exact Int.ediv_lt_of_lt_mul hp h1
theorem off_dig : ∀ {s : List Int} {k : Int}, allPos s → 0 ≤ k → k < prod s → off s (dig s k) = k
  | [], k, _, h0, h1 => by simp [prod] at h1; simp [dig, off]; omega
  | x :: s, k, h, h0, h1 => by
    have hs : allPos s := fun y hy => h y (List.mem_cons_of_mem _ hy)
    have hp := hs.pprod
    simp only [dig, off]
    rw [off_dig hs (Int.emod_nonneg _ (by omega)) (Int.emod_lt_of_pos _ hp)]
    rw [Int.mul_comm]; exact Int.mul_ediv_add_emod k (prod s)
theorem dig_len : ∀ (s : List Int) (k : Int), (dig s k).length = s.length
  | [], _ => rfl
  | x :: s, k => by simp [dig, dig_len s]
theorem prod_nonneg : ∀ {s : List Int}, (∀ x ∈ s, 0 ≤ x) → 0 ≤ prod s
  | [], _ => by simp [prod]
  | x :: s, h => Int.mul_nonneg (h x List.mem_cons_self) (prod_nonneg fun y hy => h y (List.mem_cons_of_mem _ hy))
theorem prod_append : ∀ (s t : List Int), prod (s ++ t) = prod s * prod t
  | [], t => by simp [prod]
  | x :: s, t => by simp [prod, prod_append s t, Int.mul_assoc]

/-- the size of a shape, or the error. -/
def shSize (s : List Int) : Int × Int :=
  if 4 < s.length then (0, 24) else if s.any (fun x => decide (x < 0)) then (0, 1) else if s.any (fun x => decide (x > 10000)) || decide (prod s > 10000) then (0, 27) else (prod s, 0)
def shOk (s : List Int) : Prop := s.length ≤ 4 ∧ (∀ x ∈ s, 0 ≤ x ∧ x ≤ 10000) ∧ prod s ≤ 10000
instance (s : List Int) : Decidable (shOk s) := by unfold shOk; exact inferInstance
theorem shSize_ok {s : List Int} (h : shOk s) : shSize s = (prod s, 0) := by
  obtain ⟨h1, h2, h3⟩ := h
  unfold shSize
  rw [if_neg (by omega), if_neg, if_neg]
  · simp only [Bool.or_eq_true, List.any_eq_true, decide_eq_true_eq]
    rintro (⟨x, hx, h⟩ | h)
    · have := h2 x hx; omega
    · omega
  · simp only [List.any_eq_true, decide_eq_true_eq]
    rintro ⟨x, hx, h⟩
    have := h2 x hx; omega
theorem shSize_zero {s : List Int} : (shSize s).2 = 0 ↔ shOk s := by
  constructor
  · intro h
    unfold shSize at h
    split at h
    · cases h
    · rename_i h1
      split at h
      · cases h
      · rename_i h2
        split at h
        · cases h
        · rename_i h3
          simp only [List.any_eq_true, decide_eq_true_eq, not_exists, not_and] at h2
          simp only [Bool.or_eq_true, List.any_eq_true, decide_eq_true_eq, not_or, not_exists, not_and] at h3
          exact ⟨by omega, fun x hx => ⟨by have := h2 x hx; omega, by have := h3.1 x hx; omega⟩, by omega⟩
  · intro h; rw [shSize_ok h]
theorem shSize_cases (s : List Int) : (shOk s ∧ shSize s = (prod s, 0)) ∨ (¬ shOk s ∧ (shSize s).2 ≠ 0 ∧ (shSize s).1 = 0) := by
  by_cases h : shOk s
  · exact .inl ⟨h, shSize_ok h⟩
  · refine .inr ⟨h, fun hh => h (shSize_zero.mp hh), ?_⟩
    unfold shSize
    split
    · rfl
    · rename_i h1
      split
      · rfl
      · rename_i h2
        split
        · rfl
        · rename_i h3
          exfalso; apply h
          simp only [List.any_eq_true, decide_eq_true_eq, not_exists, not_and] at h2
          simp only [Bool.or_eq_true, List.any_eq_true, decide_eq_true_eq, not_or, not_exists, not_and] at h3
          exact ⟨by omega, fun x hx => ⟨by have := h2 x hx; omega, by have := h3.1 x hx; omega⟩, by omega⟩
theorem dig_bound {s : List Int} {k : Int} (hok : shOk s) (h0 : 0 ≤ k) (h1 : k < prod s) : ∀ x ∈ dig s k, 0 ≤ x ∧ x ≤ 10000 := by
  have hpos : allPos s := allPos_of (fun x hx => (hok.2.1 x hx).1) (by omega)
  have key : ∀ (s at_ : List Int), inShape s at_ → (∀ x ∈ s, 0 ≤ x ∧ x ≤ 10000) → ∀ x ∈ at_, 0 ≤ x ∧ x ≤ 10000 := by
    intro s
    induction s with
    | nil => intro at_ h _ x hx; cases at_ with | nil => simp at hx | cons _ _ => exact h.elim
    | cons y s ih =>
      intro at_ h hb x hx
      cases at_ with
      | nil => exact h.elim
      | cons a at_ =>
        obtain ⟨h1, h2, h3⟩ := h
        rcases List.mem_cons.mp hx with rfl | hx
        · have := hb y List.mem_cons_self; omega
        · exact ih at_ h3 (fun z hz => hb z (List.mem_cons_of_mem _ hz)) x hx
  exact key s _ (dig_in hpos h0 h1) hok.2.1
theorem dig_zero : ∀ {s : List Int}, allPos s → dig s 0 = List.replicate s.length 0
  | [], _ => rfl
  | x :: s, h => by
    have hs : allPos s := fun y hy => h y (List.mem_cons_of_mem _ hy)
    simp only [dig, Int.zero_ediv, Int.zero_emod, dig_zero hs]; rfl

theorem one_le_pow : ∀ k : Nat, (1 : Int) ≤ 10000 ^ k
  | 0 => by simp
  | k + 1 => by rw [Int.pow_succ]; have := one_le_pow k; omega
theorem prod_bound : ∀ (s : List Int) (k : Nat), s.length ≤ k → (∀ x ∈ s, 0 ≤ x ∧ x ≤ 10000) → 0 ≤ prod s ∧ prod s ≤ 10000 ^ k
  | [], k, _, _ => ⟨by simp [prod], one_le_pow k⟩
  | x :: s, k + 1, hl, h => by
    have h1 := h x List.mem_cons_self
    have h2 := prod_bound s k (by simpa using hl) (fun y hy => h y (List.mem_cons_of_mem _ hy))
    refine ⟨Int.mul_nonneg h1.1 h2.1, ?_⟩
    simp only [prod]
    have h3 : x * prod s ≤ 10000 * prod s := Int.mul_le_mul_of_nonneg_right h1.2 h2.1
    have h4 : (10000 : Int) ^ (k + 1) = 10000 ^ k * 10000 := Int.pow_succ _ _
    omega
  | x :: s, 0, hl, h => by simp at hl

theorem product_eq {s : List Int} (hl : s.length ≤ 4) (hb : ∀ x ∈ s, 0 ≤ x ∧ x ≤ 10000) : M.shape_product s = some (prod s) := by
  have key := wloop_ind (f := M.shape_product_L1 s) (fun n st => ∃ k : Nat, st = (prod (s.take k), (k : Int)) ∧ k ≤ s.length ∧ n = s.length - k)
    (fun b => b = .next (prod s)) (fun n st h => by
      obtain ⟨k, rfl, hk, rfl⟩ := h
      unfold M.shape_product_L1
      by_cases hlt : k < s.length
      · left
        simp only [show decide ((k : Int) < (s.length : Int)) = true from by simp; exact hlt, if_true, idx_get hlt, Option.bind_some]
        have e : prod (s.take k) * s[k] = prod (s.take (k + 1)) := by
          rw [List.take_succ_eq_append_getElem hlt, prod_append]; simp [prod]
        have hp := prod_bound (s.take (k + 1)) 4 (by rw [List.length_take]; omega) (fun x hx => hb x (List.mem_of_mem_take hx))
        refine ⟨_, s.length - (k + 1), rfl, by omega, k + 1, ?_, by omega, rfl⟩
        rw [e, w64_id (by omega) (by omega), w64_id (by omega) (by omega)]
        simp
      · have : k = s.length := by omega
        subst this
        right
        simp)
    s.length (1, 0) ⟨0, by simp [prod], by omega, by omega⟩
  obtain ⟨b, hb, rfl⟩ := key
  unfold M.shape_product
  rw [hb]; rfl

theorem shape_Size_eq {s : List Int} (hl : s.length ≤ maxLen) : M.shape_Size s = some (shSize s) := by
  have hm : maxLen = 9223372036854775807 := rfl
  unfold M.shape_Size shSize
  by_cases h4 : 4 < s.length
  · rw [if_pos h4, if_pos (by simp; omega)]
  · rw [if_neg h4, if_neg (by simp; omega)]
    rw [contains_int (s := s) (f := fun x0 => M.shape_Size_1 x0) (g := fun x => decide (x < 0)) (fun x _ => rfl) (by omega), Option.bind_some]
    cases hneg : s.any (fun x => decide (x < 0)) with
    | true => simp
    | false =>
      simp only [Bool.false_eq_true, if_false]
      rw [contains_int (s := s) (f := fun x0 => M.shape_Size_2 x0) (g := fun x => decide (x > 10000)) (fun x _ => rfl) (by omega), Option.bind_some]
      cases hbig : s.any (fun x => decide (x > 10000)) with
      | true => simp
      | false =>
        have hb : ∀ x ∈ s, 0 ≤ x ∧ x ≤ 10000 := by
          intro x hx
          simp only [List.any_eq_false, decide_eq_true_eq] at hneg hbig
          have := hneg x hx; have := hbig x hx; omega
        simp only [Bool.false_eq_true, if_false, product_eq (by omega) hb, Option.bind_some, Bool.false_or]
        split <;> simp_all
theorem sized_eq {s : List Int} (hl : s.length ≤ maxLen) : M.shape_sized s = some ((shSize s).2 == 0) := by
  unfold M.shape_sized; rw [shape_Size_eq hl]; rfl
/-- is a number a character? -/
def chOk (c : Int) : Bool := decide (0 ≤ c ∧ c ≤ 1114111) && !decide (55296 ≤ c ∧ c ≤ 57343)
/-- may an array be? -/
def vRight (v : Val) : Bool := decide (shOk v.Shape) && decide (prod v.Shape = v.Data.length) && (!v.Char || v.Data.all chOk)
def vSame (a b : Val) : Bool := (a.Char == b.Char) && decide (a.Shape = b.Shape) && decide (a.Data = b.Data)
theorem vSame_iff {a b : Val} : vSame a b = true ↔ a = b := by
  obtain ⟨c, s, d⟩ := a
  obtain ⟨c', s', d'⟩ := b
  simp only [vSame, Bool.and_eq_true, beq_iff_eq, decide_eq_true_eq, Val.mk.injEq]
  constructor
  · rintro ⟨⟨h1, h2⟩, h3⟩; exact ⟨h1, h2, h3⟩
  · rintro ⟨h1, h2, h3⟩; exact ⟨⟨h1, h2⟩, h3⟩
theorem vSame_refl (a : Val) : vSame a a = true := vSame_iff.mpr rfl
theorem vSame_eq (a b : Val) : vSame a b = true ∧ a = b ∨ vSame a b = false ∧ a ≠ b := by
  cases h : vSame a b with
  | true => exact .inl ⟨rfl, vSame_iff.mp h⟩
  | false => exact .inr ⟨rfl, fun hh => by rw [vSame_iff.mpr hh] at h; cases h⟩
theorem vRight_iff {v : Val} : vRight v = true ↔ shOk v.Shape ∧ prod v.Shape = v.Data.length ∧ (v.Char = true → ∀ c ∈ v.Data, chOk c = true) := by
  simp only [vRight, Bool.and_eq_true, decide_eq_true_eq, Bool.or_eq_true, Bool.not_eq_true', List.all_eq_true]
  constructor
  · rintro ⟨⟨h1, h2⟩, h3⟩
    refine ⟨h1, h2, fun h => ?_⟩
    rcases h3 with h3 | h3
    · rw [h3] at h; cases h
    · exact h3
  · rintro ⟨h1, h2, h3⟩
    refine ⟨⟨h1, h2⟩, ?_⟩
    cases h : v.Char with
    | true => exact .inr (h3 h)
    | false => exact .inl rfl

theorem right_loop {f : Int × Int → Option (Ctl (Int × Int) (Ctl Int Bool))} {s : List Int} (h4 : s.length ≤ 4)
    (hf : ∀ k : Nat, ∀ h : k < s.length, ∀ z, f (z, (k : Int)) = if s[k] < 0 ∨ s[k] > 10000 then some (.done (.done false)) else some (.next (IntKind.i64.wrap (z * s[k]), (k : Int) + 1)))
    (he : ∀ z, f (z, (s.length : Int)) = some (.done (.next z))) :
    ((∀ x ∈ s, 0 ≤ x ∧ x ≤ 10000) ∧ wloop f (1, 0) = some (.next (prod s))) ∨ (¬ (∀ x ∈ s, 0 ≤ x ∧ x ≤ 10000) ∧ wloop f (1, 0) = some (.done false)) := by
  have key := wloop_ind (f := f) (fun n st => ∃ k : Nat, n = s.length - k ∧ k ≤ s.length ∧ st = (prod (s.take k), (k : Int)) ∧ ∀ x ∈ s.take k, 0 ≤ x ∧ x ≤ 10000)
    (fun b => (b = .next (prod s) ∧ ∀ x ∈ s, 0 ≤ x ∧ x ≤ 10000) ∨ (b = .done false ∧ ¬ ∀ x ∈ s, 0 ≤ x ∧ x ≤ 10000)) (fun n st h => by
      obtain ⟨k, rfl, hk, rfl, hall⟩ := h
      by_cases hlt : k < s.length
      · rw [hf k hlt]
        by_cases hb : s[k] < 0 ∨ s[k] > 10000
        · rw [if_pos hb]
          right
          refine ⟨_, rfl, .inr ⟨rfl, fun hh => ?_⟩⟩
          have := hh _ (List.getElem_mem hlt); omega
        · rw [if_neg hb]
          left
          have e := List.take_succ_eq_append_getElem hlt
          have hall2 : ∀ x ∈ s.take (k + 1), 0 ≤ x ∧ x ≤ 10000 := by
            intro x hx
            rw [e] at hx
            rcases List.mem_append.mp hx with hx | hx
            · exact hall x hx
            · rw [List.mem_singleton.mp hx]; omega
          have hp := prod_bound (s.take (k + 1)) 4 (by rw [List.length_take]; omega) hall2
          have e2 : prod (s.take (k + 1)) = prod (s.take k) * s[k] := by rw [e, prod_append]; simp [prod]
          refine ⟨_, s.length - (k + 1), rfl, by omega, k + 1, rfl, by omega, ?_, hall2⟩
          rw [← e2, w64_id (by omega) (by omega)]; simp
      · have : k = s.length := by omega
        subst this
        rw [he]
        rw [List.take_length] at hall ⊢
        exact .inr ⟨_, rfl, .inl ⟨rfl, hall⟩⟩)
    s.length (1, 0) ⟨0, by omega, by omega, by simp [prod], by simp⟩
  obtain ⟨b, hb, ⟨rfl, h⟩ | ⟨rfl, h⟩⟩ := key
  · exact .inl ⟨h, hb⟩
  · exact .inr ⟨h, hb⟩
theorem all_loop {f : Int → Option (Ctl Int (Ctl Unit Bool))} {l : List Int} {p : Int → Bool}
    (hf : ∀ k : Nat, ∀ h : k < l.length, f k = if p l[k] = true then some (.next ((k : Int) + 1)) else some (.done (.done false))) (he : f l.length = some (.done (.next ()))) :
    wloop f 0 = some (if l.all p = true then .next () else .done false) := by
  have key := wloop_ind (f := f) (fun n i => ∃ k : Nat, i = k ∧ k ≤ l.length ∧ n = l.length - k ∧ (l.take k).all p = true)
    (fun c => (c = .done false ∧ l.all p = false) ∨ (c = .next () ∧ l.all p = true)) (fun n i h => by
      obtain ⟨k, rfl, hk, rfl, hn⟩ := h
      by_cases hlt : k < l.length
      · rw [hf k hlt]
        by_cases hp : p l[k] = true
        · rw [if_pos hp]
          left
          refine ⟨_, l.length - (k + 1), rfl, by omega, k + 1, by omega, by omega, rfl, ?_⟩
          rw [List.take_succ_eq_append_getElem hlt, List.all_append, hn]; simp [hp]
        · rw [if_neg hp]
          right
          refine ⟨_, rfl, .inl ⟨rfl, ?_⟩⟩
          rw [List.all_eq_false]
          exact ⟨_, List.getElem_mem hlt, hp⟩
      · have : k = l.length := by omega
        subst this
        right
        rw [List.take_length] at hn
        exact ⟨_, he, .inr ⟨rfl, hn⟩⟩) l.length 0 ⟨0, rfl, by omega, by omega, by simp⟩
  obtain ⟨c, hc, ⟨rfl, h⟩ | ⟨rfl, h⟩⟩ := key
  · rw [hc, h]; simp
  · rw [hc, h]; simp
theorem w32_id {x : Int} (h1 : 0 ≤ x) (h2 : x ≤ 1114111) : IntKind.i32.wrap x = x := by
  have e : IntKind.i32.wrap x = if x % 4294967296 ≥ 2147483648 then x % 4294967296 - 4294967296 else x % 4294967296 := by
    simp [IntKind.wrap, IntKind.bits, IntKind.signed]
  rw [e]
  split <;> omega
theorem character_eq (c : Int) : M.value_character c = some (chOk c) := by
  unfold M.value_character chOk
  by_cases h : 0 ≤ c ∧ c ≤ 1114111
  · have e : (decide (c ≥ 0) && decide (c ≤ 1114111)) = true := by simp; omega
    simp only [e, if_true, h, and_self, decide_true, Bool.true_and]
    rw [w32_id h.1 h.2]
    unfold M.unicode_utf8_ValidRune
    by_cases h1 : c < 55296
    · have e1 : (decide (0 ≤ c) && decide (c < 55296)) = true := by simp; omega
      have e2 : decide (55296 ≤ c ∧ c ≤ 57343) = false := decide_eq_false (by omega)
      simp only [e1, e2, if_true, Option.bind_some, Bool.not_false]
    · have e1 : (decide (0 ≤ c) && decide (c < 55296)) = false := by simp; omega
      simp only [e1, Bool.false_eq_true, if_false]
      by_cases h2 : 57343 < c
      · have e3 : (decide (57343 < c) && decide (c ≤ 1114111)) = true := by simp; omega
        have e2 : decide (55296 ≤ c ∧ c ≤ 57343) = false := decide_eq_false (by omega)
        simp only [e3, e2, if_true, Option.bind_some, Bool.not_false]
      · have e3 : (decide (57343 < c) && decide (c ≤ 1114111)) = false := by simp; omega
        have e2 : decide (55296 ≤ c ∧ c ≤ 57343) = true := decide_eq_true (by omega)
        simp only [e3, e2, Bool.false_eq_true, if_false, Option.bind_some, Bool.not_true]
  · have e : (decide (c ≥ 0) && decide (c ≤ 1114111)) = false := by simp; omega
    simp only [e, Bool.false_eq_true, if_false, h, decide_false, Bool.false_and, Option.bind_some]
theorem value_Right_eq {v : Val} (hd : v.Data.length ≤ 9223372036854775807) : M.value_Right v = some (vRight v) := by
  unfold M.value_Right
  by_cases h4 : 4 < v.Shape.length
  · rw [if_pos (by simp; omega)]
    have : vRight v = false := by
      cases h : vRight v with
      | false => rfl
      | true => have := (vRight_iff.mp h).1.1; omega
    rw [this]
  · rw [if_neg (by simp; omega)]
    have hloop := right_loop (f := M.value_Right_L1 v) (s := v.Shape) (by omega) (fun k h z => by
      unfold M.value_Right_L1
      simp only [show decide ((k : Int) < (v.Shape.length : Int)) = true from decide_eq_true (by omega), if_true, idx_get h, Option.bind_some]
      by_cases hb : v.Shape[k] < 0 ∨ v.Shape[k] > 10000
      · rw [if_pos hb, if_pos (by simpa using hb)]
      · rw [if_neg hb, if_neg (by simpa using hb), w64_id (x := (k : Int) + 1) (by omega) (by omega)]) (fun z => by unfold M.value_Right_L1; simp)
    rcases hloop with ⟨hall, hw⟩ | ⟨hall, hw⟩
    · rw [hw]
      simp only [Option.bind_some, joinK_next]
      have hp0 : 0 ≤ prod v.Shape := prod_nonneg fun x hx => (hall x hx).1
      by_cases hsz : prod v.Shape ≤ 10000 ∧ prod v.Shape = v.Data.length
      · have e : (decide (prod v.Shape > 10000) || (prod v.Shape != (v.Data.length : Int))) = false := by simp; omega
        simp only [e, Bool.false_eq_true, if_false]
        have hok : shOk v.Shape := ⟨by omega, hall, hsz.1⟩
        have hv : vRight v = (!v.Char || v.Data.all chOk) := by unfold vRight; simp [hok, hsz.2]
        rw [hv]
        cases hc : v.Char with
        | false => simp
        | true =>
          simp only [Bool.not_true, Bool.false_eq_true, if_false, Bool.false_or]
          rw [contains_int64 (s := v.Data) (f := fun x0 => M.value_Right_1 x0) (g := fun x => !chOk x) (fun x _ => by unfold M.value_Right_1; rw [character_eq]; rfl) hd]
          simp only [Option.bind_some]
          congr 1
          rw [List.not_any_eq_all_not]; simp
      · have e : (decide (prod v.Shape > 10000) || (prod v.Shape != (v.Data.length : Int))) = true := by
          simp; omega
        simp only [e, if_true]
        have : vRight v = false := by
          cases h : vRight v with
          | false => rfl
          | true => have := vRight_iff.mp h; exact absurd ⟨this.1.2.2, this.2.1⟩ hsz
        rw [this]
    · rw [hw]
      have : vRight v = false := by
        cases h : vRight v with
        | false => rfl
        | true => exact absurd (vRight_iff.mp h).1.2.1 hall
      rw [this]; rfl
theorem ref06_Same_eq {a b : Val} (hs : a.Shape.length ≤ maxLen) (hd : a.Data.length ≤ maxLen) : M.anamnesisref06_Same a b = some (vSame a b) := by
  have hm : maxLen = 9223372036854775807 := rfl
  unfold M.anamnesisref06_Same
  by_cases hl : (a.Char = b.Char ∧ a.Shape.length = b.Shape.length) ∧ a.Data.length = b.Data.length
  · obtain ⟨⟨h1, h2⟩, h3⟩ := hl
    rw [if_neg (by simp [h1, h2, h3])]
    have l1 := same_loop (f := M.anamnesisref06_Same_L1 a b) h2 hs (fun k h => by
      unfold M.anamnesisref06_Same_L1
      simp only [show decide ((k : Int) < (a.Shape.length : Int)) = true from decide_eq_true (by omega), if_true, idx_get h, idx_get (show k < b.Shape.length by omega), Option.bind_some]
      by_cases he : a.Shape[k] = b.Shape[k]
      · rw [if_pos he, if_neg (by simp [he]), w64_id (by omega) (by omega)]
      · rw [if_neg he, if_pos (by simp [he])]) (by unfold M.anamnesisref06_Same_L1; simp)
    have l2 := same_loop (f := M.anamnesisref06_Same_L2 a b) h3 hd (fun k h => by
      unfold M.anamnesisref06_Same_L2
      simp only [show decide ((k : Int) < (a.Data.length : Int)) = true from decide_eq_true (by omega), if_true, idx_get h, idx_get (show k < b.Data.length by omega), Option.bind_some]
      by_cases he : a.Data[k] = b.Data[k]
      · rw [if_pos he, if_neg (by simp [he]), w64_id (by omega) (by omega)]
      · rw [if_neg he, if_pos (by simp [he])]) (by unfold M.anamnesisref06_Same_L2; simp)
    rw [l1, l2]
    unfold vSame
    simp only [h1, BEq.rfl, Bool.true_and]
    by_cases he : a.Shape = b.Shape
    · rw [if_pos he, decide_eq_true he]
      by_cases hd : a.Data = b.Data
      · rw [if_pos hd, decide_eq_true hd]; rfl
      · rw [if_neg hd, decide_eq_false hd]; rfl
    · rw [if_neg he, decide_eq_false he]; rfl
  · have e : ((!(a.Char == b.Char) || ((a.Shape.length : Int) != (b.Shape.length : Int))) || ((a.Data.length : Int) != (b.Data.length : Int))) = true := by
      cases hq : ((!(a.Char == b.Char) || ((a.Shape.length : Int) != (b.Shape.length : Int))) || ((a.Data.length : Int) != (b.Data.length : Int))) with
      | true => rfl
      | false =>
        exfalso; apply hl
        simp only [Bool.or_eq_false_iff, Bool.not_eq_false', beq_iff_eq, bne_eq_false_iff_eq] at hq
        obtain ⟨⟨q1, q2⟩, q3⟩ := hq
        exact ⟨⟨q1, by omega⟩, by omega⟩
    rw [if_pos e]
    have : vSame a b = false := by
      cases hq : vSame a b with
      | false => rfl
      | true => have := vSame_iff.mp hq; subst this; simp at hl
    rw [this]
theorem value_Copy_eq {v : Val} (hs : v.Shape.length ≤ 1000000000) (hd : v.Data.length ≤ 1000000000) : M.value_Copy v = some v := by
  unfold M.value_Copy M.slices_Clone__int M.slices_Clone__int64
  rw [app_ok (by simp; omega), app_ok (by simp; omega)]; rfl
theorem emod_mul_ediv {k x P : Int} (hx : 0 < x) (hP : 0 < P) : k % (x * P) / P = k / P % x := by
  have h1 := Int.mul_ediv_add_emod k P
  have h2 := Int.mul_ediv_add_emod (k / P) x
  have h3 := Int.emod_nonneg k (show P ≠ 0 by omega)
  have h4 := Int.emod_lt_of_pos k hP
  have h5 := Int.emod_nonneg (k / P) (show x ≠ 0 by omega)
  have h6 := Int.emod_lt_of_pos (k / P) hx
  have e : k % (x * P) = (k / P % x) * P + k % P := by
    have e0 : k = ((k / P % x) * P + k % P) + (x * P) * (k / P / x) := by
      generalize k / P % x = u at *
      generalize k / P / x = t at *
      generalize k / P = q at *
      generalize k % P = r at *
      grind
    have hlt : (k / P % x) * P + k % P < x * P := by
      have : (k / P % x + 1) * P ≤ x * P := Int.mul_le_mul_of_nonneg_right (by omega) (by omega)
      rw [Int.add_mul] at this; omega
    have h0 : 0 ≤ (k / P % x) * P := Int.mul_nonneg h5 (by omega)
    conv => lhs; rw [e0]
    rw [Int.add_mul_emod_self_left]
    exact Int.emod_eq_of_lt (by omega) hlt
  rw [e, Int.add_comm, Int.add_mul_ediv_right _ _ (by omega), Int.ediv_eq_zero_of_lt h3 h4]
  simp
theorem shape_At_eq {s : List Int} {k : Int} (hl : s.length ≤ maxLen) (hk : -9223372036854775808 ≤ k ∧ k ≤ 9223372036854775807) :
    M.shape_At s k = some (if shOk s ∧ 0 ≤ k ∧ k < prod s then (dig s k, true) else ([], false)) := by
  have hm : maxLen = 9223372036854775807 := rfl
  unfold M.shape_At
  rw [shape_Size_eq hl]
  simp only [Option.bind_some]
  rcases shSize_cases s with ⟨hok, he⟩ | ⟨hok, he, _⟩
  · rw [he]
    by_cases hk0 : 0 ≤ k ∧ k < prod s
    · rw [if_neg (by simp; omega), if_pos ⟨hok, hk0⟩]
      have hpos : allPos s := allPos_of (fun x hx => (hok.2.1 x hx).1) (by omega)
      rw [mk_ok (by have := hok.1; omega) (by have := hok.1; omega), Option.bind_some]
      have key := wloop_ind (f := M.shape_At_L1 s)
        (fun n st => ∃ j : Nat, n = j ∧ j ≤ s.length ∧ st = (k / prod (s.drop j), (j : Int) - 1, List.replicate j 0 ++ dig (s.drop j) (k % prod (s.drop j))))
        (fun b => b = .next (dig s k)) (fun n st h => by
          obtain ⟨j, rfl, hj, rfl⟩ := h
          unfold M.shape_At_L1
          cases n with
          | zero =>
            right
            simp only [List.drop_zero, List.replicate_zero, List.nil_append]
            refine ⟨_, ?_, rfl⟩
            simp [Int.emod_eq_of_lt hk0.1 hk0.2]
          | succ j =>
            left
            have hlt : j < s.length := by omega
            have hjj : ((j + 1 : Nat) : Int) - 1 = (j : Int) := by omega
            have hP : 0 < prod (s.drop (j + 1)) := allPos.pprod (fun x hx => hpos x (List.mem_of_mem_drop hx))
            have hx : 0 < s[j] := hpos _ (List.getElem_mem hlt)
            have hq : 0 ≤ k / prod (s.drop (j + 1)) := Int.ediv_nonneg hk0.1 (by omega)
            have hq2 : k / prod (s.drop (j + 1)) ≤ k := Int.ediv_le_self _ hk0.1
            have hlen : j < (List.replicate (j + 1) (0 : Int) ++ dig (s.drop (j + 1)) (k % prod (s.drop (j + 1)))).length := by simp; omega
            have hprod : prod (s.drop j) = s[j] * prod (s.drop (j + 1)) := by rw [drop_cons hlt]; rfl
            rw [hjj]
            simp only [show decide ((j : Int) ≥ 0) = true from decide_eq_true (by omega), if_true, idx_get hlt, idx_get hlen, upd_nat hlen, Option.bind_some]
            have e1 : remI (k / prod (s.drop (j + 1))) s[j] = some ((k / prod (s.drop (j + 1))) % s[j]) := by
              unfold remI; rw [if_neg (by omega), Int.tmod_eq_emod_of_nonneg hq]
            have e2 : quoI .i64 (k / prod (s.drop (j + 1))) s[j] = some ((k / prod (s.drop (j + 1))) / s[j]) := by
              have h3 : (k / prod (s.drop (j + 1))) / s[j] ≤ k / prod (s.drop (j + 1)) := Int.ediv_le_self _ hq
              have h4 : 0 ≤ (k / prod (s.drop (j + 1))) / s[j] := Int.ediv_nonneg hq (by omega)
              unfold quoI; rw [if_neg (by omega), Int.tdiv_eq_ediv_of_nonneg hq, w64_id (by omega) (by omega)]
            rw [e1, e2]
            simp only [Option.bind_some]
            refine ⟨_, j, rfl, by omega, j, rfl, by omega, ?_⟩
            rw [w64_id (by omega) (by omega), hprod]
            refine Prod.ext ?_ (Prod.ext rfl ?_)
            · simp only
              rw [Int.ediv_ediv_of_nonneg (by omega), Int.mul_comm]
            · simp only
              rw [List.set_append_left _ _ (by simp), List.replicate_succ', List.set_append_right _ _ (by simp), List.length_replicate, Nat.sub_self]
              simp only [List.set_cons_zero, List.append_assoc, List.singleton_append]
              congr 1
              rw [drop_cons hlt]
              simp only [dig]
              have e3 : k % (s[j] * prod (s.drop (j + 1))) / prod (s.drop (j + 1)) = k / prod (s.drop (j + 1)) % s[j] := by
                exact emod_mul_ediv hx hP
              have e4 : k % (s[j] * prod (s.drop (j + 1))) % prod (s.drop (j + 1)) = k % prod (s.drop (j + 1)) := Int.emod_emod_of_dvd _ ⟨s[j], Int.mul_comm _ _⟩
              rw [e3, e4])
        s.length (k, (s.length : Int) - 1, List.replicate s.length 0) ⟨s.length, rfl, by omega, by simp [prod, dig]⟩
      obtain ⟨b, hb, rfl⟩ := key
      rw [w64_id (by have := hok.1; omega) (by have := hok.1; omega), hb]; rfl
    · rw [if_pos (by simp; omega), if_neg (fun h => hk0 h.2)]
  · have : ((shSize s).2 != 0) = true := by simpa using he
    rw [if_pos (by rw [this]; rfl), if_neg (fun h => hok h.1)]
/-- by Horner. -/
def hor : List Int → List Int → Int → Int
  | x :: s, a :: at_, acc => hor s at_ (acc * x + a)
  | _, _, acc => acc
theorem hor_eq : ∀ {s at_ : List Int}, at_.length = s.length → ∀ acc, hor s at_ acc = acc * prod s + off s at_
  | [], [], _, acc => by simp [hor, prod, off]
  | x :: s, a :: at_, h, acc => by
    simp only [hor, prod, off]
    rw [hor_eq (by simpa using h), Int.add_mul, Int.mul_assoc, Int.add_assoc]
  | [], _ :: _, h, _ => by simp at h
  | _ :: _, [], h, _ => by simp at h
theorem hor_snoc : ∀ {s at_ : List Int} {x a acc : Int}, at_.length = s.length → hor (s ++ [x]) (at_ ++ [a]) acc = hor s at_ acc * x + a
  | [], [], x, a, acc, _ => by simp [hor]
  | y :: s, b :: at_, x, a, acc, h => by
    simp only [List.cons_append, hor]
    exact hor_snoc (by simpa using h)
  | [], _ :: _, _, _, _, h => by simp at h
  | _ :: _, [], _, _, _, h => by simp at h
theorem inShape_snoc : ∀ {s at_ : List Int} {x a : Int}, at_.length = s.length → (inShape (s ++ [x]) (at_ ++ [a]) ↔ inShape s at_ ∧ 0 ≤ a ∧ a < x)
  | [], [], x, a, _ => by simp [inShape]
  | y :: s, b :: at_, x, a, h => by
    simp only [List.cons_append, inShape]
    rw [inShape_snoc (by simpa using h)]
    constructor
    · rintro ⟨h1, h2, h3, h4, h5⟩; exact ⟨⟨h1, h2, h3⟩, h4, h5⟩
    · rintro ⟨⟨h1, h2, h3⟩, h4, h5⟩; exact ⟨h1, h2, h3, h4, h5⟩
  | [], _ :: _, _, _, h => by simp at h
  | _ :: _, [], _, _, h => by simp at h
theorem inShape_take {s at_ : List Int} (h : inShape s at_) : ∀ k, inShape (s.take k) (at_.take k) := by
  intro k
  induction k generalizing s at_ with
  | zero => simp [inShape]
  | succ k ih =>
    match s, at_, h with
    | [], [], _ => simp [inShape]
    | x :: s, a :: at_, ⟨h1, h2, h3⟩ => exact ⟨h1, h2, ih h3⟩
theorem prod_le_take {s : List Int} (h : shOk s) (k : Nat) : 0 ≤ prod (s.take k) ∧ prod (s.take k) ≤ 10000 ^ 4 :=
  prod_bound (s.take k) 4 (by have := h.1; rw [List.length_take]; omega) (fun x hx => h.2.1 x (List.mem_of_mem_take hx))

theorem shape_Offset_eq {s at_ : List Int} (hl : s.length ≤ maxLen) (hl' : at_.length ≤ maxLen) :
    M.shape_Offset s at_ = some (if shOk s ∧ inShape s at_ then (off s at_, true) else (0, false)) := by
  have hm : maxLen = 9223372036854775807 := rfl
  unfold M.shape_Offset
  by_cases hlen : at_.length = s.length
  · rw [if_neg (by simp [hlen]), sized_eq hl]
    simp only [Option.bind_some]
    rcases shSize_cases s with ⟨hok, he⟩ | ⟨hok, he, _⟩
    · rw [he]
      simp only [beq_self_eq_true, Bool.not_true, Bool.false_eq_true, if_false]
      have key := wloop_ind (f := M.shape_Offset_L1 s at_)
        (fun n st => ∃ k : Nat, st = (hor (s.take k) (at_.take k) 0, (k : Int)) ∧ k ≤ s.length ∧ n = s.length - k ∧ inShape (s.take k) (at_.take k))
        (fun b => (b = .done (0, false) ∧ ¬ inShape s at_) ∨ (b = .next (off s at_) ∧ inShape s at_)) (fun n st h => by
          obtain ⟨k, rfl, hk, rfl, hin⟩ := h
          unfold M.shape_Offset_L1
          by_cases hlt : k < s.length
          · have hlt' : k < at_.length := by omega
            have e1 := List.take_succ_eq_append_getElem hlt
            have e2 := List.take_succ_eq_append_getElem hlt'
            have hlk : (at_.take k).length = (s.take k).length := by simp [hlen]
            simp only [show decide ((k : Int) < (at_.length : Int)) = true from by simp; exact hlt', if_true, idx_get hlt, idx_get hlt', Option.bind_some]
            have hx := hok.2.1 _ (List.getElem_mem hlt)
            by_cases h0 : at_[k] < 0
            · right
              simp only [show decide (at_[k] < 0) = true from by simpa using h0, if_true, Option.bind_some]
              refine ⟨_, rfl, .inl ⟨rfl, fun hh => ?_⟩⟩
              have := inShape_take hh (k + 1)
              rw [e1, e2, inShape_snoc hlk] at this
              omega
            · simp only [show decide (at_[k] < 0) = false from by simpa using h0, Bool.false_eq_true, if_false, Option.bind_some]
              by_cases h1 : at_[k] ≥ s[k]
              · right
                simp only [show decide (at_[k] ≥ s[k]) = true from by simpa using h1, if_true]
                refine ⟨_, rfl, .inl ⟨rfl, fun hh => ?_⟩⟩
                have := inShape_take hh (k + 1)
                rw [e1, e2, inShape_snoc hlk] at this
                omega
              · left
                simp only [show decide (at_[k] ≥ s[k]) = false from by simpa using h1, Bool.false_eq_true, if_false]
                have hin2 : inShape (s.take (k + 1)) (at_.take (k + 1)) := by rw [e1, e2, inShape_snoc hlk]; exact ⟨hin, by omega, by omega⟩
                have r1 := off_range hin
                have p1 := prod_bound (s.take k) 3 (by have := hok.1; rw [List.length_take]; omega) (fun x hx => hok.2.1 x (List.mem_of_mem_take hx))
                have h6 : hor (s.take k) (at_.take k) 0 * s[k] ≤ 10000 ^ 3 * 10000 := by
                  rw [hor_eq hlk]
                  exact Int.mul_le_mul (by omega) (by omega) (by omega) (by omega)
                have h7 : 0 ≤ hor (s.take k) (at_.take k) 0 * s[k] := by
                  rw [hor_eq hlk]
                  exact Int.mul_nonneg (by omega) (by omega)
                refine ⟨_, s.length - (k + 1), rfl, by omega, k + 1, ?_, by omega, rfl, hin2⟩
                rw [e1, e2, hor_snoc hlk, w64_id (x := _ * _) (by omega) (by omega), w64_id (by omega) (by omega), w64_id (by omega) (by omega)]
                simp
          · have : k = s.length := by omega
            subst this
            right
            have e3 : at_.take s.length = at_ := by rw [← hlen]; exact List.take_length
            rw [List.take_length, e3] at hin ⊢
            simp only [show decide ((s.length : Int) < (at_.length : Int)) = false from by simp [hlen], Bool.false_eq_true, if_false]
            refine ⟨_, rfl, .inr ⟨?_, hin⟩⟩
            rw [hor_eq hlen]; simp)
        s.length (0, 0) ⟨0, by simp [hor], by omega, by omega, by simp [inShape]⟩
      obtain ⟨b, hb, ⟨rfl, h⟩ | ⟨rfl, h⟩⟩ := key
      · rw [hb, if_neg (fun hh => h hh.2)]; rfl
      · rw [hb, if_pos ⟨hok, h⟩]; rfl
    · have : ((shSize s).2 == 0) = false := by simpa using he
      rw [this, if_pos (by rfl), if_neg (fun hh => hok hh.1)]
  · rw [if_pos (by simp; omega), if_neg (fun hh => hlen hh.2.len)]
    simp
theorem sub_take {α : Type} {l : List α} {k : Nat} (h : k ≤ l.length) : sub l 0 (k : Int) = some (l.take k) := by
  unfold sub
  rw [if_pos ⟨by omega, by omega, by omega⟩]
  simp
/-- what is ahead of an axis, it, what is behind. -/
def splitOf (s : List Int) (axis : Int) : Int × Int × Int × Bool :=
  if h : shOk s ∧ 0 ≤ axis ∧ axis < s.length then (prod (s.take axis.toNat), s[axis.toNat]'(by omega), prod (s.drop (axis.toNat + 1)), true) else (0, 0, 0, false)
theorem shape_Split_eq {s : List Int} {axis : Int} (hl : s.length ≤ maxLen) (ha : -9223372036854775808 ≤ axis ∧ axis ≤ 9223372036854775807) : M.shape_Split s axis = some (splitOf s axis) := by
  have hm : maxLen = 9223372036854775807 := rfl
  unfold M.shape_Split splitOf
  by_cases hr : 0 ≤ axis ∧ axis < s.length
  · have e : (decide (axis < 0) || decide (axis ≥ (s.length : Int))) = false := by
      rw [decide_eq_false (by omega), decide_eq_false (by omega)]; rfl
    rw [e, sized_eq hl]
    simp only [Bool.false_eq_true, if_false, Option.bind_some]
    rcases shSize_cases s with ⟨hok, he⟩ | ⟨hok, he, _⟩
    · obtain ⟨k, rfl⟩ : ∃ k : Nat, axis = k := ⟨axis.toNat, by omega⟩
      have hk : k < s.length := by omega
      have h4 := hok.1
      rw [he, dif_pos ⟨hok, hr⟩]
      simp only [beq_self_eq_true, Bool.not_true, Bool.false_eq_true, if_false]
      rw [sub_take (by omega), Option.bind_some, product_eq (by rw [List.length_take]; omega) (fun x hx => hok.2.1 x (List.mem_of_mem_take hx)), Option.bind_some, idx_get hk, Option.bind_some, w64_id (by omega) (by omega),
        show (k : Int) + 1 = ((k + 1 : Nat) : Int) by omega, sub_drop (by omega), Option.bind_some, product_eq (by rw [List.length_drop]; omega) (fun x hx => hok.2.1 x (List.mem_of_mem_drop hx))]
      rfl
    · have : ((shSize s).2 == 0) = false := by simpa using he
      rw [this, dif_neg (fun h => hok h.1)]
      rfl
  · have e : (decide (axis < 0) || decide (axis ≥ (s.length : Int))) = true := by
      simp; omega
    rw [e, dif_neg (fun h => hr h.2)]
    rfl
/-- a shape without an axis. -/
def wo (s : List Int) (axis : Int) : List Int := if 0 ≤ axis ∧ axis < s.length then s.take axis.toNat ++ s.drop (axis.toNat + 1) else s
theorem wo_prod {s : List Int} {k : Nat} (h : k < s.length) : prod (wo s k) = prod (s.take k) * prod (s.drop (k + 1)) := by
  unfold wo
  rw [if_pos ⟨by omega, by omega⟩, prod_append]; simp
theorem prod_split {s : List Int} {k : Nat} (h : k < s.length) : prod s = prod (s.take k) * s[k] * prod (s.drop (k + 1)) := by
  conv => lhs; rw [← List.take_append_drop k s, drop_cons h, prod_append]
  simp only [prod]
  rw [Int.mul_assoc]
/-- the word of a sign and a whole number. -/
def W64 (s : Bool) (m : Nat) : Nat := Ieee.double.nearest s m 0
theorem double_least : Ieee.double.leastPlace = -1074 := by decide
theorem double_binade : Ieee.double.binade = 4503599627370496 := by decide
theorem double_inf : Ieee.double.infRung = 9218868437227405312 := by decide
theorem double_sign : Ieee.double.signWeight = 9223372036854775808 := by decide
theorem log2_shift {n : Nat} (hn : n ≠ 0) (k : Nat) : (n * 2 ^ k).log2 = n.log2 + k := by
  have hp : 0 < 2 ^ k := Nat.two_pow_pos k
  have h0 : n * 2 ^ k ≠ 0 := by
    intro h; rcases Nat.mul_eq_zero.mp h with h | h <;> omega
  rw [Nat.log2_eq_iff h0]
  have h1 := Nat.log2_self_le hn
  have h2 := @Nat.lt_log2_self n
  refine ⟨by rw [Nat.pow_add]; exact Nat.mul_le_mul_right _ h1, ?_⟩
  rw [show n.log2 + k + 1 = (n.log2 + 1) + k by omega, Nat.pow_add]
  exact Nat.mul_lt_mul_of_pos_right h2 hp
theorem cut_zero (s : Bool) (n : Nat) : Ieee.Toward.even.cut s n 0 = n := by
  unfold Ieee.Toward.cut
  simp [Nat.mod_one]
theorem cut_even (s : Bool) (n k : Nat) : Ieee.Toward.even.cut s (n * 2 ^ k) k = n := by
  by_cases hn : n = 0
  · subst hn; unfold Ieee.Toward.cut; simp
  unfold Ieee.Toward.cut
  have hl : (n * 2 ^ k).log2 = n.log2 + k := log2_shift hn k
  have : 0 < 2 ^ k := Nat.two_pow_pos k
  rw [hl, Nat.min_eq_left (by omega), Nat.one_shiftLeft]
  simp only [Nat.mul_mod_left, Nat.mul_div_cancel _ this]
  simp
theorem cut_tz (s : Bool) (n k : Nat) : Ieee.Toward.zero.cut s (n * 2 ^ k) k = n := by
  by_cases hn : n = 0
  · subst hn; unfold Ieee.Toward.cut; simp
  unfold Ieee.Toward.cut
  have hl : (n * 2 ^ k).log2 = n.log2 + k := log2_shift hn k
  have : 0 < 2 ^ k := Nat.two_pow_pos k
  rw [hl, Nat.min_eq_left (by omega), Nat.one_shiftLeft]
  simp only [Nat.mul_div_cancel _ this]
  simp
theorem log_lt {m : Nat} (hm : m ≠ 0) (h : m < 9007199254740992) : m.log2 ≤ 52 := by
  have := (Nat.log2_lt hm (k := 53)).mpr h
  omega
theorem near_rung (s : Bool) {m : Nat} (hm : m ≠ 0) (h : m < 9007199254740992) (k : Nat) :
    Ieee.double.nearest s (m * 2 ^ k) (-(k : Int)) = Ieee.double.word s ((m.log2 + 1022) * 4503599627370496 + m * 2 ^ (52 - m.log2)) := by
  have hl := log_lt hm h
  have h0 : m * 2 ^ k ≠ 0 := by
    have hp : 0 < 2 ^ k := Nat.two_pow_pos k
    intro h; rcases Nat.mul_eq_zero.mp h with h | h <;> omega
  unfold Ieee.Format.nearest
  rw [if_neg h0, log2_shift hm k, double_least, double_binade, double_inf]
  have hf : Ieee.double.fractionBits = 52 := rfl
  rw [hf]
  have hlast : max (-(k : Int) + ((m.log2 + k : Nat) : Int) - ((52 : Nat) : Int)) (-1074) = -((52 - m.log2 : Nat) : Int) := by omega
  simp only [hlast]
  generalize hc : 52 - m.log2 = c
  have hk : Ieee.Toward.even.cut s ((m * 2 ^ k) <<< (-(k : Int) - -(c : Int)).toNat) (-(c : Int) - -(k : Int)).toNat = m * 2 ^ c := by
    by_cases hck : k ≤ c
    · rw [show (-(c : Int) - -(k : Int)).toNat = 0 by omega, show (-(k : Int) - -(c : Int)).toNat = c - k by omega, cut_zero, Nat.shiftLeft_eq, Nat.mul_assoc, ← Nat.pow_add, show k + (c - k) = c by omega]
    · rw [show (-(c : Int) - -(k : Int)).toNat = k - c by omega, show (-(k : Int) - -(c : Int)).toNat = 0 by omega, Nat.shiftLeft_zero, show m * 2 ^ k = m * 2 ^ c * 2 ^ (k - c) by rw [Nat.mul_assoc, ← Nat.pow_add, show c + (k - c) = k by omega], cut_even]
  rw [hk]
  have hb : m * 2 ^ c < 9007199254740992 := by
    have h2 := @Nat.lt_log2_self m
    have : m * 2 ^ c < 2 ^ (m.log2 + 1) * 2 ^ c := Nat.mul_lt_mul_of_pos_right h2 (Nat.two_pow_pos c)
    rw [← Nat.pow_add, show m.log2 + 1 + c = 53 by omega] at this
    exact this
  congr 1
  rw [show (-(c : Int) - -1074).toNat = m.log2 + 1022 by omega]
  omega
theorem near_same (s : Bool) {m : Nat} (h : m < 9007199254740992) (k : Nat) : Ieee.double.nearest s (m * 2 ^ k) (-(k : Int)) = W64 s m := by
  by_cases hm : m = 0
  · subst hm; simp [W64, Ieee.Format.nearest]
  · rw [near_rung s hm h k]
    have := near_rung s hm h 0
    simp only [Nat.pow_zero, Nat.mul_one, Int.natCast_zero, Int.neg_zero] at this
    exact this.symm
/-- a datum that is a whole number. -/
def isD (d : Ieee.Datum) (s : Bool) (m : Nat) : Prop := ∃ k : Nat, d = .number s (m * 2 ^ k) (-(k : Int))
theorem W64_word (s : Bool) {m : Nat} (hm : m ≠ 0) (h : m < 9007199254740992) : W64 s m = Ieee.double.word s ((m.log2 + 1022) * 4503599627370496 + m * 2 ^ (52 - m.log2)) := by
  rw [← near_same s h 0]; exact near_rung s hm h 0
theorem kept_bounds {m : Nat} (hm : m ≠ 0) (h : m < 9007199254740992) : 4503599627370496 ≤ m * 2 ^ (52 - m.log2) ∧ m * 2 ^ (52 - m.log2) < 9007199254740992 := by
  have hl := log_lt hm h
  generalize hc : 52 - m.log2 = c
  have h1 := Nat.log2_self_le hm
  have h2 := @Nat.lt_log2_self m
  constructor
  · have : 2 ^ m.log2 * 2 ^ c ≤ m * 2 ^ c := Nat.mul_le_mul_right _ h1
    rw [← Nat.pow_add, show m.log2 + c = 52 by omega] at this
    exact this
  · have : m * 2 ^ c < 2 ^ (m.log2 + 1) * 2 ^ c := Nat.mul_lt_mul_of_pos_right h2 (Nat.two_pow_pos c)
    rw [← Nat.pow_add, show m.log2 + 1 + c = 53 by omega] at this
    exact this
theorem word_read (s : Bool) {r : Nat} (h : r < 9223372036854775808) : Ieee.double.word s r / 9223372036854775808 % 2 = s.toNat ∧ Ieee.double.word s r % 9223372036854775808 = r := by
  unfold Ieee.Format.word
  rw [double_sign]
  cases s
  · simp; omega
  · simp; omega
theorem read_W64 (s : Bool) {m : Nat} (h : m < 9007199254740992) : isD (Ieee.double.read (W64 s m)) s m := by
  by_cases hm : m = 0
  · subst hm
    obtain ⟨k, hk⟩ : ∃ k : Nat, k = 1074 := ⟨_, rfl⟩
    refine ⟨k, ?_⟩
    have : W64 s 0 = Ieee.double.word s 0 := by simp [W64, Ieee.Format.nearest]
    rw [this]
    rw [Nat.zero_mul, hk]; cases s <;> decide
  · have hl := log_lt hm h
    obtain ⟨b1, b2⟩ := kept_bounds hm h
    rw [W64_word s hm h]
    refine ⟨52 - m.log2, ?_⟩
    obtain ⟨r1, r2⟩ := word_read s (r := (m.log2 + 1022) * 4503599627370496 + m * 2 ^ (52 - m.log2)) (by omega)
    unfold Ieee.Format.read
    rw [double_sign, double_binade, double_inf, double_least, r1, r2]
    simp only []
    rw [if_neg (by omega), if_pos (by omega)]
    have e1 : ((m.log2 + 1022) * 4503599627370496 + m * 2 ^ (52 - m.log2)) % 4503599627370496 = m * 2 ^ (52 - m.log2) - 4503599627370496 := by omega
    have e2 : ((m.log2 + 1022) * 4503599627370496 + m * 2 ^ (52 - m.log2)) / 4503599627370496 = m.log2 + 1023 := by omega
    rw [e1, e2]
    have e3 : (s.toNat == 1) = s := by cases s <;> rfl
    rw [e3]
    rw [show 4503599627370496 + (m * 2 ^ (52 - m.log2) - 4503599627370496) = m * 2 ^ (52 - m.log2) by omega, show (-1074 + ((m.log2 + 1023 - 1 : Nat) : Int)) = -((52 - m.log2 : Nat) : Int) by omega]
/-- what a sign and a magnitude are. -/
def sv (s : Bool) (m : Nat) : Int := if s then -(m : Int) else m
/-- a word that is a whole number. -/
def isF (b : Nat) (n : Int) : Prop := ∃ s m, m < 9007199254740992 ∧ b = W64 s m ∧ n = sv s m
theorem isF_near {n : Int} (h : n.natAbs < 9007199254740992) : isF (FloatKind.f64.nearest n) n := by
  refine ⟨decide (n < 0), n.natAbs, h, rfl, ?_⟩
  unfold sv
  by_cases h : n < 0
  · rw [if_pos (by simpa using h)]; omega
  · rw [if_neg (by simpa using h)]; omega
theorem write_isD {d : Ieee.Datum} {s : Bool} {m : Nat} (h : isD d s m) (hm : m < 9007199254740992) : Ieee.double.write d = W64 s m := by
  obtain ⟨k, rfl⟩ := h
  exact near_same s hm k
theorem signed_sv (s : Bool) (m j : Nat) : Ieee.signed s m j = sv s m * 2 ^ j := by
  unfold Ieee.signed sv
  rw [Nat.shiftLeft_eq]
  cases s
  · simp
  · simp; rw [Int.neg_mul]
theorem sv_pow (s : Bool) (m j : Nat) : sv s (m * 2 ^ j) = sv s m * 2 ^ j := by
  unfold sv; cases s
  · simp
  · simp; rw [Int.neg_mul]
theorem sum_isD {d e : Ieee.Datum} {s t : Bool} {m n : Nat} (hd : isD d s m) (he : isD e t n) : ∃ f u, d.sum e = some f ∧ isD f u (sv s m + sv t n).natAbs ∧ sv u (sv s m + sv t n).natAbs = sv s m + sv t n := by
  obtain ⟨k, rfl⟩ := hd
  obtain ⟨j, rfl⟩ := he
  unfold Ieee.Datum.sum
  simp only []
  have hb : min (-(k : Int)) (-(j : Int)) = -((max k j : Nat) : Int) := by omega
  rw [hb, signed_sv, signed_sv, sv_pow, sv_pow, Int.mul_assoc, Int.mul_assoc, ← Int.pow_add, ← Int.pow_add,
    show k + (-(k : Int) - -((max k j : Nat) : Int)).toNat = max k j by omega, show j + (-(j : Int) - -((max k j : Nat) : Int)).toNat = max k j by omega, ← Int.add_mul]
  generalize sv s m + sv t n = x
  generalize max k j = M
  have hp : (0 : Int) < 2 ^ M := Int.pow_pos (by omega)
  refine ⟨_, (if x * 2 ^ M = 0 then s && t else decide (x * 2 ^ M < 0)), rfl, ⟨M, ?_⟩, ?_⟩
  · rw [Int.natAbs_mul, Int.natAbs_pow]; rfl
  · by_cases h0 : x = 0
    · subst h0; simp [sv]
    · have h1 : x * 2 ^ M ≠ 0 := by
        intro h; rcases Int.mul_eq_zero.mp h with h | h <;> omega
      rw [if_neg h1]
      unfold sv
      by_cases hx : x < 0
      · have : x * 2 ^ M < 0 := Int.mul_neg_of_neg_of_pos hx hp
        rw [if_pos (by simpa using this)]; omega
      · have : ¬ x * 2 ^ M < 0 := by
          have := Int.mul_nonneg (show 0 ≤ x by omega) (Int.le_of_lt hp)
          omega
        rw [if_neg (by simpa using this)]; omega
theorem fadd_ok {a b : Nat} {x y : Int} (ha : isF a x) (hb : isF b y) (h : (x + y).natAbs < 9007199254740992) : ∃ c, fArith .add .f64 a b = some c ∧ isF c (x + y) := by
  obtain ⟨s, m, hm, rfl, rfl⟩ := ha
  obtain ⟨t, n, hn, rfl, rfl⟩ := hb
  obtain ⟨f, u, h1, h2, h3⟩ := sum_isD (read_W64 s hm) (read_W64 t hn)
  refine ⟨W64 u (sv s m + sv t n).natAbs, ?_, u, _, h, rfl, h3.symm⟩
  show (((Ieee.double.read (W64 s m)).sum (Ieee.double.read (W64 t n))).map Ieee.double.write) = _
  rw [h1, Option.map_some, write_isD h2 h]
theorem isD_opp {d : Ieee.Datum} {s : Bool} {m : Nat} (h : isD d s m) : isD d.opposite (!s) m := by
  obtain ⟨k, rfl⟩ := h; exact ⟨k, rfl⟩
theorem sv_not (s : Bool) (m : Nat) : sv (!s) m = - sv s m := by cases s <;> simp [sv]
theorem fsub_ok {a b : Nat} {x y : Int} (ha : isF a x) (hb : isF b y) (h : (x - y).natAbs < 9007199254740992) : ∃ c, fArith .sub .f64 a b = some c ∧ isF c (x - y) := by
  obtain ⟨s, m, hm, rfl, rfl⟩ := ha
  obtain ⟨t, n, hn, rfl, rfl⟩ := hb
  obtain ⟨f, u, h1, h2, h3⟩ := sum_isD (read_W64 s hm) (isD_opp (read_W64 t hn))
  rw [sv_not, ← Int.sub_eq_add_neg] at h2 h3
  refine ⟨W64 u (sv s m - sv t n).natAbs, ?_, u, _, h, rfl, h3.symm⟩
  show (((Ieee.double.read (W64 s m)).sum (Ieee.double.read (W64 t n)).opposite).map Ieee.double.write) = _
  rw [h1, Option.map_some, write_isD h2 h]
theorem sv_mul (s t : Bool) (m n : Nat) : sv s m * sv t n = sv (s ^^ t) (m * n) := by cases s <;> cases t <;> simp [sv, Int.neg_mul, Int.mul_neg]
theorem fmul_ok {a b : Nat} {x y : Int} (ha : isF a x) (hb : isF b y) (h : (x * y).natAbs < 9007199254740992) : ∃ c, fArith .mul .f64 a b = some c ∧ isF c (x * y) := by
  obtain ⟨s, m, hm, rfl, rfl⟩ := ha
  obtain ⟨t, n, hn, rfl, rfl⟩ := hb
  obtain ⟨k, hk⟩ := read_W64 s hm
  obtain ⟨j, hj⟩ := read_W64 t hn
  have hmn : m * n < 9007199254740992 := by
    rw [sv_mul] at h
    unfold sv at h
    split at h <;> omega
  refine ⟨W64 (s ^^ t) (m * n), ?_, s ^^ t, m * n, hmn, rfl, sv_mul s t m n⟩
  show (((Ieee.double.read (W64 s m)).product (Ieee.double.read (W64 t n))).map Ieee.double.write) = _
  rw [hk, hj]
  unfold Ieee.Datum.product
  simp only [Option.map_some]
  refine congrArg some (write_isD ⟨k + j, ?_⟩ hmn)
  congr 1
  · rw [Nat.pow_add]; ac_rfl
  · omega
theorem word_neg (s : Bool) {r : Nat} (h : r < 9223372036854775808) : Ieee.double.word s r ^^^ 9223372036854775808 = Ieee.double.word (!s) r := by
  have e : (9223372036854775808 : Nat) = 2 ^ 63 := by decide
  have key : r ^^^ 2 ^ 63 = 2 ^ 63 + r := by
    rw [show 2 ^ 63 + r = 2 ^ 63 * 1 + r by omega, Nat.two_pow_add_eq_or_of_lt (by rw [← e]; exact h), Nat.mul_one]
    apply Nat.eq_of_testBit_eq
    intro i
    rw [Nat.testBit_xor, Nat.testBit_or, Nat.testBit_two_pow]
    by_cases hi : 63 = i
    · subst hi
      have : r.testBit 63 = false := Nat.testBit_lt_two_pow (by rw [← e]; exact h)
      simp [this]
    · simp [hi]
  unfold Ieee.Format.word
  rw [double_sign, e]
  cases s
  · simp [key]
  · simp only [Bool.not_true, if_true, Bool.false_eq_true, if_false]
    rw [← key, Nat.xor_assoc, Nat.xor_self, Nat.xor_zero]
theorem fneg_ok {a : Nat} {x : Int} (ha : isF a x) : isF (Op.negFloat .f64 a) (-x) := by
  obtain ⟨s, m, hm, rfl, rfl⟩ := ha
  refine ⟨!s, m, hm, ?_, (sv_not s m).symm⟩
  have e : Op.negFloat .f64 (W64 s m) = W64 s m ^^^ 9223372036854775808 := rfl
  rw [e]
  by_cases h0 : m = 0
  · subst h0
    have h : ∀ s, W64 s 0 = Ieee.double.word s 0 := fun s => by simp [W64, Ieee.Format.nearest]
    rw [h, h, word_neg s (by omega)]
  · have hl := log_lt h0 hm
    obtain ⟨b1, b2⟩ := kept_bounds h0 hm
    rw [W64_word s h0 hm, W64_word (!s) h0 hm, word_neg s (by omega)]
theorem f2i_ok {a : Nat} {x : Int} (ha : isF a x) : f2i .i64 a = some x := by
  obtain ⟨s, m, hm, rfl, rfl⟩ := ha
  obtain ⟨k, hk⟩ := read_W64 s hm
  unfold f2i
  have e : (FloatKind.f64.decode (W64 s m)).toInt .zero = some (sv s m) := by
    show (Ieee.double.read (W64 s m)).toInt .zero = _
    rw [hk]
    unfold Ieee.Datum.toInt Ieee.Datum.integral
    simp only []
    rw [show (-(k : Int)).toNat = 0 by omega, Nat.shiftLeft_zero, show (-(-(k : Int))).toNat = k by omega, cut_tz]
    unfold Ieee.signed sv; simp
  rw [e]
  have e1 : IntKind.i64.min = -9223372036854775808 := by decide
  have e2 : IntKind.i64.max = 9223372036854775807 := by decide
  simp only []
  rw [e1, e2, if_pos]
  unfold sv; split <;> omega
theorem cmul_ok {a b c d : Nat} {x y z w : Int} (ha : isF a x) (hb : isF b y) (hc : isF c z) (hd : isF d w) (h1 : (x * z).natAbs < 4503599627370496) (h2 : (y * w).natAbs < 4503599627370496) (h3 : (x * w).natAbs < 4503599627370496) (h4 : (y * z).natAbs < 4503599627370496) :
    ∃ r, cMul .f64 a b c d = some r ∧ isF r.1 (x * z - y * w) ∧ isF r.2 (x * w + y * z) := by
  obtain ⟨p, hp, ip⟩ := fmul_ok ha hc (by omega)
  obtain ⟨q, hq, iq⟩ := fmul_ok hb hd (by omega)
  obtain ⟨r, hr, ir⟩ := fmul_ok ha hd (by omega)
  obtain ⟨s, hs, is⟩ := fmul_ok hb hc (by omega)
  obtain ⟨u, hu, iu⟩ := fsub_ok ip iq (by omega)
  obtain ⟨v, hv, iv⟩ := fadd_ok ir is (by omega)
  exact ⟨(u, v), by unfold cMul; simp only [hp, hq, hr, hs, hu, hv], iu, iv⟩
theorem rt_eq (t : Int) : M.plane_right t = some (t % 4) := by
  have h1 := Int.tmod_lt_of_pos t (show (0 : Int) < 4 by omega)
  have h3 := Int.tmod_lt_of_pos (-t) (show (0 : Int) < 4 by omega)
  have h4 := Int.neg_tmod t 4
  unfold M.plane_right
  rw [w64_id (by omega) (by omega), Int.tmod_eq_emod_of_nonneg (by omega)]
  have h5 : Int.tmod t 4 = t % 4 ∨ Int.tmod t 4 = t % 4 - 4 := by
    rw [Int.tmod_eq_emod]
    split
    · left; omega
    · right; simp
  rcases h5 with h | h <;> rw [h] <;> congr 1 <;> omega

theorem then_eq (a b : Sym) : M.plane_Then a b = some ⟨((if b.Flip then - (a.Turn % 4) else a.Turn % 4) + b.Turn % 4) % 4, !(a.Flip == b.Flip)⟩ := by
  unfold M.plane_Then
  simp only [rt_eq, Option.bind_some]
  cases b.Flip with
  | true =>
    simp only [if_true, Option.bind_some]
    rw [w64_id (x := 0 - a.Turn % 4) (by omega) (by omega), w64_id (by omega) (by omega)]
    congr 2
    omega
  | false =>
    simp only [Bool.false_eq_true, if_false, Option.bind_some]
    rw [w64_id (by omega) (by omega)]

theorem isF_zero : isF 0 0 := ⟨false, 0, by omega, by decide, by decide⟩
theorem isF_one : isF 4607182418800017408 1 := ⟨false, 1, by omega, by decide, by decide⟩
theorem isF_mone : isF 13830554455654793216 (-1) := ⟨true, 1, by omega, by decide, by decide⟩
def fl (f : Bool) (R i : Nat) : Nat := if f then R - 1 - i else i
def tI (t R C i k : Nat) : Nat := if t = 0 then i else if t = 1 then C - 1 - k else if t = 2 then R - 1 - i else k
def tK (t R C i k : Nat) : Nat := if t = 0 then k else if t = 1 then i else if t = 2 then C - 1 - k else R - 1 - i
def sI (t R C i k : Nat) : Nat := if t = 0 then i else if t = 1 then k else if t = 2 then R - 1 - i else R - 1 - k
def sK (t R C i k : Nat) : Nat := if t = 0 then k else if t = 1 then C - 1 - i else if t = 2 then C - 1 - k else i
def tR (t R C : Nat) : Nat := if t % 2 = 1 then C else R
def tC (t R C : Nat) : Nat := if t % 2 = 1 then R else C
def cell (l : List Int) (C i k : Nat) : Int := (l[i * C + k]?).getD 0
/-- a matrix, turned. -/
def pA (f : Bool) (t R C : Nat) (l : List Int) : List Int := tab (tR t R C) (tC t R C) fun i k => cell l C (fl f R (sI t R C i k)) (sK t R C i k)
theorem tRC (t R C : Nat) : tR t R C * tC t R C = R * C := by unfold tR tC; split <;> simp [Nat.mul_comm]
theorem pA_len (f : Bool) (t R C : Nat) (l : List Int) : (pA f t R C l).length = R * C := by unfold pA; rw [tab_len, tRC]
theorem t_cases {t : Nat} (h : t < 4) : t = 0 ∨ t = 1 ∨ t = 2 ∨ t = 3 := by omega
theorem to_in {t R C i k : Nat} (f : Bool) (ht : t < 4) (hi : i < R) (hk : k < C) : tI t R C (fl f R i) k < tR t R C ∧ tK t R C (fl f R i) k < tC t R C := by
  rcases t_cases ht with rfl | rfl | rfl | rfl <;> cases f <;> simp [tI, tK, tR, tC, fl] <;> omega
theorem of_in {t R C i k : Nat} (f : Bool) (ht : t < 4) (hi : i < tR t R C) (hk : k < tC t R C) : fl f R (sI t R C i k) < R ∧ sK t R C i k < C ∧ tI t R C (fl f R (fl f R (sI t R C i k))) (sK t R C i k) = i ∧ tK t R C (fl f R (fl f R (sI t R C i k))) (sK t R C i k) = k := by
  rcases t_cases ht with rfl | rfl | rfl | rfl <;> cases f <;> simp [tI, tK, tR, tC, fl, sI, sK] at * <;> omega
theorem to_inj {t R C i k i' k' : Nat} (f : Bool) (ht : t < 4) (hi : i < R) (hk : k < C) (hi' : i' < R) (hk' : k' < C) (h1 : tI t R C (fl f R i) k = tI t R C (fl f R i') k') (h2 : tK t R C (fl f R i) k = tK t R C (fl f R i') k') : i = i' ∧ k = k' := by
  rcases t_cases ht with rfl | rfl | rfl | rfl <;> cases f <;> simp [tI, tK, fl] at h1 h2 <;> omega
theorem unit_ok (turn : Int) : ∃ u : Nat × Nat, M.plane_unit turn = some u ∧ ∃ t : Nat, t < 4 ∧ turn % 4 = t ∧ isF u.1 (if t = 0 then 1 else if t = 2 then -1 else 0) ∧ isF u.2 (if t = 1 then 1 else if t = 3 then -1 else 0) := by
  unfold M.plane_unit
  rw [rt_eq]
  have h0 := Int.emod_nonneg turn (show (4 : Int) ≠ 0 by omega)
  have h1 := Int.emod_lt_of_pos turn (show (0 : Int) < 4 by omega)
  have : turn % 4 = 0 ∨ turn % 4 = 1 ∨ turn % 4 = 2 ∨ turn % 4 = 3 := by omega
  rcases this with h | h | h | h <;> rw [h]
  · exact ⟨_, rfl, 0, by omega, rfl, isF_one, isF_zero⟩
  · exact ⟨_, rfl, 1, by omega, rfl, isF_zero, isF_one⟩
  · exact ⟨_, rfl, 2, by omega, rfl, isF_mone, isF_zero⟩
  · exact ⟨_, rfl, 3, by omega, rfl, isF_zero, isF_mone⟩
/-- where a place goes. -/
theorem to_ok {turn : Int} {f : Bool} {R C i k : Nat} (hR : R ≤ 10000) (hC : C ≤ 10000) (hi : i < R) (hk : k < C) : ∃ t : Nat, t < 4 ∧ turn % 4 = t ∧
    ((M.plane_place (R : Int) (C : Int) (i : Int) (k : Int)).bind fun r3 => (M.plane_Sym_takes ⟨turn, f⟩ (r3.1, r3.2)).bind fun r4 => M.plane_offset (tR t R C : Int) (tC t R C : Int) (r4.1, r4.2)) =
      some ((tI t R C (fl f R i) k * tC t R C + tK t R C (fl f R i) k : Nat) : Int) := by
  obtain ⟨u, hu, t, ht, htt, u1, u2⟩ := unit_ok turn
  refine ⟨t, ht, htt, ?_⟩
  unfold M.plane_place
  rw [w64_id (x := 2 * (k : Int)) (by omega) (by omega), w64_id (x := (C : Int) - 1) (by omega) (by omega), w64_id (x := (R : Int) - 1) (by omega) (by omega), w64_id (x := 2 * (i : Int)) (by omega) (by omega), w64_id (by omega) (by omega), w64_id (by omega) (by omega)]
  simp only [Option.bind_some]
  have z1 : isF (FloatKind.f64.nearest (2 * (k : Int) - ((C : Int) - 1))) (2 * (k : Int) - ((C : Int) - 1)) := isF_near (by omega)
  have z2 : isF (FloatKind.f64.nearest ((R : Int) - 1 - 2 * (i : Int))) ((R : Int) - 1 - 2 * (i : Int)) := isF_near (by omega)
  generalize FloatKind.f64.nearest (2 * (k : Int) - ((C : Int) - 1)) = a at z1
  generalize FloatKind.f64.nearest ((R : Int) - 1 - 2 * (i : Int)) = b at z2
  unfold M.plane_Sym_takes
  have hc : ∃ z : Nat × Nat, (if f = true then (M.plane_conjugate (a, b)).bind fun r1 => some r1 else some (a, b)) = some z ∧ isF z.1 (2 * (k : Int) - ((C : Int) - 1)) ∧ isF z.2 ((R : Int) - 1 - 2 * (fl f R i : Nat)) := by
    cases f with
    | false => exact ⟨_, rfl, z1, z2⟩
    | true =>
      refine ⟨_, rfl, z1, ?_⟩
      have := fneg_ok z2
      have e : (R : Int) - 1 - 2 * ((fl true R i : Nat) : Int) = -((R : Int) - 1 - 2 * (i : Int)) := by unfold fl; simp only [if_true]; omega
      rw [e]; exact this
  obtain ⟨z, hz, y1, y2⟩ := hc
  simp only [hz, hu, Option.bind_some]
  have hfl : fl f R i < R := by unfold fl; split <;> omega
  generalize fl f R i = j at y2 hfl ⊢
  obtain ⟨r, hr, r1, r2⟩ := cmul_ok u1 u2 y1 y2 (by split <;> (try split) <;> omega) (by split <;> (try split) <;> omega) (by split <;> (try split) <;> omega) (by split <;> (try split) <;> omega)
  rw [hr]
  unfold M.plane_offset
  simp only [Option.bind_some, f2i_ok r1, f2i_ok r2]
  have fin : ∀ (R' C' : Nat) (x y : Int) (i' k' : Nat), i' < R' → k' < C' → R' ≤ 10000 → C' ≤ 10000 → (R' : Int) - 1 - y = 2 * i' → x + C' - 1 = 2 * k' →
      some (IntKind.i64.wrap ((IntKind.i64.wrap ((IntKind.i64.wrap (Int.tdiv (IntKind.i64.wrap ((IntKind.i64.wrap ((R' : Int) - 1)) - y)) 2)) * (C' : Int))) + (IntKind.i64.wrap (Int.tdiv (IntKind.i64.wrap ((IntKind.i64.wrap (x + (C' : Int))) - 1)) 2)))) = some ((i' * C' + k' : Nat) : Int) := by
    intro R' C' x y i' k' hi' hk' hR' hC' e1 e2
    have hp : i' * C' ≤ 10000 * 10000 := Nat.mul_le_mul (by omega) hC'
    rw [w64_id (x := (R' : Int) - 1) (by omega) (by omega), w64_id (x := x + C') (by omega) (by omega), e1, e2, w64_id (x := 2 * (i' : Int)) (by omega) (by omega), w64_id (x := 2 * (k' : Int)) (by omega) (by omega),
      Int.mul_tdiv_cancel_left _ (by omega), Int.mul_tdiv_cancel_left _ (by omega), w64_id (x := (i' : Int)) (by omega) (by omega), w64_id (x := (k' : Int)) (by omega) (by omega),
      show (i' : Int) * (C' : Int) = ((i' * C' : Nat) : Int) by simp, w64_id (x := ((i' * C' : Nat) : Int)) (by omega) (by omega), w64_id (by omega) (by omega)]
    congr 1
  refine fin _ _ _ _ _ _ ?_ ?_ ?_ ?_ ?_ ?_
  all_goals (rcases t_cases ht with rfl | rfl | rfl | rfl <;> simp [tI, tK, tR, tC] <;> omega)
theorem plane_Apply_eq {v : Val} {turn : Int} {f : Bool} {R C : Nat} (hs : v.Shape = [(R : Int), (C : Int)]) (hr : vRight v = true) :
    ∃ t : Nat, t < 4 ∧ turn % 4 = t ∧ M.plane_Apply ⟨turn, f⟩ v = some (⟨v.Char, [(tR t R C : Int), (tC t R C : Int)], pA f t R C v.Data⟩, 0) := by
  obtain ⟨t, ht, htt⟩ : ∃ t : Nat, t < 4 ∧ turn % 4 = t := ⟨(turn % 4).toNat, by omega, by omega⟩
  refine ⟨t, ht, htt, ?_⟩
  obtain ⟨⟨_, hsb, hpb⟩, hp, _⟩ := vRight_iff.mp hr
  rw [hs] at hsb hpb hp
  have bR := hsb R (by simp)
  have bC := hsb C (by simp)
  have ep : prod [(R : Int), (C : Int)] = ((R * C : Nat) : Int) := by simp [prod]
  rw [ep] at hp hpb
  have hl : v.Data.length = R * C := by omega
  unfold M.plane_Apply
  rw [value_Right_eq (by omega), hr, rt_eq]
  simp only [Option.bind_some, Bool.not_true, Bool.false_eq_true, if_false, hs]
  rw [if_neg (by simp)]
  rw [show idx [(R : Int), (C : Int)] 0 = some (R : Int) from rfl, show idx [(R : Int), (C : Int)] 1 = some (C : Int) from rfl]
  simp only [Option.bind_some]
  rw [mk_ok (by omega) (by omega)]
  simp only [Option.bind_some, htt]
  have esh : (if (Int.tmod (t : Int) 2 == 1) = true then some [(C : Int), (R : Int)] else some [(R : Int), (C : Int)]) = some [(tR t R C : Int), (tC t R C : Int)] := by
    rcases t_cases ht with rfl | rfl | rfl | rfl <;> rfl
  rw [esh]
  simp only [Option.bind_some]
  have key := loop_up (f := M.plane_Apply_L1 ⟨turn, f⟩ v (R : Int) (C : Int) [(tR t R C : Int), (tC t R C : Int)]) (fun k (m : List Int) => ((k : Int), m)) R
    (fun k m => m.length = R * C ∧ ∀ a b, a < k → a < R → b < C → m[tI t R C (fl f R a) b * tC t R C + tK t R C (fl f R a) b]? = some (cell v.Data C a b)) (fun m => .next m) (List.replicate v.Data.length 0) ⟨by simp [hl], fun a b h => by omega⟩ (fun i m hi ⟨hm, hI⟩ => by
      have key2 := loop_up (f := M.plane_Apply_L2 ⟨turn, f⟩ v (R : Int) (C : Int) [(tR t R C : Int), (tC t R C : Int)] (i : Int)) (fun k (m : List Int) => ((k : Int), m)) C
        (fun k m => m.length = R * C ∧ ∀ a b, (a < i ∨ a = i ∧ b < k) → a < R → b < C → m[tI t R C (fl f R a) b * tC t R C + tK t R C (fl f R a) b]? = some (cell v.Data C a b)) (fun m => .next m) m ⟨hm, fun a b h => hI a b (by omega)⟩ (fun k m hk ⟨hm, hI⟩ => by
          obtain ⟨t', _, htt', e⟩ := to_ok (turn := turn) (f := f) (show R ≤ 10000 by omega) (show C ≤ 10000 by omega) hi hk
          obtain rfl : t' = t := by omega
          have hd1 := to_in f ht hi hk
          have hdl := lin_lt hd1.1 hd1.2
          rw [tRC] at hdl
          generalize hd : tI t' R C (fl f R i) k * tC t' R C + tK t' R C (fl f R i) k = d at e hdl
          have hsrc := lin_lt hi hk
          have hp2 : i * C ≤ 10000 * 10000 := Nat.mul_le_mul (by omega) (by omega)
          refine ⟨m.set d (cell v.Data C i k), ?_, by simp [hm], fun a b hab ha hb => ?_⟩
          · unfold M.plane_Apply_L2
            simp only [show decide ((k : Int) < (C : Int)) = true from decide_eq_true (by omega), if_true]
            rw [show idx [(tR t' R C : Int), (tC t' R C : Int)] 0 = some (tR t' R C : Int) from rfl, show idx [(tR t' R C : Int), (tC t' R C : Int)] 1 = some (tC t' R C : Int) from rfl]
            simp only [Option.bind_some]
            cases h3 : M.plane_place (R : Int) (C : Int) (i : Int) (k : Int) with
            | none => rw [h3] at e; cases e
            | some r3 =>
              rw [h3] at e
              simp only [Option.bind_some] at e ⊢
              cases h4 : M.plane_Sym_takes ⟨turn, f⟩ (r3.1, r3.2) with
              | none => rw [h4] at e; cases e
              | some r4 =>
                rw [h4] at e
                simp only [Option.bind_some] at e ⊢
                rw [e]
                simp only [Option.bind_some]
                rw [show (i : Int) * (C : Int) = ((i * C : Nat) : Int) by simp, w64_id (x := ((i * C : Nat) : Int)) (by omega) (by omega), w64_id (by omega) (by omega), show ((i * C : Nat) : Int) + (k : Int) = ((i * C + k : Nat) : Int) by omega, idx_get (show i * C + k < v.Data.length by omega), idx_get (show d < m.length by omega)]
                simp only [Option.bind_some]
                rw [upd_nat (by omega), w64_id (by omega) (by omega)]
                have : cell v.Data C i k = v.Data[i * C + k] := by unfold cell; rw [List.getElem?_eq_getElem (by omega)]; rfl
                rw [this]; rfl
          · by_cases hsame : a = i ∧ b = k
            · obtain ⟨rfl, rfl⟩ := hsame
              rw [hd, List.getElem?_set_self (by omega)]
            · rw [List.getElem?_set_ne (fun h => hsame ?_)]
              · exact hI a b (by omega) ha hb
              · have hab := to_in f ht ha hb
                rw [← hd] at h
                obtain ⟨q1, q2⟩ := lin_inj hd1.2 hab.2 h
                have := to_inj f ht hi hk ha hb q1 q2
                omega) (fun m _ => by unfold M.plane_Apply_L2; simp)
      obtain ⟨m', ⟨h1, h2⟩, h3⟩ := key2
      refine ⟨m', ?_, h1, fun a b h ha hb => h2 a b (by omega) ha hb⟩
      unfold M.plane_Apply_L1
      simp only [show decide ((i : Int) < (R : Int)) = true from decide_eq_true (by omega), if_true]
      rw [show ((0 : Int), m) = (((0 : Nat) : Int), m) from rfl, h3]
      simp only [Option.bind_some, joinK_next]
      rw [w64_id (by omega) (by omega)]; rfl) (fun m _ => by unfold M.plane_Apply_L1; simp)
  obtain ⟨m, ⟨h1, h2⟩, h3⟩ := key
  rw [show ((0 : Int), List.replicate v.Data.length (0 : Int)) = (((0 : Nat) : Int), List.replicate v.Data.length 0) from rfl, h3]
  simp only [Option.bind_some, joinK_next]
  have : m = pA f t R C v.Data := by
    refine tab_ext (by rw [h1, tRC]) (fun i k hi hk => ?_)
    obtain ⟨q1, q2, q3, q4⟩ := of_in f ht hi hk
    have := h2 _ _ q1 q1 q2
    rw [q3, q4] at this
    exact this
  rw [this]

theorem cell_tab {R C i k : Nat} (f : Nat → Nat → Int) (hi : i < R) (hk : k < C) : cell (tab R C f) C i k = f i k := by
  unfold cell; rw [tab_get f hi hk]; rfl
theorem tab_congr {R C : Nat} {f g : Nat → Nat → Int} (h : ∀ i k, i < R → k < C → f i k = g i k) : tab R C f = tab R C g :=
  tab_ext (tab_len R C f) fun i k hi hk => by rw [tab_get f hi hk, h i k hi hk]
/-- one behind the other. -/
theorem pA_comp {f g : Bool} {t u R C : Nat} (l : List Int) (ht : t < 4) (hu : u < 4) (w : Nat) (hw : w = (if g then 4 - t + u else t + u) % 4) :
    pA g u (tR t R C) (tC t R C) (pA f t R C l) = pA (!(f == g)) w R C l ∧ tR u (tR t R C) (tC t R C) = tR w R C ∧ tC u (tR t R C) (tC t R C) = tC w R C := by
  have h1 : tR u (tR t R C) (tC t R C) = tR w R C ∧ tC u (tR t R C) (tC t R C) = tC w R C := by
    subst hw
    rcases t_cases ht with rfl | rfl | rfl | rfl <;> rcases t_cases hu with rfl | rfl | rfl | rfl <;> cases g <;> exact ⟨rfl, rfl⟩
  refine ⟨?_, h1⟩
  unfold pA
  rw [h1.1, h1.2]
  refine tab_congr fun i k hi hk => ?_
  have hin := of_in g hu (R := tR t R C) (C := tC t R C) (i := i) (k := k) (by rw [h1.1]; exact hi) (by rw [h1.2]; exact hk)
  rw [cell_tab _ hin.1 hin.2.1]
  clear h1 hin
  have hw4 : w < 4 := by omega
  subst hw
  rcases t_cases ht with rfl | rfl | rfl | rfl <;> rcases t_cases hu with rfl | rfl | rfl | rfl <;> cases f <;> cases g <;> simp [sI, sK, tR, tC, fl] at * <;> (try (congr 1 <;> omega))
theorem cell_at {R C : Nat} {l : List Int} (hl : l.length = R * C) {i k : Nat} (hi : i < R) (hk : k < C) : l[i * C + k]? = some (cell l C i k) := by
  have := lin_lt hi hk
  unfold cell; rw [List.getElem?_eq_getElem (by omega)]; rfl
theorem pA_id {R C : Nat} {l : List Int} (hl : l.length = R * C) : pA false 0 R C l = l := by
  refine (tab_ext (by rw [tRC]; exact hl) fun i k hi hk => ?_).symm
  have hi' : i < R := hi
  have hk' : k < C := hk
  rw [show tC 0 R C = C from rfl, cell_at hl hi' hk']
  rfl
theorem pA_mem {f : Bool} {t R C : Nat} {l : List Int} (ht : t < 4) (hl : l.length = R * C) : ∀ x ∈ pA f t R C l, x ∈ l := by
  intro x hx
  unfold pA tab at hx
  rw [List.mem_map] at hx
  obtain ⟨p, hp, rfl⟩ := hx
  rw [List.mem_range] at hp
  have hc : 0 < tC t R C := by
    rcases Nat.eq_zero_or_pos (tC t R C) with h | h
    · rw [h] at hp; simp at hp
    · exact h
  have h1 : p / tC t R C < tR t R C := by rw [Nat.div_lt_iff_lt_mul hc]; exact hp
  obtain ⟨q1, q2, _, _⟩ := of_in f ht h1 (Nat.mod_lt p hc)
  exact List.mem_of_getElem? (cell_at hl q1 q2)
/-- a matrix that is right. -/
theorem mat_right {v : Val} {R C : Nat} (hs : v.Shape = [(R : Int), (C : Int)]) (hr : vRight v = true) : v.Data.length = R * C ∧ R ≤ 10000 ∧ C ≤ 10000 ∧ R * C ≤ 10000 := by
  obtain ⟨⟨_, hsb, hpb⟩, hp, _⟩ := vRight_iff.mp hr
  rw [hs] at hsb hpb hp
  have bR := hsb R (by simp)
  have bC := hsb C (by simp)
  have ep : prod [(R : Int), (C : Int)] = ((R * C : Nat) : Int) := by simp [prod]
  rw [ep] at hp hpb
  omega
theorem right_mat {v : Val} (hr : vRight v = true) (h2 : v.Shape.length = 2) : ∃ R C : Nat, v.Shape = [(R : Int), (C : Int)] := by
  obtain ⟨⟨_, hsb, hpb⟩, hp, _⟩ := vRight_iff.mp hr
  match h : v.Shape, h2 with
  | [a, b], _ =>
    rw [h] at hsb
    have b1 := hsb a (by simp)
    have b2 := hsb b (by simp)
    exact ⟨a.toNat, b.toNat, by rw [Int.toNat_of_nonneg b1.1, Int.toNat_of_nonneg b2.1]⟩
theorem pA_right {v : Val} {f : Bool} {t R C : Nat} (ht : t < 4) (hs : v.Shape = [(R : Int), (C : Int)]) (hr : vRight v = true) : vRight ⟨v.Char, [(tR t R C : Int), (tC t R C : Int)], pA f t R C v.Data⟩ = true := by
  obtain ⟨hl, bR, bC, bp⟩ := mat_right hs hr
  obtain ⟨_, _, hc⟩ := vRight_iff.mp hr
  have e1 : prod [(tR t R C : Int), (tC t R C : Int)] = ((R * C : Nat) : Int) := by rw [← tRC t R C]; simp [prod]
  refine vRight_iff.mpr ⟨⟨by simp, ?_, by rw [e1]; omega⟩, by rw [e1, pA_len], fun h c hcm => hc h c (pA_mem ht hl c hcm)⟩
  intro x hx
  have : x = (R : Int) ∨ x = (C : Int) := by
    rcases t_cases ht with rfl | rfl | rfl | rfl <;> simp [tR, tC] at hx <;> omega
  omega
theorem plane_Apply_bad {v : Val} {a : Sym} (hl : v.Data.length ≤ 1000000000) (hr : vRight v = false) : M.plane_Apply a v = some (⟨false, [], []⟩, 1) := by
  unfold M.plane_Apply
  rw [value_Right_eq (by omega), hr]; rfl
theorem plane_Apply_rank {v : Val} {a : Sym} (hr : vRight v = true) (h2 : v.Shape.length ≠ 2) : M.plane_Apply a v = some (⟨false, [], []⟩, 24) := by
  obtain ⟨⟨_, _, hpb⟩, hp, _⟩ := vRight_iff.mp hr
  unfold M.plane_Apply
  rw [value_Right_eq (by omega), hr]
  simp only [Option.bind_some, Bool.not_true, Bool.false_eq_true, if_false]
  rw [if_pos (by simp; omega)]
theorem off_app : ∀ {a p : List Int} {b q : List Int}, p.length = a.length → off (a ++ b) (p ++ q) = off a p * prod b + off b q
  | [], [], b, q, _ => by simp [off]
  | x :: a, y :: p, b, q, h => by
    simp only [List.cons_append, off]
    rw [off_app (by simpa using h), prod_append, Int.add_mul, Int.mul_assoc, Int.add_assoc]
  | [], _ :: _, _, _, h => by simp at h
  | _ :: _, [], _, _, h => by simp at h
theorem inShape_app : ∀ {a p b q : List Int}, inShape a p → inShape b q → inShape (a ++ b) (p ++ q)
  | [], [], _, _, _, h => h
  | _ :: _, _ :: _, _, _, ⟨h1, h2, h3⟩, h => ⟨h1, h2, inShape_app h3 h⟩
  | [], _ :: _, _, _, h, _ => h.elim
  | _ :: _, [], _, _, h, _ => h.elim
theorem at_axis : ∀ {s p : List Int} {x : Nat}, inShape s p → (hx : x < s.length) → ∃ p1 i p2, p = p1 ++ i :: p2 ∧ p1.length = x ∧ inShape (s.take x) p1 ∧ 0 ≤ i ∧ i < s[x] ∧ inShape (s.drop (x + 1)) p2
  | y :: s, a :: p, 0, ⟨h1, h2, h3⟩, _ => ⟨[], a, p, rfl, rfl, trivial, h1, h2, h3⟩
  | y :: s, a :: p, x + 1, ⟨h1, h2, h3⟩, hx => by
    obtain ⟨p1, i, p2, rfl, e, k1, k2, k3, k4⟩ := at_axis h3 (by simpa using hx : x < s.length)
    exact ⟨a :: p1, i, p2, rfl, by simp [e], ⟨h1, h2, k1⟩, k2, by simpa using k3, by simpa using k4⟩
  | [], _, _, _, hx => by simp at hx
  | _ :: _, [], _, h, _ => h.elim
theorem take_mid (s : List Int) {x : Nat} (hx : x < s.length) : s = s.take x ++ s[x] :: s.drop (x + 1) := by
  rw [← List.drop_eq_getElem_cons hx, List.take_append_drop]
theorem allPos_in {s p : List Int} (h : inShape s p) : allPos s := by
  induction s generalizing p with
  | nil => intro x hx; simp at hx
  | cons y s ih => cases p with
    | nil => exact h.elim
    | cons a p =>
      obtain ⟨h1, h2, h3⟩ := h
      intro x hx
      rcases List.mem_cons.mp hx with rfl | hx
      · omega
      · exact ih h3 x hx
/-- what an offset tells of a place, at an axis. -/
theorem off_axis {s p1 p2 : List Int} {x : Nat} {i : Int} (hx : x < s.length) (h1 : inShape (s.take x) p1) (hi : 0 ≤ i ∧ i < s[x]) (h2 : inShape (s.drop (x + 1)) p2) :
    off s (p1 ++ i :: p2) = (off (s.take x) p1 * s[x] + i) * prod (s.drop (x + 1)) + off (s.drop (x + 1)) p2 := by
  conv => lhs; rw [take_mid s hx]
  rw [off_app h1.len]
  simp only [off, prod]
  rw [Int.add_mul, Int.mul_assoc, Int.add_assoc]
theorem axis_facts {h n i B j k : Int} (hn : 0 ≤ i ∧ i < n) (hB : 0 ≤ j ∧ j < B) (hk : k = (h * n + i) * B + j) :
    k / B % n = i ∧ k / (n * B) = h ∧ k % B = j := by
  have e1 : k / B = h * n + i := by
    rw [hk, Int.add_comm, Int.add_mul_ediv_right _ _ (by omega), Int.ediv_eq_zero_of_lt hB.1 hB.2, Int.zero_add]
  refine ⟨?_, ?_, ?_⟩
  · rw [e1, Int.add_comm, Int.add_mul_emod_self_right, Int.emod_eq_of_lt hn.1 hn.2]
  · rw [Int.mul_comm, ← Int.ediv_ediv_of_nonneg (by omega : (0 : Int) ≤ B), e1, Int.add_comm, Int.add_mul_ediv_right _ _ (by omega), Int.ediv_eq_zero_of_lt hn.1 hn.2, Int.zero_add]
  · rw [hk, Int.add_comm, Int.add_mul_emod_self_right, Int.emod_eq_of_lt hB.1 hB.2]
/-- an array whose elements are those of another one, place by place. -/
def gat (b : Val) (s : List Int) (F : List Int → List Int) : Val :=
  ⟨b.Char, s, (List.range (prod s).toNat).map fun (k : Nat) => (b.Data[(off b.Shape (F (dig s k))).toNat]?).getD 0⟩
theorem gat_len (b : Val) (s : List Int) (F : List Int → List Int) : (gat b s F).Data.length = (prod s).toNat := by simp [gat]
theorem shOk_nonneg {s : List Int} (h : shOk s) : 0 ≤ prod s := prod_nonneg (fun x hx => (h.2.1 x hx).1)
theorem shOk_pos {s : List Int} (h : shOk s) (hp : 0 < prod s) : allPos s := allPos_of (fun x hx => (h.2.1 x hx).1) hp
theorem gat_congr {b : Val} {s : List Int} {F G : List Int → List Int} (hs : shOk s) (h : ∀ p, inShape s p → F p = G p) : gat b s F = gat b s G := by
  unfold gat
  congr 1
  apply List.map_congr_left
  intro k hk
  rw [List.mem_range] at hk
  rw [h _ (dig_in (shOk_pos hs (by omega)) (by omega) (by omega))]
theorem gat_id {b : Val} (hb : vRight b = true) : gat b b.Shape (fun p => p) = b := by
  obtain ⟨hs, hp, _⟩ := vRight_iff.mp hb
  obtain ⟨c, s, d⟩ := b
  simp only [gat] at *
  congr 1
  apply List.ext_getElem?
  intro k
  rw [List.getElem?_map]
  by_cases hk : k < d.length
  · rw [List.getElem?_range (by omega)]
    simp only [Option.map_some]
    rw [off_dig (shOk_pos hs (by omega)) (by omega) (by omega), Int.toNat_natCast, List.getElem?_eq_getElem hk]
    rfl
  · rw [List.getElem?_eq_none (by simp; omega), List.getElem?_eq_none (by omega)]; rfl
theorem gat_get {b : Val} {s p : List Int} {F : List Int → List Int} (h : inShape s p) : ((gat b s F).Data[(off s p).toNat]?).getD 0 = (b.Data[(off b.Shape (F p)).toNat]?).getD 0 := by
  have hr := off_range h
  simp only [gat]
  rw [List.getElem?_map, List.getElem?_range (by omega)]
  simp only [Option.map_some, Option.getD_some]
  rw [Int.toNat_of_nonneg hr.1, dig_off h]
theorem gat_gat {b : Val} {s t : List Int} {F G : List Int → List Int} (ht : shOk t) (hG : ∀ p, inShape t p → inShape s (G p)) : gat (gat b s F) t G = gat b t (fun p => F (G p)) := by
  have e : ∀ p, inShape t p → ((gat b s F).Data[(off s (G p)).toNat]?).getD 0 = (b.Data[(off b.Shape (F (G p))).toNat]?).getD 0 := fun p h => gat_get (hG p h)
  show Val.mk b.Char t _ = Val.mk b.Char t _
  congr 1
  apply List.map_congr_left
  intro k hk
  rw [List.mem_range] at hk
  exact e _ (dig_in (shOk_pos ht (by omega)) (by omega) (by omega))
theorem gat_mem {b : Val} {s : List Int} {F : List Int → List Int} (hb : vRight b = true) (hs : shOk s) (hF : ∀ p, inShape s p → inShape b.Shape (F p)) : ∀ x ∈ (gat b s F).Data, x ∈ b.Data := by
  obtain ⟨_, hp, _⟩ := vRight_iff.mp hb
  intro x hx
  simp only [gat] at hx
  rw [List.mem_map] at hx
  obtain ⟨k, hk, rfl⟩ := hx
  rw [List.mem_range] at hk
  have hr := off_range (hF _ (dig_in (k := (k : Int)) (shOk_pos hs (by omega)) (by omega) (by omega)))
  rw [List.getElem?_eq_getElem (by omega)]
  exact List.getElem_mem _
theorem gat_right {b : Val} {s : List Int} {F : List Int → List Int} (hb : vRight b = true) (hs : shOk s) (hF : ∀ p, inShape s p → inShape b.Shape (F p)) : vRight (gat b s F) = true := by
  refine vRight_iff.mpr ⟨hs, ?_, fun hc x hx => (vRight_iff.mp hb).2.2 hc x (gat_mem hb hs hF x hx)⟩
  rw [gat_len]
  have := shOk_nonneg hs
  show prod s = _
  omega
theorem set_mid' {p1 p2 : List Int} {i a : Int} : (p1 ++ i :: p2).set p1.length a = p1 ++ a :: p2 := by
  rw [List.set_append_right _ _ (by omega), Nat.sub_self, List.set_cons_zero]
theorem getD_mid {p1 p2 : List Int} {i : Int} : (p1 ++ i :: p2).getD p1.length 0 = i := by simp
def flipF (s : List Int) (x : Nat) (p : List Int) : List Int := p.set x (s.getD x 0 - 1 - p.getD x 0)
def rollF (s : List Int) (x : Nat) (b : Int → Int) (p : List Int) : List Int := p.set x ((p.getD x 0 + b (off (s.take x ++ s.drop (x + 1)) (p.take x ++ p.drop (x + 1)))) % s.getD x 0)
theorem flipF_nil (x : Nat) (s : List Int) : flipF s x [] = [] := by simp [flipF]
theorem rollF_nil (x : Nat) (s : List Int) (b : Int → Int) : rollF s x b [] = [] := by simp [rollF]
theorem flipF_mid {s p1 p2 : List Int} {i : Int} {x : Nat} (hx : x < s.length) (e : p1.length = x) : flipF s x (p1 ++ i :: p2) = p1 ++ (s[x] - 1 - i) :: p2 := by
  subst e
  unfold flipF
  rw [getD_mid, set_mid', List.getD_eq_getElem?_getD, List.getElem?_eq_getElem hx]; rfl
theorem rollF_mid {s p1 p2 : List Int} {i : Int} {x : Nat} {b : Int → Int} (hx : x < s.length) (e : p1.length = x) :
    rollF s x b (p1 ++ i :: p2) = p1 ++ ((i + b (off (s.take x ++ s.drop (x + 1)) (p1 ++ p2))) % s[x]) :: p2 := by
  subst e
  unfold rollF
  rw [getD_mid, set_mid', List.getD_eq_getElem?_getD, List.getElem?_eq_getElem hx]
  simp
theorem inShape_mid {s p1 p2 : List Int} {i : Int} {x : Nat} (hx : x < s.length) (h1 : inShape (s.take x) p1) (hi : 0 ≤ i ∧ i < s[x]) (h2 : inShape (s.drop (x + 1)) p2) : inShape s (p1 ++ i :: p2) := by
  rw [take_mid s hx]
  exact inShape_app h1 ⟨hi.1, hi.2, h2⟩
theorem flipF_in {s p : List Int} {x : Nat} (hx : x < s.length) (h : inShape s p) : inShape s (flipF s x p) := by
  obtain ⟨p1, i, p2, rfl, e, h1, h2, h3, h4⟩ := at_axis h hx
  rw [flipF_mid hx e]
  exact inShape_mid hx h1 ⟨by omega, by omega⟩ h4
theorem rollF_in {s p : List Int} {x : Nat} {b : Int → Int} (hx : x < s.length) (h : inShape s p) : inShape s (rollF s x b p) := by
  obtain ⟨p1, i, p2, rfl, e, h1, h2, h3, h4⟩ := at_axis h hx
  rw [rollF_mid hx e]
  exact inShape_mid hx h1 ⟨Int.emod_nonneg _ (by omega), Int.emod_lt_of_pos _ (by omega)⟩ h4
theorem flip_flip {s p : List Int} {x : Nat} (hx : x < s.length) (h : inShape s p) : flipF s x (flipF s x p) = p := by
  obtain ⟨p1, i, p2, rfl, e, h1, h2, h3, h4⟩ := at_axis h hx
  rw [flipF_mid hx e, flipF_mid hx e]
  congr 2
  omega
theorem roll_roll {s p : List Int} {x : Nat} {m n : Int} (hx : x < s.length) (h : inShape s p) : rollF s x (fun _ => m) (rollF s x (fun _ => n) p) = rollF s x (fun _ => n + m) p := by
  obtain ⟨p1, i, p2, rfl, e, h1, h2, h3, h4⟩ := at_axis h hx
  rw [rollF_mid hx e, rollF_mid hx e, rollF_mid hx e]
  congr 2
  rw [Int.emod_add_emod, Int.add_assoc]
theorem roll_zero {s p : List Int} {x : Nat} (hx : x < s.length) (h : inShape s p) : rollF s x (fun _ => 0) p = p := by
  obtain ⟨p1, i, p2, rfl, e, h1, h2, h3, h4⟩ := at_axis h hx
  rw [rollF_mid hx e]
  congr 2
  rw [Int.add_zero, Int.emod_eq_of_lt h2 h3]
theorem inShape_rev : ∀ {s p : List Int}, inShape s p → inShape s.reverse p.reverse
  | [], [], _ => trivial
  | x :: s, a :: p, ⟨h1, h2, h3⟩ => by
    rw [List.reverse_cons, List.reverse_cons]
    exact inShape_app (inShape_rev h3) ⟨h1, h2, trivial⟩
  | [], _ :: _, h => h.elim
  | _ :: _, [], h => h.elim
theorem prod_rev (s : List Int) : prod s.reverse = prod s := by
  induction s with
  | nil => rfl
  | cons x s ih => rw [List.reverse_cons, prod_append, ih]; simp [prod, Int.mul_comm]
theorem shOk_rev {s : List Int} (h : shOk s) : shOk s.reverse := ⟨by rw [List.length_reverse]; exact h.1, fun x hx => h.2.1 x (List.mem_reverse.mp hx), by rw [prod_rev]; exact h.2.2⟩
theorem clone_int_eq' {s : List Int} (h : s.length ≤ 1000000000) : M.slices_Clone__int s = some s := by
  unfold M.slices_Clone__int
  rw [app_ok (by simp; omega)]; rfl
theorem fill_step {D : List Int} {k n : Nat} {z : Int} (hk : k < n) (hn : D.length = n) : (D.take k ++ List.replicate (n - k) z).set k (D[k]'(by omega)) = D.take (k + 1) ++ List.replicate (n - (k + 1)) z := by
  have hl : (D.take k).length = k := by rw [List.length_take]; omega
  rw [List.set_append_right _ _ (by omega), hl, Nat.sub_self, show n - k = (n - (k + 1)) + 1 by omega, List.replicate_succ, List.set_cons_zero, List.take_succ_eq_append_getElem (by omega), List.append_assoc]
  rfl
theorem moved_gat {b : Val} {s : List Int} {F : List Int → List Int} {from1 : Int → Option Int} (hb : vRight b = true) (hs : shOk s) (hp : prod s = b.Data.length) (hF : ∀ p, inShape s p → inShape b.Shape (F p))
    (hf : ∀ p, inShape s p → from1 (off s p) = some (off b.Shape (F p))) : M.turn_moved b s from1 = some (gat b s F) := by
  obtain ⟨hbs, hbp, _⟩ := vRight_iff.mp hb
  have hb4 := hbs.2.2
  unfold M.turn_moved
  rw [clone_int_eq' (by have := hs.1; omega)]
  simp only [Option.bind_some]
  rw [mk_ok (by omega) (by omega)]
  simp only [Option.bind_some]
  have hgl : (gat b s F).Data.length = b.Data.length := by rw [gat_len]; omega
  have key := loop_fun (f := M.turn_moved_L1 b from1 (List.replicate b.Data.length 0)) (fun k => ((k : Int), (gat b s F).Data.take k ++ List.replicate (b.Data.length - k) 0)) b.Data.length (b := .next (gat b s F).Data) (fun k hk => by
    unfold M.turn_moved_L1
    simp only [List.length_replicate]
    simp only [show decide ((k : Int) < (b.Data.length : Int)) = true from decide_eq_true (by omega), if_true]
    have hin := dig_in (k := (k : Int)) (shOk_pos hs (by omega)) (by omega) (by omega)
    have hfk := hf _ hin
    rw [off_dig (shOk_pos hs (by omega)) (by omega) (by omega)] at hfk
    rw [hfk]
    simp only [Option.bind_some]
    have hr := off_range (hF _ hin)
    obtain ⟨m, hm⟩ := Int.eq_ofNat_of_zero_le hr.1
    rw [hm]
    have hml : m < b.Data.length := by omega
    have hkl : k < ((gat b s F).Data.take k ++ List.replicate (b.Data.length - k) 0).length := by simp; omega
    rw [idx_get hml, idx_get hkl]
    simp only [Option.bind_some]
    rw [upd_nat hkl, w64_id (by omega) (by omega)]
    simp only [Option.bind_some]
    have he : b.Data[m] = (gat b s F).Data[k]'(by omega) := by
      simp only [gat, List.getElem_map, List.getElem_range]
      rw [hm, Int.toNat_natCast, List.getElem?_eq_getElem hml]
      rfl
    rw [he, fill_step hk hgl]
    rfl) (by
    unfold M.turn_moved_L1
    simp only [List.length_replicate]
    simp only [show decide ((b.Data.length : Int) < (b.Data.length : Int)) = false from decide_eq_false (by omega), Bool.false_eq_true, if_false]
    rw [Nat.sub_self, List.take_of_length_le (by omega)]
    simp)
  rw [show ((0 : Int), List.replicate b.Data.length (0 : Int)) = (((0 : Nat) : Int), (gat b s F).Data.take 0 ++ List.replicate (b.Data.length - 0) 0) by simp, key]
  rfl
theorem axis_bounds {s : List Int} {x : Nat} (hs : shOk s) (hx : x < s.length) : 0 ≤ s[x] ∧ s[x] ≤ 10000 ∧ 0 ≤ prod (s.drop (x + 1)) ∧ prod (s.drop (x + 1)) ≤ 1000000000000 := by
  have h1 := hs.2.1 _ (List.getElem_mem hx)
  have h2 := prod_bound (s.drop (x + 1)) 3 (by have := hs.1; simp; omega) (fun y hy => hs.2.1 y (List.mem_of_mem_drop hy))
  have e : (10000 : Int) ^ 3 = 1000000000000 := by decide
  omega
theorem splitOf_eq {s : List Int} {x : Nat} (hs : shOk s) (hx : x < s.length) : splitOf s (x : Int) = (prod (s.take x), s[x], prod (s.drop (x + 1)), true) := by
  unfold splitOf
  rw [dif_pos ⟨hs, by omega, by omega⟩]
  simp
theorem mul_abs {a B m n : Int} (ha : -m ≤ a ∧ a ≤ m) (hB : 0 ≤ B ∧ B ≤ n) (hm : 0 ≤ m) : -(m * n) ≤ a * B ∧ a * B ≤ m * n := by
  have h1 : a * B ≤ m * B := Int.mul_le_mul_of_nonneg_right ha.2 hB.1
  have h2 : m * B ≤ m * n := Int.mul_le_mul_of_nonneg_left hB.2 hm
  have h3 : -m * B ≤ a * B := Int.mul_le_mul_of_nonneg_right ha.1 hB.1
  rw [Int.neg_mul] at h3
  omega
theorem flipped_1_eq {k h n i B j : Int} (hn : 0 ≤ i ∧ i < n) (hn1 : n ≤ 10000) (hB : 0 ≤ j ∧ j < B) (hB1 : B ≤ 1000000000000) (hk : k = (h * n + i) * B + j) (hk0 : 0 ≤ k) (hk1 : k ≤ 1000000000000000000) :
    M.turn_flipped_1 k B n = some ((h * n + (n - 1 - i)) * B + j) := by
  obtain ⟨f1, f2, f3⟩ := axis_facts hn hB hk
  unfold M.turn_flipped_1 quoI remI
  have z1 : ¬ B = 0 := by omega
  have z2 : ¬ n = 0 := by omega
  have hq : 0 ≤ k / B := Int.ediv_nonneg hk0 (by omega)
  have hq2 : k / B ≤ k := Int.ediv_le_self _ hk0
  simp only [if_neg z1, if_neg z2, Option.bind_some, Int.tdiv_eq_ediv_of_nonneg hk0]
  rw [w64_id (x := k / B) (by omega) (by omega), Int.tmod_eq_emod_of_nonneg hq, f1]
  have hb := mul_abs (a := n - 1 - 2 * i) (B := B) (m := 10000) (n := 1000000000000) (by omega) (by omega) (by omega)
  have e1 : (h * n + (n - 1 - i)) * B + j = k + (n - 1 - 2 * i) * B := by
    rw [hk, Int.add_right_comm, ← Int.add_mul]; congr 2; omega
  rw [w64_id (x := n - 1) (by omega) (by omega), w64_id (x := 2 * i) (by omega) (by omega), w64_id (x := n - 1 - 2 * i) (by omega) (by omega), e1]
  generalize (n - 1 - 2 * i) * B = z at *
  rw [w64_id (x := z) (by omega) (by omega), w64_id (by omega) (by omega)]
theorem flipped_eq {b : Val} {x : Nat} (hb : vRight b = true) (hx : x < b.Shape.length) : M.turn_flipped b (x : Int) = some (gat b b.Shape (flipF b.Shape x)) := by
  obtain ⟨hs, hp, _⟩ := vRight_iff.mp hb
  have h4 := hs.1
  unfold M.turn_flipped
  rw [shape_Split_eq (by simp only [maxLen]; omega) (by omega), splitOf_eq hs hx]
  simp only [Option.bind_some]
  obtain ⟨b1, b2, b3, b4⟩ := axis_bounds hs hx
  rw [moved_gat hb hs hp (fun p h => flipF_in hx h) (fun p h => by
    have hr := off_range h
    have hpr := hs.2.2
    obtain ⟨p1, i, p2, rfl, e, h1, h2, h3, h5⟩ := at_axis h hx
    have hj := off_range h5
    have e1 := off_axis hx h1 ⟨h2, h3⟩ h5
    rw [flipF_mid hx e, off_axis hx h1 (i := b.Shape[x] - 1 - i) ⟨by omega, by omega⟩ h5]
    exact flipped_1_eq ⟨h2, h3⟩ b2 hj b4 e1 hr.1 (by omega))]
  rfl
def upI (n : Nat) : List Int := (List.range n).map fun (k : Nat) => (k : Int)
theorem upI_succ (n : Nat) : upI (n + 1) = upI n ++ [(n : Int)] := by simp [upI, List.range_succ]
theorem upI_len (n : Nat) : (upI n).length = n := by simp [upI]
theorem upI_mem {n : Nat} {x : Int} : x ∈ upI n ↔ 0 ≤ x ∧ x < n := by
  unfold upI
  rw [List.mem_map]
  constructor
  · rintro ⟨k, hk, rfl⟩
    rw [List.mem_range] at hk
    omega
  · intro h
    exact ⟨x.toNat, List.mem_range.mpr (by omega), by omega⟩
theorem nodup_le : ∀ (n : Nat) (l : List Int), l.Nodup → (∀ x ∈ l, 0 ≤ x ∧ x < n) → l.length ≤ n
  | 0, [], _, _ => Nat.le_refl _
  | 0, x :: l, _, h => by have := h x (List.mem_cons_self ..); omega
  | n + 1, l, hn, h => by
    by_cases hm : (n : Int) ∈ l
    · have h1 := nodup_le n (l.erase (n : Int)) (hn.erase _) (fun x hx => by
        have h2 := h x (List.mem_of_mem_erase hx)
        have h3 : x ≠ (n : Int) := fun e => by subst e; exact (List.Nodup.not_mem_erase hn) hx
        omega)
      rw [List.length_erase_of_mem hm] at h1
      omega
    · have h1 := nodup_le n l hn (fun x hx => by
        have h2 := h x hx
        have h3 : x ≠ (n : Int) := fun e => hm (e ▸ hx)
        omega)
      omega
theorem nodup_perm : ∀ (n : Nat) (l : List Int), l.Nodup → (∀ x ∈ l, 0 ≤ x ∧ x < n) → l.length = n → l.Perm (upI n)
  | 0, [], _, _, _ => List.Perm.refl _
  | 0, x :: l, _, _, h => by simp at h
  | n + 1, l, hn, h, hl => by
    by_cases hm : (n : Int) ∈ l
    · have h1 := nodup_perm n (l.erase (n : Int)) (hn.erase _) (fun x hx => by
        have h2 := h x (List.mem_of_mem_erase hx)
        have h3 : x ≠ (n : Int) := fun e => by subst e; exact (List.Nodup.not_mem_erase hn) hx
        omega) (by rw [List.length_erase_of_mem hm]; omega)
      have h2 := List.perm_cons_erase hm
      rw [upI_succ]
      exact h2.trans ((List.Perm.cons _ h1).trans (List.perm_append_comm (l₁ := [(n : Int)])))
    · have h1 := nodup_le n l hn (fun x hx => by
        have h2 := h x hx
        have h3 : x ≠ (n : Int) := fun e => hm (e ▸ hx)
        omega)
      omega
theorem prod_perm {a b : List Int} (h : a.Perm b) : prod a = prod b := by
  induction h with
  | nil => rfl
  | cons x _ ih => simp [prod, ih]
  | swap x y l => simp only [prod]; rw [← Int.mul_assoc, ← Int.mul_assoc, Int.mul_comm x y]
  | trans _ _ h1 h2 => exact h1.trans h2
theorem shOk_perm {a b : List Int} (h : a.Perm b) (ha : shOk a) : shOk b := ⟨by rw [← h.length_eq]; exact ha.1, fun x hx => ha.2.1 x (h.symm.subset hx), by rw [← prod_perm h]; exact ha.2.2⟩
/-- a list's numbers, taken by another one's. -/
def permF (to : List Int) (p : List Int) : List Int := to.map fun q => p.getD q.toNat 0
theorem permF_len (to p : List Int) : (permF to p).length = to.length := by simp [permF]
theorem permF_get {to p : List Int} {m : Nat} (h : m < to.length) : (permF to p)[m]'(by rw [permF_len]; exact h) = p.getD to[m].toNat 0 := by simp [permF]
theorem upI_getD (s : List Int) : (upI s.length).map (fun q => s.getD q.toNat 0) = s := by
  apply List.ext_getElem?
  intro i
  unfold upI
  rw [List.map_map, List.getElem?_map]
  by_cases h : i < s.length
  · rw [List.getElem?_range h]
    simp [List.getElem?_eq_getElem h]
  · rw [List.getElem?_eq_none (by simp; omega), List.getElem?_eq_none (by omega)]; rfl
structure IsPerm (to : List Int) (n : Nat) : Prop where
  nd : to.Nodup
  rg : ∀ x ∈ to, 0 ≤ x ∧ x < n
  ln : to.length = n
theorem IsPerm.perm {to s : List Int} {n : Nat} (h : IsPerm to n) (hs : s.length = n) : (permF to s).Perm s := by
  have h1 := (nodup_perm n to h.nd h.rg h.ln).map (fun q => s.getD q.toNat 0)
  have h2 := upI_getD s
  rw [hs] at h2
  rw [h2] at h1
  exact h1
theorem IsPerm.mem {to : List Int} {n j : Nat} (h : IsPerm to n) (hj : j < n) : ∃ m, ∃ hm : m < to.length, to[m] = (j : Int) := by
  have : (j : Int) ∈ to := (nodup_perm n to h.nd h.rg h.ln).symm.subset (upI_mem.mpr ⟨by omega, by omega⟩)
  obtain ⟨m, hm, e⟩ := List.getElem_of_mem this
  exact ⟨m, hm, e⟩
theorem inShape_of_get : ∀ {s p : List Int}, p.length = s.length → (∀ i (h : i < s.length) (h' : i < p.length), 0 ≤ p[i] ∧ p[i] < s[i]) → inShape s p
  | [], [], _, _ => trivial
  | x :: s, a :: p, hl, h => by
    have h0 := h 0 (by simp) (by simp)
    refine ⟨h0.1, h0.2, inShape_of_get (by simpa using hl) fun i h1 h2 => ?_⟩
    have := h (i + 1) (by simpa using h1) (by simpa using h2)
    simpa only [List.getElem_cons_succ] using this
  | [], _ :: _, hl, _ => by simp at hl
  | _ :: _, [], hl, _ => by simp at hl
theorem inShape_at : ∀ {s p : List Int} {i : Nat}, inShape s p → ∀ (h : i < s.length) (h' : i < p.length), 0 ≤ p[i] ∧ p[i] < s[i]
  | x :: s, a :: p, 0, ⟨h1, h2, _⟩, _, _ => ⟨h1, h2⟩
  | x :: s, a :: p, i + 1, ⟨_, _, h3⟩, h, h' => by simpa using inShape_at h3 (by simpa using h) (by simpa using h')
  | [], _, _, _, h, _ => by simp at h
  | _ :: _, [], _, h, _, _ => h.elim
theorem permF_in {to s p : List Int} {n : Nat} (h : IsPerm to n) (hs : s.length = n) (hp : inShape s p) : inShape (permF to s) (permF to p) := by
  refine inShape_of_get (by rw [permF_len, permF_len]) fun i h1 h2 => ?_
  rw [permF_len] at h1
  rw [permF_get h1, permF_get h1]
  have hr := h.rg _ (List.getElem_mem h1)
  have hpl := hp.len
  rw [List.getD_eq_getElem?_getD, List.getD_eq_getElem?_getD, List.getElem?_eq_getElem (by omega), List.getElem?_eq_getElem (by omega)]
  exact inShape_at hp (by omega) (by omega)
theorem permuted_eq {b : Val} {to s : List Int} (hb : vRight b = true) (h : IsPerm to b.Shape.length) (hsl : s.length = b.Shape.length) (hs : permF to s = b.Shape) :
    M.turn_permuted b to = some (gat b s (permF to)) := by
  obtain ⟨hok, hp, _⟩ := vRight_iff.mp hb
  have h4 := hok.1
  have hln := h.ln
  have hpm := h.perm hsl
  rw [hs] at hpm
  have hsok := shOk_perm hpm hok
  have hgetS : ∀ m (hm : m < to.length), s.getD to[m].toNat 0 = b.Shape[m]'(by omega) := fun m hm => by
    have e := permF_get (p := s) hm
    simp only [hs] at e
    exact e.symm
  unfold M.turn_permuted
  rw [mk_ok (by omega) (by omega)]
  simp only [Option.bind_some]
  obtain ⟨l, ⟨hll, hI⟩, hlo⟩ := loop_up (f := M.turn_permuted_L1 b to) (fun k (l : List Int) => ((k : Int), l)) to.length
    (fun k l => l.length = to.length ∧ ∀ m (hm : m < to.length), m < k → l.getD to[m].toNat 0 = b.Shape[m]'(by omega)) (fun l => .next l) (List.replicate to.length 0) ⟨by simp, fun m hm h => by omega⟩ (fun k l hk hI => by
      obtain ⟨hll, hI⟩ := hI
      unfold M.turn_permuted_L1
      simp only [show decide ((k : Int) < (to.length : Int)) = true from decide_eq_true (by omega), if_true]
      rw [idx_get hk, idx_get (show k < b.Shape.length by omega)]
      simp only [Option.bind_some]
      have hr := h.rg _ (List.getElem_mem hk)
      obtain ⟨j, hj⟩ := Int.eq_ofNat_of_zero_le hr.1
      rw [hj, idx_get (show j < l.length by omega)]
      simp only [Option.bind_some]
      rw [upd_nat (show j < l.length by omega), w64_id (by omega) (by omega)]
      refine ⟨l.set j (b.Shape[k]'(by omega)), rfl, by simpa using hll, fun m hm hmk => ?_⟩
      have hrm := h.rg _ (List.getElem_mem hm)
      by_cases hmk2 : m = k
      · subst hmk2
        rw [hj, Int.toNat_natCast, List.getD_eq_getElem?_getD, List.getElem?_set_self (by omega)]; rfl
      · have hne : to[m] ≠ to[k] := List.pairwise_iff_getElem.mp h.nd m k hm hk (by omega)
        rw [List.getD_eq_getElem?_getD, List.getElem?_set_ne (by omega), ← List.getD_eq_getElem?_getD]
        exact hI m hm (by omega)) (fun l hI => by
      unfold M.turn_permuted_L1
      simp)
  rw [show ((0 : Int), List.replicate to.length (0 : Int)) = (((0 : Nat) : Int), List.replicate to.length 0) from rfl, hlo]
  simp only [Option.bind_some, joinK_next]
  obtain rfl : l = s := by
    apply List.ext_getElem (by omega)
    intro j h1 h2
    obtain ⟨m, hm, e⟩ := h.mem (show j < b.Shape.length by omega)
    have a1 := hI m hm hm
    have a2 := hgetS m hm
    rw [e, Int.toNat_natCast, List.getD_eq_getElem?_getD, List.getElem?_eq_getElem h1] at a1
    rw [e, Int.toNat_natCast, List.getD_eq_getElem?_getD, List.getElem?_eq_getElem h2] at a2
    simp only [Option.getD_some] at a1 a2
    rw [a1, a2]
  have hF : ∀ p, inShape l p → inShape b.Shape (permF to p) := fun p hp => by
    have := permF_in h hsl hp
    rw [hs] at this
    exact this
  rw [moved_gat hb hsok (by rw [← prod_perm hpm]; exact hp) hF (fun p hip => by
    have hr := off_range hip
    have hr3 := hsok.2.2
    unfold M.turn_permuted_1
    rw [shape_At_eq (by simp only [maxLen]; omega) ⟨by omega, by omega⟩, if_pos ⟨hsok, hr.1, hr.2⟩, dig_off hip]
    simp only [Option.bind_some]
    rw [mk_ok (by omega) (by omega)]
    simp only [Option.bind_some]
    have hpl := hip.len
    have key := loop_fun (f := M.turn_permuted_1_L1 to p) (fun k => ((k : Int), (permF to p).take k ++ List.replicate (to.length - k) 0)) to.length (b := .next (permF to p)) (fun k hk => by
      unfold M.turn_permuted_1_L1
      simp only [show decide ((k : Int) < (to.length : Int)) = true from decide_eq_true (by omega), if_true]
      rw [idx_get hk]
      simp only [Option.bind_some]
      have hrk := h.rg _ (List.getElem_mem hk)
      obtain ⟨j, hj⟩ := Int.eq_ofNat_of_zero_le hrk.1
      have hkl : k < ((permF to p).take k ++ List.replicate (to.length - k) 0).length := by simp [permF_len]; omega
      rw [hj, idx_get (show j < p.length by omega), idx_get hkl]
      simp only [Option.bind_some]
      rw [upd_nat hkl, w64_id (by omega) (by omega)]
      simp only [Option.bind_some]
      have e := permF_get (p := p) hk
      rw [hj, Int.toNat_natCast, List.getD_eq_getElem?_getD, List.getElem?_eq_getElem (show j < p.length by omega)] at e
      simp only [Option.getD_some] at e
      rw [← e, fill_step hk (permF_len to p)]
      rfl) (by
      unfold M.turn_permuted_1_L1
      simp only [show decide ((to.length : Int) < (to.length : Int)) = false from decide_eq_false (by omega), Bool.false_eq_true, if_false]
      rw [Nat.sub_self, List.take_of_length_le (by rw [permF_len]; exact Nat.le_refl _)]
      simp)
    rw [show ((0 : Int), List.replicate to.length (0 : Int)) = (((0 : Nat) : Int), (permF to p).take 0 ++ List.replicate (to.length - 0) 0) by simp, key]
    simp only [Option.bind_some, joinK_next]
    rw [shape_Offset_eq (by simp only [maxLen]; omega) (by rw [permF_len]; simp only [maxLen]; omega), if_pos ⟨hok, hF p hip⟩]
    rfl)]
  rfl
theorem of_back : M.plane_Of str_226_140_189 = some (⟨2, true⟩, true) := by
  unfold M.plane_Of
  simp only [ByteArray.toList_eq]; rfl
theorem of_down : M.plane_Of str_226_138_150 = some (⟨0, true⟩, true) := by
  unfold M.plane_Of
  simp only [ByteArray.toList_eq]; rfl
theorem of_over : M.plane_Of str_226_141_137 = some (⟨3, true⟩, true) := by
  unfold M.plane_Of
  simp only [ByteArray.toList_eq]; rfl
theorem gat_at {b : Val} {s p : List Int} {F : List Int → List Int} (h : inShape s p) : (gat b s F).Data[(off s p).toNat]? = some ((b.Data[(off b.Shape (F p)).toNat]?).getD 0) := by
  have hr := off_range h
  simp only [gat]
  rw [List.getElem?_map, List.getElem?_range (by omega)]
  simp only [Option.map_some]
  rw [Int.toNat_of_nonneg hr.1, dig_off h]
theorem off2 (C a : Int) (i : Int) (k : Int) : off [a, C] [i, k] = i * C + k := by simp [off, prod]
theorem gat_tab {b : Val} {F : List Int → List Int} {R C R' C' : Nat} {f : Nat → Nat → Nat × Nat} (hs : b.Shape = [(R : Int), (C : Int)])
    (hf : ∀ i k : Nat, i < R' → k < C' → F [(i : Int), (k : Int)] = [((f i k).1 : Int), ((f i k).2 : Int)]) :
    (gat b [(R' : Int), (C' : Int)] F).Data = tab R' C' fun i k => cell b.Data C (f i k).1 (f i k).2 := by
  apply tab_ext
  · rw [gat_len]
    have : prod [(R' : Int), (C' : Int)] = ((R' * C' : Nat) : Int) := by simp [prod]
    rw [this, Int.toNat_natCast]
  · intro i k hi hk
    have hin : inShape [(R' : Int), (C' : Int)] [(i : Int), (k : Int)] := ⟨by omega, by omega, by omega, by omega, trivial⟩
    have := gat_at (b := b) (F := F) hin
    rw [off2, hf i k hi hk, hs, off2] at this
    have e1 : ((i : Int) * (C' : Int) + (k : Int)).toNat = i * C' + k := by
      rw [← Int.natCast_mul, ← Int.natCast_add, Int.toNat_natCast]
    have e2 : (((f i k).1 : Int) * (C : Int) + ((f i k).2 : Int)).toNat = (f i k).1 * C + (f i k).2 := by
      rw [← Int.natCast_mul, ← Int.natCast_add, Int.toNat_natCast]
    rw [e1, e2] at this
    exact this
theorem matrix_back {b : Val} (hb : vRight b = true) (h2 : b.Shape.length = 2) : M.turn_matrix b str_226_140_189 = some (gat b b.Shape (flipF b.Shape 1), 0) := by
  obtain ⟨R, C, hs⟩ := right_mat hb h2
  obtain ⟨t, ht, htt, e⟩ := plane_Apply_eq (turn := 2) (f := true) hs hb
  obtain rfl : t = 2 := by omega
  unfold M.turn_matrix
  rw [of_back]
  simp only [Option.bind_some]
  rw [e]
  simp only [Option.bind_some]
  have := gat_tab (b := b) (F := flipF b.Shape 1) (R := R) (C := C) (R' := R) (C' := C) (f := fun i k => (i, C - 1 - k)) hs (fun i k hi hk => by
    rw [hs]
    simp [flipF]
    omega)
  rw [hs] at this ⊢
  have h3 : gat b [(R : Int), (C : Int)] (flipF [(R : Int), (C : Int)] 1) = ⟨b.Char, [(R : Int), (C : Int)], (gat b [(R : Int), (C : Int)] (flipF [(R : Int), (C : Int)] 1)).Data⟩ := rfl
  rw [h3, this]
  congr 2
  unfold pA
  show Val.mk _ _ _ = Val.mk _ _ _
  congr 1
  apply tab_congr
  intro i k hi hk
  simp only [tR, tC, fl, sI, sK] at *
  simp at *
  congr 1
  omega
theorem matrix_down {b : Val} (hb : vRight b = true) (h2 : b.Shape.length = 2) : M.turn_matrix b str_226_138_150 = some (gat b b.Shape (flipF b.Shape 0), 0) := by
  obtain ⟨R, C, hs⟩ := right_mat hb h2
  obtain ⟨t, ht, htt, e⟩ := plane_Apply_eq (turn := 0) (f := true) hs hb
  obtain rfl : t = 0 := by omega
  unfold M.turn_matrix
  rw [of_down]
  simp only [Option.bind_some]
  rw [e]
  simp only [Option.bind_some]
  have := gat_tab (b := b) (F := flipF b.Shape 0) (R := R) (C := C) (R' := R) (C' := C) (f := fun i k => (R - 1 - i, k)) hs (fun i k hi hk => by
    rw [hs]
    simp [flipF]
    omega)
  rw [hs] at this ⊢
  have h3 : gat b [(R : Int), (C : Int)] (flipF [(R : Int), (C : Int)] 0) = ⟨b.Char, [(R : Int), (C : Int)], (gat b [(R : Int), (C : Int)] (flipF [(R : Int), (C : Int)] 0)).Data⟩ := rfl
  rw [h3, this]
  rfl
theorem matrix_over {b : Val} (hb : vRight b = true) (h2 : b.Shape.length = 2) : M.turn_matrix b str_226_141_137 = some (gat b b.Shape.reverse List.reverse, 0) := by
  obtain ⟨R, C, hs⟩ := right_mat hb h2
  obtain ⟨t, ht, htt, e⟩ := plane_Apply_eq (turn := 3) (f := true) hs hb
  obtain rfl : t = 3 := by omega
  unfold M.turn_matrix
  rw [of_over]
  simp only [Option.bind_some]
  rw [e]
  simp only [Option.bind_some]
  have := gat_tab (b := b) (F := List.reverse) (R := R) (C := C) (R' := C) (C' := R) (f := fun i k => (k, i)) hs (fun i k hi hk => rfl)
  rw [hs]
  show _ = some (gat b [(C : Int), (R : Int)] List.reverse, (0 : Int))
  have h3 : gat b [(C : Int), (R : Int)] List.reverse = ⟨b.Char, [(C : Int), (R : Int)], (gat b [(C : Int), (R : Int)] List.reverse).Data⟩ := rfl
  rw [h3, this]
  congr 2
  show Val.mk _ _ _ = Val.mk _ _ _
  congr 1
  unfold pA
  apply tab_congr
  intro i k hi hk
  simp [tR, tC, fl, sI, sK] at *
  congr 1
  omega
def axX (s : List Int) (axis : Int) : Nat := if axis = -1 then s.length - 1 else axis.toNat
def axOk (s : List Int) (axis : Int) : Bool := decide (axis = -1) || (decide (0 ≤ axis) && decide (axis < s.length))
theorem axes_ok {s : List Int} {axis : Int} (hl : s.length ≤ 1000) (h : axOk s axis = true) : M.turn_axes s axis = some ((axX s axis : Int), true) := by
  unfold M.turn_axes axX
  unfold axOk at h
  by_cases ha : axis = -1
  · subst ha
    simp only [beq_self_eq_true, if_true]
    rw [w64_id (by omega) (by omega)]
    by_cases h0 : ((s.length : Int) - 1) < 0
    · rw [if_pos h0]
      have : s.length - 1 = 0 := by omega
      rw [this]; rfl
    · rw [if_neg h0]
      have : ((s.length : Int) - 1) = ((s.length - 1 : Nat) : Int) := by omega
      rw [this]
  · rw [if_neg (by simpa using ha), if_neg ha]
    simp [ha] at h
    have : ((axis.toNat : Nat) : Int) = axis := by omega
    rw [this]
    simp [h.1, h.2]
theorem axes_bad {s : List Int} {axis : Int} (h : axOk s axis = false) : M.turn_axes s axis = some (axis, false) := by
  unfold M.turn_axes
  unfold axOk at h
  by_cases ha : axis = -1
  · simp [ha] at h
  · rw [if_neg (by simpa using ha)]
    simp [ha] at h
    congr 2
    simpa using h
theorem axX_lt {s : List Int} {axis : Int} (h : axOk s axis = true) (h0 : 0 < s.length) : axX s axis < s.length := by
  unfold axOk at h
  unfold axX
  by_cases ha : axis = -1
  · rw [if_pos ha]; omega
  · rw [if_neg ha]
    simp [ha] at h
    omega
theorem Reverse_ok {b : Val} {axis : Int} (hb : vRight b = true) (h : axOk b.Shape axis = true) : M.turn_Reverse b axis = some (gat b b.Shape (flipF b.Shape (axX b.Shape axis)), 0) := by
  obtain ⟨hok, hp, _⟩ := vRight_iff.mp hb
  have h4 := hok.1
  have hpr := hok.2.2
  unfold M.turn_Reverse
  rw [value_Right_eq (by omega), hb, axes_ok (by omega) h]
  simp only [Option.bind_some, Bool.not_true, Bool.false_eq_true, if_false]
  by_cases h0 : b.Shape.length = 0
  · rw [if_pos (by simpa using h0), value_Copy_eq (by omega) (by omega)]
    have hs : b.Shape = [] := List.length_eq_zero_iff.mp h0
    have e : gat b b.Shape (flipF b.Shape (axX b.Shape axis)) = gat b b.Shape (fun p => p) := gat_congr hok (fun p hp => by
      have := hp.len
      have : p = [] := List.length_eq_zero_iff.mp (by omega)
      subst this
      exact flipF_nil _ _)
    rw [e, gat_id hb]
    rfl
  have hx := axX_lt h (by omega)
  rw [if_neg (by simp; exact fun h => h0 (by rw [h]; rfl))]
  by_cases h2 : b.Shape.length = 2
  · rw [if_pos (by simp [h2])]
    unfold M.turn_glyphs
    simp only [Option.bind_some]
    have hx2 : axX b.Shape axis = 0 ∨ axX b.Shape axis = 1 := by omega
    rcases hx2 with e | e
    · rw [e, show idx [str_226_138_150, str_226_140_189] ((0 : Nat) : Int) = some str_226_138_150 from rfl]
      simp only [Option.bind_some]
      rw [matrix_down hb h2]; rfl
    · rw [e, show idx [str_226_138_150, str_226_140_189] ((1 : Nat) : Int) = some str_226_140_189 from rfl]
      simp only [Option.bind_some]
      rw [matrix_back hb h2]; rfl
  · rw [if_neg (by simp; omega), flipped_eq hb hx]
    rfl
theorem Reverse_bad {b : Val} {axis : Int} (hb : vRight b = true) (h : axOk b.Shape axis = false) : M.turn_Reverse b axis = some (⟨false, [], []⟩, 26) := by
  obtain ⟨hok, hp, _⟩ := vRight_iff.mp hb
  have hpr := hok.2.2
  unfold M.turn_Reverse
  rw [value_Right_eq (by omega), hb, axes_bad h]
  rfl
def revTo (n : Nat) : List Int := (List.range n).map fun (m : Nat) => (n : Int) - 1 - m
theorem revTo_len (n : Nat) : (revTo n).length = n := by simp [revTo]
theorem revTo_get {n m : Nat} (h : m < n) : (revTo n)[m]'(by rw [revTo_len]; exact h) = (n : Int) - 1 - m := by simp [revTo]
theorem revTo_perm (n : Nat) : IsPerm (revTo n) n := by
  refine ⟨List.pairwise_iff_getElem.mpr fun i j hi hj hij => ?_, fun x hx => ?_, revTo_len n⟩
  · rw [revTo_len] at hi hj
    rw [revTo_get hi, revTo_get hj]
    omega
  · obtain ⟨m, hm, rfl⟩ := List.getElem_of_mem hx
    rw [revTo_len] at hm
    rw [revTo_get hm]; omega
theorem revTo_F {n : Nat} {p : List Int} (h : p.length = n) : permF (revTo n) p = p.reverse := by
  apply List.ext_getElem
  · rw [permF_len, revTo_len, List.length_reverse, h]
  · intro i h1 h2
    rw [permF_len, revTo_len] at h1
    rw [permF_get (by rw [revTo_len]; exact h1), revTo_get h1, List.getElem_reverse]
    have : ((n : Int) - 1 - i).toNat = n - 1 - i := by omega
    rw [this, List.getD_eq_getElem?_getD, List.getElem?_eq_getElem (by omega)]
    simp [h]
theorem Transpose_eq {b : Val} (hb : vRight b = true) : M.turn_Transpose b = some (gat b b.Shape.reverse List.reverse, 0) := by
  obtain ⟨hok, hp, _⟩ := vRight_iff.mp hb
  have h4 := hok.1
  have hpr := hok.2.2
  unfold M.turn_Transpose
  rw [value_Right_eq (by omega), hb]
  simp only [Option.bind_some, Bool.not_true, Bool.false_eq_true, if_false]
  by_cases h2 : b.Shape.length = 2
  · rw [if_pos (by simp [h2]), matrix_over hb h2]; rfl
  rw [if_neg (by simp; omega), mk_ok (by omega) (by omega)]
  simp only [Option.bind_some]
  have key := loop_fun (f := M.turn_Transpose_L1 b (List.replicate b.Shape.length 0)) (fun k => ((k : Int), (revTo b.Shape.length).take k ++ List.replicate (b.Shape.length - k) 0)) b.Shape.length (b := .next (revTo b.Shape.length)) (fun k hk => by
    unfold M.turn_Transpose_L1
    simp only [List.length_replicate]
    simp only [show decide ((k : Int) < (b.Shape.length : Int)) = true from decide_eq_true (by omega), if_true]
    have hkl : k < ((revTo b.Shape.length).take k ++ List.replicate (b.Shape.length - k) 0).length := by simp [revTo_len]; omega
    rw [idx_get hkl]
    simp only [Option.bind_some]
    rw [upd_nat hkl, w64_id (x := (b.Shape.length : Int) - 1) (by omega) (by omega), w64_id (x := (b.Shape.length : Int) - 1 - k) (by omega) (by omega), w64_id (by omega) (by omega), ← revTo_get hk, fill_step hk (revTo_len _)]
    rfl) (by
    unfold M.turn_Transpose_L1
    simp only [List.length_replicate]
    simp only [show decide ((b.Shape.length : Int) < (b.Shape.length : Int)) = false from decide_eq_false (by omega), Bool.false_eq_true, if_false]
    rw [Nat.sub_self, List.take_of_length_le (by rw [revTo_len]; exact Nat.le_refl _)]
    simp)
  rw [show ((0 : Int), List.replicate b.Shape.length (0 : Int)) = (((0 : Nat) : Int), (revTo b.Shape.length).take 0 ++ List.replicate (b.Shape.length - 0) 0) by simp, key]
  simp only [Option.bind_some, joinK_next]
  rw [permuted_eq (s := b.Shape.reverse) hb (revTo_perm _) (by simp) (by rw [revTo_F (by simp)]; simp)]
  simp only [Option.bind_some]
  rw [gat_congr (shOk_rev hok) (fun p hp => revTo_F (by rw [hp.len]; simp))]
theorem app_back {b : Val} (hb : vRight b = true) (h2 : b.Shape.length = 2) : M.plane_Apply ⟨2, true⟩ b = some (gat b b.Shape (flipF b.Shape 1), 0) := by
  have h := matrix_back hb h2
  unfold M.turn_matrix at h
  rw [of_back] at h
  simp only [Option.bind_some] at h
  rw [← h]
  cases M.plane_Apply ⟨2, true⟩ b <;> rfl
theorem app_down {b : Val} (hb : vRight b = true) (h2 : b.Shape.length = 2) : M.plane_Apply ⟨0, true⟩ b = some (gat b b.Shape (flipF b.Shape 0), 0) := by
  have h := matrix_down hb h2
  unfold M.turn_matrix at h
  rw [of_down] at h
  simp only [Option.bind_some] at h
  rw [← h]
  cases M.plane_Apply ⟨0, true⟩ b <;> rfl
theorem app_over {b : Val} (hb : vRight b = true) (h2 : b.Shape.length = 2) : M.plane_Apply ⟨3, true⟩ b = some (gat b b.Shape.reverse List.reverse, 0) := by
  have h := matrix_over hb h2
  unfold M.turn_matrix at h
  rw [of_over] at h
  simp only [Option.bind_some] at h
  rw [← h]
  cases M.plane_Apply ⟨3, true⟩ b <;> rfl
theorem rev_one {b : Val} (hb : vRight b = true) (h2 : b.Shape.length = 2) : M.turn_Reverse b 1 = M.plane_Apply ⟨2, true⟩ b := by
  rw [app_back hb h2, Reverse_ok hb (by unfold axOk; rw [h2]; decide)]
  congr 3
theorem rev_zero {b : Val} (hb : vRight b = true) (h2 : b.Shape.length = 2) : M.turn_Reverse b 0 = M.plane_Apply ⟨0, true⟩ b := by
  rw [app_down hb h2, Reverse_ok hb (by unfold axOk; rw [h2]; decide)]
  congr 3
theorem trans_over {b : Val} (hb : vRight b = true) (h2 : b.Shape.length = 2) : M.turn_Transpose b = M.plane_Apply ⟨3, true⟩ b := by
  rw [app_over hb h2, Transpose_eq hb]
theorem apply_pA {u a R C : Nat} {f c : Bool} {d : List Int} (hu : u < 4) (ha : a < 4) (hr : vRight ⟨c, [(R : Int), (C : Int)], d⟩ = true) (w : Nat) (hw : w = (4 - a + u) % 4) (w' : Nat) (hw' : w' = (4 - a + u) % 4) :
    M.plane_Apply ⟨(u : Int), true⟩ ⟨c, [(tR a R C : Int), (tC a R C : Int)], pA f a R C d⟩ = some (⟨c, [(tR w R C : Int), (tC w R C : Int)], pA (!f) w R C d⟩, 0) := by
  have hr2 := pA_right (f := f) ha rfl hr
  obtain ⟨b, hb, hbb, e⟩ := plane_Apply_eq (turn := (u : Int)) (f := true) (v := ⟨c, [(tR a R C : Int), (tC a R C : Int)], pA f a R C d⟩) (R := tR a R C) (C := tC a R C) rfl hr2
  obtain rfl : b = u := by omega
  rw [e]
  have k := pA_comp (f := f) (g := true) (t := a) (u := b) (R := R) (C := C) d ha hb w (by simp; omega)
  rw [k.1, k.2.1, k.2.2]
  congr 4
  cases f <;> rfl
theorem turnPlane_L1 {rows cols : Int} {R C : Nat} (hR : Int.tmod rows 21 = R) (hC : Int.tmod cols 21 = C) (bR : R ≤ 20) (bC : C ≤ 20) :
    wloop (M.anamnesislaw08_TurnPlane_L1 rows cols) (0, []) = some (.next ((List.range (R * C)).map fun (i : Nat) => (i : Int) + 32)) := by
  have hp : R * C ≤ 400 := Nat.mul_le_mul bR bC
  have e : IntKind.i64.wrap ((IntKind.i64.wrap (Int.tmod rows 21)) * (IntKind.i64.wrap (Int.tmod cols 21))) = ((R * C : Nat) : Int) := by
    rw [hR, hC, w64_id (x := (R : Int)) (by omega) (by omega), w64_id (x := (C : Int)) (by omega) (by omega), ← Int.natCast_mul]
    generalize R * C = k at *
    exact w64_id (by omega) (by omega)
  generalize R * C = N at *
  refine loop_fun (f := M.anamnesislaw08_TurnPlane_L1 rows cols) (fun k : Nat => ((k : Int), (List.range k).map fun (i : Nat) => (i : Int) + 32)) N (fun k hk => ?_) ?_
  · simp only [M.anamnesislaw08_TurnPlane_L1]
    rw [e, if_pos (by simp; omega), w64_id (x := (k : Int) + 32) (by omega) (by omega), app_ok (by simp; omega), w64_id (x := (k : Int) + 1) (by omega) (by omega)]
    simp only [Option.bind_some]
    rw [List.range_succ, List.map_append]
    rfl
  · simp only [M.anamnesislaw08_TurnPlane_L1]
    rw [e, if_neg (by simp)]
theorem turnPlane_L2 {l : List Int} {R C : Nat} {c : Bool} {d : List Int} (hl : l.length ≤ 8) (hx : ∀ x ∈ l, 0 ≤ x ∧ x ≤ 255) (hr : vRight ⟨c, [(R : Int), (C : Int)], d⟩ = true) :
    ∃ (t : Int) (f : Bool) (a : Nat), a < 4 ∧ t % 4 = a ∧ wloop (M.anamnesislaw08_TurnPlane_L2 l) (0, c, [(R : Int), (C : Int)], d, 0, false) = some (.next (c, [(tR a R C : Int), (tC a R C : Int)], pA f a R C d, t, f)) := by
  have hd : d = pA false 0 R C d := (pA_id (mat_right rfl hr).1).symm
  obtain ⟨m, hi, hm⟩ := loop_up (f := M.anamnesislaw08_TurnPlane_L2 l) (τ := Int × Bool × Nat)
    (fun k m => ((k : Int), c, [(tR m.2.2 R C : Int), (tC m.2.2 R C : Int)], pA m.2.1 m.2.2 R C d, m.1, m.2.1)) l.length
    (fun k m => m.2.2 < 4 ∧ m.1 % 4 = m.2.2)
    (fun m => .next (c, [(tR m.2.2 R C : Int), (tC m.2.2 R C : Int)], pA m.2.1 m.2.2 R C d, m.1, m.2.1)) (0, false, 0) ⟨by decide, by decide⟩ (fun k m hk hm => by
    obtain ⟨t, f, a⟩ := m
    obtain ⟨ha, hta⟩ := hm
    simp only at ha hta
    have hr2 := pA_right (f := f) ha rfl hr
    obtain ⟨h0, h255⟩ := hx l[k] (List.getElem_mem hk)
    have hy : Int.tmod l[k] 3 = l[k] % 3 := Int.tmod_eq_emod_of_nonneg h0
    have step : ∀ (u : Nat) (hu : u < 4) (X : Option (Val × Int)) (y : ByteArray) (hX : X = M.plane_Apply ⟨(u : Int), true⟩ ⟨c, [(tR a R C : Int), (tC a R C : Int)], pA f a R C d⟩) (hy : M.plane_Of y = some (⟨(u : Int), true⟩, true)),
        ∃ m' : Int × Bool × Nat, ((X.bind fun x => some (x.2, x.1.Char, x.1.Shape, x.1.Data)).bind fun (e1, Char2, Shape2, Data3) =>
          (M.plane_Of y).bind fun (r7, r8) =>
          (M.plane_Then (Sym.mk t f) r7).bind fun r9 =>
          if ((e1 != 0) || (!r8)) then (some (.done (.done false)) : Option (Ctl (Int × Bool × (List Int) × (List Int) × Int × Bool) (Ctl (Bool × (List Int) × (List Int) × Int × Bool) (Bool))))
          else some (.next ((IntKind.i64.wrap ((k : Int) + 1)), Char2, Shape2, Data3, r9.Turn, r9.Flip))) =
          some (.next (((k + 1 : Nat) : Int), c, [(tR m'.2.2 R C : Int), (tC m'.2.2 R C : Int)], pA m'.2.1 m'.2.2 R C d, m'.1, m'.2.1)) ∧ m'.2.2 < 4 ∧ m'.1 % 4 = m'.2.2 := by
      intro u hu X y hX hy
      refine ⟨((- (t % 4) + (u : Int) % 4) % 4, !f, (4 - a + u) % 4), ?_, by simp only; omega, by simp only; omega⟩
      rw [hX, apply_pA hu ha hr ((4 - a + u) % 4) rfl _ rfl, hy]
      simp only [Option.bind_some]
      rw [then_eq]
      simp only [Option.bind_some, bne_self_eq_false, Bool.not_true, Bool.or_self, Bool.false_eq_true, if_false, if_true]
      rw [w64_id (x := (k : Int) + 1) (by omega) (by omega)]
      cases f <;> rfl
    simp only [M.anamnesislaw08_TurnPlane_L2]
    rw [if_pos (by simp; omega), idx_get hk]
    simp only [Option.bind_some]
    rw [hy]
    have h3 : l[k] % 3 = 0 ∨ l[k] % 3 = 1 ∨ l[k] % 3 = 2 := by omega
    rcases h3 with h | h | h
    · rw [h]
      obtain ⟨m', e, hm'⟩ := step 2 (by omega) _ str_226_140_189 (rev_one hr2 rfl) of_back
      exact ⟨m', e, hm'⟩
    · rw [h]
      obtain ⟨m', e, hm'⟩ := step 0 (by omega) _ str_226_138_150 (rev_zero hr2 rfl) of_down
      exact ⟨m', e, hm'⟩
    · rw [h]
      obtain ⟨m', e, hm'⟩ := step 3 (by omega) _ str_226_141_137 (trans_over hr2 rfl) of_over
      exact ⟨m', e, hm'⟩) (fun m hm => by
    simp only [M.anamnesislaw08_TurnPlane_L2]
    rw [if_neg (by simp)])
  refine ⟨m.1, m.2.1, m.2.2, hi.1, hi.2, ?_⟩
  rw [← hm]
  congr 1
  show _ = (((0 : Nat) : Int), c, [(R : Int), (C : Int)], pA false 0 R C d, 0, false)
  rw [← hd]; rfl
theorem turnPlane_true (rows cols : Int) (char : Bool) (l : List Int) (gr : (Lit.int .u8 rows).wf = true) (gc : (Lit.int .u8 cols).wf = true)
    (gl : ∀ x ∈ l, (Lit.int .u8 x).wf = true) (_ : l.length ≤ maxLen) : M.anamnesislaw08_TurnPlane rows cols char l = some true := by
  have wf8 : ∀ {n : Int}, (Lit.int .u8 n).wf = true → 0 ≤ n ∧ n ≤ 255 := fun {n} h => by
    have h2 : (decide (IntKind.u8.min ≤ n) && decide (n ≤ IntKind.u8.max)) = true := h
    have e1 : IntKind.u8.min = 0 := by decide
    have e2 : IntKind.u8.max = 255 := by decide
    rw [e1, e2] at h2
    simpa using h2
  have br := wf8 gr
  have bc := wf8 gc
  obtain ⟨R, hR, bR⟩ : ∃ R : Nat, Int.tmod rows 21 = R ∧ R ≤ 20 := ⟨(rows % 21).toNat, by rw [Int.tmod_eq_emod_of_nonneg br.1]; omega, by omega⟩
  obtain ⟨C, hC, bC⟩ : ∃ C : Nat, Int.tmod cols 21 = C ∧ C ≤ 20 := ⟨(cols % 21).toNat, by rw [Int.tmod_eq_emod_of_nonneg bc.1]; omega, by omega⟩
  unfold M.anamnesislaw08_TurnPlane
  by_cases hl : l.length > 8
  · rw [if_pos (by simp; omega)]
  rw [if_neg (by simp; omega), turnPlane_L1 hR hC bR bC, hR, hC, w64_id (x := (R : Int)) (by omega) (by omega), w64_id (x := (C : Int)) (by omega) (by omega)]
  simp only [Option.bind_some, joinK]
  have hp : R * C ≤ 400 := Nat.mul_le_mul bR bC
  have ep : prod [(R : Int), (C : Int)] = ((R * C : Nat) : Int) := by simp [prod]
  have hr : vRight ⟨char, [(R : Int), (C : Int)], (List.range (R * C)).map fun (i : Nat) => (i : Int) + 32⟩ = true := by
    refine vRight_iff.mpr ⟨⟨by simp, ?_, ?_⟩, ?_, ?_⟩
    · intro x hx; simp at hx; omega
    · rw [ep]; omega
    · rw [ep]; simp
    · intro h c hc
      simp at hc
      obtain ⟨i, hi, rfl⟩ := hc
      have hi2 : i < 400 := Nat.lt_of_lt_of_le hi hp
      simp only [chOk, Bool.and_eq_true, decide_eq_true_eq, Bool.not_eq_true', decide_eq_false_iff_not]
      omega
  generalize hd : ((List.range (R * C)).map fun (i : Nat) => (i : Int) + 32) = d at hr ⊢
  have dl : d.length = R * C := by rw [← hd]; simp
  obtain ⟨t, f, a, ha, hta, e⟩ := turnPlane_L2 (l := l) (by omega) (fun x hx => wf8 (gl x hx)) hr
  rw [e]
  simp only [Option.bind_some, joinK]
  obtain ⟨b, hb, hbb, e2⟩ := plane_Apply_eq (turn := t) (f := f) (v := ⟨char, [(R : Int), (C : Int)], d⟩) (R := R) (C := C) rfl hr
  obtain rfl : b = a := by omega
  rw [e2]
  simp only [Option.bind_some, BEq.rfl, if_true]
  rw [ref06_Same_eq (by simp [maxLen]) (by simp only [pA_len]; unfold maxLen; omega), vSame_refl]
  rfl

end Go.Proofs.Yteoojnahehgakaa.turnPlane
