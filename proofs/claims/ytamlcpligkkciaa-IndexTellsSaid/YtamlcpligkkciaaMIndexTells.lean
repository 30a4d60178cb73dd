/- IndexTells: what the code that the law reaches computes, as plain functions; and that the law comes to true. -/
import Derived.Test.YtamlcpligkkciaaAmU
set_option maxHeartbeats 4000000
set_option linter.unusedVariables false
set_option linter.unusedSimpArgs false
set_option maxRecDepth 100000
open Go Go.Am
namespace Go.Proofs.Ytamlcpligkkciaa.indexTells
noncomputable def M.anamnesislaw11_Great_L1 (l1 : (List Am.Place)) (s : Int) : Option (Ctl (Int) (Ctl (Unit) (Bool))) :=
  match s with
  | i1 =>
    if (decide (i1 < (l1.length : Int))) then
      (idx l1 i1).bind fun y1 =>
      (if (decide ((y1.V.Data.length : Int) > 60)) then
      some true else
      (idx l1 i1).bind fun y2 =>
      some (decide ((y2.V.Shape.length : Int) > 10))).bind fun c2 =>
      if c2 then
        some (.done (.done true))
      else
        some (.next (IntKind.i64.wrap (i1 + 1)))
    else
      some (.done (.next ()))
noncomputable def M.anamnesislaw11_Great (l1 : (List Am.Place)) : Option (Bool) :=
  if (decide ((l1.length : Int) > 8)) then
    some true
  else
    (wloop (M.anamnesislaw11_Great_L1 l1) 0).bind fun k => joinK k fun _ =>
    some false
noncomputable def M.anamnesisref02_Copy (v1 : Val) : Option (Val) :=
  (app 8 ([] : List Int) v1.Shape).bind fun l1 =>
  (app 8 ([] : List Int) v1.Data).bind fun l2 =>
  some (Val.mk v1.Char l1 l2)
noncomputable def M.slices_IndexFunc__int64_L1 (s1 : (List Int)) (f1 : (Int → Option (Bool))) (s : Int) : Option (Ctl (Int) (Ctl (Unit) (Int))) :=
  match s with
  | t1 =>
    if (decide (t1 < (s1.length : Int))) then
      (idx s1 t1).bind fun y1 =>
      (f1 y1).bind fun r1 =>
      if r1 then
        some (.done (.done t1))
      else
        some (.next (IntKind.i64.wrap (t1 + 1)))
    else
      some (.done (.next ()))
noncomputable def M.slices_IndexFunc__int64 (s1 : (List Int)) (f1 : (Int → Option (Bool))) : Option (Int) :=
  (wloop (M.slices_IndexFunc__int64_L1 s1 f1) 0).bind fun k => joinK k fun _ =>
  some (-1)
noncomputable def M.slices_ContainsFunc__int64 (s1 : (List Int)) (f1 : (Int → Option (Bool))) : Option (Bool) :=
  (M.slices_IndexFunc__int64 s1 f1).bind fun r1 =>
  some (decide (r1 ≥ 0))
noncomputable def M.unicode_utf8_ValidRune (r1 : Int) : Option (Bool) :=
  if ((decide (0 ≤ r1)) && (decide (r1 < 55296))) then
    some true
  else
    if ((decide (57343 < r1)) && (decide (r1 ≤ 1114111))) then
      some true
    else
      some false
noncomputable def M.value_character (n1 : Int) : Option (Bool) :=
  (if ((decide (n1 ≥ 0)) && (decide (n1 ≤ 1114111))) then
  (M.unicode_utf8_ValidRune (IntKind.i32.wrap n1)).bind fun r1 =>
  some r1 else
  some false).bind fun c2 =>
  some c2
noncomputable def M.value_Right_1 (n1 : Int) : Option (Bool) :=
  (M.value_character n1).bind fun r1 =>
  some (!r1)
noncomputable def M.value_Right_L1 (v1 : Val) (s : Int × Int) : Option (Ctl (Int × Int) (Ctl (Int) (Bool))) :=
  match s with
  | (size1, t1) =>
    if (decide (t1 < (v1.Shape.length : Int))) then
      (idx v1.Shape t1).bind fun y1 =>
      if ((decide (y1 < 0)) || (decide (y1 > 10000))) then
        some (.done (.done false))
      else
        some (.next ((IntKind.i64.wrap (size1 * y1)), (IntKind.i64.wrap (t1 + 1))))
    else
      some (.done (.next size1))
noncomputable def M.value_Right (v1 : Val) : Option (Bool) :=
  if (decide ((v1.Shape.length : Int) > 4)) then
    some false
  else
    (wloop (M.value_Right_L1 v1) (1, 0)).bind fun k => joinK k fun size1 =>
    if ((decide (size1 > 10000)) || (size1 != (v1.Data.length : Int))) then
      some false
    else
      (if (!v1.Char) then
      some true else
      (M.slices_ContainsFunc__int64 v1.Data (fun x0 => M.value_Right_1 x0)).bind fun r1 =>
      some (!r1)).bind fun c4 =>
      some c4
noncomputable def M.slices_IndexFunc__Place_L1 (s1 : (List Am.Place)) (f1 : (Am.Place → Option (Bool))) (s : Int) : Option (Ctl (Int) (Ctl (Unit) (Int))) :=
  match s with
  | t1 =>
    if (decide (t1 < (s1.length : Int))) then
      (idx s1 t1).bind fun y1 =>
      (f1 y1).bind fun r1 =>
      if r1 then
        some (.done (.done t1))
      else
        some (.next (IntKind.i64.wrap (t1 + 1)))
    else
      some (.done (.next ()))
noncomputable def M.slices_IndexFunc__Place (s1 : (List Am.Place)) (f1 : (Am.Place → Option (Bool))) : Option (Int) :=
  (wloop (M.slices_IndexFunc__Place_L1 s1 f1) 0).bind fun k => joinK k fun _ =>
  some (-1)
noncomputable def M.slices_ContainsFunc__Place (s1 : (List Am.Place)) (f1 : (Am.Place → Option (Bool))) : Option (Bool) :=
  (M.slices_IndexFunc__Place s1 f1).bind fun r1 =>
  some (decide (r1 ≥ 0))
noncomputable def M.index_shaped_1 (p1 : Am.Place) : Option (Bool) :=
  (if (!p1.All) then
  (M.value_Right p1.V).bind fun r1 =>
  some (!r1) else
  some false).bind fun c1 =>
  some c1
noncomputable def M.index_Place_lengths (p1 : Am.Place) (n1 : Int) : Option ((List Int)) :=
  if p1.All then
    some ([n1])
  else
    some p1.V.Shape
noncomputable def M.index_shaped_L1 (v1 : Val) (places1 : (List Am.Place)) (s : (List Int) × Int) : Option (Ctl ((List Int) × Int) (Ctl ((List Int)) ((List Int) × Int))) :=
  match s with
  | (s1, t1) =>
    if (decide (t1 < (places1.length : Int))) then
      (idx places1 t1).bind fun y1 =>
      (idx v1.Shape t1).bind fun y2 =>
      (M.index_Place_lengths y1 y2).bind fun r3 =>
      (app 8 s1 r3).bind fun l1 =>
      some (.next (l1, (IntKind.i64.wrap (t1 + 1))))
    else
      some (.done (.next s1))
noncomputable def M.index_shaped (v1 : Val) (places1 : (List Am.Place)) : Option ((List Int) × Int) :=
  (M.value_Right v1).bind fun r1 =>
  (if (!r1) then
  some true else
  (M.slices_ContainsFunc__Place places1 (fun x0 => M.index_shaped_1 x0)).bind fun r2 =>
  some r2).bind fun c1 =>
  if c1 then
    some ([], 1)
  else
    if (((v1.Shape.length : Int) == 0) || ((places1.length : Int) != (v1.Shape.length : Int))) then
      some ([], 24)
    else
      (wloop (M.index_shaped_L1 v1 places1) (([] : List Int), 0)).bind fun k => joinK k fun s1 =>
      if (decide ((s1.length : Int) > 4)) then
        some ([], 24)
      else
        some (s1, 0)
noncomputable def M.index_Place_indexes_L1 (n1 : Int) (s : (List Int) × Int) : Option (Ctl ((List Int) × Int) (Ctl ((List Int)) ((List Int) × Int))) :=
  match s with
  | (out1, t1) =>
    if (decide (t1 < n1)) then
      (app 8 out1 ([t1])).bind fun l1 =>
      some (.next (l1, (IntKind.i64.wrap (t1 + 1))))
    else
      some (.done (.next out1))
noncomputable def M.index_Place_indexes_L2 (p1 : Am.Place) (n1 : Int) (s : (List Int) × Int) : Option (Ctl ((List Int) × Int) (Ctl ((List Int)) ((List Int) × Int))) :=
  match s with
  | (out2, t2) =>
    if (decide (t2 < (p1.V.Data.length : Int))) then
      (idx p1.V.Data t2).bind fun y1 =>
      if ((decide (y1 < 1)) || (decide (y1 > n1))) then
        some (.done (.done ([], 26)))
      else
        (app 8 out2 ([(IntKind.i64.wrap (y1 - 1))])).bind fun l2 =>
        some (.next (l2, (IntKind.i64.wrap (t2 + 1))))
    else
      some (.done (.next out2))
noncomputable def M.index_Place_indexes (p1 : Am.Place) (n1 : Int) : Option ((List Int) × Int) :=
  if p1.All then
    (wloop (M.index_Place_indexes_L1 n1) ([], 0)).bind fun k => joinK k fun out1 =>
    some (out1, 0)
  else
    if (p1.V.Char && (decide ((p1.V.Data.length : Int) > 0))) then
      some ([], 23)
    else
      (wloop (M.index_Place_indexes_L2 p1 n1) ([], 0)).bind fun k => joinK k fun out2 =>
      some (out2, 0)
noncomputable def M.slices_IndexFunc__int_L1 (s1 : (List Int)) (f1 : (Int → Option (Bool))) (s : Int) : Option (Ctl (Int) (Ctl (Unit) (Int))) :=
  match s with
  | t1 =>
    if (decide (t1 < (s1.length : Int))) then
      (idx s1 t1).bind fun y1 =>
      (f1 y1).bind fun r1 =>
      if r1 then
        some (.done (.done t1))
      else
        some (.next (IntKind.i64.wrap (t1 + 1)))
    else
      some (.done (.next ()))
noncomputable def M.slices_IndexFunc__int (s1 : (List Int)) (f1 : (Int → Option (Bool))) : Option (Int) :=
  (wloop (M.slices_IndexFunc__int_L1 s1 f1) 0).bind fun k => joinK k fun _ =>
  some (-1)
noncomputable def M.slices_ContainsFunc__int (s1 : (List Int)) (f1 : (Int → Option (Bool))) : Option (Bool) :=
  (M.slices_IndexFunc__int s1 f1).bind fun r1 =>
  some (decide (r1 ≥ 0))
noncomputable def M.shape_Size_1 (n1 : Int) : Option (Bool) :=
  some (decide (n1 < 0))
noncomputable def M.shape_Size_2 (n1 : Int) : Option (Bool) :=
  some (decide (n1 > 10000))
noncomputable def M.shape_product_L1 (s1 : (List Int)) (s : Int × Int) : Option (Ctl (Int × Int) (Ctl (Int) (Int))) :=
  match s with
  | (p1, t1) =>
    if (decide (t1 < (s1.length : Int))) then
      (idx s1 t1).bind fun y1 =>
      some (.next ((IntKind.i64.wrap (p1 * y1)), (IntKind.i64.wrap (t1 + 1))))
    else
      some (.done (.next p1))
noncomputable def M.shape_product (s1 : (List Int)) : Option (Int) :=
  (wloop (M.shape_product_L1 s1) (1, 0)).bind fun k => joinK k fun p1 =>
  some p1
noncomputable def M.shape_Size (s1 : (List Int)) : Option (Int × Int) :=
  if (decide ((s1.length : Int) > 4)) then
    some (0, 24)
  else
    (M.slices_ContainsFunc__int s1 (fun x0 => M.shape_Size_1 x0)).bind fun r1 =>
    if r1 then
      some (0, 1)
    else
      ((M.slices_ContainsFunc__int s1 (fun x0 => M.shape_Size_2 x0)).bind fun r2 =>
      if r2 then
        some r2
      else
        (M.shape_product s1).bind fun r3 =>
        some (decide (r3 > 10000))).bind fun t1 =>
      if t1 then
        some (0, 27)
      else
        (M.shape_product s1).bind fun r4 =>
        some (r4, 0)
noncomputable def M.index_finds_L4 (v1 : Val) (t2 : Int) (y3 : (List Int)) (y4 : Int) (s : (List Int) × Int) : Option (Ctl ((List Int) × Int) (Ctl ((List Int)) (Ctl ((List Int) × Int) (Ctl ((List Int)) (Ctl (Int × (List Int)) (Ctl ((List Int)) (Am.Found × Int))))))) :=
  match s with
  | (next2, t4) =>
    if (decide (t4 < (y3.length : Int))) then
      (idx y3 t4).bind fun y5 =>
      (idx v1.Shape t2).bind fun y6 =>
      (app 8 next2 ([(IntKind.i64.wrap ((IntKind.i64.wrap (y4 * y6)) + y5))])).bind fun l2 =>
      some (.next (l2, (IntKind.i64.wrap (t4 + 1))))
    else
      some (.done (.next next2))
noncomputable def M.index_finds_L3 (v1 : Val) (t2 : Int) (offsets2 : (List Int)) (y3 : (List Int)) (s : (List Int) × Int) : Option (Ctl ((List Int) × Int) (Ctl ((List Int)) (Ctl (Int × (List Int)) (Ctl ((List Int)) (Am.Found × Int))))) :=
  match s with
  | (next1, t3) =>
    if (decide (t3 < (offsets2.length : Int))) then
      (idx offsets2 t3).bind fun y4 =>
      (wloop (M.index_finds_L4 v1 t2 y3 y4) (next1, 0)).bind fun k => joinK k fun next2 =>
      some (.next (next2, (IntKind.i64.wrap (t3 + 1))))
    else
      some (.done (.next next1))
noncomputable def M.index_finds_L2 (v1 : Val) (all1 : (List (List Int))) (s : Int × (List Int)) : Option (Ctl (Int × (List Int)) (Ctl ((List Int)) (Am.Found × Int))) :=
  match s with
  | (t2, offsets2) =>
    if (decide (t2 < (all1.length : Int))) then
      (idx all1 t2).bind fun y3 =>
      (wloop (M.index_finds_L3 v1 t2 offsets2 y3) ([], 0)).bind fun k => joinK k fun next1 =>
      some (.next ((IntKind.i64.wrap (t2 + 1)), next1))
    else
      some (.done (.next offsets2))
noncomputable def M.index_finds_L1 (v1 : Val) (places1 : (List Am.Place)) (s : (List (List Int)) × Int) : Option (Ctl ((List (List Int)) × Int) (Ctl ((List (List Int))) (Am.Found × Int))) :=
  match s with
  | (all1, t1) =>
    if (decide (t1 < (places1.length : Int))) then
      (idx places1 t1).bind fun y1 =>
      (idx v1.Shape t1).bind fun y2 =>
      (M.index_Place_indexes y1 y2).bind fun (r3, r4) =>
      if (r4 != 0) then
        some (.done (.done ((Am.Found.mk ([]) ([])), r4)))
      else
        (app 24 all1 ([r3])).bind fun l1 =>
        some (.next (l1, (IntKind.i64.wrap (t1 + 1))))
    else
      some (.done (.next all1))
noncomputable def M.index_finds (v1 : Val) (places1 : (List Am.Place)) : Option (Am.Found × Int) :=
  (M.index_shaped v1 places1).bind fun (r1, r2) =>
  if (r2 != 0) then
    some ((Am.Found.mk ([]) ([])), r2)
  else
    (wloop (M.index_finds_L1 v1 places1) ([], 0)).bind fun k => joinK k fun all1 =>
    (M.shape_Size r1).bind fun (r5, r6) =>
    if (r6 != 0) then
      some ((Am.Found.mk ([]) ([])), 27)
    else
      (if (r5 == 0) then
        some []
      else
        some [0]).bind fun offsets1 =>
      (wloop (M.index_finds_L2 v1 all1) (0, offsets1)).bind fun k => joinK k fun offsets2 =>
      some ((Am.Found.mk r1 offsets2), 0)
noncomputable def M.index_Get_L1 (v1 : Val) (r1 : Am.Found) (s : Int × (List Int)) : Option (Ctl (Int × (List Int)) (Ctl ((List Int)) (Val × Int))) :=
  match s with
  | (t1, Data1) =>
    if (decide (t1 < (r1.offsets.length : Int))) then
      (idx r1.offsets t1).bind fun y1 =>
      (idx v1.Data y1).bind fun y2 =>
      (app 8 Data1 ([y2])).bind fun l1 =>
      some (.next ((IntKind.i64.wrap (t1 + 1)), l1))
    else
      some (.done (.next Data1))
noncomputable def M.index_Get (v1 : Val) (places1 : (List Am.Place)) : Option (Val × Int) :=
  (M.index_finds v1 places1).bind fun (r1, r2) =>
  if (r2 != 0) then
    some ((Val.mk false ([]) ([])), r2)
  else
    (wloop (M.index_Get_L1 v1 r1) (0, [])).bind fun k => joinK k fun Data1 =>
    some ((Val.mk v1.Char r1.shape Data1), 0)
noncomputable def M.anamnesisref02_Right_L2 (v1 : Val) (s : Int) : Option (Ctl (Int) (Ctl (Unit) (Bool))) :=
  match s with
  | i2 =>
    if ((decide (i2 < (v1.Data.length : Int))) && v1.Char) then
      (idx v1.Data i2).bind fun y4 =>
      if (((decide (y4 < 0)) || (decide (y4 > 1114111))) || ((decide (y4 ≥ 55296)) && (decide (y4 ≤ 57343)))) then
        some (.done (.done false))
      else
        some (.next (IntKind.i64.wrap (i2 + 1)))
    else
      some (.done (.next ()))
noncomputable def M.anamnesisref02_Right_L1 (v1 : Val) (s : Int × Int) : Option (Ctl (Int × Int) (Ctl (Int) (Bool))) :=
  match s with
  | (size1, i1) =>
    if (decide (i1 < (v1.Shape.length : Int))) then
      (idx v1.Shape i1).bind fun y1 =>
      (if (decide (y1 < 0)) then
      some true else
      (idx v1.Shape i1).bind fun y2 =>
      some (decide (y2 > 10000))).bind fun c2 =>
      if c2 then
        some (.done (.done false))
      else
        (idx v1.Shape i1).bind fun y3 =>
        some (.next ((IntKind.i64.wrap (size1 * y3)), (IntKind.i64.wrap (i1 + 1))))
    else
      some (.done (.next size1))
noncomputable def M.anamnesisref02_Right (v1 : Val) : Option (Bool) :=
  if (decide ((v1.Shape.length : Int) > 4)) then
    some false
  else
    (wloop (M.anamnesisref02_Right_L1 v1) (1, 0)).bind fun k => joinK k fun size1 =>
    (wloop (M.anamnesisref02_Right_L2 v1) 0).bind fun k => joinK k fun _ =>
    some ((size1 == (v1.Data.length : Int)) && (decide (size1 ≤ 10000)))
noncomputable def M.anamnesisref07_Size_L1 (s1 : (List Int)) (s : Int × Int) : Option (Ctl (Int × Int) (Ctl (Int) (Int))) :=
  match s with
  | (size1, i1) =>
    if (decide (i1 < (s1.length : Int))) then
      (idx s1 i1).bind fun y1 =>
      (if (decide (y1 < 0)) then
      some true else
      (idx s1 i1).bind fun y2 =>
      some (decide (y2 > 10000))).bind fun c2 =>
      if c2 then
        some (.done (.done (-1)))
      else
        (idx s1 i1).bind fun y3 =>
        some (.next ((IntKind.i64.wrap (size1 * y3)), (IntKind.i64.wrap (i1 + 1))))
    else
      some (.done (.next size1))
noncomputable def M.anamnesisref07_Size (s1 : (List Int)) : Option (Int) :=
  if (decide ((s1.length : Int) > 4)) then
    some (-1)
  else
    (wloop (M.anamnesisref07_Size_L1 s1) (1, 0)).bind fun k => joinK k fun size1 =>
    if (decide (size1 > 10000)) then
      some (-1)
    else
      some size1
noncomputable def M.anamnesisref11_lengths_L4 (v1 : Val) (l1 : (List Am.Place)) (i3 : Int) (s : Int) : Option (Ctl (Int) (Ctl (Unit) (Ctl (Int) (Ctl (Unit) ((List Int) × Int))))) :=
  match s with
  | k4 =>
    (idx l1 i3).bind fun y7 =>
    if (decide (k4 < (y7.V.Data.length : Int))) then
      (idx l1 i3).bind fun y8 =>
      if y8.V.Char then
        some (.done (.done (.done (.done ([], 23)))))
      else
        (idx l1 i3).bind fun y9 =>
        (idx y9.V.Data k4).bind fun y10 =>
        (if (decide (y10 < 1)) then
        some true else
        (idx l1 i3).bind fun y11 =>
        (idx y11.V.Data k4).bind fun y12 =>
        (idx v1.Shape i3).bind fun y13 =>
        some (decide (y12 > y13))).bind fun c7 =>
        if c7 then
          some (.done (.done (.done (.done ([], 26)))))
        else
          some (.next (IntKind.i64.wrap (k4 + 1)))
    else
      some (.done (.next ()))
noncomputable def M.anamnesisref11_lengths_L3 (v1 : Val) (l1 : (List Am.Place)) (s : Int) : Option (Ctl (Int) (Ctl (Unit) ((List Int) × Int))) :=
  match s with
  | i3 =>
    if (decide (i3 < (l1.length : Int))) then
      (idx l1 i3).bind fun y6 =>
      if y6.All then
        some (.next (IntKind.i64.wrap (i3 + 1)))
      else
        (wloop (M.anamnesisref11_lengths_L4 v1 l1 i3) 0).bind fun k => joinK k fun _ =>
        some (.next (IntKind.i64.wrap (i3 + 1)))
    else
      some (.done (.next ()))
noncomputable def M.anamnesisref11_lengths_L2 (v1 : Val) (l1 : (List Am.Place)) (s : (List Int) × Int) : Option (Ctl ((List Int) × Int) (Ctl ((List Int)) ((List Int) × Int))) :=
  match s with
  | (s1, i2) =>
    if (decide (i2 < (l1.length : Int))) then
      (idx l1 i2).bind fun y3 =>
      if y3.All then
        (idx v1.Shape i2).bind fun y4 =>
        (app 8 s1 ([y4])).bind fun l2 =>
        some (.next (l2, (IntKind.i64.wrap (i2 + 1))))
      else
        (idx l1 i2).bind fun y5 =>
        (app 8 s1 y5.V.Shape).bind fun l3 =>
        some (.next (l3, (IntKind.i64.wrap (i2 + 1))))
    else
      some (.done (.next s1))
noncomputable def M.anamnesisref11_lengths_L1 (l1 : (List Am.Place)) (s : Int) : Option (Ctl (Int) (Ctl (Unit) ((List Int) × Int))) :=
  match s with
  | i1 =>
    if (decide (i1 < (l1.length : Int))) then
      (idx l1 i1).bind fun y1 =>
      (if (!y1.All) then
      (idx l1 i1).bind fun y2 =>
      (M.anamnesisref02_Right y2.V).bind fun r2 =>
      some (!r2) else
      some false).bind fun c2 =>
      if c2 then
        some (.done (.done ([], 1)))
      else
        some (.next (IntKind.i64.wrap (i1 + 1)))
    else
      some (.done (.next ()))
noncomputable def M.anamnesisref11_lengths (v1 : Val) (l1 : (List Am.Place)) : Option ((List Int) × Int) :=
  (M.anamnesisref02_Right v1).bind fun r1 =>
  if (!r1) then
    some ([], 1)
  else
    (wloop (M.anamnesisref11_lengths_L1 l1) 0).bind fun k => joinK k fun _ =>
    if (((v1.Shape.length : Int) == 0) || ((l1.length : Int) != (v1.Shape.length : Int))) then
      some ([], 24)
    else
      (wloop (M.anamnesisref11_lengths_L2 v1 l1) ([], 0)).bind fun k => joinK k fun s1 =>
      if (decide ((s1.length : Int) > 4)) then
        some ([], 24)
      else
        (wloop (M.anamnesisref11_lengths_L3 v1 l1) 0).bind fun k => joinK k fun _ =>
        (M.anamnesisref07_Size s1).bind fun r3 =>
        if (decide (r3 < 0)) then
          some ([], 27)
        else
          some (s1, 0)
noncomputable def M.anamnesisref07_At_L1 (s1 : (List Int)) (s : Int × Int × (List Int)) : Option (Ctl (Int × Int × (List Int)) (Ctl ((List Int)) ((List Int)))) :=
  match s with
  | (k2, i1, l2) =>
    if (decide (i1 ≥ 0)) then
      (idx s1 i1).bind fun y1 =>
      (remI k2 y1).bind fun q1 =>
      (idx l2 i1).bind fun y2 =>
      (upd l2 i1 q1).bind fun l3 =>
      (idx s1 i1).bind fun y3 =>
      (quoI .i64 k2 y3).bind fun q2 =>
      some (.next (q2, (IntKind.i64.wrap (i1 - 1)), l3))
    else
      some (.done (.next l2))
noncomputable def M.anamnesisref07_At (s1 : (List Int)) (k1 : Int) : Option ((List Int)) :=
  (mk 8 (0 : Int) (s1.length : Int) (s1.length : Int)).bind fun l1 =>
  (wloop (M.anamnesisref07_At_L1 s1) (k1, (IntKind.i64.wrap ((s1.length : Int) - 1)), l1)).bind fun k => joinK k fun l2 =>
  some l2
noncomputable def M.anamnesisref07_Offset_L1 (s1 : (List Int)) (at1 : (List Int)) (s : Int × Int) : Option (Ctl (Int × Int) (Ctl (Int) (Int))) :=
  match s with
  | (k1, i1) =>
    if (decide (i1 < (s1.length : Int))) then
      (idx s1 i1).bind fun y1 =>
      (idx at1 i1).bind fun y2 =>
      some (.next ((IntKind.i64.wrap ((IntKind.i64.wrap (k1 * y1)) + y2)), (IntKind.i64.wrap (i1 + 1))))
    else
      some (.done (.next k1))
noncomputable def M.anamnesisref07_Offset (s1 : (List Int)) (at1 : (List Int)) : Option (Int) :=
  (wloop (M.anamnesisref07_Offset_L1 s1 at1) (0, 0)).bind fun k => joinK k fun k1 =>
  some k1
noncomputable def M.anamnesisref11_from_L1 (l1 : (List Am.Place)) (at1 : (List Int)) (s : (List Int) × Int × Int) : Option (Ctl ((List Int) × Int × Int) (Ctl ((List Int)) (Int))) :=
  match s with
  | (place1, used1, i1) =>
    if (decide (i1 < (l1.length : Int))) then
      (idx l1 i1).bind fun y1 =>
      if y1.All then
        (idx at1 used1).bind fun y2 =>
        (app 8 place1 ([y2])).bind fun l2 =>
        some (.next (l2, (IntKind.i64.wrap (used1 + 1)), (IntKind.i64.wrap (i1 + 1))))
      else
        (idx l1 i1).bind fun y3 =>
        (idx l1 i1).bind fun y4 =>
        (sub at1 used1 (IntKind.i64.wrap (used1 + (y3.V.Shape.length : Int)))).bind fun l3 =>
        (M.anamnesisref07_Offset y4.V.Shape l3).bind fun r1 =>
        (idx l1 i1).bind fun y5 =>
        (idx y5.V.Data r1).bind fun y6 =>
        (app 8 place1 ([(IntKind.i64.wrap (y6 - 1))])).bind fun l4 =>
        some (.next (l4, (IntKind.i64.wrap (used1 + (y3.V.Shape.length : Int))), (IntKind.i64.wrap (i1 + 1))))
    else
      some (.done (.next place1))
noncomputable def M.anamnesisref11_from (v1 : Val) (l1 : (List Am.Place)) (at1 : (List Int)) : Option (Int) :=
  (wloop (M.anamnesisref11_from_L1 l1 at1) ([], 0, 0)).bind fun k => joinK k fun place1 =>
  (M.anamnesisref07_Offset v1.Shape place1).bind fun r2 =>
  some r2
noncomputable def M.anamnesisref11_Get_L1 (v1 : Val) (l1 : (List Am.Place)) (r1 : (List Int)) (s : Int × (List Int)) : Option (Ctl (Int × (List Int)) (Ctl ((List Int)) (Val × Int))) :=
  match s with
  | (k1, Data1) =>
    (M.anamnesisref07_Size r1).bind fun r3 =>
    if (decide (k1 < r3)) then
      (M.anamnesisref07_At r1 k1).bind fun r4 =>
      (M.anamnesisref11_from v1 l1 r4).bind fun r5 =>
      (idx v1.Data r5).bind fun y1 =>
      (app 8 Data1 ([y1])).bind fun l3 =>
      some (.next ((IntKind.i64.wrap (k1 + 1)), l3))
    else
      some (.done (.next Data1))
noncomputable def M.anamnesisref11_Get (v1 : Val) (l1 : (List Am.Place)) : Option (Val × Int) :=
  (M.anamnesisref11_lengths v1 l1).bind fun (r1, r2) =>
  if (r2 != 0) then
    some ((Val.mk false ([]) ([])), r2)
  else
    (app 8 ([] : List Int) r1).bind fun l2 =>
    (wloop (M.anamnesisref11_Get_L1 v1 l1 r1) (0, [])).bind fun k => joinK k fun Data1 =>
    some ((Val.mk v1.Char l2 Data1), 0)
noncomputable def M.slices_Clone__int (s1 : (List Int)) : Option ((List Int)) :=
  app 8 [] s1
noncomputable def M.slices_DeleteFunc__int_L1 (del1 : (Int → Option (Bool))) (s : Int × Int × (List Int)) : Option (Ctl (Int × Int × (List Int)) (Ctl (Int × (List Int)) ((List Int)))) :=
  match s with
  | (i1, j1, l1) =>
    if (decide (j1 < (l1.length : Int))) then
      (idx l1 j1).bind fun y1 =>
      (del1 y1).bind fun r2 =>
      if (!r2) then
        (idx l1 i1).bind fun y2 =>
        (upd l1 i1 y1).bind fun l2 =>
        some (.next ((IntKind.i64.wrap (i1 + 1)), (IntKind.i64.wrap (j1 + 1)), l2))
      else
        some (.next (i1, (IntKind.i64.wrap (j1 + 1)), l1))
    else
      some (.done (.next (i1, l1)))
noncomputable def M.slices_DeleteFunc__int (s1 : (List Int)) (del1 : (Int → Option (Bool))) : Option ((List Int)) :=
  (M.slices_IndexFunc__int s1 del1).bind fun r1 =>
  if (r1 == (-1)) then
    some s1
  else
    (wloop (M.slices_DeleteFunc__int_L1 del1) (r1, (IntKind.i64.wrap (r1 + 1)), s1)).bind fun k => joinK k fun (i1, l1) =>
    (sub l1 i1 l1.length).bind fun l3 =>
    (sub (l1.take (Int.toNat i1) ++ List.replicate l3.length 0 ++ l1.drop ((Int.toNat i1) + l3.length)) 0 i1).bind fun l4 =>
    some l4
noncomputable def M.index_bare_1 (n1 : Int) : Option (Bool) :=
  some (n1 == 1)
noncomputable def M.index_bare (s1 : (List Int)) : Option ((List Int)) :=
  (M.slices_Clone__int s1).bind fun r1 =>
  (M.slices_DeleteFunc__int r1 (fun x0 => M.index_bare_1 x0)).bind fun r2 =>
  some r2
noncomputable def M.slices_Equal__int_L1 (s1 : (List Int)) (s2 : (List Int)) (s : Int) : Option (Ctl (Int) (Ctl (Unit) (Bool))) :=
  match s with
  | t1 =>
    if (decide (t1 < (s1.length : Int))) then
      (idx s1 t1).bind fun y1 =>
      (idx s2 t1).bind fun y2 =>
      if (y1 != y2) then
        some (.done (.done false))
      else
        some (.next (IntKind.i64.wrap (t1 + 1)))
    else
      some (.done (.next ()))
noncomputable def M.slices_Equal__int (s1 : (List Int)) (s2 : (List Int)) : Option (Bool) :=
  if ((s1.length : Int) != (s2.length : Int)) then
    some false
  else
    (wloop (M.slices_Equal__int_L1 s1 s2) 0).bind fun k => joinK k fun _ =>
    some true
noncomputable def M.index_goes (v1 : Val) (w1 : Val) (s1 : (List Int)) : Option (Int) :=
  (M.index_bare s1).bind fun r1 =>
  (M.index_bare w1.Shape).bind fun r2 =>
  if ((decide ((w1.Shape.length : Int) > 0)) && ((r1.length : Int) != (r2.length : Int))) then
    some 24
  else
    (if (decide ((w1.Shape.length : Int) > 0)) then
    (M.slices_Equal__int r1 r2).bind fun r3 =>
    some (!r3) else
    some false).bind fun c2 =>
    if c2 then
      some 25
    else
      if ((!(v1.Char == w1.Char)) && (decide ((w1.Data.length : Int) > 0))) then
        some 23
      else
        some 0
noncomputable def M.slices_Clone__int64 (s1 : (List Int)) : Option ((List Int)) :=
  app 8 [] s1
noncomputable def M.value_Copy (v1 : Val) : Option (Val) :=
  (M.slices_Clone__int v1.Shape).bind fun r1 =>
  (M.slices_Clone__int64 v1.Data).bind fun r2 =>
  some (Val.mk v1.Char r1 r2)
noncomputable def M.index_Put_L1 (w1 : Val) (r2 : Am.Found) (s : Int × (List Int)) : Option (Ctl (Int × (List Int)) (Ctl ((List Int)) (Val × Int))) :=
  match s with
  | (t1, l1) =>
    if (decide (t1 < (r2.offsets.length : Int))) then
      (idx r2.offsets t1).bind fun y1 =>
      if ((w1.Shape.length : Int) == 0) then
        (idx w1.Data 0).bind fun y2 =>
        (idx l1 y1).bind fun y3 =>
        (upd l1 y1 y2).bind fun l2 =>
        some (.next ((IntKind.i64.wrap (t1 + 1)), l2))
      else
        (idx w1.Data t1).bind fun y4 =>
        (idx l1 y1).bind fun y5 =>
        (upd l1 y1 y4).bind fun l3 =>
        some (.next ((IntKind.i64.wrap (t1 + 1)), l3))
    else
      some (.done (.next l1))
noncomputable def M.index_Put (v1 : Val) (places1 : (List Am.Place)) (w1 : Val) : Option (Val × Int) :=
  (M.value_Right w1).bind fun r1 =>
  if (!r1) then
    some ((Val.mk false ([]) ([])), 1)
  else
    (M.index_finds v1 places1).bind fun (r2, r3) =>
    if (r3 != 0) then
      some ((Val.mk false ([]) ([])), r3)
    else
      (M.index_goes v1 w1 r2.shape).bind fun r4 =>
      if (r4 != 0) then
        some ((Val.mk false ([]) ([])), r4)
      else
        (M.value_Copy v1).bind fun r5 =>
        (wloop (M.index_Put_L1 w1 r2) (0, r5.Data)).bind fun k => joinK k fun l1 =>
        some ((Val.mk r5.Char r5.Shape l1), 0)
noncomputable def M.anamnesisref11_bare_L1 (s1 : (List Int)) (s : (List Int) × Int) : Option (Ctl ((List Int) × Int) (Ctl ((List Int)) ((List Int)))) :=
  match s with
  | (out1, i1) =>
    if (decide (i1 < (s1.length : Int))) then
      (idx s1 i1).bind fun y1 =>
      if (y1 != 1) then
        (idx s1 i1).bind fun y2 =>
        (app 8 out1 ([y2])).bind fun l1 =>
        some (.next (l1, (IntKind.i64.wrap (i1 + 1))))
      else
        some (.next (out1, (IntKind.i64.wrap (i1 + 1))))
    else
      some (.done (.next out1))
noncomputable def M.anamnesisref11_bare (s1 : (List Int)) : Option ((List Int)) :=
  (wloop (M.anamnesisref11_bare_L1 s1) ([], 0)).bind fun k => joinK k fun out1 =>
  some out1
noncomputable def M.anamnesisref11_Put_L1 (r4 : (List Int)) (r5 : (List Int)) (s : Int) : Option (Ctl (Int) (Ctl (Unit) (Ctl (Unit) (Val × Int)))) :=
  match s with
  | i1 =>
    if (decide (i1 < (r4.length : Int))) then
      (idx r4 i1).bind fun y1 =>
      (idx r5 i1).bind fun y2 =>
      if (y1 != y2) then
        some (.done (.done (.done ((Val.mk false ([]) ([])), 25))))
      else
        some (.next (IntKind.i64.wrap (i1 + 1)))
    else
      some (.done (.next ()))
noncomputable def M.anamnesisref11_Put_L2 (v1 : Val) (l1 : (List Am.Place)) (w1 : Val) (r2 : (List Int)) (s : Int × (List Int)) : Option (Ctl (Int × (List Int)) (Ctl ((List Int)) (Val × Int))) :=
  match s with
  | (k3, l2) =>
    (M.anamnesisref07_Size r2).bind fun r7 =>
    if (decide (k3 < r7)) then
      (if (decide ((w1.Shape.length : Int) > 0)) then
        some k3
      else
        some 0).bind fun n1 =>
      (M.anamnesisref07_At r2 k3).bind fun r8 =>
      (M.anamnesisref11_from v1 l1 r8).bind fun r9 =>
      (idx w1.Data n1).bind fun y3 =>
      (idx l2 r9).bind fun y4 =>
      (upd l2 r9 y3).bind fun l3 =>
      some (.next ((IntKind.i64.wrap (k3 + 1)), l3))
    else
      some (.done (.next l2))
noncomputable def M.anamnesisref11_Put (v1 : Val) (l1 : (List Am.Place)) (w1 : Val) : Option (Val × Int) :=
  (M.anamnesisref02_Right w1).bind fun r1 =>
  if (!r1) then
    some ((Val.mk false ([]) ([])), 1)
  else
    (M.anamnesisref11_lengths v1 l1).bind fun (r2, r3) =>
    if (r3 != 0) then
      some ((Val.mk false ([]) ([])), r3)
    else
      (M.anamnesisref11_bare r2).bind fun r4 =>
      (M.anamnesisref11_bare w1.Shape).bind fun r5 =>
      (if (decide ((w1.Shape.length : Int) > 0)) then
        if ((r4.length : Int) != (r5.length : Int)) then
          some (.done ((Val.mk false ([]) ([])), 24))
        else
          (wloop (M.anamnesisref11_Put_L1 r4 r5) 0).bind fun k => joinK k fun _ =>
          some (.next ())
      else
        some (.next ())).bind fun k => joinK k fun _ =>
      if ((decide ((w1.Data.length : Int) > 0)) && (!(v1.Char == w1.Char))) then
        some ((Val.mk false ([]) ([])), 23)
      else
        (M.anamnesisref02_Copy v1).bind fun r6 =>
        (wloop (M.anamnesisref11_Put_L2 v1 l1 w1 r2) (0, r6.Data)).bind fun k => joinK k fun l2 =>
        some ((Val.mk r6.Char r6.Shape l2), 0)
noncomputable def M.anamnesisref02_Same_L2 (a1 : Val) (b1 : Val) (s : Int) : Option (Ctl (Int) (Ctl (Unit) (Bool))) :=
  match s with
  | i2 =>
    if (decide (i2 < (a1.Data.length : Int))) then
      (idx a1.Data i2).bind fun y3 =>
      (idx b1.Data i2).bind fun y4 =>
      if (y3 != y4) then
        some (.done (.done false))
      else
        some (.next (IntKind.i64.wrap (i2 + 1)))
    else
      some (.done (.next ()))
noncomputable def M.anamnesisref02_Same_L1 (a1 : Val) (b1 : Val) (s : Int) : Option (Ctl (Int) (Ctl (Unit) (Bool))) :=
  match s with
  | i1 =>
    if (decide (i1 < (a1.Shape.length : Int))) then
      (idx a1.Shape i1).bind fun y1 =>
      (idx b1.Shape i1).bind fun y2 =>
      if (y1 != y2) then
        some (.done (.done false))
      else
        some (.next (IntKind.i64.wrap (i1 + 1)))
    else
      some (.done (.next ()))
noncomputable def M.anamnesisref02_Same (a1 : Val) (b1 : Val) : Option (Bool) :=
  if (((!(a1.Char == b1.Char)) || ((a1.Shape.length : Int) != (b1.Shape.length : Int))) || ((a1.Data.length : Int) != (b1.Data.length : Int))) then
    some false
  else
    (wloop (M.anamnesisref02_Same_L1 a1 b1) 0).bind fun k => joinK k fun _ =>
    (wloop (M.anamnesisref02_Same_L2 a1 b1) 0).bind fun k => joinK k fun _ =>
    some true
noncomputable def M.anamnesislaw11_IndexTells_L2 (places1 : (List Am.Place)) (l1 : (List Am.Place)) (s : Int) : Option (Ctl (Int) (Ctl (Unit) (Bool))) :=
  match s with
  | i2 =>
    if (decide (i2 < (l1.length : Int))) then
      (idx places1 i2).bind fun y3 =>
      (idx l1 i2).bind fun y4 =>
      (M.anamnesisref02_Same y3.V y4.V).bind fun r17 =>
      if (!r17) then
        some (.done (.done false))
      else
        some (.next (IntKind.i64.wrap (i2 + 1)))
    else
      some (.done (.next ()))
noncomputable def M.anamnesislaw11_IndexTells_L1 (places1 : (List Am.Place)) (s : (List Am.Place) × Int) : Option (Ctl ((List Am.Place) × Int) (Ctl ((List Am.Place)) (Bool))) :=
  match s with
  | (l1, i1) =>
    if (decide (i1 < (places1.length : Int))) then
      (idx places1 i1).bind fun y1 =>
      (idx places1 i1).bind fun y2 =>
      (M.anamnesisref02_Copy y2.V).bind fun r4 =>
      (app 64 l1 ([(Am.Place.mk y1.All r4)])).bind fun l2 =>
      some (.next (l2, (IntKind.i64.wrap (i1 + 1))))
    else
      some (.done (.next l1))
noncomputable def M.anamnesislaw11_IndexTells (v1 : Val) (places1 : (List Am.Place)) (w1 : Val) : Option (Bool) :=
  (if ((((decide ((v1.Data.length : Int) > 1000)) || (decide ((w1.Data.length : Int) > 1000))) || (decide ((v1.Shape.length : Int) > 10))) || (decide ((w1.Shape.length : Int) > 10))) then
  some true else
  (M.anamnesislaw11_Great places1).bind fun r1 =>
  some r1).bind fun c4 =>
  if c4 then
    some true
  else
    (M.anamnesisref02_Copy v1).bind fun r2 =>
    (M.anamnesisref02_Copy w1).bind fun r3 =>
    (wloop (M.anamnesislaw11_IndexTells_L1 places1) ([], 0)).bind fun k => joinK k fun l1 =>
    (M.index_Get v1 places1).bind fun (r5, r6) =>
    (M.anamnesisref11_Get v1 l1).bind fun (r7, r8) =>
    (M.index_Put v1 places1 w1).bind fun (r9, r10) =>
    (M.anamnesisref11_Put v1 l1 w1).bind fun (r11, r12) =>
    (if ((r6 != r8) || (r10 != r12)) then
    some true else
    (M.anamnesisref02_Same r5 r7).bind fun r13 =>
    some (!r13)).bind fun c7 =>
    (if c7 then
    some true else
    (M.anamnesisref02_Same r9 r11).bind fun r14 =>
    some (!r14)).bind fun c8 =>
    (if c8 then
    some true else
    (M.anamnesisref02_Same v1 r2).bind fun r15 =>
    some (!r15)).bind fun c9 =>
    (if c9 then
    some true else
    (M.anamnesisref02_Same w1 r3).bind fun r16 =>
    some (!r16)).bind fun c10 =>
    if c10 then
      some false
    else
      (wloop (M.anamnesislaw11_IndexTells_L2 places1 l1) 0).bind fun k => joinK k fun _ =>
      some true
theorem w64_id {x : Int} (h1 : -9223372036854775808 ≤ x) (h2 : x ≤ 9223372036854775807) : IntKind.i64.wrap x = x := wrap_id h1 h2
theorem u8_mod (x : Int) : IntKind.u8.wrap x = x % 256 := by simp [IntKind.wrap, IntKind.bits, IntKind.signed]
theorem u8_id {x : Int} (h1 : 0 ≤ x) (h2 : x ≤ 255) : IntKind.u8.wrap x = x := by rw [u8_mod]; omega
theorem u32_id {x : Int} (h1 : 0 ≤ x) (h2 : x ≤ 1114111) : IntKind.u32.wrap x = x := by
  have : IntKind.u32.wrap x = x % 4294967296 := by simp [IntKind.wrap, IntKind.bits, IntKind.signed]
  rw [this]; omega
/-- A loop comes to an end in a state with Q: P holds ahead of each round, and its number falls. -/
theorem wloop_ind {σ β : Type} {f : σ → Option (Ctl σ β)} (P : Nat → σ → Prop) (Q : β → Prop)
    (h : ∀ n s, P n s → (∃ s' n', f s = some (.next s') ∧ n' < n ∧ P n' s') ∨ (∃ b, f s = some (.done b) ∧ Q b)) : ∀ n s, P n s → ∃ b, wloop f s = some b ∧ Q b := by
  intro n
  induction n using Nat.strongRecOn with
  | _ n ih =>
    intro s hp
    rcases h n s hp with ⟨s', n', hf, hn, hp'⟩ | ⟨b, hf, hq⟩
    · obtain ⟨b, hb, hq⟩ := ih n' hn s' hp'
      exact ⟨b, by rw [wloop_next hf]; exact hb, hq⟩
    · exact ⟨b, wloop_done hf, hq⟩
theorem idx_nat {α : Type} (l : List α) (k : Nat) : idx l (k : Int) = l[k]? := by
  unfold idx; rw [if_pos (by omega)]; rfl
theorem idx_get {α : Type} {l : List α} {k : Nat} (h : k < l.length) : idx l (k : Int) = some l[k] := by rw [idx_nat, List.getElem?_eq_getElem h]
theorem upd_nat {α : Type} {l : List α} {k : Nat} {x : α} (h : k < l.length) : upd l (k : Int) x = some (l.set k x) := by
  unfold upd; rw [if_pos ⟨by omega, by omega⟩]; rfl
theorem app_ok {α : Type} {b : Nat} {l m : List α} (h : (l.length + m.length) * b ≤ 140737488355328) : app b l m = some (l ++ m) := by
  unfold app; rw [if_pos (.inr h)]
theorem mk_ok {α : Type} {b : Nat} {z : α} {n : Nat} (h : b * n ≤ 140737488355328) (h' : n ≤ 140737488355328) : mk b z (n : Int) (n : Int) = some (List.replicate n z) := by
  unfold mk
  have : ((b : Int) * (n : Int)) ≤ 140737488355328 := by
    have h2 : ((b * n : Nat) : Int) ≤ 140737488355328 := by omega
    rwa [Int.natCast_mul] at h2
  rw [if_pos ⟨by omega, by omega, this, by omega⟩]; rfl
/-- the numbers that a kind has. -/
theorem wf64 {n : Int} (h : (Lit.int .i64 n).wf = true) : -9223372036854775808 ≤ n ∧ n ≤ 9223372036854775807 := by
  have h2 : (decide (IntKind.i64.min ≤ n) && decide (n ≤ IntKind.i64.max)) = true := h
  have e1 : IntKind.i64.min = -9223372036854775808 := by decide
  have e2 : IntKind.i64.max = 9223372036854775807 := by decide
  rw [e1, e2] at h2
  simpa using h2
theorem sub_drop {α : Type} {l : List α} {k : Nat} (h : k ≤ l.length) : sub l (k : Int) (l.length : Int) = some (l.drop k) := by
  unfold sub
  rw [if_pos ⟨by omega, by omega, by omega⟩]
  simp
theorem drop_cons {α : Type} {l : List α} {k : Nat} (h : k < l.length) : l.drop k = l[k] :: l.drop (k + 1) := List.drop_eq_getElem_cons h
theorem same_loop {f : Int → Option (Ctl Int (Ctl Unit Bool))} {a b : List Int} (hl : a.length = b.length) (hm : a.length ≤ maxLen)
    (hf : ∀ k : Nat, ∀ h : k < a.length, f k = if a[k] = b[k]'(hl ▸ h) then some (.next ((k : Int) + 1)) else some (.done (.done false))) (he : f a.length = some (.done (.next ()))) :
    wloop f 0 = some (if a = b then .next () else .done false) := by
  have key := wloop_ind (f := f) (fun n i => ∃ k : Nat, i = k ∧ k ≤ a.length ∧ n = a.length - k ∧ a.take k = b.take k)
    (fun c => (c = .done false ∧ a ≠ b) ∨ (c = .next () ∧ a = b)) (fun n i h => by
      obtain ⟨k, rfl, hk, rfl, hn⟩ := h
      by_cases hlt : k < a.length
      · rw [hf k hlt]
        by_cases he : a[k] = b[k]
        · rw [if_pos he]
          left
          refine ⟨_, a.length - (k + 1), rfl, by omega, k + 1, by omega, by omega, rfl, ?_⟩
          rw [List.take_succ_eq_append_getElem hlt, List.take_succ_eq_append_getElem (by omega), hn, he]
        · rw [if_neg he]
          right
          refine ⟨_, rfl, .inl ⟨rfl, fun h => he ?_⟩⟩
          subst h; rfl
      · have : k = a.length := by omega
        subst this
        right
        refine ⟨_, he, .inr ⟨rfl, ?_⟩⟩
        rw [List.take_length, hl, List.take_length] at hn
        exact hn) a.length 0 ⟨0, rfl, by omega, by omega, by simp⟩
  obtain ⟨c, hc, ⟨rfl, h⟩ | ⟨rfl, h⟩⟩ := key
  · rw [hc]; simp [h]
  · rw [hc]; simp [h]

theorem same_step {f : Int → Option (Ctl Int (Ctl Unit Bool))} {a b : List Int} (hl : a.length = b.length) (hm : a.length ≤ maxLen)
    (hf : ∀ k : Nat, ∀ h : k < a.length, f k = if a[k] = b[k]'(hl ▸ h) then some (.next ((k : Int) + 1)) else some (.done (.done false))) (he : f a.length = some (.done (.next ()))) :
    (wloop f 0).bind (fun k => joinK k fun _ => some true) = some (decide (a = b)) := by
  rw [same_loop hl hm hf he]
  by_cases h : a = b
  · rw [if_pos h, decide_eq_true h]; rfl
  · rw [if_neg h, decide_eq_false h]; rfl
/-- a loop that counts up. -/
theorem loop_up {S τ β : Type} {f : S → Option (Ctl S β)} (st : Nat → τ → S) (n : Nat) (I : Nat → τ → Prop) (out : τ → β) (a : τ) (h0 : I 0 a)
    (hf : ∀ k m, k < n → I k m → ∃ m', f (st k m) = some (.next (st (k + 1) m')) ∧ I (k + 1) m') (he : ∀ m, I n m → f (st n m) = some (.done (out m))) :
    ∃ m, I n m ∧ wloop f (st 0 a) = some (out m) := by
  have key := wloop_ind (f := f) (fun j s => ∃ k m, s = st k m ∧ j = n - k ∧ k ≤ n ∧ I k m) (fun b => ∃ m, b = out m ∧ I n m) (fun j s h => by
    obtain ⟨k, m, rfl, rfl, hk, hi⟩ := h
    by_cases hlt : k < n
    · left
      obtain ⟨m', h1, h2⟩ := hf k m hlt hi
      exact ⟨_, n - (k + 1), h1, by omega, k + 1, m', rfl, rfl, by omega, h2⟩
    · have : k = n := by omega
      subst this
      exact .inr ⟨_, he m hi, m, rfl, hi⟩) n (st 0 a) ⟨0, a, rfl, by omega, by omega, h0⟩
  obtain ⟨b, hb, m, rfl, hi⟩ := key
  exact ⟨m, hi, hb⟩
/-- a loop that counts up, each of whose states is told. -/
theorem loop_fun {S β : Type} {f : S → Option (Ctl S β)} (st : Nat → S) (n : Nat) {b : β} (hf : ∀ k, k < n → f (st k) = some (.next (st (k + 1)))) (he : f (st n) = some (.done b)) : wloop f (st 0) = some b := by
  obtain ⟨_, _, h⟩ := loop_up (f := f) (fun k (_ : Unit) => st k) n (fun _ _ => True) (fun _ => b) () trivial (fun k m hk _ => ⟨(), hf k hk, trivial⟩) (fun m _ => he)
  exact h
theorem lin_lt {i k R C : Nat} (h : i < R) (hk : k < C) : i * C + k < R * C := by
  have := Nat.mul_le_mul_right C (show i + 1 ≤ R from h)
  rw [Nat.succ_mul] at this; omega
theorem lin_inj {i k i' k' C : Nat} (hk : k < C) (hk' : k' < C) (h : i * C + k = i' * C + k') : i = i' ∧ k = k' := by
  have hc : 0 < C := by omega
  have e : ∀ (a b : Nat), b < C → (a * C + b) / C = a := fun a b hb => by
    rw [Nat.mul_comm, Nat.mul_add_div hc, Nat.div_eq_of_lt hb, Nat.add_zero]
  have h1 := e i k hk
  rw [h, e i' k' hk'] at h1
  subst h1; omega
/-- a matrix, row by row. -/
def tab (R C : Nat) (f : Nat → Nat → Int) : List Int := (List.range (R * C)).map fun p => f (p / C) (p % C)
theorem tab_len (R C : Nat) (f : Nat → Nat → Int) : (tab R C f).length = R * C := by simp [tab]
theorem tab_get {R C i k : Nat} (f : Nat → Nat → Int) (hi : i < R) (hk : k < C) : (tab R C f)[i * C + k]? = some (f i k) := by
  have hc : 0 < C := by omega
  unfold tab
  rw [List.getElem?_map, List.getElem?_range (lin_lt hi hk)]
  show some (f ((i * C + k) / C) ((i * C + k) % C)) = _
  rw [Nat.mul_comm, Nat.mul_add_div hc, Nat.div_eq_of_lt hk, Nat.mul_add_mod, Nat.mod_eq_of_lt hk, Nat.add_zero]
theorem tab_ext {R C : Nat} {f : Nat → Nat → Int} {l : List Int} (hl : l.length = R * C) (h : ∀ i k, i < R → k < C → l[i * C + k]? = some (f i k)) : l = tab R C f := by
  apply List.ext_getElem?
  intro p
  by_cases hp : p < R * C
  · have hc : 0 < C := by
      rcases Nat.eq_zero_or_pos C with h | h
      · subst h; simp at hp
      · exact h
    have h1 : p / C < R := by rw [Nat.div_lt_iff_lt_mul hc]; exact hp
    have h2 : p % C < C := Nat.mod_lt _ hc
    have e : p / C * C + p % C = p := by rw [Nat.mul_comm]; exact Nat.div_add_mod p C
    have a := h _ _ h1 h2
    have b := tab_get f h1 h2
    rw [e] at a b
    rw [a, b]
  · rw [List.getElem?_eq_none (by omega), List.getElem?_eq_none (by rw [tab_len]; omega)]
theorem contains_int {s : List Int} {f : Int → Option Bool} {g : Int → Bool} (hf : ∀ x ∈ s, f x = some (g x)) (hl : s.length ≤ 4611686018427387904) : M.slices_ContainsFunc__int s f = some (s.any g) := by
  have key := wloop_ind (f := M.slices_IndexFunc__int_L1 s f) (fun n i => ∃ k : Nat, i = k ∧ k ≤ s.length ∧ n = s.length - k ∧ (s.take k).any g = false)
    (fun b => (∃ i : Int, b = .done i ∧ 0 ≤ i ∧ s.any g = true) ∨ (b = .next () ∧ s.any g = false)) (fun n i h => by
      obtain ⟨k, rfl, hk, rfl, hn⟩ := h
      unfold M.slices_IndexFunc__int_L1
      by_cases hlt : k < s.length
      · simp only [show decide ((k : Int) < (s.length : Int)) = true from by simp; exact hlt, if_true, idx_get hlt, Option.bind_some, hf _ (List.getElem_mem hlt)]
        cases hg : g s[k] with
        | true =>
          right
          refine ⟨_, rfl, .inl ⟨_, rfl, by omega, ?_⟩⟩
          rw [List.any_eq_true]
          exact ⟨_, List.getElem_mem hlt, hg⟩
        | false =>
          left
          refine ⟨_, s.length - (k + 1), rfl, by omega, k + 1, ?_, by omega, rfl, ?_⟩
          · rw [w64_id (by omega) (by omega)]; omega
          · rw [List.take_succ_eq_append_getElem hlt, List.any_append, hn]; simp [hg]
      · have : k = s.length := by omega
        subst this
        right
        simp only [show decide ((s.length : Int) < (s.length : Int)) = false from by simp, Bool.false_eq_true, if_false]
        exact ⟨_, rfl, .inr ⟨rfl, by simpa using hn⟩⟩) s.length 0 ⟨0, rfl, by omega, by omega, by simp⟩
  unfold M.slices_ContainsFunc__int M.slices_IndexFunc__int
  obtain ⟨b, hb, ⟨i, rfl, h0, ha⟩ | ⟨rfl, ha⟩⟩ := key
  · rw [hb, ha]; simp [h0]
  · rw [hb, ha]; simp
theorem contains_int64 {s : List Int} {f : Int → Option Bool} {g : Int → Bool} (hf : ∀ x ∈ s, f x = some (g x)) (hl : s.length ≤ 9223372036854775807) : M.slices_ContainsFunc__int64 s f = some (s.any g) := by
  have key := wloop_ind (f := M.slices_IndexFunc__int64_L1 s f) (fun n i => ∃ k : Nat, i = k ∧ k ≤ s.length ∧ n = s.length - k ∧ (s.take k).any g = false)
    (fun b => (∃ i : Int, b = .done i ∧ 0 ≤ i ∧ s.any g = true) ∨ (b = .next () ∧ s.any g = false)) (fun n i h => by
      obtain ⟨k, rfl, hk, rfl, hn⟩ := h
      unfold M.slices_IndexFunc__int64_L1
      by_cases hlt : k < s.length
      · simp only [show decide ((k : Int) < (s.length : Int)) = true from by simp; exact hlt, if_true, idx_get hlt, Option.bind_some, hf _ (List.getElem_mem hlt)]
        cases hg : g s[k] with
        | true =>
          right
          refine ⟨_, rfl, .inl ⟨_, rfl, by omega, ?_⟩⟩
          rw [List.any_eq_true]
          exact ⟨_, List.getElem_mem hlt, hg⟩
        | false =>
          left
          refine ⟨_, s.length - (k + 1), rfl, by omega, k + 1, ?_, by omega, rfl, ?_⟩
          · rw [w64_id (by omega) (by omega)]; omega
          · rw [List.take_succ_eq_append_getElem hlt, List.any_append, hn]; simp [hg]
      · have : k = s.length := by omega
        subst this
        right
        simp only [show decide ((s.length : Int) < (s.length : Int)) = false from by simp, Bool.false_eq_true, if_false]
        exact ⟨_, rfl, .inr ⟨rfl, by simpa using hn⟩⟩) s.length 0 ⟨0, rfl, by omega, by omega, by simp⟩
  unfold M.slices_ContainsFunc__int64 M.slices_IndexFunc__int64
  obtain ⟨b, hb, ⟨i, rfl, h0, ha⟩ | ⟨rfl, ha⟩⟩ := key
  · rw [hb, ha]; simp [h0]
  · rw [hb, ha]; simp
def prod : List Int → Int
  | [] => 1
  | x :: s => x * prod s
def off : List Int → List Int → Int
  | x :: s, a :: at_ => a * prod s + off s at_
  | _, _ => 0
def dig : List Int → Int → List Int
  | [], _ => []
  | _ :: s, k => k / prod s :: dig s (k % prod s)
/-- is a place in a shape? -/
def inShape : List Int → List Int → Prop
  | [], [] => True
  | x :: s, a :: at_ => 0 ≤ a ∧ a < x ∧ inShape s at_
  | _, _ => False
instance : (s at_ : List Int) → Decidable (inShape s at_)
  | [], [] => isTrue trivial
  | x :: s, a :: at_ =>
    have := instDecidableInShape s at_
    by unfold inShape; exact inferInstance
  | [], _ :: _ => isFalse (fun h => h)
  | _ :: _, [] => isFalse (fun h => h)
theorem inShape.len : ∀ {s at_ : List Int}, inShape s at_ → at_.length = s.length
  | [], [], _ => rfl
  | x :: s, a :: at_, ⟨_, _, h⟩ => by simp [h.len]
  | [], _ :: _, h => h.elim
  | _ :: _, [], h => h.elim
theorem inShape.pos : ∀ {s at_ : List Int}, inShape s at_ → 0 < prod s
  | [], [], _ => by simp [prod]
  | x :: s, a :: at_, ⟨h0, h1, h⟩ => by
    have := h.pos
    exact Int.mul_pos (by omega) this
  | [], _ :: _, h => h.elim
  | _ :: _, [], h => h.elim
theorem off_range : ∀ {s at_ : List Int}, inShape s at_ → 0 ≤ off s at_ ∧ off s at_ < prod s
  | [], [], _ => by simp [prod, off]
  | x :: s, a :: at_, ⟨h0, h1, h⟩ => by
    have h2 := off_range h
    have h3 := h.pos
    have h4 : (a + 1) * prod s ≤ x * prod s := Int.mul_le_mul_of_nonneg_right (by omega) (by omega)
    have h5 : 0 ≤ a * prod s := Int.mul_nonneg h0 (by omega)
    rw [Int.add_mul] at h4
    simp only [prod, off]
    omega
  | [], _ :: _, h => h.elim
  | _ :: _, [], h => h.elim
theorem dig_off : ∀ {s at_ : List Int}, inShape s at_ → dig s (off s at_) = at_
  | [], [], _ => rfl
  | x :: s, a :: at_, ⟨h0, h1, h⟩ => by
    have h2 := off_range h
    have h3 := h.pos
    simp only [dig, off]
    rw [Int.add_comm, Int.mul_comm, Int.add_mul_ediv_left _ _ (by omega), Int.add_mul_emod_self_left, Int.emod_eq_of_lt h2.1 h2.2, dig_off h, Int.ediv_eq_zero_of_lt h2.1 h2.2]
    simp
  | [], _ :: _, h => h.elim
  | _ :: _, [], h => h.elim
def allPos (s : List Int) : Prop := ∀ x ∈ s, 0 < x
theorem allPos.pprod : ∀ {s : List Int}, allPos s → 0 < prod s
  | [], _ => by simp [prod]
  | x :: s, h => Int.mul_pos (h x List.mem_cons_self) (allPos.pprod fun y hy => h y (List.mem_cons_of_mem _ hy))
theorem allPos_of {s : List Int} (h : ∀ x ∈ s, 0 ≤ x) (hp : 0 < prod s) : allPos s := by
  intro x hx
  have h0 := h x hx
  rcases Int.lt_or_eq_of_le h0 with h1 | h1
  · exact h1
  · exfalso
    have : ∀ s : List Int, (0 : Int) ∈ s → prod s = 0 := by
      intro s
      induction s with
      | nil => intro h; simp at h
      | cons y s ih =>
        intro h
        rcases List.mem_cons.mp h with h | h
        · simp [prod, ← h]
        · simp [prod, ih h]
    rw [this s (h1 ▸ hx)] at hp
    omega
theorem dig_in : ∀ {s : List Int} {k : Int}, allPos s → 0 ≤ k → k < prod s → inShape s (dig s k)
  | [], k, _, h0, h1 => trivial
  | x :: s, k, h, h0, h1 => by
    have hs : allPos s := fun y hy => h y (List.mem_cons_of_mem _ hy)
    have hp := hs.pprod
    refine ⟨Int.ediv_nonneg h0 (by omega), ?_, dig_in hs (Int.emod_nonneg _ (by omega)) (Int.emod_lt_of_pos _ hp)⟩
    exact Int.ediv_lt_of_lt_mul hp h1
theorem off_dig : ∀ {s : List Int} {k : Int}, allPos s → 0 ≤ k → k < prod s → off s (dig s k) = k
  | [], k, _, h0, h1 => by simp [prod] at h1; simp [dig, off]; omega
  | x :: s, k, h, h0, h1 => by
    have hs : allPos s := fun y hy => h y (List.mem_cons_of_mem _ hy)
    have hp := hs.pprod
    simp only [dig, off]
    rw [off_dig hs (Int.emod_nonneg _ (by omega)) (Int.emod_lt_of_pos _ hp)]
    rw [Int.mul_comm]; exact Int.mul_ediv_add_emod k (prod s)
theorem dig_len : ∀ (s : List Int) (k : Int), (dig s k).length = s.length
  | [], _ => rfl
  | x :: s, k => by simp [dig, dig_len s]
theorem prod_nonneg : ∀ {s : List Int}, (∀ x ∈ s, 0 ≤ x) → 0 ≤ prod s
  | [], _ => by simp [prod]
  | x :: s, h => Int.mul_nonneg (h x List.mem_cons_self) (prod_nonneg fun y hy => h y (List.mem_cons_of_mem _ hy))
theorem prod_append : ∀ (s t : List Int), prod (s ++ t) = prod s * prod t
  | [], t => by simp [prod]
  | x :: s, t => by simp [prod, prod_append s t, Int.mul_assoc]

/-- the size of a shape, or the error. -/
def shSize (s : List Int) : Int × Int :=
  if 4 < s.length then (0, 24) else if s.any (fun x => decide (x < 0)) then (0, 1) else if s.any (fun x => decide (x > 10000)) || decide (prod s > 10000) then (0, 27) else (prod s, 0)
def shOk (s : List Int) : Prop := s.length ≤ 4 ∧ (∀ x ∈ s, 0 ≤ x ∧ x ≤ 10000) ∧ prod s ≤ 10000
instance (s : List Int) : Decidable (shOk s) := by unfold shOk; exact inferInstance
theorem shSize_ok {s : List Int} (h : shOk s) : shSize s = (prod s, 0) := by
  obtain ⟨h1, h2, h3⟩ := h
  unfold shSize
  rw [if_neg (by omega), if_neg, if_neg]
  · simp only [Bool.or_eq_true, List.any_eq_true, decide_eq_true_eq]
    rintro (⟨x, hx, h⟩ | h)
    · have := h2 x hx; omega
    · omega
  · simp only [List.any_eq_true, decide_eq_true_eq]
    rintro ⟨x, hx, h⟩
    have := h2 x hx; omega
theorem shSize_zero {s : List Int} : (shSize s).2 = 0 ↔ shOk s := by
  constructor
  · intro h
    unfold shSize at h
    split at h
    · cases h
    · rename_i h1
      split at h
      · cases h
      · rename_i h2
        split at h
        · cases h
        · rename_i h3
          simp only [List.any_eq_true, decide_eq_true_eq, not_exists, not_and] at h2
          simp only [Bool.or_eq_true, List.any_eq_true, decide_eq_true_eq, not_or, not_exists, not_and] at h3
          exact ⟨by omega, fun x hx => ⟨by have := h2 x hx; omega, by have := h3.1 x hx; omega⟩, by omega⟩
  · intro h; rw [shSize_ok h]
theorem shSize_cases (s : List Int) : (shOk s ∧ shSize s = (prod s, 0)) ∨ (¬ shOk s ∧ (shSize s).2 ≠ 0 ∧ (shSize s).1 = 0) := by
  by_cases h : shOk s
  · exact .inl ⟨h, shSize_ok h⟩
  · refine .inr ⟨h, fun hh => h (shSize_zero.mp hh), ?_⟩
    unfold shSize
    split
    · rfl
    · rename_i h1
      split
      · rfl
      · rename_i h2
        split
        · rfl
        · rename_i h3
          exfalso; apply h
          simp only [List.any_eq_true, decide_eq_true_eq, not_exists, not_and] at h2
          simp only [Bool.or_eq_true, List.any_eq_true, decide_eq_true_eq, not_or, not_exists, not_and] at h3
          exact ⟨by omega, fun x hx => ⟨by have := h2 x hx; omega, by have := h3.1 x hx; omega⟩, by omega⟩
theorem dig_bound {s : List Int} {k : Int} (hok : shOk s) (h0 : 0 ≤ k) (h1 : k < prod s) : ∀ x ∈ dig s k, 0 ≤ x ∧ x ≤ 10000 := by
  have hpos : allPos s := allPos_of (fun x hx => (hok.2.1 x hx).1) (by omega)
  have key : ∀ (s at_ : List Int), inShape s at_ → (∀ x ∈ s, 0 ≤ x ∧ x ≤ 10000) → ∀ x ∈ at_, 0 ≤ x ∧ x ≤ 10000 := by
    intro s
    induction s with
    | nil => intro at_ h _ x hx; cases at_ with | nil => simp at hx | cons _ _ => exact h.elim
    | cons y s ih =>
      intro at_ h hb x hx
      cases at_ with
      | nil => exact h.elim
      | cons a at_ =>
        obtain ⟨h1, h2, h3⟩ := h
        rcases List.mem_cons.mp hx with rfl | hx
        · have := hb y List.mem_cons_self; omega
        · exact ih at_ h3 (fun z hz => hb z (List.mem_cons_of_mem _ hz)) x hx
  exact key s _ (dig_in hpos h0 h1) hok.2.1
theorem dig_zero : ∀ {s : List Int}, allPos s → dig s 0 = List.replicate s.length 0
  | [], _ => rfl
  | x :: s, h => by
    have hs : allPos s := fun y hy => h y (List.mem_cons_of_mem _ hy)
    simp only [dig, Int.zero_ediv, Int.zero_emod, dig_zero hs]; rfl

theorem one_le_pow : ∀ k : Nat, (1 : Int) ≤ 10000 ^ k
  | 0 => by simp
  | k + 1 => by rw [Int.pow_succ]; have := one_le_pow k; omega
theorem prod_bound : ∀ (s : List Int) (k : Nat), s.length ≤ k → (∀ x ∈ s, 0 ≤ x ∧ x ≤ 10000) → 0 ≤ prod s ∧ prod s ≤ 10000 ^ k
  | [], k, _, _ => ⟨by simp [prod], one_le_pow k⟩
  | x :: s, k + 1, hl, h => by
    have h1 := h x List.mem_cons_self
    have h2 := prod_bound s k (by simpa using hl) (fun y hy => h y (List.mem_cons_of_mem _ hy))
    refine ⟨Int.mul_nonneg h1.1 h2.1, ?_⟩
    simp only [prod]
    have h3 : x * prod s ≤ 10000 * prod s := Int.mul_le_mul_of_nonneg_right h1.2 h2.1
    have h4 : (10000 : Int) ^ (k + 1) = 10000 ^ k * 10000 := Int.pow_succ _ _
    omega
  | x :: s, 0, hl, h => by simp at hl

theorem product_eq {s : List Int} (hl : s.length ≤ 4) (hb : ∀ x ∈ s, 0 ≤ x ∧ x ≤ 10000) : M.shape_product s = some (prod s) := by
  have key := wloop_ind (f := M.shape_product_L1 s) (fun n st => ∃ k : Nat, st = (prod (s.take k), (k : Int)) ∧ k ≤ s.length ∧ n = s.length - k)
    (fun b => b = .next (prod s)) (fun n st h => by
      obtain ⟨k, rfl, hk, rfl⟩ := h
      unfold M.shape_product_L1
      by_cases hlt : k < s.length
      · left
        simp only [show decide ((k : Int) < (s.length : Int)) = true from by simp; exact hlt, if_true, idx_get hlt, Option.bind_some]
        have e : prod (s.take k) * s[k] = prod (s.take (k + 1)) := by
          rw [List.take_succ_eq_append_getElem hlt, prod_append]; simp [prod]
        have hp := prod_bound (s.take (k + 1)) 4 (by rw [List.length_take]; omega) (fun x hx => hb x (List.mem_of_mem_take hx))
        refine ⟨_, s.length - (k + 1), rfl, by omega, k + 1, ?_, by omega, rfl⟩
        rw [e, w64_id (by omega) (by omega), w64_id (by omega) (by omega)]
        simp
      · have : k = s.length := by omega
        subst this
        right
        simp)
    s.length (1, 0) ⟨0, by simp [prod], by omega, by omega⟩
  obtain ⟨b, hb, rfl⟩ := key
  unfold M.shape_product
  rw [hb]; rfl

theorem shape_Size_eq {s : List Int} (hl : s.length ≤ maxLen) : M.shape_Size s = some (shSize s) := by
  have hm : maxLen = 9223372036854775807 := rfl
  unfold M.shape_Size shSize
  by_cases h4 : 4 < s.length
  · rw [if_pos h4, if_pos (by simp; omega)]
  · rw [if_neg h4, if_neg (by simp; omega)]
    rw [contains_int (s := s) (f := fun x0 => M.shape_Size_1 x0) (g := fun x => decide (x < 0)) (fun x _ => rfl) (by omega), Option.bind_some]
    cases hneg : s.any (fun x => decide (x < 0)) with
    | true => simp
    | false =>
      simp only [Bool.false_eq_true, if_false]
      rw [contains_int (s := s) (f := fun x0 => M.shape_Size_2 x0) (g := fun x => decide (x > 10000)) (fun x _ => rfl) (by omega), Option.bind_some]
      cases hbig : s.any (fun x => decide (x > 10000)) with
      | true => simp
      | false =>
        have hb : ∀ x ∈ s, 0 ≤ x ∧ x ≤ 10000 := by
          intro x hx
          simp only [List.any_eq_false, decide_eq_true_eq] at hneg hbig
          have := hneg x hx; have := hbig x hx; omega
        simp only [Bool.false_eq_true, if_false, product_eq (by omega) hb, Option.bind_some, Bool.false_or]
        split <;> simp_all
/-- is a number a character? -/
def chOk (c : Int) : Bool := decide (0 ≤ c ∧ c ≤ 1114111) && !decide (55296 ≤ c ∧ c ≤ 57343)
/-- may an array be? -/
def vRight (v : Val) : Bool := decide (shOk v.Shape) && decide (prod v.Shape = v.Data.length) && (!v.Char || v.Data.all chOk)
def vSame (a b : Val) : Bool := (a.Char == b.Char) && decide (a.Shape = b.Shape) && decide (a.Data = b.Data)
theorem vSame_iff {a b : Val} : vSame a b = true ↔ a = b := by
  obtain ⟨c, s, d⟩ := a
  obtain ⟨c', s', d'⟩ := b
  simp only [vSame, Bool.and_eq_true, beq_iff_eq, decide_eq_true_eq, Val.mk.injEq]
  constructor
  · rintro ⟨⟨h1, h2⟩, h3⟩; exact ⟨h1, h2, h3⟩
  · rintro ⟨h1, h2, h3⟩; exact ⟨⟨h1, h2⟩, h3⟩
theorem vSame_refl (a : Val) : vSame a a = true := vSame_iff.mpr rfl
theorem vSame_eq (a b : Val) : vSame a b = true ∧ a = b ∨ vSame a b = false ∧ a ≠ b := by
  cases h : vSame a b with
  | true => exact .inl ⟨rfl, vSame_iff.mp h⟩
  | false => exact .inr ⟨rfl, fun hh => by rw [vSame_iff.mpr hh] at h; cases h⟩
theorem vRight_iff {v : Val} : vRight v = true ↔ shOk v.Shape ∧ prod v.Shape = v.Data.length ∧ (v.Char = true → ∀ c ∈ v.Data, chOk c = true) := by
  simp only [vRight, Bool.and_eq_true, decide_eq_true_eq, Bool.or_eq_true, Bool.not_eq_true', List.all_eq_true]
  constructor
  · rintro ⟨⟨h1, h2⟩, h3⟩
    refine ⟨h1, h2, fun h => ?_⟩
    rcases h3 with h3 | h3
    · rw [h3] at h; cases h
    · exact h3
  · rintro ⟨h1, h2, h3⟩
    refine ⟨⟨h1, h2⟩, ?_⟩
    cases h : v.Char with
    | true => exact .inr (h3 h)
    | false => exact .inl rfl

theorem right_loop {f : Int × Int → Option (Ctl (Int × Int) (Ctl Int Bool))} {s : List Int} (h4 : s.length ≤ 4)
    (hf : ∀ k : Nat, ∀ h : k < s.length, ∀ z, f (z, (k : Int)) = if s[k] < 0 ∨ s[k] > 10000 then some (.done (.done false)) else some (.next (IntKind.i64.wrap (z * s[k]), (k : Int) + 1)))
    (he : ∀ z, f (z, (s.length : Int)) = some (.done (.next z))) :
    ((∀ x ∈ s, 0 ≤ x ∧ x ≤ 10000) ∧ wloop f (1, 0) = some (.next (prod s))) ∨ (¬ (∀ x ∈ s, 0 ≤ x ∧ x ≤ 10000) ∧ wloop f (1, 0) = some (.done false)) := by
  have key := wloop_ind (f := f) (fun n st => ∃ k : Nat, n = s.length - k ∧ k ≤ s.length ∧ st = (prod (s.take k), (k : Int)) ∧ ∀ x ∈ s.take k, 0 ≤ x ∧ x ≤ 10000)
    (fun b => (b = .next (prod s) ∧ ∀ x ∈ s, 0 ≤ x ∧ x ≤ 10000) ∨ (b = .done false ∧ ¬ ∀ x ∈ s, 0 ≤ x ∧ x ≤ 10000)) (fun n st h => by
      obtain ⟨k, rfl, hk, rfl, hall⟩ := h
      by_cases hlt : k < s.length
      · rw [hf k hlt]
        by_cases hb : s[k] < 0 ∨ s[k] > 10000
        · rw [if_pos hb]
          right
          refine ⟨_, rfl, .inr ⟨rfl, fun hh => ?_⟩⟩
          have := hh _ (List.getElem_mem hlt); omega
        · rw [if_neg hb]
          left
          have e := List.take_succ_eq_append_getElem hlt
          have hall2 : ∀ x ∈ s.take (k + 1), 0 ≤ x ∧ x ≤ 10000 := by
            intro x hx
            rw [e] at hx
            rcases List.mem_append.mp hx with hx | hx
            · exact hall x hx
            · rw [List.mem_singleton.mp hx]; omega
          have hp := prod_bound (s.take (k + 1)) 4 (by rw [List.length_take]; omega) hall2
          have e2 : prod (s.take (k + 1)) = prod (s.take k) * s[k] := by rw [e, prod_append]; simp [prod]
          refine ⟨_, s.length - (k + 1), rfl, by omega, k + 1, rfl, by omega, ?_, hall2⟩
          rw [← e2, w64_id (by omega) (by omega)]; simp
      · have : k = s.length := by omega
        subst this
        rw [he]
        rw [List.take_length] at hall ⊢
        exact .inr ⟨_, rfl, .inl ⟨rfl, hall⟩⟩)
    s.length (1, 0) ⟨0, by omega, by omega, by simp [prod], by simp⟩
  obtain ⟨b, hb, ⟨rfl, h⟩ | ⟨rfl, h⟩⟩ := key
  · exact .inl ⟨h, hb⟩
  · exact .inr ⟨h, hb⟩
theorem all_loop {f : Int → Option (Ctl Int (Ctl Unit Bool))} {l : List Int} {p : Int → Bool}
    (hf : ∀ k : Nat, ∀ h : k < l.length, f k = if p l[k] = true then some (.next ((k : Int) + 1)) else some (.done (.done false))) (he : f l.length = some (.done (.next ()))) :
    wloop f 0 = some (if l.all p = true then .next () else .done false) := by
  have key := wloop_ind (f := f) (fun n i => ∃ k : Nat, i = k ∧ k ≤ l.length ∧ n = l.length - k ∧ (l.take k).all p = true)
    (fun c => (c = .done false ∧ l.all p = false) ∨ (c = .next () ∧ l.all p = true)) (fun n i h => by
      obtain ⟨k, rfl, hk, rfl, hn⟩ := h
      by_cases hlt : k < l.length
      · rw [hf k hlt]
        by_cases hp : p l[k] = true
        · rw [if_pos hp]
          left
          refine ⟨_, l.length - (k + 1), rfl, by omega, k + 1, by omega, by omega, rfl, ?_⟩
          rw [List.take_succ_eq_append_getElem hlt, List.all_append, hn]; simp [hp]
        · rw [if_neg hp]
          right
          refine ⟨_, rfl, .inl ⟨rfl, ?_⟩⟩
          rw [List.all_eq_false]
          exact ⟨_, List.getElem_mem hlt, hp⟩
      · have : k = l.length := by omega
        subst this
        right
        rw [List.take_length] at hn
        exact ⟨_, he, .inr ⟨rfl, hn⟩⟩) l.length 0 ⟨0, rfl, by omega, by omega, by simp⟩
  obtain ⟨c, hc, ⟨rfl, h⟩ | ⟨rfl, h⟩⟩ := key
  · rw [hc, h]; simp
  · rw [hc, h]; simp
theorem w32_id {x : Int} (h1 : 0 ≤ x) (h2 : x ≤ 1114111) : IntKind.i32.wrap x = x := by
  have e : IntKind.i32.wrap x = if x % 4294967296 ≥ 2147483648 then x % 4294967296 - 4294967296 else x % 4294967296 := by
    simp [IntKind.wrap, IntKind.bits, IntKind.signed]
  rw [e]
  split <;> omega
theorem character_eq (c : Int) : M.value_character c = some (chOk c) := by
  unfold M.value_character chOk
  by_cases h : 0 ≤ c ∧ c ≤ 1114111
  · have e : (decide (c ≥ 0) && decide (c ≤ 1114111)) = true := by simp; omega
    simp only [e, if_true, h, and_self, decide_true, Bool.true_and]
    rw [w32_id h.1 h.2]
    unfold M.unicode_utf8_ValidRune
    by_cases h1 : c < 55296
    · have e1 : (decide (0 ≤ c) && decide (c < 55296)) = true := by simp; omega
      have e2 : decide (55296 ≤ c ∧ c ≤ 57343) = false := decide_eq_false (by omega)
      simp only [e1, e2, if_true, Option.bind_some, Bool.not_false]
    · have e1 : (decide (0 ≤ c) && decide (c < 55296)) = false := by simp; omega
      simp only [e1, Bool.false_eq_true, if_false]
      by_cases h2 : 57343 < c
      · have e3 : (decide (57343 < c) && decide (c ≤ 1114111)) = true := by simp; omega
        have e2 : decide (55296 ≤ c ∧ c ≤ 57343) = false := decide_eq_false (by omega)
        simp only [e3, e2, if_true, Option.bind_some, Bool.not_false]
      · have e3 : (decide (57343 < c) && decide (c ≤ 1114111)) = false := by simp; omega
        have e2 : decide (55296 ≤ c ∧ c ≤ 57343) = true := decide_eq_true (by omega)
        simp only [e3, e2, Bool.false_eq_true, if_false, Option.bind_some, Bool.not_true]
  · have e : (decide (c ≥ 0) && decide (c ≤ 1114111)) = false := by simp; omega
    simp only [e, Bool.false_eq_true, if_false, h, decide_false, Bool.false_and, Option.bind_some]
theorem value_Right_eq {v : Val} (hd : v.Data.length ≤ 9223372036854775807) : M.value_Right v = some (vRight v) := by
  unfold M.value_Right
  by_cases h4 : 4 < v.Shape.length
  · rw [if_pos (by simp; omega)]
    have : vRight v = false := by
      cases h : vRight v with
      | false => rfl
      | true => have := (vRight_iff.mp h).1.1; omega
    rw [this]
  · rw [if_neg (by simp; omega)]
    have hloop := right_loop (f := M.value_Right_L1 v) (s := v.Shape) (by omega) (fun k h z => by
      unfold M.value_Right_L1
      simp only [show decide ((k : Int) < (v.Shape.length : Int)) = true from decide_eq_true (by omega), if_true, idx_get h, Option.bind_some]
      by_cases hb : v.Shape[k] < 0 ∨ v.Shape[k] > 10000
      · rw [if_pos hb, if_pos (by simpa using hb)]
      · rw [if_neg hb, if_neg (by simpa using hb), w64_id (x := (k : Int) + 1) (by omega) (by omega)]) (fun z => by unfold M.value_Right_L1; simp)
    rcases hloop with ⟨hall, hw⟩ | ⟨hall, hw⟩
    · rw [hw]
      simp only [Option.bind_some, joinK_next]
      have hp0 : 0 ≤ prod v.Shape := prod_nonneg fun x hx => (hall x hx).1
      by_cases hsz : prod v.Shape ≤ 10000 ∧ prod v.Shape = v.Data.length
      · have e : (decide (prod v.Shape > 10000) || (prod v.Shape != (v.Data.length : Int))) = false := by simp; omega
        simp only [e, Bool.false_eq_true, if_false]
        have hok : shOk v.Shape := ⟨by omega, hall, hsz.1⟩
        have hv : vRight v = (!v.Char || v.Data.all chOk) := by unfold vRight; simp [hok, hsz.2]
        rw [hv]
        cases hc : v.Char with
        | false => simp
        | true =>
          simp only [Bool.not_true, Bool.false_eq_true, if_false, Bool.false_or]
          rw [contains_int64 (s := v.Data) (f := fun x0 => M.value_Right_1 x0) (g := fun x => !chOk x) (fun x _ => by unfold M.value_Right_1; rw [character_eq]; rfl) hd]
          simp only [Option.bind_some]
          congr 1
          rw [List.not_any_eq_all_not]; simp
      · have e : (decide (prod v.Shape > 10000) || (prod v.Shape != (v.Data.length : Int))) = true := by
          simp; omega
        simp only [e, if_true]
        have : vRight v = false := by
          cases h : vRight v with
          | false => rfl
          | true => have := vRight_iff.mp h; exact absurd ⟨this.1.2.2, this.2.1⟩ hsz
        rw [this]
    · rw [hw]
      have : vRight v = false := by
        cases h : vRight v with
        | false => rfl
        | true => exact absurd (vRight_iff.mp h).1.2.1 hall
      rw [this]; rfl
theorem ref02_Right_eq {v : Val} (hd : v.Data.length ≤ 9223372036854775807) : M.anamnesisref02_Right v = some (vRight v) := by
  unfold M.anamnesisref02_Right
  by_cases h4 : 4 < v.Shape.length
  · rw [if_pos (by simp; omega)]
    have : vRight v = false := by
      cases h : vRight v with
      | false => rfl
      | true => have := (vRight_iff.mp h).1.1; omega
    rw [this]
  · rw [if_neg (by simp; omega)]
    have hloop := right_loop (f := M.anamnesisref02_Right_L1 v) (s := v.Shape) (by omega) (fun k h z => by
      unfold M.anamnesisref02_Right_L1
      simp only [show decide ((k : Int) < (v.Shape.length : Int)) = true from decide_eq_true (by omega), if_true, idx_get h, Option.bind_some]
      by_cases h0 : v.Shape[k] < 0
      · simp only [show decide (v.Shape[k] < 0) = true from decide_eq_true h0, if_true, Option.bind_some]
        rw [if_pos (.inl h0)]
      · simp only [show decide (v.Shape[k] < 0) = false from decide_eq_false h0, Bool.false_eq_true, if_false, Option.bind_some]
        by_cases h1 : v.Shape[k] > 10000
        · rw [if_pos (by simpa using h1), if_pos (.inr h1)]
        · rw [if_neg (by simpa using h1), if_neg (by omega), w64_id (x := (k : Int) + 1) (by omega) (by omega)]) (fun z => by unfold M.anamnesisref02_Right_L1; simp)
    have hchars : wloop (M.anamnesisref02_Right_L2 v) 0 = some (if (!v.Char || v.Data.all chOk) = true then .next () else .done false) := by
      cases hc : v.Char with
      | false =>
        simp only [Bool.not_false, Bool.true_or, if_true]
        exact wloop_done (by unfold M.anamnesisref02_Right_L2; simp [hc])
      | true =>
        simp only [Bool.not_true, Bool.false_or]
        refine all_loop (fun k h => ?_) ?_
        · unfold M.anamnesisref02_Right_L2
          simp only [hc, Bool.and_true, show decide ((k : Int) < (v.Data.length : Int)) = true from decide_eq_true (by omega), if_true, idx_get h, Option.bind_some]
          by_cases hok : chOk v.Data[k] = true
          · have e : ((decide (v.Data[k] < 0) || decide (v.Data[k] > 1114111)) || (decide (v.Data[k] ≥ 55296) && decide (v.Data[k] ≤ 57343))) = false := by
              unfold chOk at hok
              simp at hok ⊢; omega
            rw [e, if_neg (by simp), if_pos hok, w64_id (by omega) (by omega)]
          · have e : ((decide (v.Data[k] < 0) || decide (v.Data[k] > 1114111)) || (decide (v.Data[k] ≥ 55296) && decide (v.Data[k] ≤ 57343))) = true := by
              unfold chOk at hok
              simp at hok ⊢; omega
            rw [e, if_pos rfl, if_neg hok]
        · unfold M.anamnesisref02_Right_L2; simp
    rcases hloop with ⟨hall, hw⟩ | ⟨hall, hw⟩
    · rw [hw, hchars]
      simp only [Option.bind_some, joinK_next]
      have hok : ∀ b : Bool, (decide (shOk v.Shape) && decide (prod v.Shape = v.Data.length) && b) = ((prod v.Shape == (v.Data.length : Int)) && decide (prod v.Shape ≤ 10000) && b) := by
        intro b
        have : decide (shOk v.Shape) = decide (prod v.Shape ≤ 10000) := by
          by_cases h : prod v.Shape ≤ 10000
          · rw [decide_eq_true h, decide_eq_true (show shOk v.Shape from ⟨by omega, hall, h⟩)]
          · rw [decide_eq_false h, decide_eq_false (fun hh : shOk v.Shape => h hh.2.2)]
        rw [this]
        have e2 : (prod v.Shape == (v.Data.length : Int)) = decide (prod v.Shape = v.Data.length) := rfl
        rw [e2]
        cases decide (prod v.Shape ≤ 10000) <;> cases decide (prod v.Shape = (v.Data.length : Int)) <;> rfl
      unfold vRight
      rw [hok]
      cases hcb : (!v.Char || v.Data.all chOk) with
      | true => simp
      | false => simp
    · rw [hw]
      have : vRight v = false := by
        cases h : vRight v with
        | false => rfl
        | true => exact absurd (vRight_iff.mp h).1.2.1 hall
      rw [this]; rfl
theorem ref02_Same_eq {a b : Val} (hs : a.Shape.length ≤ maxLen) (hd : a.Data.length ≤ maxLen) : M.anamnesisref02_Same a b = some (vSame a b) := by
  have hm : maxLen = 9223372036854775807 := rfl
  unfold M.anamnesisref02_Same
  by_cases hl : (a.Char = b.Char ∧ a.Shape.length = b.Shape.length) ∧ a.Data.length = b.Data.length
  · obtain ⟨⟨h1, h2⟩, h3⟩ := hl
    rw [if_neg (by simp [h1, h2, h3])]
    have l1 := same_loop (f := M.anamnesisref02_Same_L1 a b) h2 hs (fun k h => by
      unfold M.anamnesisref02_Same_L1
      simp only [show decide ((k : Int) < (a.Shape.length : Int)) = true from decide_eq_true (by omega), if_true, idx_get h, idx_get (show k < b.Shape.length by omega), Option.bind_some]
      by_cases he : a.Shape[k] = b.Shape[k]
      · rw [if_pos he, if_neg (by simp [he]), w64_id (by omega) (by omega)]
      · rw [if_neg he, if_pos (by simp [he])]) (by unfold M.anamnesisref02_Same_L1; simp)
    have l2 := same_loop (f := M.anamnesisref02_Same_L2 a b) h3 hd (fun k h => by
      unfold M.anamnesisref02_Same_L2
      simp only [show decide ((k : Int) < (a.Data.length : Int)) = true from decide_eq_true (by omega), if_true, idx_get h, idx_get (show k < b.Data.length by omega), Option.bind_some]
      by_cases he : a.Data[k] = b.Data[k]
      · rw [if_pos he, if_neg (by simp [he]), w64_id (by omega) (by omega)]
      · rw [if_neg he, if_pos (by simp [he])]) (by unfold M.anamnesisref02_Same_L2; simp)
    rw [l1, l2]
    unfold vSame
    simp only [h1, BEq.rfl, Bool.true_and]
    by_cases he : a.Shape = b.Shape
    · rw [if_pos he, decide_eq_true he]
      by_cases hd : a.Data = b.Data
      · rw [if_pos hd, decide_eq_true hd]; rfl
      · rw [if_neg hd, decide_eq_false hd]; rfl
    · rw [if_neg he, decide_eq_false he]; rfl
  · have e : ((!(a.Char == b.Char) || ((a.Shape.length : Int) != (b.Shape.length : Int))) || ((a.Data.length : Int) != (b.Data.length : Int))) = true := by
      cases hq : ((!(a.Char == b.Char) || ((a.Shape.length : Int) != (b.Shape.length : Int))) || ((a.Data.length : Int) != (b.Data.length : Int))) with
      | true => rfl
      | false =>
        exfalso; apply hl
        simp only [Bool.or_eq_false_iff, Bool.not_eq_false', beq_iff_eq, bne_eq_false_iff_eq] at hq
        obtain ⟨⟨q1, q2⟩, q3⟩ := hq
        exact ⟨⟨q1, by omega⟩, by omega⟩
    rw [if_pos e]
    have : vSame a b = false := by
      cases hq : vSame a b with
      | false => rfl
      | true => have := vSame_iff.mp hq; subst this; simp at hl
    rw [this]
theorem value_Copy_eq {v : Val} (hs : v.Shape.length ≤ 1000000000) (hd : v.Data.length ≤ 1000000000) : M.value_Copy v = some v := by
  unfold M.value_Copy M.slices_Clone__int M.slices_Clone__int64
  rw [app_ok (by simp; omega), app_ok (by simp; omega)]; rfl
theorem Equal_int_eq {a b : List Int} (ha : a.length ≤ maxLen) : M.slices_Equal__int a b = some (decide (a = b)) := by
  have hm : maxLen = 9223372036854775807 := rfl
  unfold M.slices_Equal__int
  by_cases hl : a.length = b.length
  · rw [if_neg (by simp [hl])]
    refine same_step hl ha (fun k h => ?_) ?_
    · unfold M.slices_Equal__int_L1
      simp only [show decide ((k : Int) < (a.length : Int)) = true from by simp; exact h, if_true, idx_get h, idx_get (hl ▸ h : k < b.length), Option.bind_some]
      by_cases he : a[k] = b[k]'(hl ▸ h)
      · rw [if_pos he, if_neg (by simp [he]), w64_id (by omega) (by omega)]
      · rw [if_neg he, if_pos (by simp [he])]
    · unfold M.slices_Equal__int_L1; simp
  · rw [if_pos (by simp; omega)]
    have : a ≠ b := fun h => hl (by rw [h])
    simp [this]
/-- a loop that counts up, and may end ahead of time. -/
theorem loop_find {S β : Type} {f : S → Option (Ctl S β)} (st : Nat → S) (n : Nat) (bad : Nat → Bool) (b : Nat → β) {c : β}
    (hf : ∀ k, k < n → f (st k) = if bad k then some (.done (b k)) else some (.next (st (k + 1)))) (he : f (st n) = some (.done c)) :
    (∃ k, k < n ∧ bad k = true ∧ (∀ j, j < k → bad j = false) ∧ wloop f (st 0) = some (b k)) ∨ ((∀ k, k < n → bad k = false) ∧ wloop f (st 0) = some c) := by
  obtain ⟨r, hr, hq⟩ := wloop_ind (f := f) (fun m s => ∃ k, s = st k ∧ m = n - k ∧ k ≤ n ∧ ∀ j, j < k → bad j = false)
    (fun r => (∃ k, k < n ∧ bad k = true ∧ (∀ j, j < k → bad j = false) ∧ r = b k) ∨ ((∀ k, k < n → bad k = false) ∧ r = c)) (fun m s h => by
      obtain ⟨k, rfl, rfl, hk, hj⟩ := h
      by_cases hlt : k < n
      · have := hf k hlt
        cases hb : bad k
        · rw [hb] at this
          refine .inl ⟨_, n - (k + 1), this, by omega, k + 1, rfl, rfl, by omega, fun j hj' => ?_⟩
          by_cases he : j = k
          · subst he; exact hb
          · exact hj j (by omega)
        · rw [hb] at this
          exact .inr ⟨_, this, .inl ⟨k, hlt, hb, hj, rfl⟩⟩
      · have : k = n := by omega
        subst this
        exact .inr ⟨_, he, .inr ⟨hj, rfl⟩⟩) n (st 0) ⟨0, rfl, by omega, by omega, fun j h => by omega⟩
  rcases hq with ⟨k, h1, h2, h3, rfl⟩ | ⟨h1, rfl⟩
  · exact .inl ⟨k, h1, h2, h3, hr⟩
  · exact .inr ⟨h1, hr⟩
def up (n : Nat) : List Int := (List.range n).map fun (k : Nat) => (k : Int)
theorem up_succ (n : Nat) : up (n + 1) = up n ++ [(n : Int)] := by simp [up, List.range_succ]
theorem up_len (n : Nat) : (up n).length = n := by simp [up]
theorem up_mem {n : Nat} {x : Int} : x ∈ up n ↔ 0 ≤ x ∧ x < n := by
  unfold up
  rw [List.mem_map]
  constructor
  · rintro ⟨k, hk, rfl⟩
    rw [List.mem_range] at hk
    omega
  · intro h
    exact ⟨x.toNat, List.mem_range.mpr (by omega), by omega⟩
def plLens (p : Am.Place) (n : Int) : List Int := if p.All then [n] else p.V.Shape
def plIdx (p : Am.Place) (n : Int) : List Int × Int :=
  if p.All then (up n.toNat, 0) else if p.V.Char && decide (0 < p.V.Data.length) then ([], 23)
  else if p.V.Data.any (fun y => decide (y < 1) || decide (y > n)) then ([], 26) else (p.V.Data.map (· - 1), 0)
theorem plIdx_mem {p : Am.Place} {n x : Int} (hx : x ∈ (plIdx p n).1) : 0 ≤ x ∧ x < n := by
  unfold plIdx at hx
  split at hx
  · rw [up_mem] at hx; omega
  · split at hx
    · simp at hx
    · split at hx
      · simp at hx
      · rename_i h
        rw [List.mem_map] at hx
        obtain ⟨y, hy, rfl⟩ := hx
        have : ∀ z ∈ p.V.Data, ¬ (z < 1 ∨ z > n) := fun z hz hc => h (List.any_eq_true.mpr ⟨z, hz, by simpa using hc⟩)
        have := this y hy
        omega
theorem indexes_eq {p : Am.Place} {n : Int} (h0 : 0 ≤ n) (h1 : n ≤ 10000) (hd : p.V.Data.length ≤ 10000) : M.index_Place_indexes p n = some (plIdx p n) := by
  unfold M.index_Place_indexes plIdx
  by_cases ha : p.All = true
  · rw [if_pos ha, if_pos ha]
    obtain ⟨m, rfl⟩ := Int.eq_ofNat_of_zero_le h0
    have := loop_fun (f := M.index_Place_indexes_L1 (m : Int)) (fun k => (up k, (k : Int))) m (b := .next (up m)) (fun k hk => by
      unfold M.index_Place_indexes_L1
      simp only [show decide ((k : Int) < (m : Int)) = true from decide_eq_true (by omega), if_true]
      rw [app_ok (by rw [up_len]; simp; omega), w64_id (by omega) (by omega), up_succ]
      rfl) (by
      unfold M.index_Place_indexes_L1
      simp)
    rw [show (([] : List Int), (0 : Int)) = (up 0, ((0 : Nat) : Int)) from rfl, this]
    simp only [Option.bind_some, joinK_next]
    rfl
  rw [if_neg ha, if_neg ha]
  by_cases hc : (p.V.Char && decide ((p.V.Data.length : Int) > 0)) = true
  · rw [if_pos hc, if_pos (by simpa using hc)]
  rw [if_neg hc, if_neg (by simpa using hc)]
  generalize hl : p.V.Data = l at *
  have key := loop_find (f := M.index_Place_indexes_L2 p n) (fun k => ((l.map (· - 1)).take k, (k : Int))) l.length (fun k => (l[k]?).any fun y => decide (y < 1) || decide (y > n)) (fun _ => .done ([], 26)) (c := .next (l.map (· - 1))) (fun k hk => by
      unfold M.index_Place_indexes_L2
      simp only [hl]
      simp only [show decide ((k : Int) < (l.length : Int)) = true from decide_eq_true (by omega), if_true]
      rw [idx_get hk, List.getElem?_eq_getElem hk]
      simp only [Option.bind_some, Option.any_some]
      by_cases hb : (decide (l[k] < 1) || decide (l[k] > n)) = true
      · rw [if_pos hb, if_pos hb]
      rw [if_neg hb, if_neg hb]
      have hb' : ¬ (l[k] < 1 ∨ l[k] > n) := fun h => hb (by simpa using h)
      rw [app_ok (by simp; omega), w64_id (by omega) (by omega), w64_id (by omega) (by omega)]
      simp only [Option.bind_some]
      rw [List.take_succ_eq_append_getElem (by simp; exact hk)]
      simp) (by
      unfold M.index_Place_indexes_L2
      simp only [hl]
      simp only [show decide ((l.length : Int) < (l.length : Int)) = false from decide_eq_false (by omega), Bool.false_eq_true, if_false]
      rw [List.take_of_length_le (by simp)])
  rcases key with ⟨k, hk, hb, _, h⟩ | ⟨hb, h⟩
  · have : l.any (fun y => decide (y < 1) || decide (y > n)) = true := by
      rw [List.getElem?_eq_getElem hk] at hb
      exact List.any_eq_true.mpr ⟨_, List.getElem_mem hk, hb⟩
    rw [if_pos this]
    rw [show (([] : List Int), (0 : Int)) = ((l.map (· - 1)).take 0, ((0 : Nat) : Int)) from rfl, h]
    rfl
  · have : ¬ l.any (fun y => decide (y < 1) || decide (y > n)) = true := by
      intro hc
      obtain ⟨y, hy, hyb⟩ := List.any_eq_true.mp hc
      obtain ⟨k, hk, rfl⟩ := List.getElem_of_mem hy
      have := hb k hk
      rw [List.getElem?_eq_getElem hk] at this
      simp only [Option.any_some] at this
      rw [hyb] at this
      exact absurd this (by decide)
    rw [if_neg this]
    rw [show (([] : List Int), (0 : Int)) = ((l.map (· - 1)).take 0, ((0 : Nat) : Int)) from rfl, h]
    rfl
theorem lengths_eq (p : Am.Place) (n : Int) : M.index_Place_lengths p n = some (plLens p n) := by
  unfold M.index_Place_lengths plLens
  split <;> rfl
/-- places that are not great. -/
def plOk (pl : List Am.Place) : Prop := pl.length ≤ 10 ∧ ∀ p ∈ pl, p.V.Data.length ≤ 1000 ∧ p.V.Shape.length ≤ 10
def plBad (p : Am.Place) : Bool := !p.All && !vRight p.V
def allLens : List Am.Place → List Int → List Int
  | p :: ps, n :: ns => plLens p n ++ allLens ps ns
  | _, _ => []
def ixShaped (v : Val) (pl : List Am.Place) : List Int × Int :=
  if !vRight v || pl.any plBad then ([], 1) else if v.Shape.length = 0 ∨ pl.length ≠ v.Shape.length then ([], 24)
  else if (allLens pl v.Shape).length > 4 then ([], 24) else (allLens pl v.Shape, 0)
theorem contains_place {s : List Am.Place} {f : Am.Place → Option Bool} {g : Am.Place → Bool} (hf : ∀ x ∈ s, f x = some (g x)) (hl : s.length ≤ 4611686018427387904) : M.slices_ContainsFunc__Place s f = some (s.any g) := by
  unfold M.slices_ContainsFunc__Place M.slices_IndexFunc__Place
  have key := loop_find (f := M.slices_IndexFunc__Place_L1 s f) (fun k => (k : Int)) s.length (fun k => (s[k]?).any g) (fun k => .done (k : Int)) (c := .next ()) (fun k hk => by
    unfold M.slices_IndexFunc__Place_L1
    simp only [show decide ((k : Int) < (s.length : Int)) = true from decide_eq_true (by omega), if_true]
    rw [idx_get hk, List.getElem?_eq_getElem hk]
    simp only [Option.bind_some, Option.any_some]
    rw [hf _ (List.getElem_mem hk)]
    simp only [Option.bind_some]
    rw [w64_id (by omega) (by omega)]
    rfl) (by
    unfold M.slices_IndexFunc__Place_L1
    simp)
  rcases key with ⟨k, hk, hb, _, h⟩ | ⟨hb, h⟩
  · have : s.any g = true := by
      rw [List.getElem?_eq_getElem hk] at hb
      exact List.any_eq_true.mpr ⟨_, List.getElem_mem hk, hb⟩
    rw [this, show (0 : Int) = ((0 : Nat) : Int) from rfl, h]
    simp
  · have : s.any g = false := by
      rw [← Bool.not_eq_true]
      intro hc
      obtain ⟨y, hy, hyb⟩ := List.any_eq_true.mp hc
      obtain ⟨k, hk, rfl⟩ := List.getElem_of_mem hy
      have := hb k hk
      rw [List.getElem?_eq_getElem hk] at this
      simp only [Option.any_some] at this
      rw [hyb] at this
      exact absurd this (by decide)
    rw [this, show (0 : Int) = ((0 : Nat) : Int) from rfl, h]
    simp
theorem allLens_take (pl : List Am.Place) (sh : List Int) (k : Nat) (h1 : k < pl.length) (h2 : k < sh.length) :
    allLens (pl.take (k + 1)) (sh.take (k + 1)) = allLens (pl.take k) (sh.take k) ++ plLens pl[k] sh[k] := by
  induction k generalizing pl sh with
  | zero => match pl, sh, h1, h2 with | p :: ps, n :: ns, _, _ => simp [allLens]
  | succ k ih => match pl, sh, h1, h2 with
    | p :: ps, n :: ns, h1, h2 =>
      simp only [List.take_succ_cons, allLens, List.getElem_cons_succ]
      rw [ih ps ns (by simpa using h1) (by simpa using h2), List.append_assoc]
theorem allLens_len (pl : List Am.Place) (sh : List Int) (h : ∀ p ∈ pl, p.V.Shape.length ≤ 10) : (allLens pl sh).length ≤ 10 * pl.length := by
  induction pl generalizing sh with
  | nil => simp [allLens]
  | cons p ps ih => cases sh with
    | nil => simp [allLens]
    | cons n ns =>
      simp only [allLens, List.length_append, List.length_cons]
      have a := ih ns (fun q hq => h q (List.mem_cons_of_mem _ hq))
      have b : (plLens p n).length ≤ 10 := by
        unfold plLens
        split
        · simp
        · exact h p (List.mem_cons_self ..)
      omega
theorem shaped_eq {v : Val} {pl : List Am.Place} (hd : v.Data.length ≤ 10000) (hp : plOk pl) : M.index_shaped v pl = some (ixShaped v pl) := by
  unfold M.index_shaped ixShaped
  rw [value_Right_eq (by omega)]
  simp only [Option.bind_some]
  have hc : M.slices_ContainsFunc__Place pl (fun x0 => M.index_shaped_1 x0) = some (pl.any plBad) := by
    apply contains_place
    · intro p hpm
      unfold M.index_shaped_1 plBad
      cases p.All
      · simp only [Bool.not_false, if_true]
        rw [value_Right_eq (by have := hp.2 p hpm; omega)]
        rfl
      · rfl
    · have := hp.1; omega
  rw [hc]
  cases hv : vRight v
  · rfl
  simp only [Bool.not_true, Bool.false_eq_true, if_false, Option.bind_some, Bool.false_or]
  cases ha : pl.any plBad
  rotate_left
  · rfl
  simp only [Bool.false_eq_true, if_false]
  by_cases hr : v.Shape.length = 0 ∨ pl.length ≠ v.Shape.length
  · rw [if_pos hr, if_pos (by simp only [Bool.or_eq_true, beq_iff_eq, bne_iff_ne]; omega)]
  rw [if_neg hr, if_neg (by simp only [Bool.or_eq_true, beq_iff_eq, bne_iff_ne]; omega)]
  have hlen : pl.length = v.Shape.length := by omega
  have key := loop_fun (f := M.index_shaped_L1 v pl) (fun k => (allLens (pl.take k) (v.Shape.take k), (k : Int))) pl.length (b := .next (allLens pl v.Shape)) (fun k hk => by
    unfold M.index_shaped_L1
    simp only [show decide ((k : Int) < (pl.length : Int)) = true from decide_eq_true (by omega), if_true]
    rw [idx_get hk, idx_get (show k < v.Shape.length by omega)]
    simp only [Option.bind_some]
    rw [lengths_eq]
    simp only [Option.bind_some]
    have h1 := allLens_len (pl.take k) (v.Shape.take k) (fun p hpm => (hp.2 p (List.mem_of_mem_take hpm)).2)
    have h2 := allLens_len [pl[k]] [v.Shape[k]] (fun p hpm => by rw [List.mem_singleton] at hpm; subst hpm; exact (hp.2 _ (List.getElem_mem hk)).2)
    simp only [allLens, List.append_nil, List.length_cons, List.length_nil] at h2
    rw [List.length_take] at h1
    have := hp.1
    rw [app_ok (by omega), w64_id (by omega) (by omega), allLens_take pl v.Shape k hk (by omega)]
    rfl) (by
    unfold M.index_shaped_L1
    simp only [show decide ((pl.length : Int) < (pl.length : Int)) = false from decide_eq_false (by omega), Bool.false_eq_true, if_false]
    rw [List.take_length, hlen, List.take_length])
  rw [show (([] : List Int), (0 : Int)) = (allLens (pl.take 0) (v.Shape.take 0), ((0 : Nat) : Int)) from rfl, key]
  simp only [Option.bind_some, joinK_next]
  by_cases h4 : (allLens pl v.Shape).length > 4
  · rw [if_pos h4, if_pos (by simp; omega)]
  · rw [if_neg h4, if_neg (by simp; omega)]
def cross (n : Int) (l o : List Int) : List Int := o.flatMap fun a => l.map fun k => a * n + k
def offs : List Int → List (List Int) → List Int → List Int
  | n :: ns, l :: ls, o => offs ns ls (cross n l o)
  | _, _, o => o
def ixAll : List Am.Place → List Int → List (List Int)
  | p :: ps, n :: ns => (plIdx p n).1 :: ixAll ps ns
  | _, _ => []
def ixErr : List Am.Place → List Int → Int
  | p :: ps, n :: ns => if (plIdx p n).2 ≠ 0 then (plIdx p n).2 else ixErr ps ns
  | _, _ => 0
def ixFinds (v : Val) (pl : List Am.Place) : Am.Found × Int :=
  if (ixShaped v pl).2 ≠ 0 then (⟨[], []⟩, (ixShaped v pl).2) else if ixErr pl v.Shape ≠ 0 then (⟨[], []⟩, ixErr pl v.Shape)
  else if ¬ shOk (allLens pl v.Shape) then (⟨[], []⟩, 27)
  else (⟨allLens pl v.Shape, offs v.Shape (ixAll pl v.Shape) (if prod (allLens pl v.Shape) = 0 then [] else [0])⟩, 0)
theorem cross_len (n : Int) (l o : List Int) : (cross n l o).length = o.length * l.length := by
  unfold cross
  induction o with
  | nil => simp
  | cons a o ih => rw [List.flatMap_cons, List.length_append, ih, List.length_map, List.length_cons, Nat.succ_mul]; omega
theorem cross_nil (n : Int) (l : List Int) : cross n l [] = [] := rfl
theorem cross_mem {n x : Int} {l o : List Int} : x ∈ cross n l o ↔ ∃ a ∈ o, ∃ k ∈ l, a * n + k = x := by
  simp [cross]
theorem offs_nil (sh : List Int) (ls : List (List Int)) : offs sh ls [] = [] := by
  induction sh generalizing ls with
  | nil => simp [offs]
  | cons n ns ih => cases ls with
    | nil => simp [offs]
    | cons l ls => rw [offs, cross_nil, ih]
theorem offs_take (sh : List Int) (ls : List (List Int)) (o : List Int) (k : Nat) (h1 : k < sh.length) (h2 : k < ls.length) :
    offs (sh.take (k + 1)) (ls.take (k + 1)) o = cross sh[k] ls[k] (offs (sh.take k) (ls.take k) o) := by
  induction k generalizing sh ls o with
  | zero => match sh, ls, h1, h2 with | n :: ns, l :: ls, _, _ => simp [offs]
  | succ k ih => match sh, ls, h1, h2 with
    | n :: ns, l :: ls, h1, h2 =>
      simp only [List.take_succ_cons, offs, List.getElem_cons_succ]
      exact ih ns ls _ (by simpa using h1) (by simpa using h2)
theorem step_range {a n k P : Int} (ha0 : 0 ≤ a) (ha : a < P) (hk0 : 0 ≤ k) (hk : k < n) : 0 ≤ a * n + k ∧ a * n + k < P * n := by
  have h1 : 0 ≤ a * n := Int.mul_nonneg ha0 (by omega)
  have h2 : (a + 1) * n ≤ P * n := Int.mul_le_mul_of_nonneg_right (by omega) (by omega)
  rw [Int.add_mul, Int.one_mul] at h2
  omega
theorem offs_range (sh : List Int) (ls : List (List Int)) (o : List Int) (P : Int) (hl : ls.length = sh.length) (hm : ∀ k (h : k < ls.length) , ∀ x ∈ ls[k], 0 ≤ x ∧ x < sh[k]'(by omega))
    (ho : ∀ a ∈ o, 0 ≤ a ∧ a < P) : ∀ a ∈ offs sh ls o, 0 ≤ a ∧ a < P * prod sh := by
  induction sh generalizing ls o P with
  | nil => intro a ha; simp only [offs] at ha; simpa [prod] using ho a ha
  | cons n ns ih => match ls, hl, hm with
    | l :: ls, hl, hm =>
      intro a ha
      simp only [offs] at ha
      have := ih ls (cross n l o) (P * n) (by simpa using hl) (fun k h x hx => by
        have := hm (k + 1) (by simpa using h) x (by simpa using hx)
        simpa using this) (fun b hb => by
        obtain ⟨c, hc, k, hk, rfl⟩ := cross_mem.mp hb
        have h1 := ho c hc
        have h2 := hm 0 (by simp) k (by simpa using hk)
        exact step_range h1.1 h1.2 h2.1 h2.2) a ha
      rw [prod, ← Int.mul_assoc]
      exact this
def lens (ls : List (List Int)) : List Int := ls.map fun l => (l.length : Int)
theorem offs_len (sh : List Int) (ls : List (List Int)) (o : List Int) (hl : ls.length ≤ sh.length) : ((offs sh ls o).length : Int) = o.length * prod (lens ls) := by
  induction sh generalizing ls o with
  | nil => match ls, hl with | [], _ => simp [offs, lens, prod]
  | cons n ns ih => match ls, hl with
    | [], _ => simp [offs, lens, prod]
    | l :: ls, hl =>
      simp only [offs]
      rw [ih ls _ (by simpa using hl), cross_len]
      simp only [lens, List.map_cons, prod]
      rw [Int.natCast_mul, Int.mul_assoc]
theorem ixAll_len (pl : List Am.Place) (sh : List Int) (h : pl.length = sh.length) : (ixAll pl sh).length = sh.length := by
  induction pl generalizing sh with
  | nil => match sh, h with | [], _ => rfl
  | cons p ps ih => match sh, h with | n :: ns, h => simp only [ixAll, List.length_cons]; rw [ih ns (by simpa using h)]
theorem ixAll_get (pl : List Am.Place) (sh : List Int) (k : Nat) (h1 : k < pl.length) (h2 : k < sh.length) : (ixAll pl sh)[k]? = some (plIdx pl[k] sh[k]).1 := by
  induction k generalizing pl sh with
  | zero => match pl, sh, h1, h2 with | p :: ps, n :: ns, _, _ => simp [ixAll]
  | succ k ih => match pl, sh, h1, h2 with
    | p :: ps, n :: ns, h1, h2 =>
      simp only [ixAll, List.getElem?_cons_succ, List.getElem_cons_succ]
      exact ih ps ns (by simpa using h1) (by simpa using h2)
theorem ixErr_at (pl : List Am.Place) (sh : List Int) (k : Nat) (h1 : k < pl.length) (h2 : k < sh.length) (hb : ∀ j, (h : j < k) → (plIdx pl[j] sh[j]).2 = 0) (he : (plIdx pl[k] sh[k]).2 ≠ 0) :
    ixErr pl sh = (plIdx pl[k] sh[k]).2 := by
  induction k generalizing pl sh with
  | zero => match pl, sh, h1, h2 with
    | p :: ps, n :: ns, _, _ => simp only [ixErr]; simp only [List.getElem_cons_zero] at he ⊢; rw [if_pos he]
  | succ k ih => match pl, sh, h1, h2 with
    | p :: ps, n :: ns, h1, h2 =>
      have h0 := hb 0 (by omega)
      simp only [List.getElem_cons_zero] at h0
      simp only [ixErr]
      rw [if_neg (by omega)]
      simp only [List.getElem_cons_succ] at he ⊢
      refine ih ps ns (by simpa using h1) (by simpa using h2) (fun j hj => ?_) he
      have := hb (j + 1) (by omega)
      simpa using this
theorem ixErr_zero (pl : List Am.Place) (sh : List Int) (hl : pl.length = sh.length) : (ixErr pl sh = 0 ↔ ∀ k (h : k < pl.length), (plIdx pl[k] (sh[k]'(by omega))).2 = 0) := by
  induction pl generalizing sh with
  | nil => simp [ixErr]
  | cons p ps ih => match sh, hl with
    | n :: ns, hl =>
      simp only [ixErr]
      by_cases h0 : (plIdx p n).2 = 0
      · rw [if_neg (by omega), ih ns (by simpa using hl)]
        constructor
        · intro h k hk
          cases k with
          | zero => simpa using h0
          | succ k => simpa using h k (by simpa using hk)
        · intro h k hk
          have := h (k + 1) (by simpa using hk)
          simpa using this
      · rw [if_pos h0]
        constructor
        · intro h; exact absurd h h0
        · intro h; have := h 0 (by simp); exact absurd (by simpa using this) h0
theorem plIdx_len {p : Am.Place} {n : Int} (h0 : 0 ≤ n) (hb : plBad p = false) (he : (plIdx p n).2 = 0) : ((plIdx p n).1.length : Int) = prod (plLens p n) := by
  unfold plIdx plLens at *
  unfold plBad at hb
  by_cases ha : p.All = true
  · rw [if_pos ha, if_pos ha]
    simp only [up_len, prod]; omega
  · rw [if_neg ha, if_neg ha] at *
    have hv : vRight p.V = true := by simpa [ha] using hb
    obtain ⟨_, h2, _⟩ := vRight_iff.mp hv
    split at he
    · simp at he
    · rename_i h3
      split at he
      · simp at he
      · rename_i h4
        rw [if_neg h3, if_neg h4]
        simp [h2]
theorem ixAll_prod (pl : List Am.Place) (sh : List Int) (hl : pl.length = sh.length) (h0 : ∀ x ∈ sh, 0 ≤ x) (hb : pl.any plBad = false) (he : ixErr pl sh = 0) :
    prod (lens (ixAll pl sh)) = prod (allLens pl sh) := by
  induction pl generalizing sh with
  | nil => match sh, hl with | [], _ => rfl
  | cons p ps ih => match sh, hl with
    | n :: ns, hl =>
      simp only [List.any_cons, Bool.or_eq_false_iff] at hb
      simp only [ixErr] at he
      have he1 : (plIdx p n).2 = 0 := by
        by_cases h : (plIdx p n).2 = 0
        · exact h
        · rw [if_pos h] at he; exact he
      rw [if_neg (by omega)] at he
      have := ih ns (by simpa using hl) (fun x hx => h0 x (List.mem_cons_of_mem _ hx)) hb.2 he
      simp only [ixAll, allLens, lens, List.map_cons, prod]
      rw [prod_append, ← plIdx_len (h0 n (List.mem_cons_self ..)) hb.1 he1]
      unfold lens at this
      rw [this]
theorem prod_take_le (l : List Int) (k : Nat) (h0 : ∀ x ∈ l, 0 ≤ x) (hp : 0 < prod l) : prod (l.take k) ≤ prod l := by
  have h1 := prod_append (l.take k) (l.drop k)
  rw [List.take_append_drop] at h1
  have a := prod_nonneg (fun x hx => h0 x (List.mem_of_mem_take (i := k) hx))
  have b := prod_nonneg (fun x hx => h0 x (List.mem_of_mem_drop (i := k) hx))
  generalize prod (l.take k) = x at *
  generalize prod (l.drop k) = y at *
  have hy : 1 ≤ y := by
    rcases Int.lt_or_le y 1 with h | h
    · have : y = 0 := by omega
      subst this
      rw [Int.mul_zero] at h1; omega
    · exact h
  have := Int.mul_le_mul_of_nonneg_left hy a
  rw [Int.mul_one] at this
  omega
theorem finds_L4 {v : Val} {l pre : List Int} {i : Nat} {a : Int} (hi : i < v.Shape.length) (hn : 0 ≤ v.Shape[i] ∧ v.Shape[i] ≤ 10000) (hl : l.length ≤ 10000) (hm : ∀ x ∈ l, 0 ≤ x ∧ x < v.Shape[i])
    (ha : 0 ≤ a ∧ a < 1000000000000) (hp : pre.length ≤ 100000000) :
    wloop (M.index_finds_L4 v (i : Int) l a) (pre, 0) = some (.next (pre ++ l.map fun k => a * v.Shape[i] + k)) := by
  have := loop_fun (f := M.index_finds_L4 v (i : Int) l a) (fun k => (pre ++ (l.map fun k => a * v.Shape[i] + k).take k, (k : Int))) l.length (b := .next (pre ++ l.map fun k => a * v.Shape[i] + k)) (fun k hk => by
    unfold M.index_finds_L4
    simp only [show decide ((k : Int) < (l.length : Int)) = true from decide_eq_true (by omega), if_true]
    rw [idx_get hk, idx_get hi]
    simp only [Option.bind_some]
    have h1 := hm _ (List.getElem_mem hk)
    have h2 := step_range ha.1 ha.2 h1.1 h1.2
    have h3 : 0 ≤ a * v.Shape[i] := Int.mul_nonneg ha.1 hn.1
    generalize hq : a * v.Shape[i] = q at *
    rw [app_ok (by simp; omega), w64_id (x := q) (by omega) (by omega), w64_id (x := q + l[k]) (by omega) (by omega), w64_id (by omega) (by omega)]
    simp only [Option.bind_some]
    rw [List.take_succ_eq_append_getElem (by simp; exact hk)]
    simp) (by
    unfold M.index_finds_L4
    simp only [show decide ((l.length : Int) < (l.length : Int)) = false from decide_eq_false (by omega), Bool.false_eq_true, if_false]
    rw [List.take_of_length_le (by simp)])
  have e : (pre, (0 : Int)) = (pre ++ (l.map fun k => a * v.Shape[i] + k).take 0, ((0 : Nat) : Int)) := by simp
  rw [e, this]
theorem cross_snoc (n : Int) (l o : List Int) (a : Int) : cross n l (o ++ [a]) = cross n l o ++ l.map fun k => a * n + k := by
  simp [cross]
theorem finds_L3 {v : Val} {l o : List Int} {i : Nat} (hi : i < v.Shape.length) (hn : 0 ≤ v.Shape[i] ∧ v.Shape[i] ≤ 10000) (hl : l.length ≤ 10000) (hm : ∀ x ∈ l, 0 ≤ x ∧ x < v.Shape[i])
    (ho : ∀ a ∈ o, 0 ≤ a ∧ a < 1000000000000) (hol : o.length ≤ 10000) :
    wloop (M.index_finds_L3 v (i : Int) o l) ([], 0) = some (.next (cross v.Shape[i] l o)) := by
  have := loop_fun (f := M.index_finds_L3 v (i : Int) o l) (fun k => (cross v.Shape[i] l (o.take k), (k : Int))) o.length (b := .next (cross v.Shape[i] l o)) (fun k hk => by
    unfold M.index_finds_L3
    simp only [show decide ((k : Int) < (o.length : Int)) = true from decide_eq_true (by omega), if_true]
    rw [idx_get hk]
    simp only [Option.bind_some]
    have hb : (cross v.Shape[i] l (o.take k)).length ≤ 100000000 := by
      rw [cross_len, List.length_take]
      have : min k o.length * l.length ≤ 10000 * 10000 := Nat.mul_le_mul (by omega) hl
      omega
    rw [finds_L4 hi hn hl hm (ho _ (List.getElem_mem hk)) hb]
    simp only [Option.bind_some, joinK_next]
    rw [w64_id (by omega) (by omega), List.take_succ_eq_append_getElem hk, cross_snoc]
    rfl) (by
    unfold M.index_finds_L3
    simp only [show decide ((o.length : Int) < (o.length : Int)) = false from decide_eq_false (by omega), Bool.false_eq_true, if_false]
    rw [List.take_length])
  rw [show (([] : List Int), (0 : Int)) = (cross v.Shape[i] l (o.take 0), ((0 : Nat) : Int)) from rfl, this]
theorem finds_L2 {v : Val} {ls : List (List Int)} {o : List Int} (hls : ls.length = v.Shape.length) (hsh : ∀ x ∈ v.Shape, 0 ≤ x ∧ x ≤ 10000) (hll : ∀ l ∈ ls, l.length ≤ 10000) (h4 : v.Shape.length ≤ 4)
    (hm : ∀ k (h : k < ls.length) , ∀ x ∈ ls[k], 0 ≤ x ∧ x < v.Shape[k]'(by omega))
    (ho : ∀ k, k < ls.length → ∀ a ∈ offs (v.Shape.take k) (ls.take k) o, 0 ≤ a ∧ a < 1000000000000) (hol : ∀ k, k < ls.length → (offs (v.Shape.take k) (ls.take k) o).length ≤ 10000) :
    wloop (M.index_finds_L2 v ls) (0, o) = some (.next (offs v.Shape ls o)) := by
  have := loop_fun (f := M.index_finds_L2 v ls) (fun k => ((k : Int), offs (v.Shape.take k) (ls.take k) o)) ls.length (b := .next (offs v.Shape ls o)) (fun k hk => by
    unfold M.index_finds_L2
    simp only [show decide ((k : Int) < (ls.length : Int)) = true from decide_eq_true (by omega), if_true]
    rw [idx_get hk]
    simp only [Option.bind_some]
    rw [finds_L3 (by omega) (hsh _ (List.getElem_mem _)) (hll _ (List.getElem_mem hk)) (hm k hk) (ho k hk) (hol k hk)]
    simp only [Option.bind_some, joinK_next]
    rw [w64_id (by omega) (by omega), offs_take _ _ _ _ (by omega) hk]
    rfl) (by
    unfold M.index_finds_L2
    simp only [show decide ((ls.length : Int) < (ls.length : Int)) = false from decide_eq_false (by omega), Bool.false_eq_true, if_false]
    rw [List.take_length, hls, List.take_length])
  rw [show ((0 : Int), o) = (((0 : Nat) : Int), offs (v.Shape.take 0) (ls.take 0) o) from rfl, this]
theorem pow3 : (10000 : Int) ^ 3 = 1000000000000 := by decide
theorem finds_eq {v : Val} {pl : List Am.Place} (hd : v.Data.length ≤ 10000) (hp : plOk pl) : M.index_finds v pl = some (ixFinds v pl) := by
  unfold M.index_finds ixFinds
  rw [shaped_eq hd hp]
  simp only [Option.bind_some]
  by_cases h0 : (ixShaped v pl).2 = 0
  rotate_left
  · rw [if_pos (by simpa using h0), if_pos h0]
  rw [if_neg (by simpa using h0), if_neg (by omega)]
  obtain ⟨hv, hbad, hne, hlen, hs⟩ : vRight v = true ∧ pl.any plBad = false ∧ v.Shape.length ≠ 0 ∧ pl.length = v.Shape.length ∧ ixShaped v pl = (allLens pl v.Shape, 0) := by
    unfold ixShaped at h0 ⊢
    split at h0
    · simp at h0
    · rename_i h1
      split at h0
      · simp at h0
      · split at h0
        · simp at h0
        · rename_i h2 h3
          rw [if_neg h1, if_neg h2, if_neg h3]
          simp only [Bool.or_eq_true, not_or, Bool.not_eq_true', Bool.not_eq_true, Bool.not_eq_false] at h1
          exact ⟨h1.1, h1.2, by omega, by omega, rfl⟩
  rw [hs]
  obtain ⟨⟨hs4, hsh, hpr⟩, hdl, _⟩ := vRight_iff.mp hv
  have hsk : ∀ k (h : k < v.Shape.length), 0 ≤ v.Shape[k] ∧ v.Shape[k] ≤ 10000 := fun k h => hsh _ (List.getElem_mem h)
  have key := loop_find (f := M.index_finds_L1 v pl) (fun k => ((ixAll pl v.Shape).take k, (k : Int))) pl.length (fun k => (pl[k]?).any fun p => (v.Shape[k]?).any fun n => (plIdx p n).2 != 0)
    (fun k => .done (⟨[], []⟩, ((pl[k]?).bind fun p => (v.Shape[k]?).map fun n => (plIdx p n).2).getD 0)) (c := .next (ixAll pl v.Shape)) (fun k hk => by
    have hk2 : k < v.Shape.length := by omega
    unfold M.index_finds_L1
    simp only [show decide ((k : Int) < (pl.length : Int)) = true from decide_eq_true (by omega), if_true]
    rw [idx_get hk, idx_get hk2, List.getElem?_eq_getElem hk, List.getElem?_eq_getElem hk2]
    simp only [Option.bind_some, Option.any_some, Option.map_some, Option.getD_some]
    have := hp.2 _ (List.getElem_mem hk)
    rw [indexes_eq (hsk k hk2).1 (hsk k hk2).2 (by omega)]
    simp only [Option.bind_some]
    have hg := ixAll_get pl v.Shape k hk hk2
    have hal := ixAll_len pl v.Shape hlen
    rw [List.getElem?_eq_getElem (by omega)] at hg
    rw [← Option.some.inj hg]
    generalize (plIdx pl[k] v.Shape[k]).2 = e
    by_cases he : e = 0
    · subst he
      simp only [bne_self_eq_false, Bool.false_eq_true, if_false]
      rw [app_ok (by simp; omega), w64_id (by omega) (by omega), List.take_succ_eq_append_getElem (by omega)]
      rfl
    · rw [if_pos (by simpa using he), if_pos (by simpa using he)]) (by
    unfold M.index_finds_L1
    simp only [show decide ((pl.length : Int) < (pl.length : Int)) = false from decide_eq_false (by omega), Bool.false_eq_true, if_false]
    rw [hlen, ← ixAll_len pl v.Shape hlen, List.take_length])
  have hst : (([] : List (List Int)), (0 : Int)) = ((ixAll pl v.Shape).take 0, ((0 : Nat) : Int)) := rfl
  rcases key with ⟨k, hk, hb, hbj, h⟩ | ⟨hb, h⟩
  · have hk2 : k < v.Shape.length := by omega
    rw [List.getElem?_eq_getElem hk, List.getElem?_eq_getElem hk2] at hb
    simp only [Option.any_some] at hb
    have he := ixErr_at pl v.Shape k hk hk2 (fun j hj => by
      have := hbj j hj
      rw [List.getElem?_eq_getElem (by omega), List.getElem?_eq_getElem (by omega)] at this
      simpa using this) (by simpa using hb)
    rw [hst, h, he, if_pos (by simpa using hb)]
    rw [List.getElem?_eq_getElem hk, List.getElem?_eq_getElem hk2]
    rfl
  have he : ixErr pl v.Shape = 0 := (ixErr_zero pl v.Shape hlen).mpr fun k hk => by
    have := hb k hk
    rw [List.getElem?_eq_getElem hk, List.getElem?_eq_getElem (by omega)] at this
    simpa using this
  rw [hst, h, if_neg (by omega)]
  simp only [Option.bind_some, joinK_next]
  rw [shape_Size_eq (by
    have := allLens_len pl v.Shape (fun p h => (hp.2 p h).2)
    have := hp.1
    simp only [maxLen]
    omega)]
  simp only [Option.bind_some]
  rcases shSize_cases (allLens pl v.Shape) with ⟨hok, hz⟩ | ⟨hnok, hz, _⟩
  rotate_left
  · rw [if_pos (by simpa using hz), if_pos hnok]
  rw [hz]
  simp only [bne_self_eq_false, Bool.false_eq_true, if_false]
  rw [if_neg (show ¬ ¬ shOk (allLens pl v.Shape) from fun h => h hok)]
  have ho : (if (prod (allLens pl v.Shape) == 0) = true then some ([] : List Int) else some [0]) = some (if prod (allLens pl v.Shape) = 0 then [] else [0]) := by
    by_cases h : prod (allLens pl v.Shape) = 0
    · rw [if_pos (by simpa using h), if_pos h]
    · rw [if_neg (by simpa using h), if_neg h]
  rw [ho]
  simp only [Option.bind_some]
  have hal := ixAll_len pl v.Shape hlen
  have hget : ∀ k (h : k < (ixAll pl v.Shape).length), (ixAll pl v.Shape)[k] = (plIdx (pl[k]'(by omega)) (v.Shape[k]'(by omega))).1 := fun k h => by
    have := ixAll_get pl v.Shape k (by omega) (by omega)
    rw [List.getElem?_eq_getElem h] at this
    exact Option.some.inj this
  have hmem : ∀ k (h : k < (ixAll pl v.Shape).length), ∀ x ∈ (ixAll pl v.Shape)[k], 0 ≤ x ∧ x < v.Shape[k]'(by omega) := fun k h x hx => by
    rw [hget k h] at hx
    exact plIdx_mem hx
  have hll : ∀ l ∈ ixAll pl v.Shape, l.length ≤ 10000 := fun l hl => by
    obtain ⟨k, hk, rfl⟩ := List.getElem_of_mem hl
    rw [hget k hk]
    have h1 := hp.2 (pl[k]'(by omega)) (List.getElem_mem _)
    have h2 := hsk k (by omega)
    unfold plIdx
    split
    · simp only [up_len]; omega
    · split
      · simp
      · split
        · simp
        · simp; omega
  have hpp := ixAll_prod pl v.Shape hlen (fun x hx => (hsh x hx).1) hbad he
  rw [finds_L2 hal hsh hll hs4 hmem]
  · rfl
  · intro k hk a ha
    have h1 := offs_range (v.Shape.take k) ((ixAll pl v.Shape).take k) (if prod (allLens pl v.Shape) = 0 then [] else [0]) 1 (by simp; omega) (fun j hj x hx => by
      rw [List.length_take] at hj
      have := hmem j (by omega) x (by simpa using hx)
      simpa using this) (fun a ha => by
      split at ha
      · simp at ha
      · simp at ha; omega) a ha
    have h2 := prod_bound (v.Shape.take k) 3 (by simp; omega) (fun x hx => hsh x (List.mem_of_mem_take hx))
    rw [pow3] at h2
    omega
  · intro k hk
    by_cases hz0 : prod (allLens pl v.Shape) = 0
    · rw [if_pos hz0, offs_nil]; simp
    · rw [if_neg hz0]
      have h1 := offs_len (v.Shape.take k) ((ixAll pl v.Shape).take k) [0] (by simp; omega)
      have h2 : lens ((ixAll pl v.Shape).take k) = (lens (ixAll pl v.Shape)).take k := by unfold lens; rw [List.map_take]
      have h3 : ∀ x ∈ lens (ixAll pl v.Shape), 0 ≤ x := fun x hx => by
        unfold lens at hx
        rw [List.mem_map] at hx
        obtain ⟨l, _, rfl⟩ := hx
        omega
      have h4 := prod_nonneg h3
      rw [hpp] at h4
      have h5 := prod_take_le (lens (ixAll pl v.Shape)) k h3 (by rw [hpp]; omega)
      rw [h2] at h1
      rw [hpp] at h5
      have := hok.2.2
      simp only [List.length_singleton] at h1
      omega
def ixGet (v : Val) (pl : List Am.Place) : Val × Int :=
  if (ixFinds v pl).2 ≠ 0 then (⟨false, [], []⟩, (ixFinds v pl).2) else (⟨v.Char, (ixFinds v pl).1.shape, (ixFinds v pl).1.offsets.map fun a => (v.Data[a.toNat]?).getD 0⟩, 0)
/-- what the places that were found are. -/
theorem finds_ok {v : Val} {pl : List Am.Place} (hp : plOk pl) (h0 : (ixFinds v pl).2 = 0) :
    vRight v = true ∧ pl.any plBad = false ∧ pl.length = v.Shape.length ∧ 0 < pl.length ∧ ixErr pl v.Shape = 0 ∧ shOk (allLens pl v.Shape) ∧
    (ixFinds v pl).1 = ⟨allLens pl v.Shape, offs v.Shape (ixAll pl v.Shape) (if prod (allLens pl v.Shape) = 0 then [] else [0])⟩ := by
  unfold ixFinds at h0 ⊢
  split at h0
  · exact absurd h0 (by assumption)
  · rename_i h1
    split at h0
    · exact absurd h0 (by assumption)
    · rename_i h2
      split at h0
      · exact absurd h0 (by decide)
      · rename_i h3
        rw [if_neg h1, if_neg h2, if_neg h3]
        unfold ixShaped at h1
        split at h1
        · simp at h1
        · rename_i h4
          split at h1
          · simp at h1
          · rename_i h5
            simp only [Bool.or_eq_true, not_or, Bool.not_eq_true', Bool.not_eq_true, Bool.not_eq_false] at h4
            refine ⟨h4.1, h4.2, by omega, by omega, by omega, ?_, rfl⟩
            exact Decidable.of_not_not h3
theorem ixAll_mem {v : Val} {pl : List Am.Place} (hlen : pl.length = v.Shape.length) : ∀ k (h : k < (ixAll pl v.Shape).length), ∀ x ∈ (ixAll pl v.Shape)[k], 0 ≤ x ∧ x < v.Shape[k]'(by have := ixAll_len pl v.Shape hlen; omega) := fun k h x hx => by
  have h0 := ixAll_len pl v.Shape hlen
  have := ixAll_get pl v.Shape k (by omega) (by omega)
  rw [List.getElem?_eq_getElem h] at this
  rw [Option.some.inj this] at hx
  exact plIdx_mem hx
theorem finds_range {v : Val} {pl : List Am.Place} (hp : plOk pl) (h0 : (ixFinds v pl).2 = 0) : ∀ a ∈ (ixFinds v pl).1.offsets, 0 ≤ a ∧ a < v.Data.length := by
  obtain ⟨hv, hbad, hlen, hpos, he, hok, hf⟩ := finds_ok hp h0
  obtain ⟨_, hdl, _⟩ := vRight_iff.mp hv
  intro a ha
  rw [hf] at ha
  have := offs_range v.Shape (ixAll pl v.Shape) _ 1 (ixAll_len pl v.Shape hlen) (ixAll_mem hlen) (fun a ha => by
    split at ha
    · simp at ha
    · simp at ha; omega) a ha
  rw [Int.one_mul, hdl] at this
  exact this
theorem finds_count {v : Val} {pl : List Am.Place} (hp : plOk pl) (h0 : (ixFinds v pl).2 = 0) : ((ixFinds v pl).1.offsets.length : Int) = prod (allLens pl v.Shape) := by
  obtain ⟨hv, hbad, hlen, hpos, he, hok, hf⟩ := finds_ok hp h0
  obtain ⟨⟨_, hsh, _⟩, hdl, _⟩ := vRight_iff.mp hv
  rw [hf]
  have := offs_len v.Shape (ixAll pl v.Shape) (if prod (allLens pl v.Shape) = 0 then [] else [0]) (by rw [ixAll_len pl v.Shape hlen]; exact Nat.le_refl _)
  rw [ixAll_prod pl v.Shape hlen (fun x hx => (hsh x hx).1) hbad he] at this
  simp only
  rw [this]
  split
  · simp [*]
  · simp
theorem get_eq {v : Val} {pl : List Am.Place} (hd : v.Data.length ≤ 10000) (hp : plOk pl) : M.index_Get v pl = some (ixGet v pl) := by
  unfold M.index_Get ixGet
  rw [finds_eq hd hp]
  simp only [Option.bind_some]
  by_cases h0 : (ixFinds v pl).2 = 0
  rotate_left
  · rw [if_pos (by simpa using h0), if_pos h0]
  rw [if_neg (by simpa using h0), if_neg (by omega)]
  have hr := finds_range hp h0
  have hc := finds_count hp h0
  obtain ⟨_, _, _, _, _, hok, _⟩ := finds_ok hp h0
  have := hok.2.2
  generalize (ixFinds v pl).1 = r at *
  obtain ⟨sh, os⟩ := r
  simp only at *
  have := loop_fun (f := M.index_Get_L1 v ⟨sh, os⟩) (fun k => ((k : Int), (os.map fun a => (v.Data[a.toNat]?).getD 0).take k)) os.length (b := .next (os.map fun a => (v.Data[a.toNat]?).getD 0)) (fun k hk => by
    unfold M.index_Get_L1
    simp only [show decide ((k : Int) < (os.length : Int)) = true from decide_eq_true (by omega), if_true]
    rw [idx_get hk]
    simp only [Option.bind_some]
    obtain ⟨h1, h2⟩ := hr _ (List.getElem_mem hk)
    obtain ⟨m, hm⟩ := Int.eq_ofNat_of_zero_le h1
    rw [List.take_succ_eq_append_getElem (show k < (os.map fun a => (v.Data[a.toNat]?).getD 0).length by simpa using hk)]
    simp only [List.getElem_map, hm]
    rw [idx_get (show m < v.Data.length by omega)]
    simp only [Option.bind_some]
    rw [app_ok (by simp; omega), w64_id (by omega) (by omega)]
    simp only [Option.bind_some]
    rw [Int.toNat_natCast, List.getElem?_eq_getElem (show m < v.Data.length by omega)]
    rfl) (by
    unfold M.index_Get_L1
    simp only [show decide ((os.length : Int) < (os.length : Int)) = false from decide_eq_false (by omega), Bool.false_eq_true, if_false]
    rw [List.take_of_length_le (by simp)])
  rw [show ((0 : Int), ([] : List Int)) = (((0 : Nat) : Int), (os.map fun a => (v.Data[a.toNat]?).getD 0).take 0) from rfl, this]
  rfl
theorem clone_int_eq' {s : List Int} (h : s.length ≤ 1000000000) : M.slices_Clone__int s = some s := by
  unfold M.slices_Clone__int
  rw [app_ok (by simp; omega)]; rfl
theorem take_set {α : Type} {l : List α} {i : Nat} {x : α} (h : i < l.length) : (l.set i x).take (i + 1) = l.take i ++ [x] := by
  rw [List.take_succ_eq_append_getElem (by simpa using h)]
  simp [List.take_set_of_le]
theorem drop_set' {α : Type} {l : List α} {i j : Nat} {x : α} (h : i < j) : (l.set i x).drop j = l.drop j := List.drop_set_of_lt h
theorem deleteFunc_eq {s : List Int} {f : Int → Option Bool} {g : Int → Bool} (hf : ∀ x, f x = some (g x)) (hl : s.length ≤ 1000000000) :
    M.slices_DeleteFunc__int s f = some (s.filter fun x => !g x) := by
  unfold M.slices_DeleteFunc__int M.slices_IndexFunc__int
  have key := loop_find (f := M.slices_IndexFunc__int_L1 s f) (fun k => (k : Int)) s.length (fun k => (s[k]?).any g) (fun k => .done (k : Int)) (c := .next ()) (fun k hk => by
    unfold M.slices_IndexFunc__int_L1
    simp only [show decide ((k : Int) < (s.length : Int)) = true from decide_eq_true (by omega), if_true]
    rw [idx_get hk, List.getElem?_eq_getElem hk]
    simp only [Option.bind_some, Option.any_some]
    rw [hf _]
    simp only [Option.bind_some]
    rw [w64_id (by omega) (by omega)]
    rfl) (by
    unfold M.slices_IndexFunc__int_L1
    simp)
  rw [show (0 : Int) = ((0 : Nat) : Int) from rfl]
  rcases key with ⟨k, hk, hb, hbj, h⟩ | ⟨hb, h⟩
  · rw [h]
    simp only [Option.bind_some, joinK_done]
    rw [if_neg (by simp), w64_id (by omega) (by omega)]
    have l2 := wloop_ind (f := M.slices_DeleteFunc__int_L1 f) (fun m st => ∃ (i j : Nat) (l : List Int), st = ((i : Int), (j : Int), l) ∧ m = s.length - j ∧ i < j ∧ j ≤ s.length ∧ l.length = s.length ∧ l.take i = (s.take j).filter (fun x => !g x) ∧ l.drop j = s.drop j)
      (fun c => ∃ (i : Nat) (l : List Int), c = .next ((i : Int), l) ∧ i ≤ s.length ∧ l.length = s.length ∧ l.take i = s.filter (fun x => !g x)) (fun m st hst => by
      obtain ⟨i, j, l, rfl, rfl, hij, hj, hll, ht, hd⟩ := hst
      by_cases hlt : j < s.length
      · left
        have hg : l[j]'(by omega) = s[j] := by
          have : (l.drop j)[0]? = (s.drop j)[0]? := by rw [hd]
          rw [List.getElem?_drop, List.getElem?_drop, Nat.add_zero, List.getElem?_eq_getElem (by omega), List.getElem?_eq_getElem hlt] at this
          exact Option.some.inj this
        have hd1 : l.drop (j + 1) = s.drop (j + 1) := by
          have := congrArg (List.drop 1) hd
          rwa [List.drop_drop, List.drop_drop] at this
        have hs1 := List.take_succ_eq_append_getElem hlt
        unfold M.slices_DeleteFunc__int_L1
        simp only [show decide ((j : Int) < (l.length : Int)) = true from decide_eq_true (by omega), if_true]
        rw [idx_get (show j < l.length by omega), idx_get (show i < l.length by omega)]
        simp only [Option.bind_some]
        rw [hf, hg]
        simp only [Option.bind_some]
        cases hgx : g s[j]
        · simp only [Bool.not_false, if_true]
          rw [upd_nat (by omega), w64_id (by omega) (by omega), w64_id (by omega) (by omega)]
          refine ⟨_, s.length - (j + 1), rfl, by omega, i + 1, j + 1, l.set i s[j], rfl, rfl, by omega, by omega, by simpa using hll, ?_, ?_⟩
          · rw [take_set (by omega), ht, hs1, List.filter_append]
            simp [hgx]
          · rw [drop_set' (by omega), hd1]
        · simp only [Bool.not_true, Bool.false_eq_true, if_false]
          rw [w64_id (by omega) (by omega)]
          refine ⟨_, s.length - (j + 1), rfl, by omega, i, j + 1, l, rfl, rfl, by omega, by omega, hll, ?_, hd1⟩
          rw [ht, hs1, List.filter_append]
          simp [hgx]
      · have : j = s.length := by omega
        subst this
        right
        refine ⟨.next ((i : Int), l), ?_, i, l, rfl, by omega, hll, ?_⟩
        · unfold M.slices_DeleteFunc__int_L1
          simp only [show decide ((s.length : Int) < (l.length : Int)) = false from decide_eq_false (by omega), Bool.false_eq_true, if_false]
        · rw [ht, List.take_length]) (s.length - (k + 1)) ((k : Int), ((k + 1 : Nat) : Int), s) ⟨k, k + 1, s, rfl, rfl, by omega, by omega, rfl, (by
          rw [List.take_succ_eq_append_getElem hk, List.filter_append]
          rw [List.getElem?_eq_getElem hk] at hb
          simp only [Option.any_some] at hb
          have h1 : (s.take k).filter (fun x => !g x) = s.take k := by
            rw [List.filter_eq_self]
            intro x hx
            obtain ⟨j, hj, rfl⟩ := List.getElem_of_mem hx
            rw [List.length_take] at hj
            have := hbj j (by omega)
            rw [List.getElem?_eq_getElem (by omega)] at this
            simp only [Option.any_some] at this
            simp [this]
          rw [h1]
          simp [hb]), rfl⟩
    obtain ⟨c, hc, i, l, rfl, hi, hll, ht⟩ := l2
    rw [show ((k : Int) + 1) = ((k + 1 : Nat) : Int) from rfl, hc]
    simp only [Option.bind_some, joinK_next]
    rw [sub_drop (by omega)]
    simp only [Option.bind_some]
    rw [Int.toNat_natCast]
    unfold sub
    rw [if_pos ⟨by omega, by omega, by simp; omega⟩]
    simp only [Option.bind_some]
    rw [← ht]
    simp only [Int.toNat_natCast, Int.toNat_zero, List.drop_zero]
    rw [List.append_assoc, List.take_append_of_le_length (by simp; omega), List.take_take]
    simp
  · rw [h]
    simp only [Option.bind_some, joinK_next]
    rw [if_pos (by decide)]
    congr 1
    symm
    rw [List.filter_eq_self]
    intro x hx
    obtain ⟨j, hj, rfl⟩ := List.getElem_of_mem hx
    have := hb j hj
    rw [List.getElem?_eq_getElem hj] at this
    simp only [Option.any_some] at this
    simp [this]
def bareL (s : List Int) : List Int := s.filter fun x => !(x == 1)
theorem bare_eq {s : List Int} (h : s.length ≤ 1000000000) : M.index_bare s = some (bareL s) := by
  unfold M.index_bare
  rw [clone_int_eq' h]
  simp only [Option.bind_some]
  rw [deleteFunc_eq (f := fun x0 => M.index_bare_1 x0) (g := fun x => x == 1) (fun x => rfl) h]
  rfl
theorem bare_prod (s : List Int) : prod (bareL s) = prod s := by
  unfold bareL
  induction s with
  | nil => rfl
  | cons x s ih =>
    rw [List.filter_cons]
    by_cases h : x = 1
    · subst h; simp [prod, ih]
    · simp [h, prod, ih]
def ixGoes (v w : Val) (s : List Int) : Int :=
  if 0 < w.Shape.length ∧ (bareL s).length ≠ (bareL w.Shape).length then 24 else if 0 < w.Shape.length ∧ bareL s ≠ bareL w.Shape then 25
  else if v.Char ≠ w.Char ∧ 0 < w.Data.length then 23 else 0
theorem goes_eq {v w : Val} {s : List Int} (h1 : s.length ≤ 1000000) (h2 : w.Shape.length ≤ 1000000) : M.index_goes v w s = some (ixGoes v w s) := by
  unfold M.index_goes ixGoes
  rw [bare_eq (by omega), bare_eq (by omega)]
  simp only [Option.bind_some]
  by_cases ha : 0 < w.Shape.length ∧ (bareL s).length ≠ (bareL w.Shape).length
  · rw [if_pos ha, if_pos (by simp only [Bool.and_eq_true, decide_eq_true_eq, bne_iff_ne]; omega)]
  rw [if_neg ha, if_neg (by simp only [Bool.and_eq_true, decide_eq_true_eq, bne_iff_ne]; omega)]
  have hc : (if decide ((w.Shape.length : Int) > 0) = true then (M.slices_Equal__int (bareL s) (bareL w.Shape)).bind fun r3 => some (!r3) else some false) = some (decide (0 < w.Shape.length ∧ bareL s ≠ bareL w.Shape)) := by
    by_cases hz : 0 < w.Shape.length
    · rw [if_pos (by simp; omega), Equal_int_eq (by
        have := List.length_filter_le (fun x => !(x == 1)) s
        unfold bareL; simp only [maxLen]; omega)]
      simp [hz]
    · rw [if_neg (by rw [decide_eq_true_eq]; omega)]
      simp [hz]
  rw [hc]
  simp only [Option.bind_some, decide_eq_true_eq]
  by_cases hb : 0 < w.Shape.length ∧ bareL s ≠ bareL w.Shape
  · rw [if_pos hb, if_pos hb]
  rw [if_neg hb, if_neg hb]
  by_cases hd : v.Char ≠ w.Char ∧ 0 < w.Data.length
  · rw [if_pos hd, if_pos (by simp; exact ⟨hd.1, by omega⟩)]
  · rw [if_neg hd, if_neg (by simp only [Bool.and_eq_true, decide_eq_true_eq, Bool.not_eq_true', beq_eq_false_iff_ne]; intro h; exact hd ⟨h.1, by omega⟩)]
def putL : List Int → List (Int × Int) → List Int
  | d, [] => d
  | d, (a, x) :: r => putL (d.set a.toNat x) r
theorem putL_len (d : List Int) (ps : List (Int × Int)) : (putL d ps).length = d.length := by
  induction ps generalizing d with
  | nil => rfl
  | cons p ps ih => rw [putL, ih, List.length_set]
theorem putL_snoc (d : List Int) (ps : List (Int × Int)) (a x : Int) : putL d (ps ++ [(a, x)]) = (putL d ps).set a.toNat x := by
  induction ps generalizing d with
  | nil => rfl
  | cons p ps ih => rw [List.cons_append, putL, ih, putL]
def putW (w : Val) (n : Nat) : List Int := if w.Shape.length = 0 then List.replicate n ((w.Data[0]?).getD 0) else w.Data
def ixPut (v : Val) (pl : List Am.Place) (w : Val) : Val × Int :=
  if vRight w = false then (⟨false, [], []⟩, 1) else if (ixFinds v pl).2 ≠ 0 then (⟨false, [], []⟩, (ixFinds v pl).2)
  else if ixGoes v w (ixFinds v pl).1.shape ≠ 0 then (⟨false, [], []⟩, ixGoes v w (ixFinds v pl).1.shape)
  else (⟨v.Char, v.Shape, putL v.Data ((ixFinds v pl).1.offsets.zip (putW w (ixFinds v pl).1.offsets.length))⟩, 0)
theorem putW_len {v w : Val} {s : List Int} {n : Nat} (hw : vRight w = true) (hg : ixGoes v w s = 0) (hn : (n : Int) = prod s) : (putW w n).length = n := by
  unfold putW
  split
  · simp
  · rename_i h0
    obtain ⟨_, h2, _⟩ := vRight_iff.mp hw
    unfold ixGoes at hg
    split at hg
    · omega
    · split at hg
      · omega
      · rename_i h3
        have : bareL s = bareL w.Shape := Decidable.of_not_not fun h => h3 ⟨by omega, h⟩
        have h4 := bare_prod s
        rw [this, bare_prod, h2] at h4
        omega
theorem put_eq {v w : Val} {pl : List Am.Place} (hd : v.Data.length ≤ 10000) (hwd : w.Data.length ≤ 10000) (hws : w.Shape.length ≤ 1000) (hp : plOk pl) : M.index_Put v pl w = some (ixPut v pl w) := by
  unfold M.index_Put ixPut
  rw [value_Right_eq (by omega)]
  simp only [Option.bind_some]
  cases hw : vRight w
  · rfl
  simp only [Bool.not_true, Bool.false_eq_true, if_false]
  rw [finds_eq hd hp]
  simp only [Option.bind_some]
  rw [if_neg (show ¬ true = false by decide)]
  by_cases h0 : (ixFinds v pl).2 = 0
  rotate_left
  · rw [if_pos (by simpa using h0), if_pos h0]
  rw [if_neg (by simpa using h0), if_neg (by omega)]
  have hr := finds_range hp h0
  have hc := finds_count hp h0
  obtain ⟨hv, _, _, _, _, hok, hf⟩ := finds_ok hp h0
  have hsh : (ixFinds v pl).1.shape = allLens pl v.Shape := by rw [hf]
  rw [goes_eq (by rw [hsh]; have := hok.1; omega) (by omega)]
  simp only [Option.bind_some]
  by_cases hg : ixGoes v w (ixFinds v pl).1.shape = 0
  rotate_left
  · rw [if_pos (by simpa using hg), if_pos hg]
  rw [if_neg (by simpa using hg), if_neg (by omega)]
  have hvs := (vRight_iff.mp hv).1.1
  rw [value_Copy_eq (by omega) (by omega)]
  simp only [Option.bind_some]
  have hpw := putW_len (n := (ixFinds v pl).1.offsets.length) hw hg (by rw [hc, hsh])
  have h10 := hok.2.2
  generalize (ixFinds v pl).1 = r at *
  obtain ⟨sh, os⟩ := r
  simp only at *
  have h1 : w.Shape.length = 0 → 0 < w.Data.length := fun h => by
    have := (vRight_iff.mp hw).2.1
    rw [List.length_eq_zero_iff.mp h] at this
    simp only [prod] at this
    omega
  have := loop_fun (f := M.index_Put_L1 w ⟨sh, os⟩) (fun k => ((k : Int), putL v.Data ((os.zip (putW w os.length)).take k))) os.length (b := .next (putL v.Data (os.zip (putW w os.length)))) (fun k hk => by
    unfold M.index_Put_L1
    simp only [show decide ((k : Int) < (os.length : Int)) = true from decide_eq_true (by omega), if_true]
    rw [idx_get hk]
    simp only [Option.bind_some]
    obtain ⟨h3, h4⟩ := hr _ (List.getElem_mem hk)
    obtain ⟨m, hm⟩ := Int.eq_ofNat_of_zero_le h3
    rw [List.take_succ_eq_append_getElem (show k < (os.zip (putW w os.length)).length by simp; omega)]
    simp only [List.getElem_zip]
    rw [putL_snoc]
    simp only [hm]
    have hml : m < (putL v.Data ((os.zip (putW w os.length)).take k)).length := by rw [putL_len]; omega
    rw [idx_get hml]
    by_cases hz : w.Shape.length = 0
    · rw [if_pos (by simpa using hz)]
      have hz1 := h1 hz
      rw [show (0 : Int) = ((0 : Nat) : Int) from rfl, idx_get hz1]
      simp only [Option.bind_some]
      rw [upd_nat hml, w64_id (by omega) (by omega)]
      simp only [Option.bind_some]
      have : (putW w os.length)[k]'(by omega) = w.Data[0] := by
        simp only [putW, hz, if_true, List.getElem_replicate]
        rw [List.getElem?_eq_getElem hz1]; rfl
      rw [this]
      rfl
    · rw [if_neg (by simpa using hz)]
      have hkw : k < w.Data.length := by
        unfold putW at hpw
        rw [if_neg hz] at hpw
        omega
      rw [idx_get hkw]
      simp only [Option.bind_some]
      rw [upd_nat hml, w64_id (by omega) (by omega)]
      simp only [Option.bind_some]
      have : (putW w os.length)[k]'(by omega) = w.Data[k] := by
        simp only [putW, hz, if_false]
      rw [this]
      rfl) (by
    unfold M.index_Put_L1
    simp only [show decide ((os.length : Int) < (os.length : Int)) = false from decide_eq_false (by omega), Bool.false_eq_true, if_false]
    rw [List.take_of_length_le (by simp; omega)])
  rw [show ((0 : Int), v.Data) = (((0 : Nat) : Int), putL v.Data ((os.zip (putW w os.length)).take 0)) from rfl, this]
  rfl
theorem ref07_Size_eq {s : List Int} (hl : s.length ≤ 9223372036854775807) : M.anamnesisref07_Size s = some (if shOk s then prod s else -1) := by
  unfold M.anamnesisref07_Size
  by_cases h4 : s.length > 4
  · rw [if_pos (by simp; omega), if_neg (fun h => by have := h.1; omega)]
  · rw [if_neg (by simp; omega)]
    have key := wloop_ind (f := M.anamnesisref07_Size_L1 s) (fun n st => ∃ k : Nat, st = (prod (s.take k), (k : Int)) ∧ k ≤ s.length ∧ n = s.length - k ∧ ∀ x ∈ s.take k, 0 ≤ x ∧ x ≤ 10000)
      (fun b => (b = .next (prod s) ∧ ∀ x ∈ s, 0 ≤ x ∧ x ≤ 10000) ∨ (b = .done (-1) ∧ ¬ ∀ x ∈ s, 0 ≤ x ∧ x ≤ 10000)) (fun n st h => by
        obtain ⟨k, rfl, hk, rfl, hb⟩ := h
        unfold M.anamnesisref07_Size_L1
        by_cases hlt : k < s.length
        · simp only [show decide ((k : Int) < (s.length : Int)) = true from by simp; exact hlt, if_true, idx_get hlt, Option.bind_some]
          have e : (if decide (s[k] < 0) = true then some true else some (decide (s[k] > 10000))) = some (decide (s[k] < 0 ∨ s[k] > 10000)) := by
            by_cases h : s[k] < 0
            · rw [if_pos (by simpa using h), decide_eq_true (.inl h)]
            · rw [if_neg (by simpa using h)]; simp [h]
          rw [e]
          simp only [Option.bind_some]
          by_cases hbad : s[k] < 0 ∨ s[k] > 10000
          · right
            rw [if_pos (by simpa using hbad)]
            refine ⟨_, rfl, .inr ⟨rfl, fun h => ?_⟩⟩
            have := h _ (List.getElem_mem hlt)
            omega
          · left
            rw [if_neg (by simpa using hbad)]
            have e : prod (s.take k) * s[k] = prod (s.take (k + 1)) := by
              rw [List.take_succ_eq_append_getElem hlt, prod_append]; simp [prod]
            have hb' : ∀ x ∈ s.take (k + 1), 0 ≤ x ∧ x ≤ 10000 := by
              intro x hx
              rw [List.take_succ_eq_append_getElem hlt] at hx
              rcases List.mem_append.mp hx with hx | hx
              · exact hb x hx
              · obtain rfl := List.mem_singleton.mp hx; omega
            have hp := prod_bound (s.take (k + 1)) 4 (by rw [List.length_take]; omega) hb'
            refine ⟨_, s.length - (k + 1), rfl, by omega, k + 1, ?_, by omega, rfl, hb'⟩
            rw [e, w64_id (by omega) (by omega), w64_id (by omega) (by omega)]
            simp
        · have : k = s.length := by omega
          subst this
          right
          rw [List.take_length] at hb ⊢
          exact ⟨_, by simp, .inl ⟨rfl, hb⟩⟩)
      s.length (1, 0) ⟨0, by simp [prod], by omega, by omega, by simp⟩
    obtain ⟨b, hb, ⟨rfl, h⟩ | ⟨rfl, h⟩⟩ := key
    · rw [hb]
      simp only [Option.bind_some, joinK_next]
      by_cases hp : prod s > 10000
      · rw [if_pos (by simpa using hp), if_neg (fun h => by have := h.2.2; omega)]
      · rw [if_neg (by simpa using hp), if_pos ⟨by omega, h, by omega⟩]
    · rw [hb, if_neg (fun h' => h h'.2.1)]; rfl
theorem mod_split {k x P : Int} (hx : 0 < x) (hP : 0 < P) : k % (x * P) / P = k / P % x ∧ k % (x * P) % P = k % P := by
  have h1 : k % (x * P) % P = k % P := Int.emod_emod_of_dvd k ⟨x, Int.mul_comm x P⟩
  refine ⟨?_, h1⟩
  have e1 := Int.emod_add_mul_ediv k P
  have e2 := Int.emod_add_mul_ediv (k / P) x
  have r1 := Int.emod_nonneg k (show P ≠ 0 by omega)
  have r2 := Int.emod_lt_of_pos k hP
  have b1 := Int.emod_nonneg (k / P) (show x ≠ 0 by omega)
  have b2 := Int.emod_lt_of_pos (k / P) hx
  have e3 : k = k % P + P * (k / P % x) + x * P * (k / P / x) := by
    have : P * (k / P) = P * (k / P % x) + x * P * (k / P / x) := by
      rw [Int.mul_comm x P, Int.mul_assoc, ← Int.mul_add, e2]
    omega
  have lo : 0 ≤ P * (k / P % x) := Int.mul_nonneg (by omega) b1
  have hi : P * (k / P % x) + P ≤ x * P := by
    have := Int.mul_le_mul_of_nonneg_left (show k / P % x + 1 ≤ x by omega) (show 0 ≤ P by omega)
    rw [Int.mul_add, Int.mul_one, Int.mul_comm P x] at this
    exact this
  have e4 : k % (x * P) = k % P + P * (k / P % x) := by
    conv => lhs; rw [e3]
    rw [Int.add_mul_emod_self_left]
    exact Int.emod_eq_of_lt (by omega) (by omega)
  rw [e4, Int.add_mul_ediv_left _ _ (by omega), Int.ediv_eq_zero_of_lt r1 r2, Int.zero_add]
theorem ref07_At_eq {s : List Int} {k : Nat} (hs : shOk s) (hk : (k : Int) < prod s) : M.anamnesisref07_At s k = some (dig s k) := by
  have hpos : allPos s := allPos_of (fun x hx => (hs.2.1 x hx).1) (by omega)
  have h4 := hs.1
  have hp := hs.2.2
  unfold M.anamnesisref07_At
  rw [mk_ok (by omega) (by omega), w64_id (x := (s.length : Int) - 1) (by omega) (by omega)]
  simp only [Option.bind_some]
  obtain ⟨b, hb, rfl⟩ := wloop_ind (f := M.anamnesisref07_At_L1 s) (fun n st => ∃ j : Nat, j ≤ s.length ∧ n = j ∧ st = ((k : Int) / prod (s.drop j), (j : Int) - 1, List.replicate j 0 ++ dig (s.drop j) ((k : Int) % prod (s.drop j)))) (fun b => b = .next (dig s k)) (fun n st h => by
    obtain ⟨j, hj, rfl, rfl⟩ := h
    simp only [M.anamnesisref07_At_L1]
    cases n with
    | zero =>
      right
      rw [if_neg (by simp)]
      refine ⟨_, rfl, ?_⟩
      rw [List.drop_zero, Int.emod_eq_of_lt (by omega) hk]
      simp
    | succ i =>
      left
      have hi : i < s.length := by omega
      have hP : 0 < prod (s.drop (i + 1)) := allPos.pprod fun x hx => hpos x (List.mem_of_mem_drop hx)
      have hx := hpos _ (List.getElem_mem hi)
      have ed : s.drop i = s[i] :: s.drop (i + 1) := List.drop_eq_getElem_cons hi
      have ei : ((i + 1 : Nat) : Int) - 1 = (i : Int) := by omega
      generalize hPe : prod (s.drop (i + 1)) = P at *
      have q0 : 0 ≤ (k : Int) / P := Int.ediv_nonneg (by omega) (by omega)
      have q1 : (k : Int) / P ≤ k := Int.ediv_le_self _ (by omega)
      have q2 : 0 ≤ (k : Int) / P / s[i] := Int.ediv_nonneg q0 (by omega)
      have q3 : (k : Int) / P / s[i] ≤ (k : Int) / P := Int.ediv_le_self _ q0
      have hlen : (List.replicate (i + 1) (0 : Int) ++ dig (s.drop (i + 1)) ((k : Int) % P)).length = s.length := by
        rw [List.length_append, List.length_replicate, dig_len, List.length_drop]; omega
      rw [ei, if_pos (by simp), idx_get hi]
      simp only [Option.bind_some]
      have er : remI ((k : Int) / P) s[i] = some ((k : Int) / P % s[i]) := by
        unfold remI; rw [if_neg (by omega), Int.tmod_eq_emod_of_nonneg q0]
      have eq : quoI .i64 ((k : Int) / P) s[i] = some ((k : Int) / P / s[i]) := by
        unfold quoI; rw [if_neg (by omega), Int.tdiv_eq_ediv_of_nonneg q0, w64_id (by omega) (by omega)]
      rw [er, idx_get (by omega), eq]
      simp only [Option.bind_some]
      rw [upd_nat (by omega), w64_id (x := (i : Int) - 1) (by omega) (by omega)]
      simp only [Option.bind_some]
      refine ⟨_, i, rfl, by omega, i, by omega, rfl, ?_⟩
      have m := mod_split (k := (k : Int)) hx hP
      have eP : prod (s.drop i) = s[i] * P := by rw [ed]; simp [prod, hPe]
      have e1 : (k : Int) / prod (s.drop i) = (k : Int) / P / s[i] := by
        rw [eP, Int.mul_comm, Int.ediv_ediv_of_nonneg (by omega)]
      have e2 : dig (s.drop i) ((k : Int) % prod (s.drop i)) = ((k : Int) / P % s[i]) :: dig (s.drop (i + 1)) ((k : Int) % P) := by
        rw [eP, ed]
        show _ / prod (s.drop (i + 1)) :: dig _ (_ % prod (s.drop (i + 1))) = _
        rw [hPe, m.1, m.2]
      rw [e1, e2, List.set_append_left _ _ (by simp)]
      congr 2
      rw [List.replicate_succ', List.set_append_right _ _ (by simp)]
      simp) s.length ((k : Int), (s.length : Int) - 1, List.replicate s.length 0) ⟨s.length, by omega, rfl, by simp [prod, dig]⟩
  rw [hb]; rfl
theorem off_snoc : ∀ {a p : List Int} {x y : Int}, p.length = a.length → off (a ++ [x]) (p ++ [y]) = off a p * x + y
  | [], [], x, y, _ => by simp [off, prod]
  | a :: s, i :: p, x, y, h => by
    simp only [List.cons_append, off, prod_append]
    rw [off_snoc (by simpa using h)]
    simp [prod, Int.add_mul, Int.mul_assoc, Int.add_assoc]
theorem inShape_snoc2 : ∀ {a p : List Int} {x y : Int}, p.length = a.length → (inShape (a ++ [x]) (p ++ [y]) ↔ inShape a p ∧ 0 ≤ y ∧ y < x)
  | [], [], x, y, _ => by simp [inShape]
  | a :: s, i :: p, x, y, h => by
    simp only [List.cons_append, inShape]
    rw [inShape_snoc2 (by simpa using h)]
    constructor
    · rintro ⟨h1, h2, h3, h4, h5⟩; exact ⟨⟨h1, h2, h3⟩, h4, h5⟩
    · rintro ⟨⟨h1, h2, h3⟩, h4, h5⟩; exact ⟨h1, h2, h3, h4, h5⟩
theorem inShape_take2 : ∀ {a p : List Int} (n : Nat), inShape a p → inShape (a.take n) (p.take n)
  | [], [], n, _ => by simp [inShape]
  | a :: s, i :: p, 0, _ => by simp [inShape]
  | a :: s, i :: p, n + 1, ⟨h1, h2, h3⟩ => ⟨h1, h2, inShape_take2 n h3⟩
theorem prod_take_le2 {s : List Int} (hpos : allPos s) (n : Nat) : prod (s.take n) ≤ prod s := by
  have e : prod s = prod (s.take n) * prod (s.drop n) := by rw [← prod_append, List.take_append_drop]
  have h1 : 0 < prod (s.take n) := allPos.pprod fun x hx => hpos x (List.mem_of_mem_take hx)
  have h2 : 0 < prod (s.drop n) := allPos.pprod fun x hx => hpos x (List.mem_of_mem_drop hx)
  have := Int.mul_le_mul_of_nonneg_left (show 1 ≤ prod (s.drop n) by omega) (show 0 ≤ prod (s.take n) by omega)
  rw [Int.mul_one] at this
  omega
theorem ref07_Offset_eq {s p : List Int} (hs : shOk s) (hi : inShape s p) : M.anamnesisref07_Offset s p = some (off s p) := by
  have hpos : allPos s := allPos_of (fun x hx => (hs.2.1 x hx).1) (inShape.pos hi)
  have h4 := hs.1
  have hp := hs.2.2
  have hl := hi.len
  have bd : ∀ i, 0 ≤ off (s.take i) (p.take i) ∧ off (s.take i) (p.take i) < 10000 := fun i => by
    have := off_range (inShape_take2 i hi)
    have := prod_take_le2 hpos i
    omega
  unfold M.anamnesisref07_Offset
  rw [show wloop (M.anamnesisref07_Offset_L1 s p) (0, 0) = some (.next (off s p)) from by
    refine loop_fun (f := M.anamnesisref07_Offset_L1 s p) (fun k => (off (s.take k) (p.take k), (k : Int))) s.length (fun k hk => ?_) ?_
    · have hk2 : k < p.length := by omega
      simp only [M.anamnesisref07_Offset_L1]
      rw [if_pos (by simp; omega), idx_get hk, idx_get hk2]
      simp only [Option.bind_some]
      have b0 := bd k
      have b1 := bd (k + 1)
      have b2 := hs.2.1 _ (List.getElem_mem hk)
      have b3 := Int.mul_le_mul (show off (s.take k) (p.take k) ≤ 10000 by omega) b2.2 b2.1 (by omega)
      have b4 := Int.mul_nonneg b0.1 b2.1
      have e : off (s.take (k + 1)) (p.take (k + 1)) = off (s.take k) (p.take k) * s[k] + p[k] := by
        rw [List.take_succ_eq_append_getElem hk, List.take_succ_eq_append_getElem hk2, off_snoc (by rw [List.length_take, List.length_take]; omega)]
      rw [w64_id (x := off (s.take k) (p.take k) * s[k]) (by omega) (by omega), ← e, w64_id (by omega) (by omega), w64_id (x := (k : Int) + 1) (by omega) (by omega)]
      rfl
    · simp only [M.anamnesisref07_Offset_L1]
      rw [if_neg (by simp), List.take_of_length_le (by omega), List.take_of_length_le (by omega)]]
  rfl
theorem rl_L1 {pl : List Am.Place} (hp : plOk pl) : wloop (M.anamnesisref11_lengths_L1 pl) 0 = some (if pl.any plBad = true then .done ([], 1) else .next ()) := by
  have h10 := hp.1
  rcases loop_find (f := M.anamnesisref11_lengths_L1 pl) (fun k => (k : Int)) pl.length (fun k => (pl[k]?).any plBad) (fun _ => .done ([], 1)) (c := .next ()) (fun k hk => by
      have hd := (hp.2 _ (List.getElem_mem hk)).1
      simp only [M.anamnesisref11_lengths_L1]
      rw [if_pos (by simp; omega), idx_get hk, List.getElem?_eq_getElem hk, w64_id (x := (k : Int) + 1) (by omega) (by omega)]
      simp only [Option.bind_some, Option.any_some]
      rw [ref02_Right_eq (by omega)]
      have hA : (if (!pl[k].All) = true then ((some (vRight pl[k].V)).bind fun r2 => some !r2) else some false) = some (plBad pl[k]) := by
        unfold plBad
        cases pl[k].All <;> rfl
      rw [hA]; rfl) (by
      simp only [M.anamnesisref11_lengths_L1]
      rw [if_neg (by simp)]) with ⟨k, hk, hb, _, he⟩ | ⟨hg, he⟩
  · rw [List.getElem?_eq_getElem hk] at hb
    have : pl.any plBad = true := List.any_eq_true.mpr ⟨pl[k], List.getElem_mem hk, hb⟩
    rw [this]; exact he
  · have : pl.any plBad = false := List.any_eq_false.mpr fun p hpm => by
      obtain ⟨k, hk, rfl⟩ := List.mem_iff_getElem.mp hpm
      have := hg k hk
      rw [List.getElem?_eq_getElem hk] at this
      simpa using this
    rw [this]; exact he
theorem rl_L2 {v : Val} {pl : List Am.Place} (hp : plOk pl) (hl : pl.length = v.Shape.length) : wloop (M.anamnesisref11_lengths_L2 v pl) ([], 0) = some (.next (allLens pl v.Shape)) := by
  have h10 := hp.1
  have hlen := allLens_len pl v.Shape (fun p h => (hp.2 p h).2)
  have h0 : allLens (pl.take 0) (v.Shape.take 0) = [] := by simp [allLens]
  have hn : allLens (pl.take pl.length) (v.Shape.take pl.length) = allLens pl v.Shape := by rw [List.take_length, hl, List.take_length]
  have := loop_fun (f := M.anamnesisref11_lengths_L2 v pl) (fun k => (allLens (pl.take k) (v.Shape.take k), (k : Int))) pl.length (b := .next (allLens pl v.Shape)) (fun k hk => by
    have hk2 : k < v.Shape.length := by omega
    have lk := allLens_len (pl.take k) (v.Shape.take k) (fun p h => (hp.2 p (List.mem_of_mem_take h)).2)
    rw [List.length_take] at lk
    have hs := (hp.2 _ (List.getElem_mem hk)).2
    simp only [M.anamnesisref11_lengths_L2]
    rw [if_pos (by simp; omega), idx_get hk, allLens_take pl v.Shape k hk hk2, w64_id (x := (k : Int) + 1) (by omega) (by omega)]
    simp only [Option.bind_some]
    unfold plLens
    cases pl[k].All
    · simp only [Bool.false_eq_true, if_false]
      rw [app_ok (by omega)]
      rfl
    · simp only [if_true]
      rw [idx_get hk2]
      simp only [Option.bind_some]
      rw [app_ok (by simp; omega)]
      rfl) (by
    simp only [M.anamnesisref11_lengths_L2]
    rw [if_neg (by simp), hn])
  rw [h0] at this
  exact this
theorem rl_L4 {v : Val} {pl : List Am.Place} {i : Nat} (hp : plOk pl) (hi : i < pl.length) (hi2 : i < v.Shape.length) (ha : pl[i].All = false) :
    wloop (M.anamnesisref11_lengths_L4 v pl (i : Int)) 0 = some (if (plIdx pl[i] v.Shape[i]).2 = 0 then .next () else .done (.done (.done ([], (plIdx pl[i] v.Shape[i]).2)))) := by
  have hd := (hp.2 _ (List.getElem_mem hi)).1
  have hidx : ∀ k : Nat, (idx pl (i : Int)) = some pl[i] := fun _ => idx_get hi
  by_cases hc : pl[i].V.Char = true ∧ 0 < pl[i].V.Data.length
  · have e : (plIdx pl[i] v.Shape[i]).2 = 23 := by
      unfold plIdx; rw [ha, if_neg (by simp), if_pos (by simp [hc.1, hc.2])]
    rw [e, if_neg (by decide), wloop_done (b := .done (.done (.done ([], 23))))]
    simp only [M.anamnesisref11_lengths_L4]
    rw [idx_get hi]
    simp only [Option.bind_some]
    rw [if_pos (by simp; omega), if_pos hc.1]
  · have e : (plIdx pl[i] v.Shape[i]).2 = if pl[i].V.Data.any (fun y => decide (y < 1) || decide (y > v.Shape[i])) = true then 26 else 0 := by
      unfold plIdx; rw [ha, if_neg (by simp), if_neg (by rw [Bool.and_eq_true, decide_eq_true_eq]; exact hc)]
      split <;> rfl
    rw [e]
    rcases loop_find (f := M.anamnesisref11_lengths_L4 v pl (i : Int)) (fun k => (k : Int)) pl[i].V.Data.length (fun k => (pl[i].V.Data[k]?).any fun y => decide (y < 1) || decide (y > v.Shape[i])) (fun _ => .done (.done (.done ([], 26)))) (c := .next ()) (fun k hk => by
        have hcf : pl[i].V.Char = false := by
          cases h : pl[i].V.Char
          · rfl
          · exact absurd ⟨h, by omega⟩ hc
        simp only [M.anamnesisref11_lengths_L4]
        rw [idx_get hi]
        simp only [Option.bind_some]
        rw [if_pos (by simp; omega), hcf, idx_get hk, List.getElem?_eq_getElem hk, w64_id (x := (k : Int) + 1) (by omega) (by omega)]
        simp only [Option.bind_some, Option.any_some, Bool.false_eq_true, if_false]
        rw [idx_get hi2]
        by_cases h1 : pl[i].V.Data[k] < 1
        · rw [if_pos (by simpa using h1), if_pos (by simp [h1])]; rfl
        · rw [if_neg (by simpa using h1)]
          simp only [Option.bind_some]
          by_cases h2 : pl[i].V.Data[k] > v.Shape[i]
          · rw [if_pos (by simpa using h2), if_pos (by simp; omega)]
          · rw [if_neg (by simpa using h2), if_neg (by simp; omega)]; rfl) (by
        simp only [M.anamnesisref11_lengths_L4]
        rw [idx_get hi]
        simp only [Option.bind_some]
        rw [if_neg (by simp)]) with ⟨k, hk, hb, _, he⟩ | ⟨hg, he⟩
    · rw [List.getElem?_eq_getElem hk] at hb
      have : pl[i].V.Data.any (fun y => decide (y < 1) || decide (y > v.Shape[i])) = true := List.any_eq_true.mpr ⟨_, List.getElem_mem hk, hb⟩
      rw [this]; exact he
    · have : pl[i].V.Data.any (fun y => decide (y < 1) || decide (y > v.Shape[i])) = false := List.any_eq_false.mpr fun y hy => by
        obtain ⟨k, hk, rfl⟩ := List.mem_iff_getElem.mp hy
        have := hg k hk
        rw [List.getElem?_eq_getElem hk] at this
        simpa using this
      rw [this]; exact he
theorem rl_L3 {v : Val} {pl : List Am.Place} (hp : plOk pl) (hl : pl.length = v.Shape.length) : wloop (M.anamnesisref11_lengths_L3 v pl) 0 = some (if ixErr pl v.Shape = 0 then .next () else .done ([], ixErr pl v.Shape)) := by
  have h10 := hp.1
  rcases loop_find (f := M.anamnesisref11_lengths_L3 v pl) (fun k => (k : Int)) pl.length (fun k => decide (((pl[k]?).map fun p => (plIdx p ((v.Shape[k]?).getD 0)).2).getD 0 ≠ 0)) (fun k => .done ([], ((pl[k]?).map fun p => (plIdx p ((v.Shape[k]?).getD 0)).2).getD 0)) (c := .next ()) (fun k hk => by
      have hk2 : k < v.Shape.length := by omega
      simp only [M.anamnesisref11_lengths_L3]
      rw [if_pos (by simp; omega), idx_get hk, List.getElem?_eq_getElem hk, List.getElem?_eq_getElem hk2, w64_id (x := (k : Int) + 1) (by omega) (by omega)]
      simp only [Option.bind_some, Option.map_some, Option.getD_some]
      cases ha : pl[k].All with
      | true =>
        have e : (plIdx pl[k] v.Shape[k]).2 = 0 := by unfold plIdx; rw [ha]; rfl
        simp only [if_true]
        rw [if_neg (by simp [e])]; rfl
      | false =>
        simp only [Bool.false_eq_true, if_false]
        rw [rl_L4 hp hk hk2 ha]
        by_cases e : (plIdx pl[k] v.Shape[k]).2 = 0
        · rw [if_pos e, if_neg (by simp [e])]; rfl
        · rw [if_neg e, if_pos (by simpa using e)]; rfl) (by
      simp only [M.anamnesisref11_lengths_L3]
      rw [if_neg (by simp)]) with ⟨k, hk, hb, hj, he⟩ | ⟨hg, he⟩
  · have hk2 : k < v.Shape.length := by omega
    have fact : ∀ j (h : j < pl.length), ((pl[j]?).map fun p => (plIdx p ((v.Shape[j]?).getD 0)).2).getD 0 = (plIdx pl[j] (v.Shape[j]'(by omega))).2 := fun j h => by
      rw [List.getElem?_eq_getElem h, List.getElem?_eq_getElem (show j < v.Shape.length by omega)]; rfl
    rw [fact k hk] at he hb
    have e := ixErr_at pl v.Shape k hk hk2 (fun j h => by
      have := hj j h
      rw [fact j (by omega)] at this
      simpa using this) (by simpa using hb)
    have hne : (plIdx pl[k] v.Shape[k]).2 ≠ 0 := by simpa using hb
    rw [e, if_neg hne]; exact he
  · have e : ixErr pl v.Shape = 0 := (ixErr_zero pl v.Shape hl).mpr fun k hk => by
      have := hg k hk
      rw [List.getElem?_eq_getElem hk, List.getElem?_eq_getElem (show k < v.Shape.length by omega)] at this
      simpa using this
    rw [e]; exact he
theorem rlengths_eq {v : Val} {pl : List Am.Place} (hd : v.Data.length ≤ 10000) (hp : plOk pl) : M.anamnesisref11_lengths v pl = some ((ixFinds v pl).1.shape, (ixFinds v pl).2) := by
  have hm : maxLen = 9223372036854775807 := rfl
  unfold M.anamnesisref11_lengths ixFinds ixShaped
  rw [ref02_Right_eq (by omega)]
  simp only [Option.bind_some]
  cases hv : vRight v with
  | false => rfl
  | true =>
    simp only [Bool.not_true, Bool.false_eq_true, if_false, Bool.false_or]
    have h10 := hp.1
    have hv4 := (vRight_iff.mp hv).1.1
    rw [rl_L1 hp]
    simp only [Option.bind_some]
    cases hb : pl.any plBad with
    | true => rfl
    | false =>
      simp only [Bool.false_eq_true, if_false, joinK]
      by_cases hr : v.Shape.length = 0 ∨ pl.length ≠ v.Shape.length
      · rw [if_pos (by rw [Bool.or_eq_true, beq_iff_eq, bne_iff_ne]; omega), if_pos hr, if_pos (by decide)]
      · rw [if_neg (by rw [Bool.or_eq_true, beq_iff_eq, bne_iff_ne]; omega), if_neg hr]
        have hl : pl.length = v.Shape.length := by omega
        rw [rl_L2 hp hl]
        simp only [Option.bind_some, joinK]
        by_cases h4 : (allLens pl v.Shape).length > 4
        · rw [if_pos (by simp; omega), if_pos h4, if_pos (by decide)]
        · rw [if_neg (by simp; omega), if_neg h4, if_neg (by simp), rl_L3 hp hl]
          simp only [Option.bind_some]
          by_cases he : ixErr pl v.Shape = 0
          · rw [if_pos he, if_neg (by simp [he])]
            simp only [joinK]
            rw [ref07_Size_eq (by omega)]
            simp only [Option.bind_some]
            by_cases hs : shOk (allLens pl v.Shape)
            · have := prod_nonneg (fun x hx => (hs.2.1 x hx).1)
              rw [if_pos hs, if_neg (by simp; omega), if_neg (by simp [hs])]
            · rw [if_neg hs, if_pos (by simp), if_pos hs]
          · rw [if_neg he, if_pos he]
theorem inShape_split : ∀ {A B p : List Int}, inShape (A ++ B) p → inShape A (p.take A.length) ∧ inShape B (p.drop A.length)
  | [], B, p, h => ⟨by simp [inShape], by simpa using h⟩
  | x :: A, B, y :: p, ⟨h1, h2, h3⟩ => by
    obtain ⟨i1, i2⟩ := inShape_split h3
    exact ⟨⟨h1, h2, i1⟩, i2⟩
  | _ :: _, _, [], h => h.elim
theorem dig_app : ∀ {A B : List Int} {k : Int}, (∀ x ∈ A, 0 < x) → (∀ x ∈ B, 0 < x) → dig (A ++ B) k = dig A (k / prod B) ++ dig B (k % prod B) ∨ ¬ (0 ≤ k ∧ k < prod A * prod B)
  | [], B, k, _, hB => by
    by_cases h : 0 ≤ k ∧ k < prod [] * prod B
    · left
      simp only [prod, Int.one_mul] at h
      rw [List.nil_append, Int.emod_eq_of_lt h.1 h.2]; rfl
    · exact .inr h
  | x :: A, B, k, hA, hB => by
    have hx := hA x (by simp)
    have hA2 : ∀ y ∈ A, 0 < y := fun y hy => hA y (by simp [hy])
    have pA := allPos.pprod hA2
    have pB := allPos.pprod hB
    by_cases h : 0 ≤ k ∧ k < prod (x :: A) * prod B
    · left
      simp only [List.cons_append, dig, prod_append]
      have hAB : 0 < prod A * prod B := Int.mul_pos pA pB
      have ms := mod_split (k := k) (x := prod A) (P := prod B) pA pB
      have r1 := Int.emod_nonneg k (show prod A * prod B ≠ 0 by omega)
      have r2 := Int.emod_lt_of_pos k hAB
      rcases dig_app (k := k % (prod A * prod B)) hA2 hB with ih | ih
      · rw [ih, ms.1, ms.2, Int.mul_comm (prod A), Int.ediv_ediv_of_nonneg (by omega), Int.mul_comm]
      · exact absurd ⟨r1, r2⟩ ih
    · exact .inr h
/-- the place in an array that a place of the answer tells. -/
def placeOf : List Am.Place → List Int → List Int → List Int
  | p :: ps, n :: ns, at_ => (((plIdx p n).1[(off (plLens p n) (at_.take (plLens p n).length)).toNat]?).getD 0) :: placeOf ps ns (at_.drop (plLens p n).length)
  | _, _, _ => []
theorem cross_get {n : Int} {L : List Int} {a : Nat} (hL : L.length = a) (ha : 0 < a) : ∀ (o : List Int) (q : Nat) (h : q / a < o.length), (cross n L o)[q]? = some (o[q / a] * n + (L[q % a]?).getD 0)
  | [], q, h => by simp at h
  | x :: o, q, h => by
    have hc : cross n L (x :: o) = L.map (fun k => x * n + k) ++ cross n L o := rfl
    rw [hc]
    by_cases hlt : q < a
    · rw [List.getElem?_append_left (by rw [List.length_map, hL]; exact hlt), List.getElem?_map, List.getElem?_eq_getElem (by omega)]
      have e1 : q / a = 0 := Nat.div_eq_of_lt hlt
      have e2 : q % a = q := Nat.mod_eq_of_lt hlt
      simp only [e1, e2]
      rw [List.getElem?_eq_getElem (by omega)]; rfl
    · rw [List.getElem?_append_right (by rw [List.length_map, hL]; omega), List.length_map, hL]
      have e1 : q / a = (q - a) / a + 1 := by
        have := Nat.add_div_right (q - a) ha
        rw [show q - a + a = q by omega] at this
        exact this
      have e2 : q % a = (q - a) % a := by
        have := Nat.add_mod_right (q - a) a
        rw [show q - a + a = q by omega] at this
        exact this
      rw [cross_get hL ha o (q - a) (by rw [e1] at h; simpa using h)]
      simp only [e1, e2, List.getElem_cons_succ]
theorem offs_at : ∀ {pl : List Am.Place} {sh o : List Int} {K : Nat}, pl.length = sh.length → (∀ x ∈ sh, 0 ≤ x) → pl.any plBad = false → ixErr pl sh = 0 → allPos (allLens pl sh) → (K : Int) < o.length * prod (allLens pl sh) →
    ∃ q : Nat, (q : Int) = K / prod (allLens pl sh) ∧ ∃ h : q < o.length, (offs sh (ixAll pl sh) o)[K]? = some (o[q] * prod sh + off sh (placeOf pl sh (dig (allLens pl sh) ((K : Int) % prod (allLens pl sh)))))
  | [], [], o, K, _, _, _, _, _, hK => by
    simp only [allLens, prod, Int.mul_one] at hK ⊢
    have hq : K < o.length := by omega
    refine ⟨K, by simp, hq, ?_⟩
    simp [offs, List.getElem?_eq_getElem hq, off]
  | p :: ps, n :: ns, o, K, hl, h0, hb, he, hpos, hK => by
    simp only [List.any_cons, Bool.or_eq_false_iff] at hb
    simp only [ixErr] at he
    have he1 : (plIdx p n).2 = 0 := by
      by_cases h : (plIdx p n).2 = 0
      · exact h
      · rw [if_pos h] at he; exact he
    rw [if_neg (by omega)] at he
    simp only [allLens] at hpos hK ⊢
    have hposA : allPos (plLens p n) := fun x hx => hpos x (List.mem_append_left _ hx)
    have hposB : allPos (allLens ps ns) := fun x hx => hpos x (List.mem_append_right _ hx)
    have pA := hposA.pprod
    have pB := hposB.pprod
    have hlen := plIdx_len (h0 n (by simp)) hb.1 he1
    rw [prod_append] at hK ⊢
    have hKB : (K : Int) < (cross n (plIdx p n).1 o).length * prod (allLens ps ns) := by
      rw [cross_len, Int.natCast_mul, hlen, Int.mul_assoc]; exact hK
    obtain ⟨q', hq', hlt, e⟩ := offs_at (pl := ps) (sh := ns) (o := cross n (plIdx p n).1 o) (K := K) (by simpa using hl) (fun x hx => h0 x (by simp [hx])) hb.2 he hposB hKB
    have ms := mod_split (k := (K : Int)) pA pB
    have hAB : 0 < prod (plLens p n) * prod (allLens ps ns) := Int.mul_pos pA pB
    -- the row and what is chosen
    generalize hA : prod (plLens p n) = A at *
    generalize hB : prod (allLens ps ns) = B at *
    obtain ⟨a, ha⟩ : ∃ a : Nat, A = a := ⟨A.toNat, by omega⟩
    have hl1 : (plIdx p n).1.length = a := by omega
    have hjlt : q' % a < a := Nat.mod_lt _ (by omega)
    have hqlt : q' / a < o.length := by
      rw [cross_len, hl1] at hlt
      exact Nat.div_lt_of_lt_mul (by rw [Nat.mul_comm]; exact hlt)
    have hcross : (cross n (plIdx p n).1 o)[q']? = some (o[q' / a] * n + (plIdx p n).1[q' % a]'(by omega)) := by
      rw [cross_get hl1 (by omega) o q' hqlt, List.getElem?_eq_getElem (by omega)]; rfl
    refine ⟨q' / a, ?_, hqlt, ?_⟩
    · rw [Int.natCast_ediv, hq', ha, Int.mul_comm, Int.ediv_ediv_of_nonneg (by omega)]
    · show (offs ns (ixAll ps ns) (cross n (plIdx p n).1 o))[K]? = _
      rw [e]
      have hval : (cross n (plIdx p n).1 o)[q'] = o[q' / a] * n + (plIdx p n).1[q' % a]'(by omega) := by
        rw [List.getElem?_eq_getElem hlt] at hcross
        exact Option.some.inj hcross
      rw [hval]
      have hr1 := Int.emod_nonneg (K : Int) (show A * B ≠ 0 by omega)
      have hr2 := Int.emod_lt_of_pos (K : Int) hAB
      have hd : dig (plLens p n ++ allLens ps ns) ((K : Int) % (A * B)) = dig (plLens p n) ((K : Int) / B % A) ++ dig (allLens ps ns) ((K : Int) % B) := by
        rcases dig_app (A := plLens p n) (B := allLens ps ns) (k := (K : Int) % (A * B)) hposA hposB with h | h
        · rw [h, hB, ms.1, ms.2]
        · rw [hA, hB] at h; exact absurd ⟨hr1, hr2⟩ h
      rw [hd]
      have hdl := dig_len (plLens p n) ((K : Int) / B % A)
      simp only [placeOf, off]
      rw [List.take_left' (by omega), List.drop_left' (by omega)]
      have hjj : (K : Int) / B % A = ((q' % a : Nat) : Int) := by rw [← hq', ha]; rfl
      have ho := off_dig (s := plLens p n) (k := (K : Int) / B % A) hposA (by rw [hjj]; omega) (by rw [hjj, hA]; omega)
      rw [ho, hjj, Int.toNat_natCast, List.getElem?_eq_getElem (by omega)]
      simp only [Option.getD_some, prod]
      congr 1
      rw [Int.add_mul, Int.mul_assoc, Int.add_assoc]
  | [], _ :: _, _, _, h, _, _, _, _, _ => by simp at h
  | _ :: _, [], _, _, h, _, _, _, _, _ => by simp at h
theorem placeOf_in : ∀ {pl : List Am.Place} {sh at_ : List Int}, pl.length = sh.length → (∀ x ∈ sh, 0 ≤ x) → pl.any plBad = false → ixErr pl sh = 0 → inShape (allLens pl sh) at_ → inShape sh (placeOf pl sh at_)
  | [], [], _, _, _, _, _, _ => trivial
  | p :: ps, n :: ns, at_, hl, h0, hb, he, hi => by
    simp only [List.any_cons, Bool.or_eq_false_iff] at hb
    simp only [ixErr] at he
    have he1 : (plIdx p n).2 = 0 := by
      by_cases h : (plIdx p n).2 = 0
      · exact h
      · rw [if_pos h] at he; exact he
    rw [if_neg (by omega)] at he
    simp only [allLens] at hi
    obtain ⟨i1, i2⟩ := inShape_split hi
    have hlen := plIdx_len (h0 n (by simp)) hb.1 he1
    have ho := off_range i1
    have hlt : (off (plLens p n) (at_.take (plLens p n).length)).toNat < (plIdx p n).1.length := by omega
    have hm := plIdx_mem (p := p) (n := n) (List.getElem_mem hlt)
    simp only [placeOf]
    rw [List.getElem?_eq_getElem hlt]
    exact ⟨hm.1, hm.2, placeOf_in (by simpa using hl) (fun x hx => h0 x (by simp [hx])) hb.2 he i2⟩
  | [], _ :: _, _, h, _, _, _, _ => by simp at h
  | _ :: _, [], _, h, _, _, _, _ => by simp at h
theorem great_eq {pl : List Am.Place} (hl : pl.length ≤ maxLen) : M.anamnesislaw11_Great pl = some (decide (8 < pl.length) || pl.any fun p => decide (60 < p.V.Data.length) || decide (10 < p.V.Shape.length)) := by
  have hm : maxLen = 9223372036854775807 := rfl
  unfold M.anamnesislaw11_Great
  by_cases h8 : 8 < pl.length
  · rw [if_pos (by simp; omega), decide_eq_true h8]; rfl
  rw [if_neg (by simp; omega), decide_eq_false h8]
  simp only [Bool.false_or]
  rcases loop_find (f := M.anamnesislaw11_Great_L1 pl) (fun k => (k : Int)) pl.length (fun k => (pl[k]?).any fun (p : Am.Place) => decide (60 < p.V.Data.length) || decide (10 < p.V.Shape.length)) (fun _ => .done true) (c := .next ()) (fun k hk => by
      simp only [M.anamnesislaw11_Great_L1]
      rw [if_pos (by simp; omega), idx_get hk, List.getElem?_eq_getElem hk, w64_id (x := (k : Int) + 1) (by omega) (by omega)]
      simp only [Option.bind_some, Option.any_some]
      by_cases h1 : 60 < pl[k].V.Data.length
      · rw [if_pos (by simp; omega), if_pos (by simp; omega)]; rfl
      · rw [if_neg (by simp; omega)]
        simp only [Option.bind_some]
        by_cases h2 : 10 < pl[k].V.Shape.length
        · rw [if_pos (by simp; omega), if_pos (by simp; omega)]
        · rw [if_neg (by simp; omega), if_neg (by simp; omega)]; rfl) (by
      simp only [M.anamnesislaw11_Great_L1]
      rw [if_neg (by simp)]) with ⟨k, hk, hb, _, he⟩ | ⟨hg, he⟩
  · have he' : wloop (M.anamnesislaw11_Great_L1 pl) 0 = some (.done true) := he
    rw [List.getElem?_eq_getElem hk] at hb
    have : (pl.any fun p => decide (60 < p.V.Data.length) || decide (10 < p.V.Shape.length)) = true := List.any_eq_true.mpr ⟨pl[k], List.getElem_mem hk, hb⟩
    rw [he', this]; rfl
  · have he' : wloop (M.anamnesislaw11_Great_L1 pl) 0 = some (.next ()) := he
    have : (pl.any fun p => decide (60 < p.V.Data.length) || decide (10 < p.V.Shape.length)) = false := List.any_eq_false.mpr fun p hp => by
      obtain ⟨k, hk, rfl⟩ := List.mem_iff_getElem.mp hp
      have := hg k hk
      rw [List.getElem?_eq_getElem hk] at this
      simpa using this
    rw [he', this]; rfl
theorem great_ok {pl : List Am.Place} (h : (decide (8 < pl.length) || pl.any fun p => decide (60 < p.V.Data.length) || decide (10 < p.V.Shape.length)) = false) : plOk pl ∧ ∀ p ∈ pl, p.V.Data.length ≤ 60 := by
  simp only [Bool.or_eq_false_iff, decide_eq_false_iff_not, List.any_eq_false, Bool.or_eq_true, decide_eq_true_eq, not_or] at h
  refine ⟨⟨by omega, fun p hp => ?_⟩, fun p hp => ?_⟩
  · have := h.2 p hp; omega
  · have := h.2 p hp; omega
theorem sub_mid' {l : List Int} {lo n : Nat} (h : lo + n ≤ l.length) : sub l (lo : Int) ((lo + n : Nat) : Int) = some ((l.drop lo).take n) := by
  unfold sub
  rw [if_pos ⟨by omega, by omega, by omega⟩]
  simp only [Int.toNat_natCast]
  congr 1
  rw [List.drop_take]; congr 1; omega
theorem ixErr_drop : ∀ {pl : List Am.Place} {sh : List Int}, pl.length = sh.length → ixErr pl sh = 0 → ∀ i (h : i < pl.length), (plIdx pl[i] (sh[i]?.getD 0)).2 = 0 := fun {pl sh} hl he i h => by
  have := (ixErr_zero pl sh hl).mp he i h
  rw [List.getElem?_eq_getElem (by omega)]
  exact this
theorem from_eq {v : Val} {pl : List Am.Place} {at_ : List Int} (hv : vRight v = true) (hp : plOk pl) (hb : pl.any plBad = false) (hl : pl.length = v.Shape.length) (he : ixErr pl v.Shape = 0)
    (ha10 : at_.length ≤ 100) (hi : inShape (allLens pl v.Shape) at_) : M.anamnesisref11_from v pl at_ = some (off v.Shape (placeOf pl v.Shape at_)) := by
  obtain ⟨hvs, hvd, _⟩ := vRight_iff.mp hv
  have h4 := hvs.1
  have h10 := hp.1
  unfold M.anamnesisref11_from
  obtain ⟨b, hbb, rfl⟩ := wloop_ind (f := M.anamnesisref11_from_L1 pl at_) (fun m st => ∃ (i used : Nat) (pre : List Int), st = (pre, (used : Int), (i : Int)) ∧ i ≤ pl.length ∧ m = pl.length - i ∧ pre.length = i ∧ used ≤ at_.length ∧
      pre ++ placeOf (pl.drop i) (v.Shape.drop i) (at_.drop used) = placeOf pl v.Shape at_ ∧ inShape (allLens (pl.drop i) (v.Shape.drop i)) (at_.drop used))
    (fun b => b = .next (placeOf pl v.Shape at_)) (fun m st h => by
      obtain ⟨i, used, pre, rfl, hil, rfl, hpl, hul, hpre, hin⟩ := h
      simp only [M.anamnesisref11_from_L1]
      by_cases hlt : i < pl.length
      · left
        have hlt2 : i < v.Shape.length := by omega
        have hnb := hvs.2.1 _ (List.getElem_mem hlt2)
        rw [if_pos (by simp; omega), idx_get hlt]
        simp only [Option.bind_some]
        rw [List.drop_eq_getElem_cons hlt, List.drop_eq_getElem_cons hlt2] at hpre hin
        simp only [allLens] at hin
        obtain ⟨i1, i2⟩ := inShape_split hin
        simp only [placeOf] at hpre
        have hbad : plBad pl[i] = false := by
          have := List.any_eq_false.mp hb _ (List.getElem_mem hlt)
          simpa using this
        have hie : (plIdx pl[i] v.Shape[i]).2 = 0 := (ixErr_zero pl v.Shape hl).mp he i hlt
        have hlen := plIdx_len hnb.1 hbad hie
        have ho := off_range i1
        have hklt : (off (plLens pl[i] v.Shape[i]) ((at_.drop used).take (plLens pl[i] v.Shape[i]).length)).toNat < (plIdx pl[i] v.Shape[i]).1.length := by omega
        have hmem := plIdx_mem (p := pl[i]) (n := v.Shape[i]) (List.getElem_mem hklt)
        rw [List.getElem?_eq_getElem hklt] at hpre
        simp only [Option.getD_some] at hpre
        rw [List.drop_drop] at hpre i2
        have hil1 := i1.len
        rw [List.length_take, List.length_drop] at hil1
        cases hall : pl[i].All with
        | true =>
          have hpL : plLens pl[i] v.Shape[i] = [v.Shape[i]] := by unfold plLens; rw [hall]; rfl
          have hpI : (plIdx pl[i] v.Shape[i]).1 = up v.Shape[i].toNat := by unfold plIdx; rw [hall]; rfl
          rw [hpL] at hil1
          have hul2 : used < at_.length := by simp at hil1; omega
          simp only [if_true]
          rw [idx_get hul2]
          simp only [Option.bind_some]
          rw [app_ok (by simp; omega), w64_id (x := (used : Int) + 1) (by omega) (by omega), w64_id (x := (i : Int) + 1) (by omega) (by omega)]
          refine ⟨_, pl.length - (i + 1), rfl, by omega, i + 1, used + 1, pre ++ [at_[used]], rfl, by omega, rfl, by simp [hpl], by omega, ?_, ?_⟩
          · rw [← hpre, List.append_assoc]
            congr 1
            have hch : (at_.drop used).take 1 = [at_[used]] := by
              rw [List.drop_eq_getElem_cons hul2]; rfl
            simp only [hpL, List.length_cons, List.length_nil, Nat.zero_add, hch] at ho i1 ⊢
            have hoff : off [v.Shape[i]] [at_[used]] = at_[used] := by simp [off, prod]
            have hval : ((plIdx pl[i] v.Shape[i]).1[(off [v.Shape[i]] [at_[used]]).toNat]?).getD 0 = at_[used] := by
              rw [hoff, hpI]
              obtain ⟨y1, y2, _⟩ := i1
              unfold up
              rw [List.getElem?_map, List.getElem?_range (by omega)]
              simp only [Option.map_some, Option.getD_some]
              omega
            have hval2 : ∀ (h : (off [v.Shape[i]] [at_[used]]).toNat < (plIdx pl[i] v.Shape[i]).1.length), (plIdx pl[i] v.Shape[i]).1[(off [v.Shape[i]] [at_[used]]).toNat]'h = at_[used] := fun h => by
              rw [List.getElem?_eq_getElem h] at hval
              exact hval
            rw [hval2]
            rfl
          · rw [hpL] at i2; exact i2
        | false =>
          have hpL : plLens pl[i] v.Shape[i] = pl[i].V.Shape := by unfold plLens; rw [hall]; rfl
          have hvr : vRight pl[i].V = true := by
            unfold plBad at hbad
            rw [hall] at hbad
            simpa using hbad
          obtain ⟨hws, hwd, _⟩ := vRight_iff.mp hvr
          have hpI : (plIdx pl[i] v.Shape[i]).1 = pl[i].V.Data.map (· - 1) := by
            unfold plIdx at hie ⊢
            rw [hall] at hie ⊢
            simp only [Bool.false_eq_true, if_false] at hie ⊢
            split at hie
            · simp at hie
            · rename_i h3
              split at hie
              · simp at hie
              · rename_i h4
                rw [if_neg h3, if_neg h4]
          simp only [hpL] at hil1 i1 i2 ho hklt hmem hpre
          have hul2 : used + pl[i].V.Shape.length ≤ at_.length := by omega
          simp only [Bool.false_eq_true, if_false]
          have hsl := (hp.2 _ (List.getElem_mem hlt)).2
          rw [w64_id (x := (used : Int) + (pl[i].V.Shape.length : Int)) (by omega) (by omega), show (used : Int) + (pl[i].V.Shape.length : Int) = ((used + pl[i].V.Shape.length : Nat) : Int) by omega, sub_mid' hul2]
          simp only [Option.bind_some]
          rw [ref07_Offset_eq hws i1]
          simp only [Option.bind_some]
          obtain ⟨k, hk⟩ : ∃ k : Nat, off pl[i].V.Shape ((at_.drop used).take pl[i].V.Shape.length) = k := ⟨_, (Int.toNat_of_nonneg ho.1).symm⟩
          have hkd : k < pl[i].V.Data.length := by omega
          simp only [hk, Int.toNat_natCast] at hmem hpre
          have hval : (plIdx pl[i] v.Shape[i]).1[k]'(by rw [hpI, List.length_map]; exact hkd) = pl[i].V.Data[k] - 1 := by
            have h1 : ∀ (L : List Int) (hL : L = pl[i].V.Data.map (· - 1)) (h : k < L.length), L[k] = pl[i].V.Data[k] - 1 := fun L hL h => by subst hL; simp
            exact h1 _ hpI _
          rw [hval] at hmem hpre
          rw [hk, idx_get hkd]
          simp only [Option.bind_some]
          rw [w64_id (x := pl[i].V.Data[k] - 1) (by omega) (by omega), app_ok (by simp; omega), w64_id (x := (i : Int) + 1) (by omega) (by omega)]
          exact ⟨_, pl.length - (i + 1), rfl, by omega, i + 1, used + pl[i].V.Shape.length, pre ++ [pl[i].V.Data[k] - 1], rfl, by omega, rfl, by simp [hpl], hul2, by rw [← hpre, List.append_assoc]; rfl, i2⟩
      · right
        rw [if_neg (by simp; omega)]
        refine ⟨_, rfl, ?_⟩
        have h1 : pl.drop i = [] := List.drop_of_length_le (by omega)
        rw [h1] at hpre
        rw [← hpre]
        simp [placeOf]) pl.length ([], 0, 0) ⟨0, 0, [], rfl, by omega, rfl, rfl, by omega, rfl, by simpa using hi⟩
  rw [hbb]
  simp only [Option.bind_some, joinK]
  have hvnn : ∀ x ∈ v.Shape, 0 ≤ x := fun x hx => (hvs.2.1 x hx).1
  rw [ref07_Offset_eq hvs (placeOf_in hl hvnn hb he hi)]
  rfl
/-- the k-th one that is found. -/
theorem found_at {v : Val} {pl : List Am.Place} {k : Nat} (hp : plOk pl) (h0 : (ixFinds v pl).2 = 0) (hk : (k : Int) < prod (allLens pl v.Shape)) :
    M.anamnesisref11_from v pl (dig (allLens pl v.Shape) k) = some (((ixFinds v pl).1.offsets[k]?).getD 0) ∧ k < (ixFinds v pl).1.offsets.length := by
  obtain ⟨hv, hbad, hlen, hpos, he, hok, hf⟩ := finds_ok hp h0
  obtain ⟨hvs, hvd, _⟩ := vRight_iff.mp hv
  have hc := finds_count hp h0
  have hap : allPos (allLens pl v.Shape) := allPos_of (fun x hx => (hok.2.1 x hx).1) (by omega)
  have hin := dig_in hap (show (0 : Int) ≤ k by omega) hk
  have hvnn : ∀ x ∈ v.Shape, 0 ≤ x := fun x hx => (hvs.2.1 x hx).1
  have hdl := dig_len (allLens pl v.Shape) (k : Int)
  have h4 := hok.1
  refine ⟨?_, by omega⟩
  rw [from_eq hv hp hbad hlen he (by omega) hin]
  obtain ⟨q, hq, hq1, e⟩ := offs_at (pl := pl) (sh := v.Shape) (o := [0]) (K := k) hlen hvnn hbad he hap (by simpa using hk)
  have hpp : prod (allLens pl v.Shape) ≠ 0 := by omega
  rw [Int.ediv_eq_zero_of_lt (by omega) hk] at hq
  obtain rfl : q = 0 := by omega
  rw [Int.emod_eq_of_lt (by omega) hk] at e
  rw [hf]
  simp only
  rw [if_neg hpp, e]
  simp
theorem rGet_eq {v : Val} {pl : List Am.Place} (hd : v.Data.length ≤ 10000) (hp : plOk pl) : M.anamnesisref11_Get v pl = some (ixGet v pl) := by
  unfold M.anamnesisref11_Get ixGet
  rw [rlengths_eq hd hp]
  simp only [Option.bind_some]
  by_cases h0 : (ixFinds v pl).2 = 0
  · obtain ⟨hv, hbad, hlen, hpos, he, hok, hf⟩ := finds_ok hp h0
    have hc := finds_count hp h0
    have hrange := finds_range hp h0
    have hshape : (ixFinds v pl).1.shape = allLens pl v.Shape := by rw [hf]
    have h4 := hok.1
    have hpb := hok.2.2
    rw [if_neg (by simp [h0]), if_neg (by simp [h0]), hshape, app_ok (by simp; omega)]
    simp only [Option.bind_some, List.nil_append]
    have hsz : M.anamnesisref07_Size (allLens pl v.Shape) = some (prod (allLens pl v.Shape)) := by rw [ref07_Size_eq (by omega), if_pos hok]
    have hfa := fun {k : Nat} (hk : (k : Int) < prod (allLens pl v.Shape)) => found_at hp h0 hk
    generalize hoe : (ixFinds v pl).1.offsets = os at *
    rw [show wloop (M.anamnesisref11_Get_L1 v pl (allLens pl v.Shape)) (0, []) = some (.next (os.map fun a => (v.Data[a.toNat]?).getD 0)) from by
      refine loop_fun (f := M.anamnesisref11_Get_L1 v pl (allLens pl v.Shape)) (fun k => ((k : Int), (os.take k).map fun a => (v.Data[a.toNat]?).getD 0)) os.length (fun k hk => ?_) ?_
      · have hkp : (k : Int) < prod (allLens pl v.Shape) := by omega
        have hfk := hfa hkp
        have hr := hrange _ (List.getElem_mem hk)
        simp only [M.anamnesisref11_Get_L1]
        rw [hsz]
        simp only [Option.bind_some]
        rw [if_pos (by simp; omega), ref07_At_eq hok hkp]
        simp only [Option.bind_some]
        rw [hfk.1, List.getElem?_eq_getElem hk]
        simp only [Option.bind_some, Option.getD_some]
        obtain ⟨o, ho⟩ : ∃ o : Nat, os[k] = o := ⟨_, (Int.toNat_of_nonneg hr.1).symm⟩
        have hod : o < v.Data.length := by omega
        rw [ho, idx_get hod]
        simp only [Option.bind_some]
        rw [app_ok (by simp; omega), w64_id (x := (k : Int) + 1) (by omega) (by omega), List.take_succ_eq_append_getElem hk, List.map_append, ho]
        simp only [Option.bind_some, List.map_cons, List.map_nil, Int.toNat_natCast]
        rw [List.getElem?_eq_getElem hod]
        rfl
      · simp only [M.anamnesisref11_Get_L1]
        rw [hsz]
        simp only [Option.bind_some]
        rw [if_neg (by simp; omega), List.take_length]]
    rfl
  · rw [if_pos (by simpa using h0), if_pos h0]
theorem rbare_eq {s : List Int} (h : s.length ≤ 1000) : M.anamnesisref11_bare s = some (bareL s) := by
  unfold M.anamnesisref11_bare
  rw [show wloop (M.anamnesisref11_bare_L1 s) ([], 0) = some (.next (bareL s)) from by
    have := loop_fun (f := M.anamnesisref11_bare_L1 s) (fun k => (bareL (s.take k), (k : Int))) s.length (b := .next (bareL s)) (fun k hk => by
      have hlk : (bareL (s.take k)).length ≤ k := by
        unfold bareL
        have := List.length_filter_le (fun x => !(x == 1)) (s.take k)
        rw [List.length_take] at this; omega
      simp only [M.anamnesisref11_bare_L1]
      rw [if_pos (by simp; omega), idx_get hk, List.take_succ_eq_append_getElem hk, w64_id (x := (k : Int) + 1) (by omega) (by omega)]
      simp only [Option.bind_some]
      have e : bareL (s.take k ++ [s[k]]) = bareL (s.take k) ++ (if s[k] = 1 then [] else [s[k]]) := by
        unfold bareL
        rw [List.filter_append]
        congr 1
        by_cases h1 : s[k] = 1 <;> simp [h1]
      rw [e]
      by_cases h1 : s[k] = 1
      · rw [if_neg (by simp [h1]), if_pos h1, List.append_nil]; rfl
      · rw [if_pos (by simpa using h1), if_neg h1, app_ok (by simp; omega)]; rfl) (by
      simp only [M.anamnesisref11_bare_L1]
      rw [if_neg (by simp), List.take_length])
    exact this]
  rfl
theorem rPut_eq {v w : Val} {pl : List Am.Place} (hd : v.Data.length ≤ 10000) (hwd : w.Data.length ≤ 10000) (hws : w.Shape.length ≤ 100) (hvs : v.Shape.length ≤ 100) (hp : plOk pl) : M.anamnesisref11_Put v pl w = some (ixPut v pl w) := by
  unfold M.anamnesisref11_Put ixPut
  rw [ref02_Right_eq (by omega), rlengths_eq hd hp]
  simp only [Option.bind_some]
  cases hwr : vRight w with
  | false => rfl
  | true =>
    simp only [Bool.not_true, Bool.false_eq_true, Bool.true_eq_false, if_false]
    by_cases h0 : (ixFinds v pl).2 = 0
    · obtain ⟨hv, hbad, hlen, hpos, he, hok, hf⟩ := finds_ok hp h0
      have hc := finds_count hp h0
      have hrange := finds_range hp h0
      have hshape : (ixFinds v pl).1.shape = allLens pl v.Shape := by rw [hf]
      have h4 := hok.1
      have hpb := hok.2.2
      rw [show ((ixFinds v pl).2 != 0) = false from by simp [h0], if_neg (show ¬ ((ixFinds v pl).2 ≠ 0) by simp [h0])]
      simp only [Bool.false_eq_true, if_false]
      rw [hshape, rbare_eq (by omega), rbare_eq (by omega)]
      simp only [Option.bind_some]
      have bl1 : (bareL (allLens pl v.Shape)).length ≤ 4 := Nat.le_trans (List.length_filter_le _ _) h4
      -- do the lengths go?
      have hgo : (if decide ((w.Shape.length : Int) > 0) = true then
          (if (((bareL (allLens pl v.Shape)).length : Int) != ((bareL w.Shape).length : Int)) = true then (some (.done ((Val.mk false ([]) ([])), 24)) : Option (Ctl Unit (Val × Int)))
          else (wloop (M.anamnesisref11_Put_L1 (bareL (allLens pl v.Shape)) (bareL w.Shape)) 0).bind fun k => joinK k fun _ => some (.next ()))
          else some (.next ())) =
          some (if 0 < w.Shape.length ∧ (bareL (allLens pl v.Shape)).length ≠ (bareL w.Shape).length then .done (⟨false, [], []⟩, 24) else if 0 < w.Shape.length ∧ bareL (allLens pl v.Shape) ≠ bareL w.Shape then .done (⟨false, [], []⟩, 25) else .next ()) := by
        by_cases hw0 : 0 < w.Shape.length
        · rw [if_pos (by rw [decide_eq_true_eq]; omega)]
          generalize bareL (allLens pl v.Shape) = a at *
          generalize bareL w.Shape = b at *
          by_cases hl : a.length = b.length
          · rw [if_neg (by simp [hl]), if_neg (fun h => h.2 hl)]
            rcases loop_find (f := M.anamnesisref11_Put_L1 a b) (fun k => (k : Int)) a.length (fun k => decide (a[k]? ≠ b[k]?)) (fun _ => .done (.done (⟨false, [], []⟩, 25))) (c := .next ()) (fun k hk => by
                simp only [M.anamnesisref11_Put_L1]
                rw [if_pos (by simp; omega), idx_get hk, idx_get (show k < b.length by omega), List.getElem?_eq_getElem hk, List.getElem?_eq_getElem (show k < b.length by omega), w64_id (x := (k : Int) + 1) (by omega) (by omega)]
                simp only [Option.bind_some]
                by_cases h : a[k] = b[k]
                · rw [if_neg (by simpa using h), if_neg (by simpa using h)]; rfl
                · rw [if_pos (by simpa using h), if_pos (by simpa using h)]) (by
                simp only [M.anamnesisref11_Put_L1]
                rw [if_neg (by simp)]) with ⟨k, hk, hb, _, hE⟩ | ⟨hg, hE⟩
            · have hE' : wloop (M.anamnesisref11_Put_L1 a b) 0 = some (.done (.done (⟨false, [], []⟩, 25))) := hE
              rw [hE', if_pos ⟨hw0, fun h => by subst h; simp at hb⟩]; rfl
            · have hE' : wloop (M.anamnesisref11_Put_L1 a b) 0 = some (.next ()) := hE
              have hab : a = b := List.ext_getElem? fun k => by
                by_cases hk : k < a.length
                · simpa using hg k hk
                · rw [List.getElem?_eq_none (by omega), List.getElem?_eq_none (by omega)]
              rw [hE', if_neg (fun h => h.2 hab)]; rfl
          · rw [if_pos (by simp; omega), if_pos ⟨hw0, hl⟩]
        · rw [if_neg (by rw [decide_eq_true_eq]; omega), if_neg (fun h => hw0 h.1), if_neg (fun h => hw0 h.1)]
      rw [hgo]
      simp only [Option.bind_some]
      unfold ixGoes
      by_cases g1 : 0 < w.Shape.length ∧ (bareL (allLens pl v.Shape)).length ≠ (bareL w.Shape).length
      · rw [if_pos g1, if_pos g1]
        exact congrArg some (if_pos (show (24 : Int) ≠ 0 by decide)).symm
      · rw [if_neg g1, if_neg g1]
        by_cases g2 : 0 < w.Shape.length ∧ bareL (allLens pl v.Shape) ≠ bareL w.Shape
        · rw [if_pos g2, if_pos g2]
          exact congrArg some (if_pos (show (25 : Int) ≠ 0 by decide)).symm
        · rw [if_neg g2, if_neg g2]
          simp only [joinK]
          by_cases g3 : v.Char ≠ w.Char ∧ 0 < w.Data.length
          · rw [if_pos (by simp only [Bool.and_eq_true, decide_eq_true_eq, Bool.not_eq_true', beq_eq_false_iff_ne]; exact ⟨by omega, g3.1⟩), if_pos g3, if_pos (by decide)]
          · rw [if_neg (by simp only [Bool.and_eq_true, decide_eq_true_eq, Bool.not_eq_true', beq_eq_false_iff_ne]; exact fun h => g3 ⟨h.2, by omega⟩), if_neg g3, if_neg (by simp)]
            have hgoes : ixGoes v w (allLens pl v.Shape) = 0 := by unfold ixGoes; rw [if_neg g1, if_neg g2, if_neg g3]
            have hwl := putW_len (v := v) (w := w) (s := allLens pl v.Shape) (n := (ixFinds v pl).1.offsets.length) hwr hgoes hc
            have hcopy : M.anamnesisref02_Copy v = some v := by
              unfold M.anamnesisref02_Copy
              rw [app_ok (by simp; omega), app_ok (by simp; omega)]
              simp
            rw [hcopy]
            simp only [Option.bind_some]
            have hsz : M.anamnesisref07_Size (allLens pl v.Shape) = some (prod (allLens pl v.Shape)) := by rw [ref07_Size_eq (by omega), if_pos hok]
            have hfa := fun {k : Nat} (hk : (k : Int) < prod (allLens pl v.Shape)) => found_at hp h0 hk
            generalize hoe : (ixFinds v pl).1.offsets = os at *
            rw [show wloop (M.anamnesisref11_Put_L2 v pl w (allLens pl v.Shape)) (0, v.Data) = some (.next (putL v.Data (os.zip (putW w os.length)))) from by
              have hzl : (os.zip (putW w os.length)).length = os.length := by rw [List.length_zip, hwl]; omega
              have := loop_fun (f := M.anamnesisref11_Put_L2 v pl w (allLens pl v.Shape)) (fun k => ((k : Int), putL v.Data ((os.zip (putW w os.length)).take k))) os.length (b := .next (putL v.Data (os.zip (putW w os.length)))) (fun k hk => by
                have hkp : (k : Int) < prod (allLens pl v.Shape) := by omega
                have hfk := hfa hkp
                have hr := hrange _ (List.getElem_mem hk)
                have hwk : k < (putW w os.length).length := by omega
                simp only [M.anamnesisref11_Put_L2]
                rw [hsz]
                simp only [Option.bind_some]
                rw [if_pos (by simp; omega)]
                have hn : ((if decide ((w.Shape.length : Int) > 0) = true then some (k : Int) else some 0).bind fun n1 => (idx w.Data n1)) = some (putW w os.length)[k] := by
                  have key : ∀ (W : List Int) (hW : W = putW w os.length) (hk : k < W.length), ((if decide ((w.Shape.length : Int) > 0) = true then some (k : Int) else some 0).bind fun n1 => (idx w.Data n1)) = some W[k] := fun W hW hk => by
                    unfold putW at hW
                    by_cases hs : w.Shape.length = 0
                    · rw [if_pos hs] at hW
                      subst hW
                      have hw1 := (vRight_iff.mp hwr).2.1
                      rw [List.length_eq_zero_iff.mp hs] at hw1
                      simp only [prod] at hw1
                      rw [if_neg (by rw [decide_eq_true_eq]; omega)]
                      have h00 : idx w.Data 0 = some w.Data[0] := idx_get (k := 0) (by omega)
                      simp only [Option.bind_some]
                      rw [h00, List.getElem_replicate, List.getElem?_eq_getElem (by omega)]; rfl
                    · rw [if_neg hs] at hW
                      subst hW
                      rw [if_pos (by rw [decide_eq_true_eq]; omega)]
                      simp only [Option.bind_some]
                      rw [idx_get hk]
                  exact key _ rfl hwk
                obtain ⟨n1, hn1, hn2⟩ : ∃ n1, (if decide ((w.Shape.length : Int) > 0) = true then some (k : Int) else some 0) = some n1 ∧ idx w.Data n1 = some (putW w os.length)[k] := by
                  rw [Option.bind_eq_some_iff] at hn; exact hn
                rw [hn1]
                simp only [Option.bind_some]
                rw [ref07_At_eq hok hkp]
                simp only [Option.bind_some]
                rw [hfk.1, List.getElem?_eq_getElem hk]
                simp only [Option.bind_some, Option.getD_some]
                rw [hn2]
                simp only [Option.bind_some]
                obtain ⟨o, ho⟩ : ∃ o : Nat, os[k] = o := ⟨_, (Int.toNat_of_nonneg hr.1).symm⟩
                rw [ho, idx_get (l := putL v.Data ((os.zip (putW w os.length)).take k)) (by rw [putL_len]; omega)]
                simp only [Option.bind_some]
                rw [upd_nat (by rw [putL_len]; omega), w64_id (x := (k : Int) + 1) (by omega) (by omega)]
                rw [List.take_succ_eq_append_getElem (show k < (os.zip (putW w os.length)).length by omega), List.getElem_zip, putL_snoc, ho, Int.toNat_natCast]
                rfl) (by
                simp only [M.anamnesisref11_Put_L2]
                rw [hsz]
                simp only [Option.bind_some]
                rw [if_neg (by simp; omega), List.take_of_length_le (by omega)])
              exact this]
            rfl
    · rw [if_pos (by simpa using h0), if_pos h0]
theorem indexTells_true (v : Val) (pl : List Am.Place) (w : Val) (gv : (∀ x ∈ v.Shape, (Lit.int .i64 x).wf = true) ∧ (∀ x ∈ v.Data, (Lit.int .i64 x).wf = true) ∧ v.Shape.length ≤ maxLen ∧ v.Data.length ≤ maxLen)
    (gp : ∀ p ∈ pl, goodVal p.V) (lp : pl.length ≤ maxLen) (gw : (∀ x ∈ w.Shape, (Lit.int .i64 x).wf = true) ∧ (∀ x ∈ w.Data, (Lit.int .i64 x).wf = true) ∧ w.Shape.length ≤ maxLen ∧ w.Data.length ≤ maxLen) : M.anamnesislaw11_IndexTells v pl w = some true := by
  have hm : maxLen = 9223372036854775807 := rfl
  unfold M.anamnesislaw11_IndexTells
  by_cases hbig : v.Data.length > 1000 ∨ w.Data.length > 1000 ∨ v.Shape.length > 10 ∨ w.Shape.length > 10
  · rw [if_pos (by simp; omega)]; rfl
  rw [if_neg (by simp; omega), great_eq lp]
  simp only [Option.bind_some]
  cases hg : (decide (8 < pl.length) || pl.any fun p => decide (60 < p.V.Data.length) || decide (10 < p.V.Shape.length)) with
  | true => rfl
  | false =>
    simp only [Bool.false_eq_true, if_false]
    obtain ⟨hp, hp60⟩ := great_ok hg
    have hp8 : pl.length ≤ 10 := hp.1
    have hcopy : ∀ x : Val, x.Shape.length ≤ 10 → x.Data.length ≤ 1000 → M.anamnesisref02_Copy x = some x := fun x h1 h2 => by
      unfold M.anamnesisref02_Copy
      rw [app_ok (by simp; omega), app_ok (by simp; omega)]
      simp
    rw [hcopy v (by omega) (by omega), hcopy w (by omega) (by omega)]
    simp only [Option.bind_some]
    rw [show wloop (M.anamnesislaw11_IndexTells_L1 pl) ([], 0) = some (.next pl) from by
      have := loop_fun (f := M.anamnesislaw11_IndexTells_L1 pl) (fun k => (pl.take k, (k : Int))) pl.length (b := .next pl) (fun k hk => by
        have hq := hp.2 _ (List.getElem_mem hk)
        simp only [M.anamnesislaw11_IndexTells_L1]
        rw [if_pos (by simp; omega), idx_get hk]
        simp only [Option.bind_some]
        rw [hcopy _ hq.2 hq.1]
        simp only [Option.bind_some]
        rw [app_ok (by rw [List.length_take]; simp; omega), w64_id (x := (k : Int) + 1) (by omega) (by omega), List.take_succ_eq_append_getElem hk]
        rfl) (by
        simp only [M.anamnesislaw11_IndexTells_L1]
        rw [if_neg (by simp), List.take_length])
      exact this]
    simp only [Option.bind_some, joinK]
    rw [get_eq (by omega) hp, rGet_eq (by omega) hp]
    simp only [Option.bind_some]
    rw [put_eq (by omega) (by omega) (by omega) hp, rPut_eq (by omega) (by omega) (by omega) (by omega) hp]
    simp only [Option.bind_some, bne_self_eq_false, Bool.or_self, Bool.false_eq_true, if_false]
    have hgs : (ixGet v pl).1.Shape.length ≤ maxLen ∧ (ixGet v pl).1.Data.length ≤ maxLen := by
      unfold ixGet
      by_cases h0 : (ixFinds v pl).2 = 0
      · rw [if_neg (by simp [h0])]
        obtain ⟨hv, hbad, hlen, hpos, he, hok, hf⟩ := finds_ok hp h0
        have hc := finds_count hp h0
        have h4 := hok.1
        have hpb := hok.2.2
        have hshape : (ixFinds v pl).1.shape = allLens pl v.Shape := by rw [hf]
        simp only [hshape, List.length_map]
        omega
      · rw [if_pos h0]; simp [hm]
    have hps : (ixPut v pl w).1.Shape.length ≤ maxLen ∧ (ixPut v pl w).1.Data.length ≤ maxLen := by
      unfold ixPut
      repeat' split
      all_goals first | (simp [hm]; done) | (simp only [putL_len]; omega)
    rw [ref02_Same_eq hgs.1 hgs.2, vSame_refl]
    simp only [Option.bind_some, Bool.not_true, Bool.false_eq_true, if_false]
    rw [ref02_Same_eq hps.1 hps.2, vSame_refl]
    simp only [Option.bind_some, Bool.not_true, Bool.false_eq_true, if_false]
    rw [ref02_Same_eq (by omega) (by omega), vSame_refl]
    simp only [Option.bind_some, Bool.not_true, Bool.false_eq_true, if_false]
    rw [ref02_Same_eq (by omega) (by omega), vSame_refl]
    simp only [Option.bind_some, Bool.not_true, Bool.false_eq_true, if_false]
    rw [show wloop (M.anamnesislaw11_IndexTells_L2 pl pl) 0 = some (.next ()) from by
      refine loop_fun (f := M.anamnesislaw11_IndexTells_L2 pl pl) (fun k => (k : Int)) pl.length (fun k hk => ?_) ?_
      · have hq := hp.2 _ (List.getElem_mem hk)
        simp only [M.anamnesislaw11_IndexTells_L2]
        rw [if_pos (by simp; omega), idx_get hk]
        simp only [Option.bind_some]
        rw [ref02_Same_eq (by omega) (by omega), vSame_refl, w64_id (x := (k : Int) + 1) (by omega) (by omega)]
        rfl
      · simp only [M.anamnesislaw11_IndexTells_L2]
        rw [if_neg (by simp)]]
    rfl

end Go.Proofs.Ytamlcpligkkciaa.indexTells
