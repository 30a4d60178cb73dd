/- PlaneGroup: what the code that the law reaches computes, as plain functions; and that the law comes to true. -/
import Derived.Test.YtlcpnakgolfofaaAmU
set_option linter.unusedVariables false
set_option linter.unusedSimpArgs false
set_option maxRecDepth 100000
open Go Go.Am
namespace Go.Proofs.Ytlcpnakgolfofaa.planeGroup
noncomputable def M.plane_right (turn1 : Int) : Option (Int) :=
  some (Int.tmod (IntKind.i64.wrap ((Int.tmod turn1 4) + 4)) 4)
noncomputable def M.plane_Then (a1 : Sym) (b1 : Sym) : Option (Sym) :=
  (M.plane_right a1.Turn).bind fun r1 =>
  (if b1.Flip then
    some (IntKind.i64.wrap (0 - r1))
  else
    some r1).bind fun turn1 =>
  (M.plane_right b1.Turn).bind fun r2 =>
  (M.plane_right (IntKind.i64.wrap (turn1 + r2))).bind fun r3 =>
  some (Sym.mk r3 (!(a1.Flip == b1.Flip)))
noncomputable def M.plane_Inverse (a1 : Sym) : Option (Sym) :=
  if a1.Flip then
    (M.plane_right a1.Turn).bind fun r1 =>
    some (Sym.mk r1 true)
  else
    (M.plane_right a1.Turn).bind fun r2 =>
    (M.plane_right (IntKind.i64.wrap (0 - r2))).bind fun r3 =>
    some (Sym.mk r3 false)
noncomputable def M.plane_All_L2 (y1 : Bool) (s : (List Sym) × Int) : Option (Ctl ((List Sym) × Int) (Ctl ((List Sym)) (Ctl ((List Sym) × Int) (Ctl ((List Sym)) ((List Sym)))))) :=
  match s with
  | (out2, t2) =>
    if (decide (t2 < 4)) then
      (app 16 out2 ([(Sym.mk t2 y1)])).bind fun l1 =>
      some (.next (l1, (IntKind.i64.wrap (t2 + 1))))
    else
      some (.done (.next out2))
noncomputable def M.plane_All_L1 (s : (List Sym) × Int) : Option (Ctl ((List Sym) × Int) (Ctl ((List Sym)) ((List Sym)))) :=
  match s with
  | (out1, t1) =>
    if (decide (t1 < (([false, true]).length : Int))) then
      (idx ([false, true]) t1).bind fun y1 =>
      (wloop (M.plane_All_L2 y1) (out1, 0)).bind fun k => joinK k fun out2 =>
      some (.next (out2, (IntKind.i64.wrap (t1 + 1))))
    else
      some (.done (.next out1))
noncomputable def M.plane_All : Option ((List Sym)) :=
  (wloop (M.plane_All_L1) ([], 0)).bind fun k => joinK k fun out1 =>
  some out1
noncomputable def M.anamnesislaw04_PlaneGroup_L1 (r9 : Sym) (r10 : (List Sym)) (s : Int × Int) : Option (Ctl (Int × Int) (Ctl (Int) (Bool))) :=
  match s with
  | (found1, i1) =>
    if (decide (i1 < (r10.length : Int))) then
      (idx r10 i1).bind fun y1 =>
      if ((y1.Turn == r9.Turn) && (y1.Flip == r9.Flip)) then
        some (.next ((IntKind.i64.wrap (found1 + 1)), (IntKind.i64.wrap (i1 + 1))))
      else
        some (.next (found1, (IntKind.i64.wrap (i1 + 1))))
    else
      some (.done (.next found1))
noncomputable def M.anamnesislaw04_PlaneGroup (t1 : Int) (u1 : Int) (w1 : Int) (f1 : Bool) (g1 : Bool) (h1 : Bool) : Option (Bool) :=
  (M.plane_Then (Sym.mk t1 f1) (Sym.mk u1 g1)).bind fun r1 =>
  (M.plane_Then r1 (Sym.mk w1 h1)).bind fun r2 =>
  (M.plane_Then (Sym.mk u1 g1) (Sym.mk w1 h1)).bind fun r3 =>
  (M.plane_Then (Sym.mk t1 f1) r3).bind fun r4 =>
  (if (!((r2.Turn == r4.Turn) && (r2.Flip == r4.Flip))) then
  some true else
  (M.plane_Inverse (Sym.mk t1 f1)).bind fun r5 =>
  (M.plane_Then (Sym.mk t1 f1) r5).bind fun r6 =>
  some (!((r6.Turn == 0) && (r6.Flip == false)))).bind fun c1 =>
  (if c1 then
  some true else
  (M.plane_Inverse (Sym.mk t1 f1)).bind fun r7 =>
  (M.plane_Then r7 (Sym.mk t1 f1)).bind fun r8 =>
  some (!((r8.Turn == 0) && (r8.Flip == false)))).bind fun c2 =>
  if c2 then
    some false
  else
    (M.plane_Then (Sym.mk t1 f1) (Sym.mk 0 false)).bind fun r9 =>
    (M.plane_All).bind fun r10 =>
    (wloop (M.anamnesislaw04_PlaneGroup_L1 r9 r10) (0, 0)).bind fun k => joinK k fun found1 =>
    (if (found1 == 1) then
    (M.plane_Then (Sym.mk 0 false) (Sym.mk t1 f1)).bind fun r11 =>
    some ((r11.Turn == r9.Turn) && (r11.Flip == r9.Flip)) else
    some false).bind fun c4 =>
    some ((((c4 && (r9.Flip == f1)) && (decide (r9.Turn ≥ 0))) && (decide (r9.Turn < 4))) && true)
theorem w64_id {x : Int} (h1 : -9223372036854775808 ≤ x) (h2 : x ≤ 9223372036854775807) : IntKind.i64.wrap x = x := wrap_id h1 h2
theorem rt_eq (t : Int) : M.plane_right t = some (t % 4) := by
  have h1 := Int.tmod_lt_of_pos t (show (0 : Int) < 4 by omega)
  have h3 := Int.tmod_lt_of_pos (-t) (show (0 : Int) < 4 by omega)
  have h4 := Int.neg_tmod t 4
  unfold M.plane_right
  rw [w64_id (by omega) (by omega), Int.tmod_eq_emod_of_nonneg (by omega)]
  have h5 : Int.tmod t 4 = t % 4 ∨ Int.tmod t 4 = t % 4 - 4 := by
    rw [Int.tmod_eq_emod]
    split
    · left; omega
    · right; simp
  rcases h5 with h | h <;> rw [h] <;> congr 1 <;> omega

theorem then_eq (a b : Sym) : M.plane_Then a b = some ⟨((if b.Flip then - (a.Turn % 4) else a.Turn % 4) + b.Turn % 4) % 4, !(a.Flip == b.Flip)⟩ := by
  unfold M.plane_Then
  simp only [rt_eq, Option.bind_some]
  cases b.Flip with
  | true =>
    simp only [if_true, Option.bind_some]
    rw [w64_id (x := 0 - a.Turn % 4) (by omega) (by omega), w64_id (by omega) (by omega)]
    congr 2
    omega
  | false =>
    simp only [Bool.false_eq_true, if_false, Option.bind_some]
    rw [w64_id (by omega) (by omega)]

theorem inv_eq (a : Sym) : M.plane_Inverse a = some ⟨if a.Flip then a.Turn % 4 else (- (a.Turn % 4)) % 4, a.Flip⟩ := by
  unfold M.plane_Inverse
  simp only [rt_eq, Option.bind_some]
  cases h : a.Flip with
  | true => simp
  | false =>
    simp only [Bool.false_eq_true, if_false]
    rw [w64_id (by omega) (by omega)]
    simp

def all8 : List Sym := [⟨0, false⟩, ⟨1, false⟩, ⟨2, false⟩, ⟨3, false⟩, ⟨0, true⟩, ⟨1, true⟩, ⟨2, true⟩, ⟨3, true⟩]
theorem all_eq : M.plane_All = some all8 := by
  have h1 : wloop (M.plane_All_L2 false) ([], 0) = some (.next [⟨0, false⟩, ⟨1, false⟩, ⟨2, false⟩, ⟨3, false⟩]) := wloop_iff.mpr ⟨5, rfl⟩
  have h2 : wloop (M.plane_All_L2 true) ([⟨0, false⟩, ⟨1, false⟩, ⟨2, false⟩, ⟨3, false⟩], 0) = some (.next all8) := wloop_iff.mpr ⟨5, rfl⟩
  have e1 : M.plane_All_L1 ([], 0) = some (.next ([⟨0, false⟩, ⟨1, false⟩, ⟨2, false⟩, ⟨3, false⟩], 1)) := by
    show ((wloop (M.plane_All_L2 false) ([], 0)).bind _) = _
    rw [h1]; rfl
  have e2 : M.plane_All_L1 ([⟨0, false⟩, ⟨1, false⟩, ⟨2, false⟩, ⟨3, false⟩], 1) = some (.next (all8, 2)) := by
    show ((wloop (M.plane_All_L2 true) ([⟨0, false⟩, ⟨1, false⟩, ⟨2, false⟩, ⟨3, false⟩], 0)).bind _) = _
    rw [h2]; rfl
  unfold M.plane_All
  rw [wloop_next e1, wloop_next e2, wloop_done (b := .next all8) rfl]
  rfl
theorem found_eq (r : Sym) (h0 : 0 ≤ r.Turn) (h1 : r.Turn < 4) : wloop (M.anamnesislaw04_PlaneGroup_L1 r all8) (0, 0) = some (.next 1) := by
  obtain ⟨t, f⟩ := r
  simp only at h0 h1
  have : t = 0 ∨ t = 1 ∨ t = 2 ∨ t = 3 := by omega
  rcases this with rfl | rfl | rfl | rfl <;> cases f <;> exact wloop_iff.mpr ⟨9, rfl⟩

theorem planeGroup_true (t u w : Int) (f g h : Bool) {p q r : Prop} (_ : p) (_ : q) (_ : r) : M.anamnesislaw04_PlaneGroup t u w f g h = some true := by
  unfold M.anamnesislaw04_PlaneGroup
  simp only [then_eq, inv_eq, all_eq, Option.bind_some]
  have e1 : ((((if h then -(((if g then -(t % 4) else t % 4) + u % 4) % 4 % 4) else ((if g then -(t % 4) else t % 4) + u % 4) % 4 % 4) + w % 4) % 4 ==
     ((if (!(g == h)) then -(t % 4) else t % 4) + ((if h then -(u % 4) else u % 4) + w % 4) % 4 % 4) % 4) && ((!((!(f == g)) == h)) == (!(f == !(g == h))))) = true := by
    cases f <;> cases g <;> cases h <;> simp <;> omega
  simp only [e1, Bool.not_true, Bool.false_eq_true, if_false, Option.bind_some]
  have e2 : (!((((if f then -(t % 4) else t % 4) + (if f then t % 4 else -(t % 4) % 4) % 4) % 4 == 0) && ((!(f == f)) == false))) = false := by
    cases f <;> simp <;> omega
  simp only [e2, Bool.false_eq_true, if_false, Option.bind_some]
  have e3 : (!((((if f then -((if f then t % 4 else -(t % 4) % 4) % 4) else (if f then t % 4 else -(t % 4) % 4) % 4) + t % 4) % 4 == 0) && ((!(f == f)) == false))) = false := by
    cases f <;> simp <;> omega
  simp only [e3, Bool.false_eq_true, if_false, Option.bind_some]
  rw [found_eq _ (by simp; omega) (by simp; omega)]
  simp only [Option.bind_some, joinK_next]
  have e4 : (0 + 0 % 4 : Int) = 0 := by omega
  cases f <;> simp <;> omega

end Go.Proofs.Ytlcpnakgolfofaa.planeGroup
