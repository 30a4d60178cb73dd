/- The abstract machine: the other rules to walk code; arguments of a call, opened. -/
import Derived.Test.YtaedfhikoamfeaaAmS
import Derived.ChangeArms
import Derived.WideShapes
import Derived.ChangeShapes
import Derived.DataReads
import Derived.Carry
import Derived.ChangeOld
import Derived.ProofKit
set_option linter.unusedVariables false
set_option linter.unusedSimpArgs false
namespace Go.Am

section rules
variable {P : Program} {ora : FuncId → Bool} {wm n : Nat} {tm : List Value} {H : AHeap} {A : List (Nat × Value)} {L Fr : List Ent}
variable {draw : Bool} {ops : Array Oper} {rest : List Oper} {R : List Value → AHeap → Prop}
variable {d : Tmp} {t ty : TypeId} {x y : Operand} {pos : String} {aft : Array Edge} {g : Option (Nat × Bool)}

/-! ### Elements -/
def Flat {α : Type} (r : Rep α) (enc : α → List Value) : Prop := ∀ Z c z, r.rd Z c z → c = enc z
theorem flat_I (k : IntKind) : Flat (rI k) fun z => [.int k z] := fun _ _ _ h => h
theorem flat_B : Flat rB fun z => [.bool z] := fun _ _ _ h => h
theorem flat_S : Flat rS fun z => [.string z] := fun _ _ _ h => h
theorem flat_C : Flat rC fun z => [.complex .f64 z.1 z.2] := fun _ _ _ h => h
theorem flat_Sym : Flat rSym fun z => [.int .i64 z.Turn, .bool z.Flip] := fun _ _ _ h => h
theorem flat_Item : Flat rItem fun z => [.int .i64 z.n, .bool z.char] := fun _ _ _ h => h

theorem o_ldF {α : Type} {k off : Nat} {e : Ent} {r : Rep α} {enc : α → List Value} {v w : Value} {l : List α} {z : α} {de : TypeDesc} {i : Int} (hS : S wm n tm H A L Fr) (hw : Wd A ops g) (hd : Nat.blt d n = true) (hx : evA A x = some (elP v i r.sz off)) (hk : L[k]? = some e) (hs : IsSl e r v l)
  (hi : idx l i = some z) (hu : P.underlying t = some de) (hag : isAggD de = false) (hf : Flat r enc) (he : (enc z)[off]? = some w)
  (kk : ∀ tm, S wm n tm H ((d, w) :: A) L Fr → wpO P ora wm draw ops rest tm H R) :
  wpO P ora wm draw ops (⟨some d, .load t x, ty, pos, aft, g⟩ :: rest) tm H R := by
 have hoff : off < r.sz := by
  obtain ⟨Z, hI⟩ := hS.inv
  obtain ⟨b, o, cap, own, gr, cells, c, rfl, h4, hr, hcut⟩ := (hI.slAt hk hs).el hi
  rw [← r.len hr, hf Z c z hr]
  exact (List.getElem?_eq_some_iff.mp he).1
 refine o_ldE hS hw hd hx hk hs hi hu hag hoff fun Z c w' hI hr hc hS' => ?_
 rw [hf Z c z hr, he] at hc
 obtain rfl := Option.some.inj hc
 exact kk _ hS'
theorem o_ldFA {α : Type} {k sz : Nat} {e : Ent} {r : Rep α} {enc : α → List Value} {v : Value} {l : List α} {z : α} {de : TypeDesc} {i : Int} (hS : S wm n tm H A L Fr) (hw : Wd A ops g) (hd : Nat.blt d n = true) (hx : evA A x = some (elP v i r.sz 0)) (hk : L[k]? = some e) (hs : IsSl e r v l)
  (hi : idx l i = some z) (hu : P.underlying t = some de) (hag : isAggD de = true) (hsz : sizeOf' P t = some sz) (hszr : sz = r.sz) (hf : Flat r enc)
  (kk : ∀ tm, S wm n tm H ((d, .agg (enc z).toArray) :: A) L Fr → wpO P ora wm draw ops rest tm H R) :
  wpO P ora wm draw ops (⟨some d, .load t x, ty, pos, aft, g⟩ :: rest) tm H R := by
 refine o_ldEA hS hw hd hx hk hs hi hu hag hsz (by omega) fun Z c w hI hr hc hS' => ?_
 subst hszr
 rw [cut_zero (r.len hr).symm] at hc
 obtain rfl := Option.some.inj hc
 rw [hf Z c z hr] at hS' ⊢
 exact kk _ hS'

theorem S.addp {Z : ZM} {e : Ent} (hS : S wm n tm H A L Fr) (hI : Kn0 Z wm H L Fr) (hok : e.ok H Z) (hb : e.blk = none) : S wm n tm H A (e :: L) Fr := hS.withK ⟨Z, hI.addp hok hb⟩
theorem S.addp2 {Z : ZM} {e e' : Ent} (hS : S wm n tm H A L Fr) (hI : Kn0 Z wm H L Fr) (hok : e.ok H Z) (hb : e.blk = none) (hok' : e'.ok H Z) (hb' : e'.blk = none) : S wm n tm H A (e :: e' :: L) Fr := hS.withK ⟨Z, (hI.addp hok' hb').addp hok hb⟩

/-- an element that is a slice. -/
theorem o_ldS {α : Type} {k : Nat} {e : Ent} {r : Rep α} {v : Value} {l : List (List α)} {z : List α} {de : TypeDesc} {i : Int} (hS : S wm n tm H A L Fr) (hw : Wd A ops g) (hd : Nat.blt d n = true) (hx : evA A x = some (elP v i 1 0)) (hk : L[k]? = some e) (hs : IsSl e (rL r) v l)
  (hi : idx l i = some z) (hu : P.underlying t = some de) (hag : isAggD de = false)
  (kk : ∀ w tm, S wm n tm H ((d, w) :: A) (.fz r w z :: L) Fr → wpO P ora wm draw ops rest tm H R) :
  wpO P ora wm draw ops (⟨some d, .load t x, ty, pos, aft, g⟩ :: rest) tm H R := by
 refine o_ldE (r := rL r) hS hw hd hx hk hs hi hu hag (Nat.zero_lt_one) fun Z c w hI hr hc hS' => ?_
 obtain ⟨u, rfl, hu⟩ := hr
 simp at hc; subst hc
 exact kk _ _ (hS'.addp (e := .fz r u z) hI hu rfl)
theorem o_ldVal {k sz : Nat} {e : Ent} {v : Value} {l : List Val} {z : Val} {de : TypeDesc} {i : Int} (hS : S wm n tm H A L Fr) (hw : Wd A ops g) (hd : Nat.blt d n = true) (hx : evA A x = some (elP v i 3 0)) (hk : L[k]? = some e) (hs : IsSl e rVal v l)
  (hi : idx l i = some z) (hu : P.underlying t = some de) (hag : isAggD de = true) (hsz : sizeOf' P t = some sz) (hszr : sz = 3)
  (kk : ∀ v w tm, S wm n tm H ((d, .agg #[.bool z.Char, v, w]) :: A) (.fz (rI .i64) v z.Shape :: .fz (rI .i64) w z.Data :: L) Fr → wpO P ora wm draw ops rest tm H R) :
  wpO P ora wm draw ops (⟨some d, .load t x, ty, pos, aft, g⟩ :: rest) tm H R := by
 subst hszr
 refine o_ldEA (r := rVal) hS hw hd hx hk hs hi hu hag hsz (by decide) fun Z c w hI hr hc hS' => ?_
 rw [cut_zero (n := 3) (rVal.len hr).symm] at hc
 obtain rfl := Option.some.inj hc
 obtain ⟨u, q, rfl, h1, h2⟩ := hr
 exact kk _ _ _ (hS'.addp2 (e := .fz (rI .i64) u z.Shape) (e' := .fz (rI .i64) q z.Data) hI h1 rfl h2 rfl)
theorem o_ldPlace {k sz : Nat} {e : Ent} {v : Value} {l : List Place} {z : Place} {de : TypeDesc} {i : Int} (hS : S wm n tm H A L Fr) (hw : Wd A ops g) (hd : Nat.blt d n = true) (hx : evA A x = some (elP v i 4 0)) (hk : L[k]? = some e) (hs : IsSl e rPlace v l)
  (hi : idx l i = some z) (hu : P.underlying t = some de) (hag : isAggD de = true) (hsz : sizeOf' P t = some sz) (hszr : sz = 4)
  (kk : ∀ v w tm, S wm n tm H ((d, .agg #[.bool z.All, .bool z.V.Char, v, w]) :: A) (.fz (rI .i64) v z.V.Shape :: .fz (rI .i64) w z.V.Data :: L) Fr → wpO P ora wm draw ops rest tm H R) :
  wpO P ora wm draw ops (⟨some d, .load t x, ty, pos, aft, g⟩ :: rest) tm H R := by
 subst hszr
 refine o_ldEA (r := rPlace) hS hw hd hx hk hs hi hu hag hsz (by decide) fun Z c w hI hr hc hS' => ?_
 rw [cut_zero (n := 4) (rPlace.len hr).symm] at hc
 obtain rfl := Option.some.inj hc
 obtain ⟨u, q, rfl, h1, h2⟩ := hr
 exact kk _ _ _ (hS'.addp2 (e := .fz (rI .i64) u z.V.Shape) (e' := .fz (rI .i64) q z.V.Data) hI h1 rfl h2 rfl)
/-- fields of an element. -/
theorem o_ldPlaceAll {k : Nat} {e : Ent} {v : Value} {l : List Place} {z : Place} {de : TypeDesc} {i : Int} (hS : S wm n tm H A L Fr) (hw : Wd A ops g) (hd : Nat.blt d n = true) (hx : evA A x = some (elP v i 4 0)) (hk : L[k]? = some e) (hs : IsSl e rPlace v l)
  (hi : idx l i = some z) (hu : P.underlying t = some de) (hag : isAggD de = false)
  (kk : ∀ tm, S wm n tm H ((d, .bool z.All) :: A) L Fr → wpO P ora wm draw ops rest tm H R) :
  wpO P ora wm draw ops (⟨some d, .load t x, ty, pos, aft, g⟩ :: rest) tm H R := by
 refine o_ldE (r := rPlace) hS hw hd hx hk hs hi hu hag (by decide) fun Z c w hI hr hc hS' => ?_
 obtain ⟨u, q, rfl, h1, h2⟩ := hr
 simp at hc; subst hc
 exact kk _ hS'
theorem o_ldPlaceChar {k : Nat} {e : Ent} {v : Value} {l : List Place} {z : Place} {de : TypeDesc} {i : Int} (hS : S wm n tm H A L Fr) (hw : Wd A ops g) (hd : Nat.blt d n = true) (hx : evA A x = some (elP v i 4 1)) (hk : L[k]? = some e) (hs : IsSl e rPlace v l)
  (hi : idx l i = some z) (hu : P.underlying t = some de) (hag : isAggD de = false)
  (kk : ∀ tm, S wm n tm H ((d, .bool z.V.Char) :: A) L Fr → wpO P ora wm draw ops rest tm H R) :
  wpO P ora wm draw ops (⟨some d, .load t x, ty, pos, aft, g⟩ :: rest) tm H R := by
 refine o_ldE (r := rPlace) hS hw hd hx hk hs hi hu hag (by decide) fun Z c w hI hr hc hS' => ?_
 obtain ⟨u, q, rfl, h1, h2⟩ := hr
 simp at hc; subst hc
 exact kk _ hS'
theorem o_ldPlaceShape {k : Nat} {e : Ent} {v : Value} {l : List Place} {z : Place} {de : TypeDesc} {i : Int} (hS : S wm n tm H A L Fr) (hw : Wd A ops g) (hd : Nat.blt d n = true) (hx : evA A x = some (elP v i 4 2)) (hk : L[k]? = some e) (hs : IsSl e rPlace v l)
  (hi : idx l i = some z) (hu : P.underlying t = some de) (hag : isAggD de = false)
  (kk : ∀ w tm, S wm n tm H ((d, w) :: A) (.fz (rI .i64) w z.V.Shape :: L) Fr → wpO P ora wm draw ops rest tm H R) :
  wpO P ora wm draw ops (⟨some d, .load t x, ty, pos, aft, g⟩ :: rest) tm H R := by
 refine o_ldE (r := rPlace) hS hw hd hx hk hs hi hu hag (by decide) fun Z c w hI hr hc hS' => ?_
 obtain ⟨u, q, rfl, h1, h2⟩ := hr
 simp at hc; subst hc
 exact kk _ _ (hS'.addp (e := .fz (rI .i64) u z.V.Shape) hI h1 rfl)
theorem o_ldPlaceData {k : Nat} {e : Ent} {v : Value} {l : List Place} {z : Place} {de : TypeDesc} {i : Int} (hS : S wm n tm H A L Fr) (hw : Wd A ops g) (hd : Nat.blt d n = true) (hx : evA A x = some (elP v i 4 3)) (hk : L[k]? = some e) (hs : IsSl e rPlace v l)
  (hi : idx l i = some z) (hu : P.underlying t = some de) (hag : isAggD de = false)
  (kk : ∀ w tm, S wm n tm H ((d, w) :: A) (.fz (rI .i64) w z.V.Data :: L) Fr → wpO P ora wm draw ops rest tm H R) :
  wpO P ora wm draw ops (⟨some d, .load t x, ty, pos, aft, g⟩ :: rest) tm H R := by
 refine o_ldE (r := rPlace) hS hw hd hx hk hs hi hu hag (by decide) fun Z c w hI hr hc hS' => ?_
 obtain ⟨u, q, rfl, h1, h2⟩ := hr
 simp at hc; subst hc
 exact kk _ _ (hS'.addp (e := .fz (rI .i64) q z.V.Data) hI h2 rfl)
theorem o_ldPlaceV {k sz : Nat} {e : Ent} {v : Value} {l : List Place} {z : Place} {de : TypeDesc} {i : Int} (hS : S wm n tm H A L Fr) (hw : Wd A ops g) (hd : Nat.blt d n = true) (hx : evA A x = some (elP v i 4 1)) (hk : L[k]? = some e) (hs : IsSl e rPlace v l)
  (hi : idx l i = some z) (hu : P.underlying t = some de) (hag : isAggD de = true) (hsz : sizeOf' P t = some sz) (hszr : sz = 3)
  (kk : ∀ v w tm, S wm n tm H ((d, .agg #[.bool z.V.Char, v, w]) :: A) (.fz (rI .i64) v z.V.Shape :: .fz (rI .i64) w z.V.Data :: L) Fr → wpO P ora wm draw ops rest tm H R) :
  wpO P ora wm draw ops (⟨some d, .load t x, ty, pos, aft, g⟩ :: rest) tm H R := by
 subst hszr
 refine o_ldEA (r := rPlace) hS hw hd hx hk hs hi hu hag hsz (by decide) fun Z c w hI hr hc hS' => ?_
 obtain ⟨u, q, rfl, h1, h2⟩ := hr
 have : w = [.bool z.V.Char, u, q] := by simpa [cut] using hc.symm
 subst this
 exact kk _ _ _ (hS'.addp2 (e := .fz (rI .i64) u z.V.Shape) (e' := .fz (rI .i64) q z.V.Data) hI h1 rfl h2 rfl)

/-- what is said of slices that are only read. -/
def FzIn {α : Type} (L : List Ent) (r : Rep α) (v : Value) (l : List α) : Prop := ∃ k : Nat, L[k]? = some (Ent.fz r v l)
theorem FzIn.ok {α : Type} {Z : ZM} {r : Rep α} {v : Value} {l : List α} (h : FzIn L r v l) (hI : Kn0 Z wm H L Fr) : slOk r Z v l := by
 obtain ⟨k, hk⟩ := h
 exact hI.ok _ (Kn0.mem hk)

/-- cells that hold a thing, by what is known. -/
def RdIn {α : Type} (L : List Ent) (r : Rep α) (c : List Value) (z : α) : Prop := ∀ Z wm H Fr, Kn0 Z wm H L Fr → r.rd Z c z
theorem rd_flat {α : Type} {r : Rep α} {c : List Value} {z : α} (h : ∀ Z, r.rd Z c z) : RdIn L r c z := fun Z _ _ _ _ => h Z
theorem rd_S {α : Type} {r : Rep α} {v : Value} {l : List α} (h : FzIn L r v l) : RdIn L (rL r) [v] l := fun Z _ _ _ hI => ⟨v, rfl, h.ok hI⟩
theorem rd_Val {v w : Value} {z : Val} (h : FzIn L (rI .i64) v z.Shape) (h' : FzIn L (rI .i64) w z.Data) : RdIn L rVal [.bool z.Char, v, w] z := fun Z _ _ _ hI => ⟨v, w, rfl, h.ok hI, h'.ok hI⟩
theorem rd_Place {v w : Value} {z : Place} (h : FzIn L (rI .i64) v z.V.Shape) (h' : FzIn L (rI .i64) w z.V.Data) : RdIn L rPlace [.bool z.All, .bool z.V.Char, v, w] z := fun Z _ _ _ hI => ⟨v, w, rfl, h.ok hI, h'.ok hI⟩

def RowIn {α : Type} (L : List Ent) (r : Rep α) (c : List Value) (z : List α) : Prop := ∀ Z wm H Fr, Kn0 Z wm H L Fr → rowOf r Z c z
theorem ri_nil {α : Type} {r : Rep α} : RowIn L r [] [] := fun _ _ _ _ _ => row_nil
theorem ri_1 {α : Type} {r : Rep α} {v : Value} {cs : List Value} {z : α} {l : List α} (h : RdIn L r [v] z) (k : RowIn L r cs l) : RowIn L r (v :: cs) (z :: l) := fun Z wm H Fr hI => row_cons (h Z wm H Fr hI) (k Z wm H Fr hI)
theorem ri_2 {α : Type} {r : Rep α} {v1 v2 : Value} {cs : List Value} {z : α} {l : List α} (h : RdIn L r [v1, v2] z) (k : RowIn L r cs l) : RowIn L r (v1 :: v2 :: cs) (z :: l) := fun Z wm H Fr hI => row_cons (h Z wm H Fr hI) (k Z wm H Fr hI)
theorem ri_3 {α : Type} {r : Rep α} {v1 v2 v3 : Value} {cs : List Value} {z : α} {l : List α} (h : RdIn L r [v1, v2, v3] z) (k : RowIn L r cs l) : RowIn L r (v1 :: v2 :: v3 :: cs) (z :: l) := fun Z wm H Fr hI => row_cons (h Z wm H Fr hI) (k Z wm H Fr hI)
theorem ri_4 {α : Type} {r : Rep α} {v1 v2 v3 v4 : Value} {cs : List Value} {z : α} {l : List α} (h : RdIn L r [v1, v2, v3, v4] z) (k : RowIn L r cs l) : RowIn L r (v1 :: v2 :: v3 :: v4 :: cs) (z :: l) := fun Z wm H Fr hI => row_cons (h Z wm H Fr hI) (k Z wm H Fr hI)

theorem upd_lt {α : Type} {l l' : List α} {i : Int} {y : α} (h : upd l i y = some l') : 0 ≤ i ∧ i < l.length ∧ l' = l.set i.toNat y := by
 unfold upd at h
 split at h
 ·rename_i h0; exact ⟨h0.1, h0.2, by simpa using h.symm⟩
 ·cases h

theorem lay_cut {cells cs ds c : List Value} {o m i : Nat} (h : cut cells o m = some cs) (k : lay cs i c = some ds) : ∃ r, lay cells (o + i) c = some r ∧ cut r o m = some ds ∧ r.length = cells.length := by
 obtain ⟨h1, rfl⟩ := cut_some h
 obtain ⟨h2, rfl⟩ := lay_some k
 simp at h2
 refine ⟨_, by unfold lay; rw [if_pos (by omega)], ?_, by simp; omega⟩
 unfold cut
 rw [if_pos (by simp; omega)]
 congr 1
 apply List.ext_getElem?
 intro j
 simp only [List.getElem?_take, List.getElem?_drop, List.getElem?_append, List.length_take, List.length_drop, List.length_append]
 grind

end rules
end Go.Am

namespace Go.Am

section rules
variable {P : Program} {ora : FuncId → Bool} {wm n : Nat} {tm : List Value} {H : AHeap} {A : List (Nat × Value)} {L Fr : List Ent}
variable {draw : Bool} {ops : Array Oper} {rest : List Oper} {R : List Value → AHeap → Prop}
variable {d : Tmp} {t ty : TypeId} {x y : Operand} {pos : String} {aft : Array Edge} {g : Option (Nat × Bool)}

theorem o_stE {α : Type} {k sz : Nat} {r : Rep α} {v w : Value} {vs : List Value} {l l' : List α} {z : α} {i : Int} (hS : S wm n tm H A L Fr) (hw : Wd A ops g) (hx : evA A x = some (elP v i r.sz 0)) (hy : evA A y = some w) (hk : L[k]? = some (.own r v l))
  (hs : sizeOf' P t = some sz) (hsz : sz = r.sz) (hvs : w.cells.toList = vs) (hr : RdIn L r vs z) (hu : upd l i z = some l')
  (kk : ∀ H, S wm n tm H A (L.set k (.own r v l')) Fr → wpO P ora wm draw ops rest tm H R) :
  wpO P ora wm draw ops (⟨none, .store t x y, ty, pos, aft, g⟩ :: rest) tm H R := by
 subst hsz
 obtain ⟨Z, hI⟩ := hS.inv
 have hr := hr Z _ _ _ hI
 obtain ⟨h0, h1, rfl⟩ := upd_lt hu
 rcases hI.ok _ (Kn0.mem hk) with ⟨rfl, rfl⟩ | ⟨b, o, cap, gr, cells, cs, rfl, h2, h3, h4, h5, h6⟩
 ·simp at h1; omega
 ·obtain ⟨ds, hd1, hd2⟩ := h6.set (i := i.toNat) (by omega) hr
  obtain ⟨rr, hr1, hr2, hr3⟩ := lay_cut h5 hd1
  obtain ⟨inf, hinf, hsz⟩ := size_info hs
  have hwm := hI.low _ (List.mem_of_getElem? hk) b rfl
  have hb := (hI.blk _ (Kn0.mem hk) b rfl).1
  refine o_run (v := undef) (H' := H.set b (.row true gr r.sz rr)) hS hw rfl ?_ (kk _ (hS.withK ⟨Z, hI.step hk (Nat.le_refl _) (fun x hx hne => H.get_set_ne _ (fun hh => hne (by rw [hh]; rfl))) ?_ (fun x hx => ?_)⟩))
  ·rw [lit_false rfl]
   have hc : (decide (wm ≤ b) && w.cells.size == inf.size && vs.all oneCell) = true := by
    rw [r.one hr, hsz, ← r.len hr, ← hvs]; simp [hwm]
   simp only [aOp, ev_of hS.env hx, ev_of hS.env hy, elP, Nat.add_zero, aStore, hinf, hvs, hc, if_true, h2, hr1, Option.map_some]
  ·refine .inr ⟨b, o, cap, gr, rr, ds, ?_, by simp, by omega, by simpa using h4, ?_, hd2⟩
   ·simp
   ·simpa using hr2
  ·obtain rfl := Option.some.inj hx
   exact ⟨hb, hwm, .inl rfl⟩

def loI (o : Option Int) : Int := o.getD 0
def optA (A : List (Nat × Value)) : Option Operand → Option (Option Int)
 | none => some none
 | some x => match evA A x with
  | some (.int _ i) => some (some i)
  | _ => none

theorem sub_lt {α : Type} {l l' : List α} {lo hi : Int} (h : sub l lo hi = some l') : 0 ≤ lo ∧ lo ≤ hi ∧ hi ≤ l.length ∧ l' = (l.take hi.toNat).drop lo.toNat := by
 unfold sub at h
 split at h
 ·rename_i h0; exact ⟨h0.1, h0.2.1, h0.2.2, by simpa using h.symm⟩
 ·cases h

theorem optA_ev {o : Option Operand} {i : Option Int} (he : ∀ t v, lk A t = some v → tm[t]? = some v) (h : optA A o = some i) : ∃ vs : List Value, evL tm o.toList = some vs ∧ ∀ N : Nat, (∀ j, i = some j → 0 ≤ j ∧ j ≤ N) → bnd N vs.head? = some (i.map Int.toNat) := by
 cases o with
 | none =>
  simp [optA] at h; subst h
  exact ⟨[], rfl, fun N _ => rfl⟩
 | some x =>
  simp only [optA] at h
  split at h
  ·rename_i k j hx
   obtain rfl := Option.some.inj h
   refine ⟨[.int k j], by simp [evL, ev_of he hx], fun N hN => ?_⟩
   have := hN j rfl
   simp [bnd, this]
  ·cases h

theorem cut_part {cells cs : List Value} {o m i k : Nat} (h : cut cells o m = some cs) (hk : i + k ≤ m) : cut cells (o + i) k = some ((cs.drop i).take k) := by
 obtain ⟨h1, rfl⟩ := cut_some h
 unfold cut
 rw [if_pos (by omega)]
 congr 1
 rw [List.drop_take, List.take_take, List.drop_drop]
 congr 1
 omega

theorem bnd0 {N : Nat} : bnd N none = some none := rfl
/-- a part, taken by aSlice. -/
theorem slice_run {α : Type} {Z : ZM} {r : Rep α} {v : Value} {l l' : List α} {elem : TypeId} {lo hi : Option Int} {xlo xhi : Option Operand} (he : ∀ t v, lk A t = some v → tm[t]? = some v) (h : slAt H Z r v l)
  (hx : evA A x = some v) (hu : P.underlying t = some (.slice elem)) (hsz : sizeOf' P elem = some r.sz) (hlo : optA A xlo = some lo) (hhi : optA A xhi = some hi) (hsub : sub l (lo.getD 0) (hi.getD l.length) = some l') :
  ∃ v', aOp P wm tm H (.slice t x xlo xhi none) = some (v', H) ∧
   ((v = .slice none 0 0 ∧ l = [] ∧ l' = [] ∧ v' = .slice none 0 0) ∨ ∃ b o cap own gr cells cs, v = .slice (some ⟨b, o, none⟩) l.length cap ∧ l.length ≤ cap ∧ H.get b = some (.row own gr r.sz cells) ∧ cut cells o (l.length * r.sz) = some cs ∧ rowOf r Z cs l ∧
    v' = .slice (some ⟨b, o + (lo.getD 0).toNat * r.sz, none⟩) l'.length (cap - (lo.getD 0).toNat) ∧ (lo.getD 0).toNat + l'.length ≤ l.length ∧ l' = (l.drop (lo.getD 0).toNat).take l'.length) := by
 obtain ⟨h0, h1, h2, rfl⟩ := sub_lt hsub
 obtain ⟨vlo, hvlo, hblo⟩ := optA_ev he hlo
 obtain ⟨vhi, hvhi, hbhi⟩ := optA_ev he hhi
 have hmx : evL tm (none : Option Operand).toList = some [] := rfl
 have hhn : hi.map Int.toNat = none ∧ hi = none ∨ ∃ j, hi = some j := by cases hi <;> simp
 rcases h with ⟨rfl, rfl⟩ | ⟨b, o, cap, own, gr, cells, cs, rfl, h4, h5, h6, h7⟩
 ·refine ⟨.slice none 0 0, ?_, .inl ⟨rfl, rfl, by simp, rfl⟩⟩
  have hl0 : ∀ j, lo = some j → j = 0 := fun j hj => by subst hj; simp at h0 h1 h2; omega
  have hh0 : ∀ j, hi = some j → j = 0 := fun j hj => by subst hj; simp at h0 h1 h2; omega
  have hb1 := hbhi 0 (fun j hj => by have := hh0 j hj; omega)
  have e1 : (hi.map Int.toNat).getD 0 = 0 := by cases hi with | none => rfl | some j => simp [hh0 j rfl]
  have e2 : (lo.map Int.toNat).getD 0 = 0 := by cases lo with | none => rfl | some j => simp [hl0 j rfl]
  have hb2 := hblo 0 (fun j hj => by have := hl0 j hj; omega)
  simp only [aOp, ev_of he hx, hvlo, hvhi, hmx, aSlice, hu, hsz, List.head?_nil, bnd0, Option.getD_none, hb1, e1, hb2, e2]
  simp
 ·have hb1 := hbhi cap (fun j hj => by subst hj; simp at h1 h2; omega)
  have e1 : (hi.map Int.toNat).getD l.length = (hi.getD l.length).toNat := by cases hi <;> simp
  have e2 : (lo.map Int.toNat).getD 0 = (lo.getD 0).toNat := by cases lo <;> simp
  have hb2 := hblo (hi.getD l.length).toNat (fun j hj => by subst hj; simp at h0 h1; omega)
  refine ⟨.slice (some ⟨b, o + (lo.getD 0).toNat * r.sz, none⟩) ((hi.getD l.length).toNat - (lo.getD 0).toNat) (cap - (lo.getD 0).toNat), ?_, .inr ⟨b, o, cap, own, gr, cells, cs, rfl, h4, h5, h6, h7, ?_, ?_, ?_⟩⟩
  ·simp only [aOp, ev_of he hx, hvlo, hvhi, hmx, aSlice, hu, hsz, List.head?_nil, bnd0, Option.getD_none, hb1, e1, hb2, e2, h5]
   simp
  ·congr 1; simp; omega
  ·simp; omega
  ·rw [List.drop_take]; congr 1; simp; omega

/-- a part, of what is only read. -/
theorem o_sl {α : Type} {k : Nat} {r : Rep α} {v : Value} {l l' : List α} {elem : TypeId} {lo hi : Option Int} {xlo xhi : Option Operand} (hS : S wm n tm H A L Fr) (hw : Wd A ops g) (hd : Nat.blt d n = true) (hx : evA A x = some v) (hk : L[k]? = some (.fz r v l))
  (hu : P.underlying t = some (.slice elem)) (hsz : sizeOf' P elem = some r.sz) (hlo : optA A xlo = some lo) (hhi : optA A xhi = some hi) (hsub : sub l (lo.getD 0) (hi.getD l.length) = some l')
  (kk : ∀ v' tm, S wm n tm H ((d, v') :: A) (.fz r v' l' :: L) Fr → wpO P ora wm draw ops rest tm H R) :
  wpO P ora wm draw ops (⟨some d, .slice t x xlo xhi none, ty, pos, aft, g⟩ :: rest) tm H R := by
 obtain ⟨Z, hI⟩ := hS.inv
 have hfz := hI.ok _ (Kn0.mem hk)
 obtain ⟨v', hrun, hres⟩ := slice_run hS.env (hI.slAt hk (.inl rfl)) hx hu hsz hlo hhi hsub (wm := if (draw && litBase ops (.slice t x xlo xhi none)) = true then H.n else wm)
 refine o_run (v := v') (H' := H) hS hw rfl hrun (kk v' _ ((hS.put hd v').addp (e := .fz r v' l') hI ?_ rfl))
 rcases hres with ⟨_, _, rfl, rfl⟩ | ⟨b, o, cap, own, gr, cells, cs, rfl, h4, h5, h6, h7, rfl, h8, h9⟩
 ·exact .inl ⟨rfl, rfl⟩
 ·rcases hfz with ⟨hh, _⟩ | ⟨b', o', cap', own', gr', cells', cs', hv', _, hz', _, _⟩
  ·cases hh
  ·obtain ⟨⟨rfl, rfl⟩, rfl⟩ : (b = b' ∧ o = o') ∧ cap = cap' := by simpa using hv'
   have hg := (hI.z b _ hz').2
   rw [h5] at hg
   obtain ⟨rfl, rfl, rfl⟩ : own = own' ∧ gr = gr' ∧ cells = cells' := by simpa using hg
   refine .inr ⟨b, _, _, own, gr, cells, _, rfl, by omega, hz', cut_part (i := (lo.getD 0).toNat * r.sz) (k := l'.length * r.sz) h6 ?_, ?_⟩
   ·rw [← Nat.add_mul]; exact Nat.mul_le_mul_right _ h8
   ·have := (h7.drop (lo.getD 0).toNat).take l'.length
    rw [← h9] at this
    exact this
/-- a part, of what may be written, which is given up for it. -/
theorem o_slO {α : Type} {k : Nat} {r : Rep α} {v : Value} {l l' : List α} {elem : TypeId} {lo hi : Option Int} {xlo xhi : Option Operand} (hS : S wm n tm H A L Fr) (hw : Wd A ops g) (hd : Nat.blt d n = true) (hx : evA A x = some v) (hk : L[k]? = some (.own r v l))
  (hu : P.underlying t = some (.slice elem)) (hsz : sizeOf' P elem = some r.sz) (hlo : optA A xlo = some lo) (hhi : optA A xhi = some hi) (hsub : sub l (lo.getD 0) (hi.getD l.length) = some l')
  (kk : ∀ v' tm, S wm n tm H ((d, v') :: A) (L.set k (.own r v' l')) Fr → wpO P ora wm draw ops rest tm H R) :
  wpO P ora wm draw ops (⟨some d, .slice t x xlo xhi none, ty, pos, aft, g⟩ :: rest) tm H R := by
 obtain ⟨Z, hI⟩ := hS.inv
 have hown := hI.ok _ (Kn0.mem hk)
 obtain ⟨v', hrun, hres⟩ := slice_run hS.env (hI.slAt hk (.inr (.inl rfl))) hx hu hsz hlo hhi hsub (wm := if (draw && litBase ops (.slice t x xlo xhi none)) = true then H.n else wm)
 refine o_run (v := v') (H' := H) hS hw rfl hrun (kk v' _ ((hS.put hd v').withK ⟨Z, hI.step hk (Nat.le_refl _) (fun _ _ _ => rfl) ?_ ?_⟩))
 ·rcases hres with ⟨_, _, rfl, rfl⟩ | ⟨b, o, cap, own, gr, cells, cs, rfl, h4, h5, h6, h7, rfl, h8, h9⟩
  ·exact .inl ⟨rfl, rfl⟩
  ·rcases hown with ⟨hh, _⟩ | ⟨b', o', cap', gr', cells', cs', hv', hz', hcap, _, _, _⟩
   ·cases hh
   ·obtain ⟨⟨rfl, rfl⟩, rfl⟩ : (b = b' ∧ o = o') ∧ cap = cap' := by simpa using hv'
    rw [h5] at hz'
    obtain ⟨rfl, rfl, rfl⟩ : own = true ∧ gr = gr' ∧ cells = cells' := by simpa using hz'
    refine .inr ⟨b, _, _, gr, cells, _, rfl, h5, ?_, by omega, cut_part (i := (lo.getD 0).toNat * r.sz) (k := l'.length * r.sz) h6 ?_, ?_⟩
    ·have : (lo.getD 0).toNat * r.sz + (cap - (lo.getD 0).toNat) * r.sz = cap * r.sz := by rw [← Nat.add_mul]; congr 1; omega
     omega
    ·rw [← Nat.add_mul]; exact Nat.mul_le_mul_right _ h8
    ·have := (h7.drop (lo.getD 0).toNat).take l'.length
     rw [← h9] at this
     exact this
 ·intro b hb
  rcases hres with ⟨_, _, rfl, rfl⟩ | ⟨b', o, cap, own, gr, cells, cs, rfl, h4, h5, h6, h7, rfl, h8, h9⟩
  ·cases hb
  ·obtain rfl : b' = b := by simpa [Ent.blk, blkOf] using hb
   exact ⟨(hI.blk _ (Kn0.mem hk) b' rfl).1, hI.low _ (List.mem_of_getElem? hk) b' rfl, .inl rfl⟩

/-- what is written down may be written. -/
theorem S.litOwn {α : Type} {k : Nat} {r : Rep α} {v : Value} {l : List α} (hS : S wm n tm H A L Fr) (hk : L[k]? = some (.lit r v l)) : S wm n tm H A (L.set k (.own r v l)) Fr := by
 obtain ⟨Z, hI⟩ := hS.inv
 obtain ⟨b, cells, rfl, h2, h3⟩ := hI.ok _ (Kn0.mem hk)
 refine hS.withK ⟨Z, hI.step hk (Nat.le_refl _) (fun _ _ _ => rfl) (.inr ⟨b, 0, l.length, false, cells, cells, rfl, h2, by rw [h3.len]; omega, Nat.le_refl _, cut_zero h3.len.symm, h3⟩) (fun x hx => ?_)⟩
 obtain rfl : b = x := by simpa [Ent.blk, blkOf] using hx
 exact ⟨(hI.blk _ (Kn0.mem hk) b rfl).1, hI.low _ (List.mem_of_getElem? hk) b rfl, .inl rfl⟩
theorem S.frz {α : Type} {k : Nat} {r : Rep α} {v : Value} {l : List α} (hS : S wm n tm H A L Fr) (hk : L[k]? = some (.own r v l)) : S wm n tm H A (L.set k (.fz r v l)) Fr := by
 obtain ⟨Z, hI⟩ := hS.inv
 exact hS.withK (hI.freeze hk)
theorem S.frzBox {k b : Nat} {cells : List Value} (hS : S wm n tm H A L Fr) (hk : L[k]? = some (.box b cells)) : S wm n tm H A (L.set k (.fbox b cells)) Fr := by
 obtain ⟨Z, hI⟩ := hS.inv
 exact hS.withK (hI.freezeBox hk)
theorem S.litFrz {α : Type} {k : Nat} {r : Rep α} {v : Value} {l : List α} (hS : S wm n tm H A L Fr) (hk : L[k]? = some (.lit r v l)) : S wm n tm H A (L.set k (.fz r v l)) Fr := by
 have h := (hS.litOwn hk).frz (k := k) (r := r) (v := v) (l := l) (by rw [List.getElem?_set_self (List.getElem?_eq_some_iff.mp hk).1])
 rwa [List.set_set] at h
/-- nothing. -/
theorem S.nilFz {α : Type} (r : Rep α) (hS : S wm n tm H A L Fr) : S wm n tm H A (.fz r (.slice none 0 0) [] :: L) Fr := by
 obtain ⟨Z, hI⟩ := hS.inv
 exact hS.withK ⟨Z, hI.addp (.inl ⟨rfl, rfl⟩) rfl⟩
theorem S.nilOwn {α : Type} (r : Rep α) (hS : S wm n tm H A L Fr) : S wm n tm H A (.own r (.slice none 0 0) [] :: L) Fr := by
 obtain ⟨Z, hI⟩ := hS.inv
 exact hS.withK ⟨Z, hI.addp (.inl ⟨rfl, rfl⟩) rfl⟩

/-- a function of two elements that holds a text, or none. -/
def rClo (F : FuncId) : Rep (Option ByteArray) where
 sz := 1
 rd := fun Z c o => (c = [.nilFunc] ∧ o = none) ∨ ∃ b fn sz, c = [.func (.func F) #[] #[.pointer (some ⟨b, 0, none⟩)]] ∧ Z b = some (.row true false sz [.string fn]) ∧ o = some fn
 len := fun h => by rcases h with ⟨rfl, _⟩ | ⟨_, _, _, rfl, _⟩ <;> rfl
 mono := fun k h => by
  rcases h with h | ⟨b, fn, sz, h1, h2, h3⟩
  ·exact .inl h
  ·exact .inr ⟨b, fn, sz, h1, k _ _ h2, h3⟩
 one := fun h => by rcases h with ⟨rfl, _⟩ | ⟨_, _, _, rfl, _⟩ <;> rfl
theorem S.cloNil (F : FuncId) (hS : S wm n tm H A L Fr) : S wm n tm H A (.el (rClo F) [.nilFunc] none :: L) Fr := by
 obtain ⟨Z, hI⟩ := hS.inv
 exact hS.withK ⟨Z, hI.addp (.inl ⟨rfl, rfl⟩) rfl⟩
theorem S.cloMk {k b : Nat} {fn : ByteArray} (F : FuncId) (hS : S wm n tm H A L Fr) (hk : L[k]? = some (.fbox b [.string fn])) : S wm n tm H A (.el (rClo F) [.func (.func F) #[] #[.pointer (some ⟨b, 0, none⟩)]] (some fn) :: L) Fr := by
 obtain ⟨Z, hI⟩ := hS.inv
 obtain ⟨sz, hz⟩ := hI.ok _ (List.mem_append_left _ (List.mem_of_getElem? hk))
 exact hS.withK ⟨Z, hI.addp (.inr ⟨b, fn, sz, rfl, hz, rfl⟩) rfl⟩
theorem S.unclo {k : Nat} {F : FuncId} {v : Value} {o : Option ByteArray} {fn : ByteArray} (hS : S wm n tm H A L Fr) (hk : L[k]? = some (.el (rClo F) [v] o)) (ho : o = some fn) :
  ∃ b, v = .func (.func F) #[] #[.pointer (some ⟨b, 0, none⟩)] ∧ S wm n tm H A (.fbox b [.string fn] :: L) Fr := by
 obtain ⟨Z, hI⟩ := hS.inv
 rcases hI.ok _ (List.mem_append_left _ (List.mem_of_getElem? hk)) with ⟨_, h⟩ | ⟨b, fn', sz, h1, h2, h3⟩
 ·rw [ho] at h; cases h
 ·rw [ho] at h3
  obtain rfl := Option.some.inj h3
  obtain rfl : v = _ := by simpa using h1
  exact ⟨b, rfl, hS.withK ⟨Z, hI.addp ⟨sz, h2⟩ rfl⟩⟩
theorem Kn.adE {α : Type} {wm' : Nat} {La : List Ent} {r : Rep α} {c : List Value} {x : α} (h : Kn wm' H La (L ++ Fr)) (k : Nat) (hk : L[k]? = some (.el r c x)) : Kn wm' H (.el r c x :: La) (L ++ Fr) := by
 obtain ⟨Z, hI⟩ := h
 exact ⟨Z, hI.addp (hI.ok _ (List.mem_append_right _ (List.mem_append_left _ (List.mem_of_getElem? hk)))) rfl⟩

theorem zerosL_one (z : Value) (h : z.cells.size = 1) (n : Nat) : (zeros z n).toList = List.replicate n (z.cells[0]!) := by
 unfold zeros
 rw [Array.toList_map, Array.toList_range]
 apply List.ext_getElem?
 intro i
 simp only [List.getElem?_map, List.getElem?_replicate, h, Nat.mod_one]
 by_cases hi : i < n
 ·rw [List.getElem?_range hi, if_pos hi]; rfl
 ·rw [if_neg hi]; simp [hi]
theorem rowOf_replicate {α : Type} {r : Rep α} {Z : ZM} {w : Value} {z : α} (h : r.rd Z [w] z) : ∀ n : Nat, rowOf r Z (List.replicate n w) (List.replicate n z)
 | 0 => rfl
 | n + 1 => ⟨[w], List.replicate n w, rfl, h, rowOf_replicate h n⟩

/-- n zeros of one cell each. -/
theorem o_mk' {α : Type} {r : Rep α} {elem : TypeId} {inf : TypeInfo} {zv w : Value} {z : α} {ln cp : Int} {l : List α} (hS : S wm n tm H A L Fr) (hw : Wd A ops g) (hd : Nat.blt d n = true) (hx : evA A x = some (.int .i64 ln)) (hy : evA A y = some (.int .i64 cp))
  (hu : P.underlying t = some (.slice elem)) (hi : P.info? elem = some inf) (hz : inf.zero = some zv ∧ constOk zv = true ∧ zv.cells.toList = [w] ∧ inf.size = 1 ∧ r.sz = 1) (hr : ∀ Z, r.rd Z [w] z) (hm : mk inf.bytes z ln cp = some l)
  (kk : ∀ v tm H, S wm n tm H ((d, v) :: A) (.own r v l :: L) Fr → wpO P ora wm draw ops rest tm H R) :
  wpO P ora wm draw ops (⟨some d, .makeSlice t x y, ty, pos, aft, g⟩ :: rest) tm H R := by
 obtain ⟨hz, hk, hcl, hsz, hrs⟩ := hz
 unfold mk at hm
 split at hm
 case isFalse => cases hm
 rename_i hle
 obtain rfl := Option.some.inj hm
 obtain ⟨Z, hI⟩ := hS.inv
 have hcs : zv.cells.size = 1 := by rw [← Array.length_toList, hcl]; rfl
 have hw0 : zv.cells[0]! = w := by
  have : zv.cells = #[w] := by
   apply Array.toList_inj.mp; rw [hcl]
  rw [this]; rfl
 refine o_run (v := .slice (some ⟨H.n, 0, none⟩) ln.toNat cp.toNat) (H' := H.push (.row true false inf.size (zeros zv (cp.toNat * inf.size)).toList)) hS hw rfl ?_ (kk _ _ _ ((hS.put hd _).withK ⟨Z, hI.add (by simp) (fun b hb => H.get_push_ne _ (by omega)) (.inr ⟨H.n, 0, cp.toNat, false, _, _, ?_, by rw [AHeap.get_push_new, hsz, hrs], ?_, ?_, ?_, rowOf_replicate (hr Z) ln.toNat⟩) (fun b hb => ?_)⟩))
 ·have hcond : (constOk zv && zv.cells.size == inf.size && decide (0 < inf.size)) = true := by rw [hk, hcs, hsz]; rfl
  simp only [aOp, ev_of hS.env hx, ev_of hS.env hy, aMakeSlice, hu, hi, hz, hcond, if_true]
  rw [if_pos ⟨hle.1, hle.2.1, by omega, by omega⟩]
 ·simp
 ·rw [zerosL_one zv hcs]; simp [hrs]
 ·simp; omega
 ·rw [zerosL_one zv hcs, hw0]
  simp only [List.length_replicate, hrs, Nat.mul_one]
  unfold cut
  rw [if_pos (by simp; omega)]
  simp
  omega
 ·obtain rfl : H.n = b := by simpa [Ent.blk, blkOf] using hb
  exact ⟨Nat.le_refl _, by simp⟩
theorem zeros_get (z : Value) (n i : Nat) : (zeros z n).toList[i]? = if i < n then some z.cells[i % z.cells.size]! else none := by
 simp only [zeros, Array.getElem?_toList, Array.getElem?_map, Array.getElem?_range]
 by_cases h : i < n <;> simp [h]
theorem zeros_cons (z : Value) (n : Nat) : (zeros z ((n + 1) * z.cells.size)).toList = z.cells.toList ++ (zeros z (n * z.cells.size)).toList := by
 apply List.ext_getElem?
 intro i
 rw [zeros_get, List.getElem?_append, zeros_get]
 simp only [Array.length_toList, Nat.succ_mul]
 by_cases h : i < z.cells.size
 ·rw [if_pos (by omega), if_pos h, Nat.mod_eq_of_lt h]
  simp [h]
 ·rw [if_neg h]
  have : i % z.cells.size = (i - z.cells.size) % z.cells.size := by rw [Nat.mod_eq_sub_mod (by omega)]
  rw [this]
  by_cases h2 : i < n * z.cells.size + z.cells.size
  ·rw [if_pos h2, if_pos (by omega)]
  ·rw [if_neg h2, if_neg (by omega)]
theorem zeros_take (z : Value) {n m : Nat} (h : n ≤ m) : (zeros z m).toList.take n = (zeros z n).toList := by
 apply List.ext_getElem?
 intro i
 rw [List.getElem?_take, zeros_get, zeros_get]
 by_cases h1 : i < n
 ·rw [if_pos h1, if_pos h1, if_pos (by omega)]
 ·rw [if_neg h1, if_neg h1]
theorem zeros_rows {α : Type} {r : Rep α} {Z : ZM} {zv : Value} {z : α} (hr : r.rd Z zv.cells.toList z) (n : Nat) : rowOf r Z (zeros zv (n * zv.cells.size)).toList (List.replicate n z) := by
 induction n with
 | zero => simp [zeros, rowOf]
 | succ n ih => rw [zeros_cons]; exact ⟨_, _, rfl, hr, ih⟩
/-- zeros that are wider than a cell. -/
theorem o_mkW {α : Type} {r : Rep α} {elem : TypeId} {inf : TypeInfo} {zv : Value} {cs : List Value} {by_ : Nat} {z : α} {ln cp : Int} {l : List α} (hS : S wm n tm H A L Fr) (hw : Wd A ops g) (hd : Nat.blt d n = true) (hx : evA A x = some (.int .i64 ln)) (hy : evA A y = some (.int .i64 cp))
  (hM : P.underlying t = some (.slice elem) ∧ P.info? elem = some inf ∧ inf.zero = some zv ∧ constOk zv = true ∧ zv.cells.toList = cs ∧ Nat.beq inf.size cs.length = true ∧ Nat.ble 1 cs.length = true ∧ inf.bytes = by_) (hr1 : r.sz = cs.length) (hr : ∀ Z, r.rd Z cs z) (hm : mk by_ z ln cp = some l)
  (kk : ∀ v tm H, S wm n tm H ((d, v) :: A) (.own r v l :: L) Fr → wpO P ora wm draw ops rest tm H R) :
  wpO P ora wm draw ops (⟨some d, .makeSlice t x y, ty, pos, aft, g⟩ :: rest) tm H R := by
 obtain ⟨hu, hi, hz, hk, rfl, hsz, hpos, rfl⟩ := hM
 unfold mk at hm
 split at hm
 case isFalse => cases hm
 rename_i hle
 obtain rfl := Option.some.inj hm
 obtain ⟨Z, hI⟩ := hS.inv
 have hpos : 1 ≤ zv.cells.size := by simpa using Nat.le_of_ble_eq_true hpos
 have hsz : inf.size = zv.cells.size := by simpa using Nat.eq_of_beq_eq_true hsz
 have hrs : r.sz = zv.cells.size := by simpa using hr1
 have hcs : ln.toNat * zv.cells.size ≤ cp.toNat * zv.cells.size := Nat.mul_le_mul_right _ (by omega)
 refine o_run (v := .slice (some ⟨H.n, 0, none⟩) ln.toNat cp.toNat) (H' := H.push (.row true false inf.size (zeros zv (cp.toNat * inf.size)).toList)) hS hw rfl ?_ (kk _ _ _ ((hS.put hd _).withK ⟨Z, hI.add (by simp) (fun b hb => H.get_push_ne _ (by omega)) (.inr ⟨H.n, 0, cp.toNat, false, _, (zeros zv (ln.toNat * zv.cells.size)).toList, ?_, by rw [AHeap.get_push_new, hsz, hrs], ?_, ?_, ?_, zeros_rows (hr Z) ln.toNat⟩) (fun b hb => ?_)⟩))
 ·have hcond : (constOk zv && zv.cells.size == inf.size && decide (0 < inf.size)) = true := by
   rw [hk, hsz]; simp; omega
  simp only [aOp, ev_of hS.env hx, ev_of hS.env hy, aMakeSlice, hu, hi, hz, hcond, if_true]
  rw [if_pos ⟨hle.1, hle.2.1, by omega, by omega⟩]
 ·simp
 ·simp [hrs, zeros]
 ·simp; omega
 ·simp only [List.length_replicate, hrs]
  unfold cut
  rw [if_pos (by simp [zeros]; omega)]
  rw [List.drop_zero, zeros_take zv hcs]
 ·obtain rfl : H.n = b := by simpa [Ent.blk, blkOf] using hb
  exact ⟨Nat.le_refl _, by simp⟩
end rules
end Go.Am

namespace Go.Am

section rules
variable {P : Program} {ora : FuncId → Bool} {wm n : Nat} {tm : List Value} {H : AHeap} {A : List (Nat × Value)} {L Fr : List Ent}
variable {draw : Bool} {ops : Array Oper} {rest : List Oper} {R : List Value → AHeap → Prop}
variable {d : Tmp} {t ty : TypeId} {x y : Operand} {pos : String} {aft : Array Edge} {g : Option (Nat × Bool)}

theorem slAt.cells {α : Type} {Z : ZM} {r : Rep α} {v : Value} {l : List α} {size : Nat} (h : slAt H Z r v l) (hs : size = r.sz) : ∃ ds, aCells H size v = some (l.length, ds) ∧ rowOf r Z ds l := by
 subst hs
 rcases h with ⟨rfl, rfl⟩ | ⟨b, o, cap, own, gr, cells, cs, rfl, h4, h5, h6, h7⟩
 ·exact ⟨[], rfl, rfl⟩
 ·exact ⟨cs, by simp [aCells, h5, h6], h7⟩

theorem app_some {α : Type} {by_ : Nat} {l m lm : List α} (h : app by_ l m = some lm) : lm = l ++ m ∧ (m = [] ∨ (l.length + m.length) * by_ ≤ 140737488355328) := by
 unfold app at h
 split at h
 ·rename_i h0; exact ⟨by simpa using h.symm, h0⟩
 ·cases h

theorem lay_cut2 {cells old new ds : List Value} {o m : Nat} (h : cut cells o m = some old) (k : lay cells (o + m) new = some ds) : cut ds o (m + new.length) = some (old ++ new) ∧ ds.length = cells.length := by
 obtain ⟨h1, rfl⟩ := cut_some h
 obtain ⟨h2, rfl⟩ := lay_some k
 refine ⟨?_, by simp; omega⟩
 unfold cut
 rw [if_pos (by simp; omega)]
 congr 1
 apply List.ext_getElem?
 intro j
 simp only [List.getElem?_take, List.getElem?_drop, List.getElem?_append, List.length_take, List.length_drop, List.length_append]
 grind

/-- The zero of an element, as_ an append asks for it. -/
structure ElemOk (P : Program) (st xt : TypeId) (sz by_ : Nat) (elem elem2 : TypeId) (inf : TypeInfo) (zv : Value) : Prop where
 u : P.underlying st = some (.slice elem)
 i : P.info? elem = some inf
 ux : P.underlying xt = some (.slice elem2)
 z : inf.zero = some zv
 k : constOk zv = true
 zs : (zv.cells.size == inf.size) = true
 size : inf.size = sz
 pos : 0 < sz
 byb : inf.bytes = by_
 by_ : 0 < by_
/-- .. as_ a make asks for it. -/
structure MkOk (P : Program) (t : TypeId) (by_ : Nat) (elem : TypeId) (inf : TypeInfo) (zv w : Value) : Prop where
 u : P.underlying t = some (.slice elem)
 i : P.info? elem = some inf
 z : inf.zero = some zv
 k : constOk zv = true
 c : zv.cells.toList = [w]
 size : inf.size = 1
 byb : inf.bytes = by_
/-- .. as_ a literal asks for it. -/
structure LitOk (P : Program) (t : TypeId) (sz : Nat) (elem : TypeId) (z : Value) : Prop where
 u : P.underlying t = some (.slice elem)
 s : sizeOf' P elem = some sz
 hz : zeroOf P elem = some z
 k : constOk z = true
 c : (z.cells.size == sz) = true
 pos : 0 < sz
/-- .. and a struct. -/
structure BuildOk (P : Program) (t : TypeId) (places : List (Nat × Nat)) (zs : List Value) (fields : Array Field) (z : Value) : Prop where
 u : P.underlying t = some (.struct fields)
 hz : zeroOf P t = some z
 k : constOk z = true
 c : z.cells.toList = zs
 p : sizesOf P fields.toList = some places

def fillL (place : Nat → Option (Nat × Nat)) : List Value → List (Nat × List Value) → Option (List Value)
 | cells, [] => some cells
 | cells, (i, c) :: r =>
  match place i with
  | none => none
  | some (off, size) => if c.length = size then match lay cells off c with | some cells' => fillL place cells' r | none => none else none
inductive PartsC : List (Nat × Value) → List (Nat × List Value) → Prop
 | nil : PartsC [] []
 | cons {i : Nat} {v : Value} {c : List Value} {r : List (Nat × Value)} {s : List (Nat × List Value)} (h : v.cells.toList = c) (k : PartsC r s) : PartsC ((i, v) :: r) ((i, c) :: s)
theorem cells_one {v : Value} (h : oneCell v = true) : v.cells.toList = [v] := by cases v <;> first | rfl | cases h
theorem fill_one {place : Nat → Option (Nat × Nat)} {cells : Array Value} {i off size : Nat} {v : Value} {r : List (Nat × Value)} {c cs : List Value} (hp : place i = some (off, size)) (hv : v.cells.toList = c) (hs : c.length = size) (hl : lay cells.toList off c = some cs) :
  Instr.fill place cells ((i, v) :: r) = Instr.fill place cs.toArray r := by
 obtain ⟨h1, h2⟩ := lay_some hl
 have hsz : v.cells.size = c.length := by rw [← hv]; simp
 conv => lhs; unfold Instr.fill
 rw [hp]
 have h3 : ¬ ((decide (v.cells.size ≠ size) || decide (off + v.cells.size > cells.size)) = true) := by simp at h1 ⊢; omega
 simp only [if_neg h3]
 congr 1
 have := put_fold off v.cells.toList 0 cells (by simp at h1 ⊢; omega)
 simp only [Nat.add_zero] at this
 rw [← Array.toList_inj, List.toList_toArray, h2, ← hv, ← this, ← Array.foldl_toList, Array.toList_zipIdx]
theorem fillL_eq {place : Nat → Option (Nat × Nat)} : ∀ {pv : List (Nat × Value)} {pcs : List (Nat × List Value)} {cells : Array Value} {cs : List Value}, PartsC pv pcs → fillL place cells.toList pcs = some cs → Instr.fill place cells pv = some cs.toArray := by
 intro pv pcs cells cs h
 induction h generalizing cells with
 | nil => intro h; simp [fillL] at h; subst h; simp [Instr.fill]
 | @cons i v c r s hv k ih =>
  intro h
  simp only [fillL] at h
  split at h
  ·cases h
  ·rename_i off size hp
   split at h
   ·rename_i hs
    split at h
    ·rename_i cells' hl
     rw [fill_one hp hv hs hl]
     exact ih (by simpa using h)
    ·cases h
   ·cases h
def litL (size : Nat) : Nat → List (Nat × List Value) → Option (List Value)
 | _, [] => some []
 | k, (i, c) :: r => if i = k ∧ c.length = size then (litL size (k + 1) r).map (c ++ ·) else none
theorem litL_eq {size len : Nat} : ∀ {pv : List (Nat × Value)} {pcs : List (Nat × List Value)} {k : Nat} {cells : Array Value} {cs : List Value}, PartsC pv pcs → litL size k pcs = some cs → cells.size = len * size → k + pcs.length = len →
  Instr.fill (fun i => some (i * size, size)) cells pv = some (cells.toList.take (k * size) ++ cs).toArray := by
 intro pv pcs k cells cs h
 induction h generalizing cells k cs with
 | nil =>
  intro h hc hk
  simp [litL] at h; subst h
  simp at hk; subst hk
  simp only [Instr.fill, ← hc, List.append_nil]
  rw [List.take_of_length_le (by simp)]
 | @cons i v c r s hv k' ih =>
  intro h hc hk
  simp only [litL] at h
  split at h
  ·rename_i hh
   obtain ⟨rfl, hcs⟩ := hh
   cases hl : litL size (i + 1) s with
   | none => simp [hl] at h
   | some cs' =>
    simp [hl] at h; subst h
    simp at hk
    have e : (i + 1) * size = i * size + size := by rw [Nat.add_mul]; omega
    have e2 : (i + 1) * size ≤ cells.size := by rw [hc]; exact Nat.mul_le_mul_right _ (by omega)
    have hlay : lay cells.toList (i * size) c = some (cells.toList.take (i * size) ++ c ++ cells.toList.drop (i * size + c.length)) := by
     unfold lay; rw [if_pos (by simp; omega)]
    rw [fill_one rfl hv hcs hlay, ih hl (by simp; omega) (by omega)]
    congr 2
    have e3 : (List.take (i * size) cells.toList).length = i * size := by simp; omega
    have e4 : (List.take (i * size) cells.toList ++ c).length = (i + 1) * size := by rw [List.length_append, e3, hcs, e]
    rw [List.take_append, List.take_of_length_le (by omega), e4, Nat.sub_self]
    simp
  ·cases h

theorem o_build {ps : Array (Nat × Operand)} {places : List (Nat × Nat)} {zs cs : List Value} {fields : Array Field} {z : Value} {pv : List (Nat × Value)} {pcs : List (Nat × List Value)} (hS : S wm n tm H A L Fr) (hw : Wd A ops g) (hd : Nat.blt d n = true) (hB : BuildOk P t places zs fields z) (hp : evPA A ps.toList = some pv) (hc : PartsC pv pcs) (hf : fillL (fun i => places[i]?) zs pcs = some cs)
  (kk : ∀ tm, S wm n tm H ((d, .agg cs.toArray) :: A) L Fr → wpO P ora wm draw ops rest tm H R) :
  wpO P ora wm draw ops (⟨some d, .build t ps, ty, pos, aft, g⟩ :: rest) tm H R := by
 refine o_run (v := .agg cs.toArray) (H' := H) hS hw rfl ?_ (kk _ (hS.put hd _))
 simp only [aOp, evP_of hS.env hp, Option.bind_some, aBuild, hB.hz, hB.u, hB.k, if_true, hB.p]
 rw [fillL_eq hc (by rw [hB.c]; exact hf)]
 rfl

theorem o_lit {α : Type} {len sz : Nat} {r : Rep α} {ps : Array (Nat × Operand)} {pv : List (Nat × Value)} {pcs : List (Nat × List Value)} {cs : List Value} {l : List α} {elem : TypeId} {z : Value} (hS : S wm n tm H A L Fr) (hw : Wd A ops g) (hd : Nat.blt d n = true) (hB : LitOk P t sz elem z) (hsz : sz = r.sz) (hsm : Nat.ble (len * sz) 16777216 = true) (hp : evPA A ps.toList = some pv) (hc : PartsC pv pcs) (hf : litL sz 0 pcs = some cs) (hpl : pcs.length = len) (hr : RowIn L r cs l) (hlen : l.length = len)
  (kk : ∀ v tm H, S wm n tm H ((d, v) :: A) (.lit r v l :: L) Fr → wpO P ora wm draw ops rest tm H R) :
  wpO P ora wm draw ops (⟨some d, .buildSlice t len ps, ty, pos, aft, g⟩ :: rest) tm H R := by
 subst hlen hsz
 obtain ⟨Z, hI⟩ := hS.inv
 have hr := hr Z _ _ _ hI
 refine o_run (v := .slice (some ⟨H.n, 0, none⟩) l.length l.length) (H' := H.push (.row true false r.sz cs)) hS hw rfl ?_ (kk _ _ _ ((hS.put hd _).withK ⟨Z, hI.add (by simp) (fun b hb => H.get_push_ne _ (by omega)) ⟨H.n, cs, rfl, by simp, hr⟩ (fun b hb => ?_)⟩))
 ·have hsm := Nat.le_of_ble_eq_true hsm
  have hcond : (decide (l.length * r.sz ≤ 2 ^ 24) && constOk z && z.cells.size == r.sz && decide (0 < r.sz)) = true := by rw [hB.k, hB.c]; simp [hB.pos]; omega
  have hfill := litL_eq (len := l.length) hc hf (cells := zeros z (l.length * r.sz)) (by simp [zeros]) (by omega)
  simp only [Nat.zero_mul, List.take_zero, List.nil_append] at hfill
  simp only [aOp, evP_of hS.env hp, Option.bind_some, aBuildSlice, hB.u, hB.s, hB.hz, hcond, if_true, hfill, List.toList_toArray, hr.one]
 ·obtain rfl : H.n = b := by simpa [Ent.blk, blkOf] using hb
  exact ⟨Nat.le_refl _, by simp⟩

theorem o_mk {α : Type} {r : Rep α} {by_ : Nat} {elem : TypeId} {inf : TypeInfo} {zv w : Value} {z : α} {ln cp : Int} {l : List α} (hS : S wm n tm H A L Fr) (hw : Wd A ops g) (hd : Nat.blt d n = true) (hx : evA A x = some (.int .i64 ln)) (hy : evA A y = some (.int .i64 cp))
  (hM : MkOk P t by_ elem inf zv w) (hr1 : r.sz = 1) (hr : ∀ Z, r.rd Z [w] z) (hm : mk by_ z ln cp = some l)
  (kk : ∀ v tm H, S wm n tm H ((d, v) :: A) (.own r v l :: L) Fr → wpO P ora wm draw ops rest tm H R) :
  wpO P ora wm draw ops (⟨some d, .makeSlice t x y, ty, pos, aft, g⟩ :: rest) tm H R :=
 o_mk' hS hw hd hx hy hM.u hM.i ⟨hM.z, hM.k, hM.c, hM.size, hr1⟩ hr (by rw [hM.byb]; exact hm) kk

/-- an element of an array that is a value. -/
theorem o_aidx {cs : Array Value} {w : Value} {i : Int} {kd : IntKind} {len : Nat} {elem : TypeId} {de : TypeDesc} (hS : S wm n tm H A L Fr) (hw : Wd A ops g) (hd : Nat.blt d n = true) (hx : evA A x = some (.agg cs)) (hy : evA A y = some (.int kd i)) (hu : P.underlying t = some (.array len elem)) (hs : sizeOf' P elem = some 1) (hue : P.underlying elem = some de) (hag : isAggD de = false) (hl : cs.size = len) (hi : idx cs.toList i = some w)
  (kk : ∀ tm, S wm n tm H ((d, w) :: A) L Fr → wpO P ora wm draw ops rest tm H R) :
  wpO P ora wm draw ops (⟨some d, .index t x y, ty, pos, aft, g⟩ :: rest) tm H R := by
 obtain ⟨h0, h1, h2⟩ := idx_lt hi
 refine o_run (v := w) (H' := H) hS hw rfl ?_ (kk _ (hS.put hd _))
 simp only [aOp, ev_of hS.env hx, ev_of hS.env hy, aIndex, hu, hs]
 rw [if_pos ⟨h0, by simp at h1; omega⟩]
 simp only [aPart, hue, hag, Nat.mul_one, h2]
 rfl

theorem append_run {α : Type} {Z : ZM} {wm' : Nat} {r : Rep α} {st xt : TypeId} {by_ : Nat} {elem elem2 : TypeId} {inf : TypeInfo} {zv v w : Value} {l m lm : List α} (hE : ElemOk P st xt r.sz by_ elem elem2 inf zv) (hm : slAt H Z r w m) (hl : app by_ l m = some lm)
  (hv : (v = .slice none 0 0 ∧ l = []) ∨ ∃ b o cap gr cells cs, v = .slice (some ⟨b, o, none⟩) l.length cap ∧ b < H.n ∧ H.get b = some (.row true gr r.sz cells) ∧ o + cap * r.sz ≤ cells.length ∧ l.length ≤ cap ∧ cut cells o (l.length * r.sz) = some cs ∧ rowOf r Z cs l ∧ (wm' ≤ b ∨ (gr = false ∧ cap = l.length))) :
  ∃ v' H', aAppend P wm' H st xt v w = some (v', H') ∧ H.n ≤ H'.n ∧ (∀ b, b < H.n → blkOf v ≠ some b → H'.get b = H.get b) ∧ (∀ b, blkOf v' = some b → b < H'.n ∧ (blkOf v = some b ∨ H.n ≤ b)) ∧ (Ent.own r v' lm).ok H' Z := by
 obtain ⟨rfl, hlm⟩ := app_some hl
 have hu := hE.u
 have hi := hE.i
 have hux := hE.ux
 have hz := hE.z
 have hk := hE.k
 have hzs := hE.zs
 have hbb := hE.byb
 subst hbb
 obtain ⟨ds, hc, hr⟩ := hm.cells hE.size
 have hp := hE.pos
 have hb := hE.by_
 have hcond : (constOk zv && zv.cells.size == inf.size && decide (0 < inf.size)) = true := by rw [hk, hzs, hE.size]; simp [hp]
 have hrun : aAppend P wm' H st xt v w = aAppend P wm' H st xt v w := rfl
 conv at hrun => rhs; unfold aAppend
 simp only [hu, hux, hi, hc, hz, hcond, if_true] at hrun
 by_cases hm0 : m = []
 ·subst hm0
  have hvs : ∃ a x y, v = .slice a x y := by
   rcases hv with ⟨rfl, _⟩ | ⟨b, o, cap, gr, cells, cs, rfl, _⟩ <;> exact ⟨_, _, _, rfl⟩
  obtain ⟨a, x, y, rfl⟩ := hvs
  refine ⟨_, H, hrun.trans rfl, Nat.le_refl _, fun _ _ _ => rfl, fun b hbb => ?_, ?_⟩
  ·rcases hv with ⟨hh, _⟩ | ⟨b', o, cap, gr, cells, cs, hh, hbn, _⟩
   ·rw [hh] at hbb; cases hbb
   ·refine ⟨?_, .inl hbb⟩
    rw [hh] at hbb
    obtain rfl : b' = b := by simpa [blkOf] using hbb
    exact hbn
  ·rw [List.append_nil]
   rcases hv with hh | ⟨b', o, cap, gr, cells, cs, hh, hbn, h1, h2, h3, h4, h5, _⟩
   ·exact .inl hh
   ·exact .inr ⟨b', o, cap, gr, cells, cs, hh, h1, h2, h3, h4, h5⟩
 ·have hmp : 0 < m.length := by cases m <;> simp_all
  have hroom : (l.length + m.length) * inf.bytes ≤ 140737488355328 := by rcases hlm with h | h; exact absurd h hm0; exact h
  have hne : ¬ m.length = 0 := by omega
  rw [if_neg hne] at hrun
  rcases hv with ⟨rfl, rfl⟩ | ⟨b, o, cap, gr, cells, cs, rfl, hbn, hg, h2, h3, h4, h5, h6⟩
  ·have hrm : roomy m.length inf.bytes = true := by simp [roomy, hb]; simpa using hroom
   simp only [hrm, if_true] at hrun
   refine ⟨_, _, hrun, by simp, fun b hbb _ => H.get_push_ne _ (by omega), fun b hbb => ?_, ?_⟩
   ·obtain rfl : H.n = b := by simpa [blkOf] using hbb
    exact ⟨by simp, .inr (Nat.le_refl _)⟩
   ·refine .inr ⟨H.n, 0, m.length, true, ds, ds, by simp, by rw [AHeap.get_push_new, hE.size], by rw [hr.len]; omega, by simp, ?_, hr⟩
    exact cut_zero (by simp [hr.len])
  ·simp only [hg, hE.size, ne_eq, not_true, if_false] at hrun
   by_cases hfit : l.length + m.length ≤ cap
   ·rw [if_pos hfit] at hrun
    have hwb : wm' ≤ b := by rcases h6 with h | ⟨_, h⟩; exact h; omega
    have hln : ds.length = m.length * r.sz := hr.len
    have hlay : ∃ cc, lay cells (o + l.length * r.sz) ds = some cc := by
     unfold lay
     rw [if_pos]
     ·exact ⟨_, rfl⟩
     ·rw [hln, Nat.add_assoc, ← Nat.add_mul]
      exact Nat.le_trans (Nat.add_le_add_left (Nat.mul_le_mul_right _ hfit) _) h2
    obtain ⟨cc, hcc⟩ := hlay
    obtain ⟨hc2, hc3⟩ := lay_cut2 h4 hcc
    simp only [hwb, decide_true, Bool.and_self, if_true, hcc, Option.map_some] at hrun
    refine ⟨_, _, hrun, Nat.le_refl _, fun x hx hne => H.get_set_ne _ (fun hh => hne (by rw [hh]; rfl)), fun x hx => ?_, ?_⟩
    ·obtain rfl : b = x := by simpa [blkOf] using hx
     exact ⟨hbn, .inl rfl⟩
    ·refine .inr ⟨b, o, cap, gr, cc, cs ++ ds, by simp, by simp, by omega, by simpa using hfit, ?_, h5.app hr⟩
     rw [hln, ← Nat.add_mul] at hc2
     simpa using hc2
   ·rw [if_neg hfit] at hrun
    have hrm : roomy (l.length + m.length) inf.bytes = true := by simp [roomy, hb]; exact hroom
    simp only [h4, hrm, Bool.not_true] at hrun
    have hnew : (Ent.own r (.slice (some ⟨H.n, 0, none⟩) (l.length + m.length) (l.length + m.length)) (l ++ m)).ok (H.push (.row true true r.sz (cs ++ ds))) Z := by
     refine .inr ⟨H.n, 0, l.length + m.length, true, cs ++ ds, cs ++ ds, by simp, by simp, ?_, by simp, cut_zero ?_, h5.app hr⟩
     ·rw [(h5.app hr).len]; simp
     ·rw [(h5.app hr).len]
    by_cases hq : (!gr || decide (o + cap * r.sz < cells.length)) = true
    ·rw [if_pos hq] at hrun
     refine ⟨_, _, hrun.trans rfl, by simp, fun b hbb _ => H.get_push_ne _ (by omega), fun x hx => ?_, hnew⟩
     obtain rfl : H.n = x := by simpa [blkOf] using hx
     exact ⟨by simp, .inr (Nat.le_refl _)⟩
    ·rw [if_neg hq] at hrun
     have hwb : wm' ≤ b := by
      rcases h6 with h | ⟨h, _⟩
      ·exact h
      ·rw [h] at hq; simp at hq
     simp only [hwb, decide_true, Bool.and_self, if_true] at hrun
     refine ⟨_, _, hrun.trans rfl, by simp, fun x hx hne => ?_, fun x hx => ?_, ?_⟩
     ·rw [AHeap.get_push_ne _ _ (by simp; omega)]
      exact H.get_set_ne _ (fun hh => hne (by rw [hh]; rfl))
     ·obtain rfl : H.n = x := by simpa [blkOf] using hx
      exact ⟨by simp, .inr (Nat.le_refl _)⟩
     ·refine .inr ⟨H.n, 0, l.length + m.length, true, cs ++ ds, cs ++ ds, by simp, ?_, ?_, by simp, cut_zero ?_, h5.app hr⟩
      ·have : (H.set b .dead).n = H.n := rfl
       rw [← this, AHeap.get_push_new]
      ·rw [(h5.app hr).len]; simp
      ·rw [(h5.app hr).len]

theorem app_op {so xo : Operand} {ts : Array TypeId} {st xt : TypeId} {v w v' : Value} {H' : AHeap} {wm' : Nat} (he : ∀ t v, lk A t = some v → tm[t]? = some v) (hE : ∃ elem, P.underlying xt = some (.slice elem)) (hs : evA A so = some v) (hx : evA A xo = some w) (hts : ts.toList = [st, xt])
  (hrun : aAppend P wm' H st xt v w = some (v', H')) : aOp P wm' tm H (.call ⟨.builtin .append, #[so, xo], ts⟩) = some (v', H') := by
 obtain ⟨elem, hu⟩ := hE
 simp only [aOp, evL, ev_of he hs, ev_of he hx, Option.bind_some, hts, aBuiltin, hu, isIntD]
 simpa using hrun

/-- put behind what may be written. -/
theorem o_app {α : Type} {k1 k2 : Nat} {e : Ent} {r : Rep α} {so xo : Operand} {ts : Array TypeId} {st xt : TypeId} {by_ : Nat} {elem elem2 : TypeId} {inf : TypeInfo} {zv v w : Value} {l m lm : List α} (hS : S wm n tm H A L Fr) (hw : Wd A ops g) (hd : Nat.blt d n = true)
  (hs : evA A so = some v) (hx : evA A xo = some w) (hk1 : L[k1]? = some (.own r v l)) (hk2 : L[k2]? = some e) (he : IsSl e r w m) (hts : ts.toList = [st, xt]) (hE : ElemOk P st xt r.sz by_ elem elem2 inf zv) (hlb : (draw && litBase ops (.call ⟨.builtin .append, #[so, xo], ts⟩)) = false)
  (hl : app by_ l m = some lm)
  (kk : ∀ v' tm H, S wm n tm H ((d, v') :: A) (L.set k1 (.own r v' lm)) Fr → wpO P ora wm draw ops rest tm H R) :
  wpO P ora wm draw ops (⟨some d, .call ⟨.builtin .append, #[so, xo], ts⟩, ty, pos, aft, g⟩ :: rest) tm H R := by
 obtain ⟨Z, hI⟩ := hS.inv
 have ho := hI.ok _ (Kn0.mem hk1)
 obtain ⟨v', H', hrun, h1, h2, h3, h4⟩ := append_run (wm' := wm) hE (hI.slAt hk2 he) hl (v := v) (by
  rcases ho with ho | ⟨b, o, cap, gr, cells, cs, rfl, q1, q2, q3, q4, q5⟩
  ·exact .inl ho
  ·exact .inr ⟨b, o, cap, gr, cells, cs, rfl, (hI.blk _ (Kn0.mem hk1) b rfl).1, q1, q2, q3, q4, q5, .inl (hI.low _ (List.mem_of_getElem? hk1) b rfl)⟩)
 refine o_run (v := v') (H' := H') hS hw rfl ?_ (kk v' _ _ ((hS.put hd v').withK ⟨Z, hI.step hk1 h1 h2 h4 (fun b hb => ?_)⟩))
 ·rw [hlb, if_neg Bool.false_ne_true]; exact app_op hS.env ⟨_, hE.ux⟩ hs hx hts hrun
 ·have := h3 b hb
  refine ⟨this.1, ?_, this.2⟩
  rcases this.2 with h | h
  ·exact hI.low _ (List.mem_of_getElem? hk1) b h
  ·exact Nat.le_trans hI.hwm h
/-- put behind what was written down just now. -/
theorem o_appL {α : Type} {k1 k2 : Nat} {e : Ent} {r : Rep α} {so xo : Operand} {ts : Array TypeId} {st xt : TypeId} {by_ : Nat} {elem elem2 : TypeId} {inf : TypeInfo} {zv v w : Value} {l m lm : List α} (hS : S wm n tm H A L Fr) (hw : Wd A ops g) (hd : Nat.blt d n = true)
  (hs : evA A so = some v) (hx : evA A xo = some w) (hk1 : L[k1]? = some (.lit r v l)) (hk2 : L[k2]? = some e) (he : IsSl e r w m) (hts : ts.toList = [st, xt]) (hE : ElemOk P st xt r.sz by_ elem elem2 inf zv)
  (hl : app by_ l m = some lm)
  (kk : ∀ v' tm H, S wm n tm H ((d, v') :: A) (L.set k1 (.own r v' lm)) Fr → wpO P ora wm draw ops rest tm H R) :
  wpO P ora wm draw ops (⟨some d, .call ⟨.builtin .append, #[so, xo], ts⟩, ty, pos, aft, g⟩ :: rest) tm H R := by
 obtain ⟨Z, hI⟩ := hS.inv
 have ho := hI.ok _ (Kn0.mem hk1)
 obtain ⟨v', H', hrun, h1, h2, h3, h4⟩ := append_run (wm' := if (draw && litBase ops (.call ⟨.builtin .append, #[so, xo], ts⟩)) = true then H.n else wm) hE (hI.slAt hk2 he) hl (v := v) (by
  obtain ⟨b, cells, rfl, q1, q2⟩ := ho
  exact .inr ⟨b, 0, l.length, false, cells, cells, rfl, (hI.blk _ (Kn0.mem hk1) b rfl).1, q1, by rw [q2.len]; omega, Nat.le_refl _, cut_zero q2.len.symm, q2, .inr ⟨rfl, rfl⟩⟩)
 refine o_run (v := v') (H' := H') hS hw rfl ?_ (kk v' _ _ ((hS.put hd v').withK ⟨Z, hI.step hk1 h1 h2 h4 (fun b hb => ?_)⟩))
 ·exact app_op hS.env ⟨_, hE.ux⟩ hs hx hts hrun
 ·have := h3 b hb
  refine ⟨this.1, ?_, this.2⟩
  rcases this.2 with h | h
  ·exact hI.low _ (List.mem_of_getElem? hk1) b h
  ·exact Nat.le_trans hI.hwm h

/-! ### Division -/
theorem quoI_some {k : IntKind} {x y z : Int} (h : quoI k x y = some z) : aInt .quo k x y = some (.int k z) := by
 unfold quoI at h; unfold aInt
 split at h
 ·cases h
 ·rename_i hy; simp only [if_neg hy]; simpa using h
theorem remI_some {k : IntKind} {x y z : Int} (h : remI x y = some z) : aInt .rem k x y = some (.int k z) := by
 unfold remI at h; unfold aInt
 split at h
 ·cases h
 ·rename_i hy; simp only [if_neg hy]; simpa using h
theorem o_quo {ki : IntKind} {a b z : Int} {t2 : TypeId} (hS : S wm n tm H A L Fr) (hw : Wd A ops g) (hd : Nat.blt d n = true) (hx : evA A x = some (.int ki a)) (hy : evA A y = some (.int ki b)) (hz : quoI ki a b = some z)
  (kk : ∀ tm, S wm n tm H ((d, .int ki z) :: A) L Fr → wpO P ora wm draw ops rest tm H R) :
  wpO P ora wm draw ops (⟨some d, .binOp .quo t x y t2, ty, pos, aft, g⟩ :: rest) tm H R := by
 refine o_run (v := .int ki z) (H' := H) hS hw rfl ?_ (kk _ (hS.put hd _))
 simp [aOp, ev_of hS.env hx, ev_of hS.env hy, aBin, quoI_some hz]
theorem o_rem {ki : IntKind} {a b z : Int} {t2 : TypeId} (hS : S wm n tm H A L Fr) (hw : Wd A ops g) (hd : Nat.blt d n = true) (hx : evA A x = some (.int ki a)) (hy : evA A y = some (.int ki b)) (hz : remI a b = some z)
  (kk : ∀ tm, S wm n tm H ((d, .int ki z) :: A) L Fr → wpO P ora wm draw ops rest tm H R) :
  wpO P ora wm draw ops (⟨some d, .binOp .rem t x y t2, ty, pos, aft, g⟩ :: rest) tm H R := by
 refine o_run (v := .int ki z) (H' := H) hS hw rfl ?_ (kk _ (hS.put hd _))
 simp [aOp, ev_of hS.env hx, ev_of hS.env hy, aBin, remI_some hz]

/-! ### Calls -/
def calleeA (A : List (Nat × Value)) (op : Op) : Option (FuncId × List Value) :=
 match op with
 | .call { callee := .value f, args, .. } =>
  match evA A f, evLA A args.toList with
  | some (.func (.func g) first cs), some l => if first.isEmpty then some (g, l ++ cs.toList) else none
  | _, _ => none
 | _ => none
theorem calleeA_sound {op : Op} {f : FuncId} {args : List Value} (he : ∀ t v, lk A t = some v → tm[t]? = some v) (h : calleeA A op = some (f, args)) : isCall op = true ∧ aCallee tm op = some (f, args) := by
 cases op <;> simp only [calleeA] at h <;> try contradiction
 case call c =>
  obtain ⟨cal, as_, ts⟩ := c
  cases cal with
  | builtin b => simp at h
  | invoke r m => simp at h
  | value fo =>
   refine ⟨rfl, ?_⟩
   simp only at h
   split at h
   ·rename_i g first cs l h1 h2
    simp only [aCallee, ev_of he h1, evL_of he h2]
    exact h
   ·cases h

theorem o_call {dd : Tmp} {op : Op} {f : FuncId} {args : List Value} {Pc : Nat → Value → AHeap → Prop} (hS : S wm n tm H A L Fr) (hw : Wd A ops g) (ha : calleeA A op = some (f, args))
  (hf : ∀ wm', wm ≤ wm' → wm' ≤ H.n → wpF P ora wm' f args H (Pc wm'))
  (k : ∀ wm' v H', wm ≤ wm' → Pc wm' v H' → wpO P ora wm draw ops rest (tm.set dd v) H' R) :
  wpO P ora wm draw ops (⟨some dd, op, ty, pos, aft, g⟩ :: rest) tm H R := by
 obtain ⟨hc, ha⟩ := calleeA_sound hS.env ha
 have hwm : wm ≤ H.n := by obtain ⟨Z, hI⟩ := hS.inv; exact hI.hwm
 have hle : wm ≤ (if draw then H.n else wm) ∧ (if draw then H.n else wm) ≤ H.n := by cases draw <;> simp [hwm]
 obtain ⟨v, H1, hs, n1, he1⟩ := hf _ hle.1 hle.2
 obtain ⟨tm', H2, hq, n, he⟩ := k _ v H1 hle.1 hs
 refine ⟨tm', H2, hq, max n n1, fun F d hF hd => ?_⟩
 have hw := hS.wanted hw (o := ⟨some dd, op, ty, pos, aft, g⟩) rfl
 simp only [aOps, hw, if_true, hc, ha, he1 F d (by omega) (by omega)]
 exact he F d (by omega) (by omega)

/-- what a call may look at: nothing of ours yet. -/
theorem S.sel (hS : S wm n tm H A L Fr) {wm' : Nat} (h1 : wm' ≤ H.n) : Kn wm' H [] (L ++ Fr) := by
 obtain ⟨Z, hI⟩ := hS.inv
 exact ⟨Z, h1, hI.z, by simpa using hI.ok, by simpa using hI.blk, by simp, by simpa using hI.dis⟩
/-- .. and a slice that is only read. -/
theorem Kn.ad {α : Type} {wm' : Nat} {La : List Ent} {r : Rep α} {v : Value} {l : List α} (h : Kn wm' H La (L ++ Fr)) (k : Nat) (hk : L[k]? = some (.fz r v l)) : Kn wm' H (.fz r v l :: La) (L ++ Fr) := by
 obtain ⟨Z, hI⟩ := h
 refine ⟨Z, hI.addp (hI.ok _ ?_) rfl⟩
 exact List.mem_append_right _ (List.mem_append_left _ (List.mem_of_getElem? hk))
theorem Kn.adNil {α : Type} {wm' : Nat} {La : List Ent} (h : Kn wm' H La (L ++ Fr)) (r : Rep α) : Kn wm' H (.fz r (.slice none 0 0) [] :: La) (L ++ Fr) := by
 obtain ⟨Z, hI⟩ := h
 exact ⟨Z, hI.addp (.inl ⟨rfl, rfl⟩) rfl⟩
/-- behind a call. -/
theorem S.after {H' : AHeap} {v : Value} {Lr : List Ent} {wm' : Nat} (hS : S wm n tm H A L Fr) (hd : Nat.blt d n = true) (hle : wm ≤ wm') (h : Kn wm' H' Lr (L ++ Fr)) : S wm n (tm.set d v) H' ((d, v) :: A) (Lr ++ L) Fr := by
 obtain ⟨Z, hI⟩ := hS.inv
 obtain ⟨Z', hI'⟩ := h
 refine (hS.put hd v).withK (H' := H') ⟨Z', Nat.le_trans hle hI'.hwm, hI'.z, by simpa using hI'.ok, by simpa using hI'.blk, fun e he b hb => ?_, by simpa using hI'.dis⟩
 rcases List.mem_append.mp he with h | h
 ·exact Nat.le_trans hle (hI'.low e h b hb)
 ·exact hI.low e h b hb

/-! ### Knowledge, cut down -/
theorem S.keep {A' : List (Nat × Value)} {L' : List Ent} (hS : S wm n tm H A L Fr) (hA : ∀ t v, lk A' t = some v → lk A t = some v) (hL : Kn wm H L Fr → Kn wm H L' Fr) : S wm n tm H A' L' Fr := ⟨hS.len, fun t v h => hS.env t v (hA t v h), hL hS.inv⟩
theorem ka_nil : ∀ t v, lk [] t = some v → lk A t = some v := fun t v h => by cases h
theorem ka_cons {A' : List (Nat × Value)} {i : Nat} {u : Value} (h : lk A i = some u) (k : ∀ t v, lk A' t = some v → lk A t = some v) : ∀ t v, lk ((i, u) :: A') t = some v → lk A t = some v := by
 intro t v ht
 simp only [lk] at ht
 cases hb : Nat.beq i t with
 | true => rw [hb] at ht; rw [← Nat.eq_of_beq_eq_true hb, h]; exact ht
 | false => rw [hb] at ht; exact k t v ht
theorem Kn.sub {L' : List Ent} (h : Kn wm H L Fr) (hs : L'.Sublist L) : Kn wm H L' Fr := by
 obtain ⟨Z, hI⟩ := h
 exact ⟨Z, hI.sub hs⟩
theorem Kn.perm {L' : List Ent} (h : Kn wm H L Fr) (hs : L.Perm L') : Kn wm H L' Fr := by
 obtain ⟨Z, hI⟩ := h
 have hp : (L ++ Fr).Perm (L' ++ Fr) := hs.append_right Fr
 refine ⟨Z, hI.hwm, hI.z, fun e he => hI.ok e (hp.mem_iff.mpr he), fun e he => hI.blk e (hp.mem_iff.mpr he), fun e he => hI.low e (hs.mem_iff.mpr he), ?_⟩
 refine hI.dis.perm hp ?_
 intro a b hab x hb ha
 exact hab x ha hb
/-- an entry, brought to the front. -/
theorem Kn.pull (h : Kn wm H L Fr) (k : Nat) {e : Ent} (hk : L[k]? = some e) : Kn wm H (e :: L.eraseIdx k) Fr := by
 refine h.perm ?_
 clear h
 induction L generalizing k with
 | nil => simp at hk
 | cons a L ih =>
  cases k with
  | zero => simp at hk; subst hk; exact List.Perm.refl _
  | succ k => exact ((ih k (by simpa using hk)).cons a).trans (List.Perm.swap e a _)
theorem Kn.take (h : Kn wm H L Fr) (k : Nat) : Kn wm H (L.take k) Fr := h.sub (List.take_sublist k L)
/-- a thing that is only read, told twice. -/
theorem Kn.dup {α : Type} {r : Rep α} {v : Value} {l : List α} (h : Kn wm H L Fr) (k : Nat) (hk : L[k]? = some (.fz r v l)) : Kn wm H (.fz r v l :: L) Fr := by
 obtain ⟨Z, hI⟩ := h
 exact ⟨Z, hI.addp (hI.ok _ (Kn0.mem hk)) rfl⟩

/-! ### Code -/
variable {Q : AEx → List Value → AHeap → Prop}
theorem c_reg {id : Nat} {b : Code} (h : ∀ R : List Value → AHeap → Prop, (∀ tm H, wpC P ora wm b tm H Q → R tm H) → wpO P ora wm draw ops ops.toList tm H R) : wpC P ora wm (.seq (.region id ops draw) b) tm H Q :=
 wpC.seq (wpC.region (h _ fun tm H hh => hh))
theorem c_reg1 {id : Nat} (h : ∀ R : List Value → AHeap → Prop, (∀ tm H, Q .normal tm H → R tm H) → wpO P ora wm draw ops ops.toList tm H R) : wpC P ora wm (.region id ops draw) tm H Q :=
 wpC.region (h _ fun tm H hh => hh)
theorem c_cond {c : Operand} {a b : Code} {e : Bool} (hS : S wm n tm H A L Fr) (hc : evA A c = some (.bool e)) (ha : e = true → wpC P ora wm a tm H Q) (hb : e = false → wpC P ora wm b tm H Q) : wpC P ora wm (.cond c a b) tm H Q :=
 wpC.cond (ev_of hS.env hc) ha hb
/-- code behind code, where both ways come together. -/
theorem c_seqJ {a b : Code} {J : List Value → AHeap → Prop} (h : wpC P ora wm a tm H (fun ex tm' H' => match ex with | .normal => J tm' H' | .exit i => Q (.exit i) tm' H' | .ret => Q .ret tm' H')) (k : ∀ tm' H', J tm' H' → wpC P ora wm b tm' H' Q) : wpC P ora wm (.seq a b) tm H Q := by
 refine wpC.seq (h.mono fun ex tm' H' hq => ?_)
 cases ex with
 | normal => exact k _ _ hq
 | exit i => exact hq
 | ret => exact hq
theorem c_seqS {a b : Code} (h : wpC P ora wm a tm H (seqQ P ora wm b Q)) : wpC P ora wm (.seq a b) tm H Q := wpC.seq h

theorem iterN_step {σ β : Type} {f : σ → Option (Ctl σ β)} {N : Nat} {s : σ} {b : β} (h : iterN f (N + 1) s = some b) : (∃ s', f s = some (.next s') ∧ iterN f N s' = some b) ∨ f s = some (.done b) := by
 simp only [iterN] at h
 split at h
 ·cases h
 ·rename_i s' hs; exact .inl ⟨s', hs, h⟩
 ·rename_i b' hs; obtain rfl := Option.some.inj h; exact .inr hs

/-- a loop, beside the plain one. -/
theorem c_loop {σ β : Type} {body : Code} {f : σ → Option (Ctl σ β)} {s : σ} {b : β} (I : σ → List Value → AHeap → Prop) (h : wloop f s = some b) (hi : I s tm H)
  (step : ∀ s tm H c, I s tm H → f s = some c → (∀ b', c = .done b' → b' = b) → wpC P ora wm body tm H (fun ex tm' H' => match ex with | .normal => ∃ s', c = .next s' ∧ I s' tm' H' | .exit i => c = .done b ∧ Q (.exit i) tm' H' | .ret => c = .done b ∧ Q .ret tm' H')) :
  wpC P ora wm (.loop body) tm H Q := by
 obtain ⟨N, hN⟩ := wloop_iff.mp h
 refine wpC.loop (fun k tm H => ∃ s, I s tm H ∧ iterN f k s = some b) (fun k tm H hk => ?_) N ⟨s, hi, hN⟩
 obtain ⟨s, hi, hk⟩ := hk
 cases k with
 | zero => simp [iterN] at hk
 | succ k =>
  rcases iterN_step hk with ⟨s', hf, hr⟩ | hf
  ·refine (step s tm H _ hi hf (fun b' hb => by cases hb)).mono fun ex tm' H' hq => ?_
   cases ex with
   | normal =>
    obtain ⟨s2, h1, h2⟩ := hq
    cases h1
    exact ⟨k, by omega, s', h2, hr⟩
   | exit i => exact absurd hq.1 (by simp)
   | ret => exact absurd hq.1 (by simp)
  ·refine (step s tm H _ hi hf (fun b' hb => by cases hb; rfl)).mono fun ex tm' H' hq => ?_
   cases ex with
   | normal =>
    obtain ⟨s2, h1, h2⟩ := hq
    cases h1
   | exit i => exact hq.2
   | ret => exact hq.2

/-! ### Functions -/
def enumA : Nat → List Value → List (Nat × Value)
 | _, [] => []
 | i, v :: l => (i, v) :: enumA (i + 1) l
theorem lk_enum : ∀ (l : List Value) (i t : Nat) (v : Value), lk (enumA i l) t = some v → i ≤ t ∧ l[t - i]? = some v
 | [], i, t, v, h => by cases h
 | u :: l, i, t, v, h => by
  simp only [enumA, lk] at h
  cases hb : Nat.beq i t with
  | true =>
   rw [hb] at h
   have := Nat.eq_of_beq_eq_true hb
   subst this
   simp at h; subst h
   exact ⟨Nat.le_refl _, by simp⟩
  | false =>
   rw [hb] at h
   obtain ⟨h1, h2⟩ := lk_enum l (i + 1) t v h
   refine ⟨by omega, ?_⟩
   rw [show t - i = (t - (i + 1)) + 1 by omega]
   simpa using h2
theorem f_enter {f : FuncId} {fn : Func} {c : Code} {args : List Value} {A : List (Nat × Value)} {Q : Value → AHeap → Prop} (hf : P.funcs[f]? = some fn) (hb : fn.body = some c) (ho : (ora f && args.isEmpty) = false) (hI : Kn wm H L Fr) (hn : fn.ntmps = n) (hl : Nat.ble args.length n = true) (hA : enumA 0 args = A)
  (h : ∀ tm, S wm n tm H A L Fr → wpC P ora wm c tm H (endQ P fn.results.toList Q)) (hni : isInsF fn = false := by kernel_rfl) : wpF P ora wm f args H Q := by
 have hl := Nat.le_of_ble_eq_true hl
 subst hn hA
 refine wpF.enter hf hb ho hni (h _ ⟨by simp; omega, fun t v ht => ?_, hI⟩)
 obtain ⟨_, h2⟩ := lk_enum _ _ _ _ ht
 simp only [Nat.sub_zero] at h2
 rw [List.getElem?_append_left (List.getElem?_eq_some_iff.mp h2).1]
 exact h2

theorem rs_nil : ress P tm H [] = some [] := rfl
theorem rs_tmp {t : Tmp} {v : Value} {rs : List ResultVar} {vs : List Value} (hS : S wm n tm H A L Fr) (h : lk A t = some v) (k : ress P tm H rs = some vs) : ress P tm H (.tmp t :: rs) = some (v :: vs) := by
 have := hS.env t v h
 simp [ress, resOf, List.getD, this, k]
theorem rs_cellA {e : Ent} {a ty b k sz : Nat} {off : Nat} {cells l : List Value} {de : TypeDesc} {rs : List ResultVar} {vs : List Value} (hS : S wm n tm H A L Fr) (ha : lk A a = some (.pointer (some ⟨b, off, none⟩))) (hk : L[k]? = some e) (hb : IsBox e b cells)
  (hu : P.underlying ty = some de) (hag : isAggD de = true) (hs : sizeOf' P ty = some sz) (hv : cut cells off sz = some l) (h : ress P tm H rs = some vs) : ress P tm H (.cell a ty :: rs) = some (.agg l.toArray :: vs) := by
 have h1 := hS.env a _ ha
 obtain ⟨sz', hg⟩ := hS.inv.boxAt hk hb
 obtain ⟨i, hi, rfl⟩ := size_info hs
 simp [ress, resOf, List.getD, h1, aLoad, hg, hu, hag, hi, hv, h]
theorem rs_cell1 {e : Ent} {a ty b k : Nat} {off : Nat} {cells : List Value} {v : Value} {de : TypeDesc} {rs : List ResultVar} {vs : List Value} (hS : S wm n tm H A L Fr) (ha : lk A a = some (.pointer (some ⟨b, off, none⟩))) (hk : L[k]? = some e) (hb : IsBox e b cells)
  (hu : P.underlying ty = some de) (hag : isAggD de = false) (hv : cells[off]? = some v) (h : ress P tm H rs = some vs) : ress P tm H (.cell a ty :: rs) = some (v :: vs) := by
 have h1 := hS.env a _ ha
 obtain ⟨sz', hg⟩ := hS.inv.boxAt hk hb
 simp [ress, resOf, List.getD, h1, aLoad, hg, hu, hag, hv, h]
end rules
end Go.Am

namespace Go.Am

structure Found where
 shape : List Int
 offsets : List Int
structure Side where
 v : Val
 s : List Int
 n : Int
 size : Int
 across : Int
 inside : Int

theorem sc {a : Ent} {l1 l2 : List Ent} (h : l1.Sublist l2) : (a :: l1).Sublist (a :: l2) := h.cons_cons a
theorem sd {a : Ent} {l1 l2 : List Ent} (h : l1.Sublist l2) : l1.Sublist (a :: l2) := h.cons a
theorem sn {l : List Ent} : List.Sublist [] l := List.nil_sublist l
theorem sr {l : List Ent} : List.Sublist l l := List.Sublist.refl l
theorem joinN {σ β : Type} {s : σ} {f : σ → Option β} {c : β} (h : joinK (.next s) f = some c) : f s = some c := h
section rules
variable {P : Program} {ora : FuncId → Bool} {wm n : Nat} {tm : List Value} {H : AHeap} {A : List (Nat × Value)} {L Fr : List Ent}
variable {draw : Bool} {ops : Array Oper} {rest : List Oper} {R : List Value → AHeap → Prop} {Q : AEx → List Value → AHeap → Prop}
variable {d : Tmp} {t ty : TypeId} {x y : Operand} {pos : String} {aft : Array Edge} {g : Option (Nat × Bool)}

theorem o_cutN (m : Nat) {l : List Oper} {J : List Value → AHeap → Prop} (h : wpO P ora wm draw ops (l.take m) tm H J) (k : ∀ tm' H', J tm' H' → wpO P ora wm draw ops (l.drop m) tm' H' R) : wpO P ora wm draw ops l tm H R := by
 have := o_cut h k
 rwa [List.take_append_drop] at this
theorem blk_eq {id : Nat} (h : Q .normal tm H) : blockQ id Q (.exit id) tm H := by simp only [blockQ, if_true]; exact h
theorem seqX {b : Code} {i : Nat} (h : Q (.exit i) tm H) : seqQ P ora wm b Q (.exit i) tm H := h
theorem blk_ne {id i : Nat} (hne : i ≠ id) (h : Q (.exit i) tm H) : blockQ id Q (.exit i) tm H := by simp only [blockQ, if_neg hne]; exact h

theorem S.sliceOf {α : Type} {k : Nat} {e : Ent} {r : Rep α} {v : Value} {l : List α} {i : Int} {z : α} (hS : S wm n tm H A L Fr) (hk : L[k]? = some e) (hs : IsSl e r v l) (hi : idx l i = some z) : ∃ b o len cap, v = .slice (some ⟨b, o, none⟩) len cap := by
 obtain ⟨Z, hI⟩ := hS.inv
 obtain ⟨b, o, cap, own, gr, cells, c, rfl, _⟩ := (hI.slAt hk hs).el hi
 exact ⟨_, _, _, _, rfl⟩

/-! ### Functions handed in; what may be written, handed in -/
theorem Kn.adB {wm' b : Nat} {La : List Ent} {cells : List Value} (h : Kn wm' H La (L ++ Fr)) (k : Nat) (hk : L[k]? = some (.fbox b cells)) : Kn wm' H (.fbox b cells :: La) (L ++ Fr) := by
 obtain ⟨Z, hI⟩ := h
 exact ⟨Z, hI.addp (hI.ok _ (List.mem_append_right _ (List.mem_append_left _ (List.mem_of_getElem? hk)))) rfl⟩
theorem Kn.adAll {wm' : Nat} {E : List Ent} (h : Kn wm' H [] (L ++ Fr)) (hE : ∀ e ∈ E, e.blk = none) (hm : ∀ e ∈ E, e ∈ L) : Kn wm' H E (L ++ Fr) := by
 obtain ⟨Z, hI⟩ := h
 refine ⟨Z, ?_⟩
 induction E with
 | nil => exact hI
 | cons e E ih =>
  exact (ih (fun a ha => hE a (List.mem_cons_of_mem _ ha)) (fun a ha => hm a (List.mem_cons_of_mem _ ha))).addp (hI.ok e (List.mem_append_right _ (List.mem_append_left _ (hm e List.mem_cons_self)))) (hE e List.mem_cons_self)
theorem o_callO {dd : Tmp} {op : Op} {f : FuncId} {args : List Value} {Pc : Value → AHeap → Prop} (hS : S wm n tm H A L Fr) (hw : Wd A ops g) (ha : calleeA A op = some (f, args)) (hdr : draw = false)
  (hf : wpF P ora wm f args H Pc)
  (k : ∀ v H', Pc v H' → wpO P ora wm draw ops rest (tm.set dd v) H' R) :
  wpO P ora wm draw ops (⟨some dd, op, ty, pos, aft, g⟩ :: rest) tm H R := by
 subst hdr
 obtain ⟨hc, ha⟩ := calleeA_sound hS.env ha
 obtain ⟨v, H1, hs, n1, he1⟩ := hf
 obtain ⟨tm', H2, hq, n, he⟩ := k v H1 hs
 refine ⟨tm', H2, hq, max n n1, fun F d hF hd => ?_⟩
 have hw := hS.wanted hw (o := ⟨some dd, op, ty, pos, aft, g⟩) rfl
 simp only [aOps, hw, if_true, hc, ha, Bool.false_eq_true, if_false, he1 F d (by omega) (by omega)]
 exact he F d (by omega) (by omega)
theorem S.selO {α : Type} {r : Rep α} {v : Value} {l : List α} (hS : S wm n tm H A L Fr) (k : Nat) (hk : L[k]? = some (.own r v l)) : Kn wm H [.own r v l] (L.eraseIdx k ++ Fr) := by
 obtain ⟨Z, hI⟩ := hS.inv.pull k hk
 refine ⟨Z, hI.hwm, hI.z, by simpa using hI.ok, by simpa using hI.blk, fun e he => hI.low e ?_, by simpa using hI.dis⟩
 simp at he; simp [he]
theorem S.front (hS : S wm n tm H A L Fr) (k : Nat) {e : Ent} (hk : L[k]? = some e) : S wm n tm H A (e :: L.eraseIdx k) Fr := hS.withK (hS.inv.pull k hk)
theorem S.selN (hS : S wm n tm H A L Fr) (k : Nat) : Kn wm H (L.take k) (L.drop k ++ Fr) := by
 obtain ⟨Z, hI⟩ := hS.inv
 have e : L.take k ++ (L.drop k ++ Fr) = L ++ Fr := by rw [← List.append_assoc, List.take_append_drop]
 exact ⟨Z, hI.hwm, hI.z, by rw [e]; exact hI.ok, by rw [e]; exact hI.blk, fun e he => hI.low e (List.mem_of_mem_take he), by rw [e]; exact hI.dis⟩
theorem S.afterN {H' : AHeap} {v : Value} {Lr : List Ent} {k : Nat} (hS : S wm n tm H A L Fr) (hd : Nat.blt d n = true) (h : Kn wm H' Lr (L.drop k ++ Fr)) : S wm n (tm.set d v) H' ((d, v) :: A) (Lr ++ L.drop k) Fr := by
 obtain ⟨Z, hI⟩ := hS.inv
 obtain ⟨Z', hI'⟩ := h
 refine (hS.put hd v).withK (H' := H') ⟨Z', hI'.hwm, hI'.z, by simpa using hI'.ok, by simpa using hI'.blk, fun e he b hb => ?_, by simpa using hI'.dis⟩
 rcases List.mem_append.mp he with h | h
 ·exact hI'.low e h b hb
 ·exact hI.low e (List.mem_of_mem_drop h) b hb
theorem S.afterO {H' : AHeap} {v : Value} {Lr : List Ent} {k : Nat} (hS : S wm n tm H A L Fr) (hd : Nat.blt d n = true) (h : Kn wm H' Lr (L.eraseIdx k ++ Fr)) : S wm n (tm.set d v) H' ((d, v) :: A) (Lr ++ L.eraseIdx k) Fr := by
 obtain ⟨Z, hI⟩ := hS.inv
 obtain ⟨Z', hI'⟩ := h
 refine (hS.put hd v).withK (H' := H') ⟨Z', hI'.hwm, hI'.z, by simpa using hI'.ok, by simpa using hI'.blk, fun e he b hb => ?_, by simpa using hI'.dis⟩
 rcases List.mem_append.mp he with h | h
 ·exact hI'.low e h b hb
 ·exact hI.low e (List.mem_of_mem_eraseIdx h) b hb

/-- is a slice nil? -/
theorem o_nilcmp {α : Type} {k : Nat} {e : Ent} {r : Rep α} {v : Value} {l : List α} {elem : TypeId} {t2 : TypeId} (hS : S wm n tm H A L Fr) (hw : Wd A ops g) (hd : Nat.blt d n = true) (hx : evA A x = some v) (hy : evA A y = some (.slice none 0 0)) (hk : L[k]? = some e) (hs : IsSl e r v l) (hu : P.underlying t = some (.slice elem))
  (k1 : l = [] → ∀ tm, S wm n tm H ((d, .bool true) :: A) L Fr → wpO P ora wm draw ops rest tm H R)
  (k2 : ∀ tm, S wm n tm H ((d, .bool false) :: A) L Fr → wpO P ora wm draw ops rest tm H R) :
  wpO P ora wm draw ops (⟨some d, .binOp .eql t x y t2, ty, pos, aft, g⟩ :: rest) tm H R := by
 obtain ⟨Z, hI⟩ := hS.inv
 rcases hI.slAt hk hs with ⟨rfl, rfl⟩ | ⟨b, o, cap, own, gr, cells, cs, rfl, h4, h5, h6, h7⟩
 ·refine o_run (v := .bool true) (H' := H) hS hw rfl ?_ (k1 rfl _ (hS.put hd _))
  simp [aOp, ev_of hS.env hx, ev_of hS.env hy, aBin, aEq, hu]
 ·refine o_run (v := .bool false) (H' := H) hS hw rfl ?_ (k2 _ (hS.put hd _))
  simp [aOp, ev_of hS.env hx, ev_of hS.env hy, aBin, aEq, hu]
/-- a byte of a text. -/
theorem o_sidx {s : ByteArray} {kd : IntKind} {i z : Int} (hS : S wm n tm H A L Fr) (hw : Wd A ops g) (hd : Nat.blt d n = true) (hx : evA A x = some (.string s)) (hy : evA A y = some (.int kd i)) (hu : P.underlying t = some .string) (hz : sidx s i = some z)
  (kk : ∀ tm, S wm n tm H ((d, .int .u8 z) :: A) L Fr → wpO P ora wm draw ops rest tm H R) :
  wpO P ora wm draw ops (⟨some d, .index t x y, ty, pos, aft, g⟩ :: rest) tm H R := by
 refine o_run (v := .int .u8 z) (H' := H) hS hw rfl ?_ (kk _ (hS.put hd _))
 unfold sidx at hz
 split at hz
 ·rename_i h0
  cases hb : s[i.toNat]? with
  | none => simp [hb] at hz
  | some b =>
   simp [hb] at hz; subst hz
   simp only [aOp, ev_of hS.env hx, ev_of hS.env hy, aIndex, hu, h0, if_true, hb]
   rfl
 ·cases hz
/-- a part of a text. -/
theorem o_ssub {s z : ByteArray} {lo hi : Option Int} {xlo xhi : Option Operand} (hS : S wm n tm H A L Fr) (hw : Wd A ops g) (hd : Nat.blt d n = true) (hx : evA A x = some (.string s)) (hu : P.underlying t = some .string) (hlo : optA A xlo = some lo) (hhi : optA A xhi = some hi) (hz : ssub s (lo.getD 0) (hi.getD s.size) = some z)
  (kk : ∀ tm, S wm n tm H ((d, .string z) :: A) L Fr → wpO P ora wm draw ops rest tm H R) :
  wpO P ora wm draw ops (⟨some d, .slice t x xlo xhi none, ty, pos, aft, g⟩ :: rest) tm H R := by
 refine o_run (v := .string z) (H' := H) hS hw rfl ?_ (kk _ (hS.put hd _))
 obtain ⟨vlo, hvlo, hblo⟩ := optA_ev hS.env hlo
 obtain ⟨vhi, hvhi, hbhi⟩ := optA_ev hS.env hhi
 have hmx : evL tm (none : Option Operand).toList = some [] := rfl
 unfold ssub at hz
 split at hz
 case isFalse => cases hz
 rename_i hh
 obtain rfl := Option.some.inj hz
 have hb1 := hbhi s.size (fun j hj => by subst hj; simp at hh; omega)
 have e1 : (hi.map Int.toNat).getD s.size = (hi.getD s.size).toNat := by cases hi <;> simp
 have e2 : (lo.map Int.toNat).getD 0 = (lo.getD 0).toNat := by cases lo <;> simp
 have hb2 := hblo (hi.getD s.size).toNat (fun j hj => by subst hj; simp at hh; omega)
 simp only [aOp, ev_of hS.env hx, hvlo, hvhi, hmx, aSlice, hu, List.head?_nil, hb1, e1, hb2, e2]
 simp

def f2i (k : IntKind) (b : Nat) : Option Int :=
 match (FloatKind.f64.decode b).toInt .zero with
 | some n => if k.min ≤ n ∧ n ≤ k.max then some n else none
 | none => none
theorem o_f2i {b : Nat} {k : IntKind} {fk : FloatKind} {t2 : TypeId} {z : Int} (hS : S wm n tm H A L Fr) (hw : Wd A ops g) (hd : Nat.blt d n = true) (hx : evA A x = some (.float .f64 b)) (hu : P.underlying t = some (.float fk)) (hu2 : P.underlying t2 = some (.int k)) (hz : f2i k b = some z)
  (kk : ∀ tm, S wm n tm H ((d, .int k z) :: A) L Fr → wpO P ora wm draw ops rest tm H R) :
  wpO P ora wm draw ops (⟨some d, .convert t t2 x, ty, pos, aft, g⟩ :: rest) tm H R := by
 refine o_run (v := .int k z) (H' := H) hS hw rfl ?_ (kk _ (hS.put hd _))
 unfold f2i at hz
 simp only [aOp, ev_of hS.env hx, Option.bind_some, aConv, hu, hu2]
 split at hz
 ·rename_i m hm
  split at hz
  ·rename_i hh
   obtain rfl := Option.some.inj hz
   simp only [hm, if_pos hh]
  ·cases hz
 ·cases hz
theorem o_cmul {a b c e : Nat} {t2 : TypeId} {z : Nat × Nat} (hS : S wm n tm H A L Fr) (hw : Wd A ops g) (hd : Nat.blt d n = true) (hx : evA A x = some (.complex .f64 a b)) (hy : evA A y = some (.complex .f64 c e)) (hz : cMul .f64 a b c e = some z)
  (kk : ∀ tm, S wm n tm H ((d, .complex .f64 z.1 z.2) :: A) L Fr → wpO P ora wm draw ops rest tm H R) :
  wpO P ora wm draw ops (⟨some d, .binOp .mul t x y t2, ty, pos, aft, g⟩ :: rest) tm H R := by
 refine o_run (v := .complex .f64 z.1 z.2) (H' := H) hS hw rfl ?_ (kk _ (hS.put hd _))
 simp only [aOp, ev_of hS.env hx, ev_of hS.env hy, aBin, hz, Option.map_some]
theorem idx_map {α β : Type} {f : α → β} {l : List α} {i : Int} {z : α} (h : idx l i = some z) : idx (l.map f) i = some (f z) := by
 unfold idx at h ⊢
 split at h
 ·rename_i h0; rw [if_pos h0]; simp [h]
 ·cases h

/-- equality of structs of two fields, a number and a truth. -/
def eq2b (P : Program) (t : TypeId) : Bool :=
 match P.underlying t with
 | some (.struct fs) =>
  match fs.toList with
  | [f1, f2] =>
   !(P.eqGuardType P.depth t || P.stoodInHeld t) && !(f1.name == "_") && !(f2.name == "_") &&
   (match P.underlying f1.type with | some (.int .i64) => true | _ => false) && (match P.underlying f2.type with | some .bool => true | _ => false) && f1.offset == 0 && f2.offset == 1
  | _ => false
 | _ => false
def Eq2Ok (P : Program) (t : TypeId) : Prop := eq2b P t = true
theorem aEq2 {a c : Int} {b e : Bool} (h : Eq2Ok P t) : aEq P t (.agg #[.int .i64 a, .bool b]) (.agg #[.int .i64 c, .bool e]) = some ((a == c) && (b == e)) := by
 unfold Eq2Ok eq2b at h
 split at h
 case h_2 => cases h
 rename_i fs hu
 split at h
 case h_2 => cases h
 rename_i f1 f2 hfs
 simp only [Bool.and_eq_true, beq_iff_eq] at h
 obtain ⟨⟨⟨⟨⟨⟨h2, h3⟩, h4⟩, h5⟩, h6⟩, h7⟩, h8⟩ := h
 have h5' : P.underlying f1.type = some (.int .i64) := by
  split at h5
  ·assumption
  ·cases h5
 have h6' : P.underlying f2.type = some .bool := by
  split at h6
  ·assumption
  ·cases h6
 have h2' : (P.eqGuardType P.depth t || P.stoodInHeld t) = false := by simpa using h2
 have h3' : f1.name ≠ "_" := by simpa using h3
 have h4' : f2.name ≠ "_" := by simpa using h4
 simp only [aEq, hu, h2', Bool.false_eq_true, if_false, hfs]
 simp only [eqF, ne_eq, h3', h4', not_false_eq_true, if_true, h5', h6', h7, h8]
 simp only [List.getElem?_cons_zero, List.getElem?_cons_succ, eq1, if_true]
 cases h : (a == c) <;> cases h' : (b == e) <;> simp
theorem o_eq2 {a c : Int} {b e : Bool} {t2 : TypeId} (hS : S wm n tm H A L Fr) (hw : Wd A ops g) (hd : Nat.blt d n = true) (hx : evA A x = some (.agg #[.int .i64 a, .bool b])) (hy : evA A y = some (.agg #[.int .i64 c, .bool e])) (hE : Eq2Ok P t) (hop : BinOp.eql = BinOp.eql)
  (kk : ∀ tm, S wm n tm H ((d, .bool ((a == c) && (b == e))) :: A) L Fr → wpO P ora wm draw ops rest tm H R) :
  wpO P ora wm draw ops (⟨some d, .binOp .eql t x y t2, ty, pos, aft, g⟩ :: rest) tm H R := by
 refine o_run (v := .bool ((a == c) && (b == e))) (H' := H) hS hw rfl ?_ (kk _ (hS.put hd _))
 simp only [aOp, ev_of hS.env hx, ev_of hS.env hy, aBin, aEq2 hE, Option.map_some]
theorem o_eq2n {a c : Int} {b e : Bool} {t2 : TypeId} (hS : S wm n tm H A L Fr) (hw : Wd A ops g) (hd : Nat.blt d n = true) (hx : evA A x = some (.agg #[.int .i64 a, .bool b])) (hy : evA A y = some (.agg #[.int .i64 c, .bool e])) (hE : Eq2Ok P t) (hop : BinOp.eql = BinOp.eql)
  (kk : ∀ tm, S wm n tm H ((d, .bool (!((a == c) && (b == e)))) :: A) L Fr → wpO P ora wm draw ops rest tm H R) :
  wpO P ora wm draw ops (⟨some d, .binOp .neq t x y t2, ty, pos, aft, g⟩ :: rest) tm H R := by
 refine o_run (v := .bool (!((a == c) && (b == e)))) (H' := H) hS hw rfl ?_ (kk _ (hS.put hd _))
 simp only [aOp, ev_of hS.env hx, ev_of hS.env hy, aBin, aEq2 hE, Option.map_some]

/-- bytes as a text. -/
def strOf (l : List Int) : ByteArray := ⟨(l.map fun n => UInt8.ofNat n.toNat).toArray⟩
theorem bytesOf_row {Z : ZM} : ∀ {l : List Int} {cs : List Value}, rowOf (rI .u8) Z cs l → bytesOf cs = some (l.map fun n => UInt8.ofNat n.toNat)
 | [], cs, h => by simp only [rowOf] at h; subst h; rfl
 | x :: l, cs, h => by
  obtain ⟨c, cs', rfl, h1, h2⟩ := h
  obtain rfl : c = [.int .u8 x] := h1
  simp [bytesOf, bytesOf_row h2]
theorem o_bstr {k : Nat} {e : Ent} {v : Value} {l : List Int} {elem t2 : TypeId} (hS : S wm n tm H A L Fr) (hw : Wd A ops g) (hd : Nat.blt d n = true) (hx : evA A x = some v) (hk : L[k]? = some e) (hs : IsSl e (rI .u8) v l)
  (hu : P.underlying t = some (.slice elem)) (hue : P.underlying elem = some (.int .u8)) (hu2 : P.underlying t2 = some .string)
  (kk : ∀ tm, S wm n tm H ((d, .string (strOf l)) :: A) L Fr → wpO P ora wm draw ops rest tm H R) :
  wpO P ora wm draw ops (⟨some d, .convert t t2 x, ty, pos, aft, g⟩ :: rest) tm H R := by
 obtain ⟨Z, hI⟩ := hS.inv
 refine o_run (v := .string (strOf l)) (H' := H) hS hw rfl ?_ (kk _ (hS.put hd _))
 rcases hI.slAt hk hs with ⟨rfl, rfl⟩ | ⟨b, o, cap, own, gr, cells, cs, rfl, h4, h5, h6, h7⟩
 ·simp only [aOp, ev_of hS.env hx, Option.bind_some, aConv, hu, hue, hu2]
  rfl
 ·have h6' : cut cells o l.length = some cs := by simpa [rI] using h6
  simp only [aOp, ev_of hS.env hx, Option.bind_some, aConv, hu, hue, hu2, h5, h6', bytesOf_row h7, Option.map_some]
  rfl

/-! ### What may be written, lent to be read -/
def LendOk (L : List Ent) (e : Ent) : Prop := (e.blk = none ∧ e ∈ L) ∨ ∃ (α : Type) (r : Rep α) (v : Value) (l : List α), e = .fz r v l ∧ (.own r v l ∈ L ∨ .lit r v l ∈ L)
/-- what is the callee's own, and holds nothing of others. -/
def OwnFlat (e : Ent) : Prop := ∃ (α : Type) (r : Rep α) (v : Value) (l : List α), e = .own r v l ∧ ∀ Z Z' c x, r.rd Z c x → r.rd Z' c x
theorem rowOf_flat {α : Type} {r : Rep α} (hf : ∀ Z Z' c x, r.rd Z c x → r.rd Z' c x) {Z Z' : ZM} : ∀ {l : List α} {cs : List Value}, rowOf r Z cs l → rowOf r Z' cs l
 | [], _, h => h
 | _ :: _, _, ⟨c, cs', h0, h1, h2⟩ => ⟨c, cs', h0, hf _ _ _ _ h1, rowOf_flat hf h2⟩
open Classical in
theorem Kn.lendR {La : List Ent} {wm' : Nat} (h : Kn wm H L Fr) (hLa : ∀ e ∈ La, LendOk L e) (hw0 : wm ≤ wm') (hw : wm' ≤ H.n) : ∃ F', Kn wm' H La F' ∧ ∀ H' Lr, (∀ e ∈ Lr, OwnFlat e) → Kn wm' H' Lr F' → Kn wm H' (Lr ++ L) Fr := by
 obtain ⟨Z, h⟩ := h
 let isL : Nat → Prop := fun x => ∃ e ∈ L, e.blk = some x
 let Z' : ZM := fun x => if isL x then H.get x else Z x
 let raws : List Ent := Fr.filterMap fun e => e.blk.bind fun b => (H.get b).map fun o => Ent.raw b o
 have hle : ZM.le Z Z' := by
  intro x o hx
  show (if isL x then H.get x else Z x) = some o
  split
  ·exact (h.z x o hx).2
  ·exact hx
 have hmk : ∀ {a u : Ent}, (a.blk.bind fun b => (H.get b).map fun o => Ent.raw b o) = some u → ∃ b o, a.blk = some b ∧ H.get b = some o ∧ u = .raw b o := by
  intro a u hb
  obtain ⟨b, h1, h2⟩ := Option.bind_eq_some_iff.mp hb
  obtain ⟨o, h3, h4⟩ := Option.map_eq_some_iff.mp h2
  exact ⟨b, o, h1, h3, h4.symm⟩
 have hmemraw : ∀ e ∈ raws, ∃ a ∈ Fr, ∃ b o, a.blk = some b ∧ H.get b = some o ∧ e = .raw b o := by
  intro e he
  obtain ⟨a, ha, hb⟩ := List.mem_filterMap.mp he
  obtain ⟨b, o, h1, h2, h3⟩ := hmk hb
  exact ⟨a, ha, b, o, h1, h2, h3⟩
 have hFrL : ∀ a ∈ Fr, ∀ b, a.blk = some b → ¬ isL b := by
  intro a ha b hb ⟨e, he, heb⟩
  exact (List.pairwise_append.mp h.dis).2.2 e he a ha b heb hb
 refine ⟨raws ++ [.zall Z'], ⟨Z', hw, fun x o hx => ?_, fun e he => ?_, fun e he b hb => ?_, fun e he b hb => ?_, ?_⟩, ?_⟩
 ·by_cases hl : isL x
  ·have : Z' x = H.get x := if_pos hl
   rw [this] at hx
   obtain ⟨e, he, heb⟩ := hl
   exact ⟨(h.blk e (List.mem_append_left _ he) x heb).1, hx⟩
  ·have : Z' x = Z x := if_neg hl
   rw [this] at hx
   exact h.z x o hx
 ·rcases List.mem_append.mp he with he | he
  ·rcases hLa e he with ⟨hn, hm⟩ | ⟨α, r, v, l, rfl, hm⟩
   ·exact Ent.ok_of (fun b hb => absurd (hn.symm.trans hb) (by simp)) hle (h.ok e (List.mem_append_left _ hm))
   ·rcases hm with hm | hm
    ·rcases h.ok _ (List.mem_append_left _ hm) with ⟨rfl, rfl⟩ | ⟨b, o, cap, gr, cells, cs, rfl, h2, h3, h4, h5, h6⟩
     ·exact .inl ⟨rfl, rfl⟩
     ·refine .inr ⟨b, o, cap, true, gr, cells, cs, rfl, h4, ?_, h5, h6.mono hle⟩
      show (if isL b then H.get b else Z b) = _
      rw [if_pos ⟨_, hm, rfl⟩]; exact h2
    ·obtain ⟨b, cells, rfl, h2, h3⟩ := h.ok _ (List.mem_append_left _ hm)
     refine .inr ⟨b, 0, l.length, true, false, cells, cells, rfl, Nat.le_refl _, ?_, cut_zero h3.len.symm, h3.mono hle⟩
     show (if isL b then H.get b else Z b) = _
     rw [if_pos ⟨_, hm, rfl⟩]; exact h2
  ·rcases List.mem_append.mp he with he | he
   ·obtain ⟨a, ha, b, o, hb, ho, rfl⟩ := hmemraw e he
    exact ho
   ·obtain rfl := List.mem_singleton.mp he
    exact ZM.le_refl Z'
 ·rcases List.mem_append.mp he with he | he
  ·rcases hLa e he with ⟨hn, hm⟩ | ⟨α, r, v, l, rfl, hm⟩
   ·rw [hn] at hb; cases hb
   ·cases hb
  ·rcases List.mem_append.mp he with he | he
   ·obtain ⟨a, ha, c, o, hc, ho, rfl⟩ := hmemraw e he
    obtain rfl : c = b := by simpa [Ent.blk] using hb
    have := h.blk a (List.mem_append_right _ ha) c hc
    refine ⟨this.1, ?_⟩
    show (if isL c then H.get c else Z c) = none
    rw [if_neg (hFrL a ha c hc)]; exact this.2
   ·obtain rfl := List.mem_singleton.mp he
    cases hb
 ·rcases hLa e he with ⟨hn, hm⟩ | ⟨α, r, v, l, rfl, hm⟩
  ·rw [hn] at hb; cases hb
  ·cases hb
 ·refine List.pairwise_append.mpr ⟨?_, ?_, ?_⟩
  ·refine List.pairwise_of_forall_mem_list fun a ha c hc x hx => ?_
   rcases hLa a ha with ⟨hn, hm⟩ | ⟨α, r, v, l, rfl, hm⟩
   ·rw [hn] at hx; cases hx
   ·cases hx
  ·refine List.pairwise_append.mpr ⟨?_, List.pairwise_singleton _ _, fun a ha c hc x hx hx' => ?_⟩
   ·refine List.Pairwise.filterMap _ (fun a c hac u hu w hw x hx hx' => ?_) (List.pairwise_append.mp h.dis).2.1
    obtain ⟨p, o, ha, _, rfl⟩ := hmk hu
    obtain ⟨q, o', hc, _, rfl⟩ := hmk hw
    obtain rfl : p = x := by simpa [Ent.blk] using hx
    obtain rfl : q = p := by simpa [Ent.blk] using hx'
    exact hac q ha hc
   ·obtain rfl := List.mem_singleton.mp hc
    cases hx'
  ·intro a ha c hc x hx
   rcases hLa a ha with ⟨hn, hm⟩ | ⟨α, r, v, l, rfl, hm⟩
   ·rw [hn] at hx; cases hx
   ·cases hx
 ·rintro H' Lr hfl ⟨Z2, h2⟩
  have hz2 : ZM.le Z' Z2 := h2.ok (.zall Z') (by simp)
  have hraw : ∀ e ∈ Fr, ∀ b, e.blk = some b → ∃ o, H.get b = some o ∧ Ent.raw b o ∈ raws := by
   intro e he b hb
   obtain ⟨o, hg⟩ := Ent.has (h.ok e (List.mem_append_right _ he)) hb
   exact ⟨o, hg, List.mem_filterMap.mpr ⟨e, he, by rw [hb]; simp [hg]⟩⟩
  have hget : ∀ e ∈ L ++ Fr, ∀ b, e.blk = some b → b < H'.n ∧ H'.get b = H.get b := by
   intro e he b hb
   rcases List.mem_append.mp he with he | he
   ·have hZ : Z' b = H.get b := if_pos ⟨e, he, hb⟩
    obtain ⟨o, hg⟩ := Ent.has (h.ok e (List.mem_append_left _ he)) hb
    rw [hg] at hZ ⊢
    exact h2.z b o (hz2 b o hZ)
   ·obtain ⟨o, hg, hr⟩ := hraw e he b hb
    have hk : (Ent.raw b o).ok H' Z2 := h2.ok _ (by simp [hr])
    refine ⟨(h2.blk (Ent.raw b o) (by simp [hr]) b rfl).1, ?_⟩
    rw [hg]; exact hk
  have hnew : ∀ e ∈ Lr, ∀ b, e.blk = some b → b < H'.n ∧ Z2 b = none := fun e he b hb => h2.blk e (List.mem_append_left _ he) b hb
  have hzz : ∀ b, Z2 b = none → Z b = none := by
   intro b hb
   cases hz : Z b with
   | none => rfl
   | some o => have := hz2 b o (hle b o hz); rw [hb] at this; cases this
  refine ⟨Z, Nat.le_trans hw0 h2.hwm, fun x o hx => h2.z x o (hz2 x o (hle x o hx)), fun e he => ?_, fun e he b hb => ?_, fun e he b hb => ?_, ?_⟩
  ·rw [List.append_assoc] at he
   rcases List.mem_append.mp he with he | he
   ·have hok := h2.ok e (List.mem_append_left _ he)
    obtain ⟨α, r, v, l, rfl, hf⟩ := hfl e he
    rcases hok with hok | ⟨b, o, cap, gr, cells, cs, q1, q2, q3, q4, q5, q6⟩
    ·exact .inl hok
    ·exact .inr ⟨b, o, cap, gr, cells, cs, q1, q2, q3, q4, q5, rowOf_flat hf q6⟩
   ·exact Ent.ok_of (fun b hb => (hget e he b hb).2) (ZM.le_refl Z) (h.ok e he)
  ·rw [List.append_assoc] at he
   rcases List.mem_append.mp he with he | he
   ·exact ⟨(hnew e he b hb).1, hzz b (hnew e he b hb).2⟩
   ·exact ⟨(hget e he b hb).1, (h.blk e he b hb).2⟩
  ·rcases List.mem_append.mp he with he | he
   ·exact Nat.le_trans hw0 (h2.low e he b hb)
   ·exact h.low e he b hb
  ·rw [List.append_assoc]
   refine List.pairwise_append.mpr ⟨(List.pairwise_append.mp h2.dis).1, h.dis, fun a ha c hc x hx hx' => ?_⟩
   have hn := (hnew a ha x hx).2
   rcases List.mem_append.mp hc with hc | hc
   ·have hZ : Z' x = H.get x := if_pos ⟨c, hc, hx'⟩
    obtain ⟨o, hg⟩ := Ent.has (h.ok c (List.mem_append_left _ hc)) hx'
    rw [hg] at hZ
    rw [hz2 x o hZ] at hn; cases hn
   ·obtain ⟨o, hg, hr⟩ := hraw c hc x hx'
    exact (List.pairwise_append.mp h2.dis).2.2 a ha (Ent.raw x o) (by simp [hr]) x hx rfl
theorem Kn.lend {La : List Ent} {wm' : Nat} (h : Kn wm H L Fr) (hLa : ∀ e ∈ La, LendOk L e) (hw0 : wm ≤ wm') (hw : wm' ≤ H.n) : ∃ F', Kn wm' H La F' ∧ ∀ H', Kn wm' H' [] F' → Kn wm H' L Fr := by
 obtain ⟨F', h1, h2⟩ := h.lendR hLa hw0 hw
 exact ⟨F', h1, fun H' hk => h2 H' [] (fun _ h => by cases h) hk⟩

/-! ### Parts of one block, written in place -/
theorem aSlice_row {elem : TypeId} {b o len cap : Nat} {own gr : Bool} {sz : Nat} {cells : List Value} {vlo vhi vmx : Option Value} {m h l : Option Nat} (hu : P.underlying t = some (.slice elem)) (hs : sizeOf' P elem = some sz) (hg : H.get b = some (.row own gr sz cells))
  (hm : bnd cap vmx = some m) (hmh : (m.isSome && vhi.isNone) = false) (hh : bnd (m.getD cap) vhi = some h) (hl : bnd (h.getD len) vlo = some l) :
  aSlice P H t (.slice (some ⟨b, o, none⟩) len cap) vlo vhi vmx = some (.slice (some ⟨b, o + l.getD 0 * sz, none⟩) (h.getD len - l.getD 0) (m.getD cap - l.getD 0)) := by
 simp only [aSlice, hu, hs, hm, hmh, hh, hl, hg, if_true, Bool.false_eq_true, if_false]
theorem bnd_some {x y : Nat} {k : IntKind} (h : x ≤ y) : bnd y (some (.int k (x : Int))) = some (some x) := by
 simp only [bnd]
 rw [if_pos ⟨by omega, by omega⟩]; simp
theorem o_sliceV {vx v : Value} {xlo xhi xmx : Option Operand} {vlo vhi vmx : List Value} (hS : S wm n tm H A L Fr) (hw : Wd A ops g) (hd : Nat.blt d n = true) (hx : evA A x = some vx) (hlo : evLA A xlo.toList = some vlo) (hhi : evLA A xhi.toList = some vhi) (hmx : evLA A xmx.toList = some vmx)
  (h : aSlice P H t vx vlo.head? vhi.head? vmx.head? = some v) (kk : ∀ tm, S wm n tm H ((d, v) :: A) L Fr → wpO P ora wm draw ops rest tm H R) :
  wpO P ora wm draw ops (⟨some d, .slice t x xlo xhi xmx, ty, pos, aft, g⟩ :: rest) tm H R := by
 refine o_run (v := v) (H' := H) hS hw rfl ?_ (kk _ (hS.put hd v))
 simp only [aOp, ev_of hS.env hx, evL_of hS.env hlo, evL_of hS.env hhi, evL_of hS.env hmx, h, Option.map_some]
theorem o_appV {so xo : Operand} {ts : Array TypeId} {st xt elem2 : TypeId} {v w v' : Value} {H' : AHeap} {L' : List Ent} (hS : S wm n tm H A L Fr) (hw : Wd A ops g) (hd : Nat.blt d n = true) (hs : evA A so = some v) (hx : evA A xo = some w) (hts : ts.toList = [st, xt]) (hux : P.underlying xt = some (.slice elem2)) (hlb : (draw && litBase ops (.call ⟨.builtin .append, #[so, xo], ts⟩)) = false)
  (h : aAppend P wm H st xt v w = some (v', H')) (hK : Kn wm H' L' Fr) (kk : ∀ tm, S wm n tm H' ((d, v') :: A) L' Fr → wpO P ora wm draw ops rest tm H' R) :
  wpO P ora wm draw ops (⟨some d, .call ⟨.builtin .append, #[so, xo], ts⟩, ty, pos, aft, g⟩ :: rest) tm H R := by
 refine o_run (v := v') (H' := H') hS hw rfl ?_ (kk _ ((hS.put hd v').withK hK))
 rw [hlb, if_neg Bool.false_ne_true]; exact app_op hS.env ⟨_, hux⟩ hs hx hts h
theorem o_clrV {xo : Operand} {ts : Array TypeId} {st : TypeId} {v : Value} {H' : AHeap} {L' : List Ent} (hS : S wm n tm H A L Fr) (hw : Wd A ops g) (hx : evA A xo = some v) (hts : ts.toList = [st])
  (h : aClear P wm H st v = some (.tuple #[], H')) (hK : Kn wm H' L' Fr) (kk : ∀ tm, S wm n tm H' A L' Fr → wpO P ora wm draw ops rest tm H' R) :
  wpO P ora wm draw ops (⟨none, .call ⟨.builtin .clear, #[xo], ts⟩, ty, pos, aft, g⟩ :: rest) tm H R := by
 refine o_run (v := .tuple #[]) (H' := H') hS hw rfl ?_ (kk _ (hS.withK hK))
 rw [lit_false rfl]
 simp only [aOp, evL, ev_of hS.env hx, Option.bind_some, hts, aBuiltin]
 exact h
theorem lay_after {cells vs r : List Value} {o m : Nat} (h : lay cells (o + m) vs = some r) : cut r o m = cut cells o m := by
 obtain ⟨h1, rfl⟩ := lay_some h
 unfold cut
 rw [if_pos (by simp; omega), if_pos (by omega)]
 congr 1
 apply List.ext_getElem?
 intro j
 simp only [List.getElem?_take, List.getElem?_drop, List.getElem?_append, List.length_take, List.length_append]
 grind
theorem lay_ok {cells vs : List Value} {o : Nat} (h : o + vs.length ≤ cells.length) : ∃ r, lay cells o vs = some r ∧ r.length = cells.length := by
 refine ⟨_, by unfold lay; rw [if_pos h], by simp; omega⟩
/-- what may be written, in one block. -/
theorem Kn0.ownAt {α : Type} {Z : ZM} {k b o len cap : Nat} {r : Rep α} {l : List α} (h : Kn0 Z wm H L Fr) (hk : L[k]? = some (.own r (.slice (some ⟨b, o, none⟩) len cap) l)) :
  len = l.length ∧ wm ≤ b ∧ b < H.n ∧ ∃ gr cells cs, H.get b = some (.row true gr r.sz cells) ∧ o + cap * r.sz ≤ cells.length ∧ l.length ≤ cap ∧ cut cells o (l.length * r.sz) = some cs ∧ rowOf r Z cs l := by
 rcases h.ok _ (Kn0.mem hk) with ⟨hh, _⟩ | ⟨b', o', cap', gr, cells, cs, hv, h2, h3, h4, h5, h6⟩
 ·cases hh
 ·simp at hv
  obtain ⟨⟨rfl, rfl⟩, rfl, rfl⟩ := hv
  exact ⟨rfl, h.low _ (List.mem_of_getElem? hk) b rfl, (h.blk _ (Kn0.mem hk) b rfl).1, gr, cells, cs, h2, h3, h4, h5, h6⟩
theorem Kn0.ownSet {α : Type} {Z : ZM} {k b o len cap o' cap' : Nat} {gr : Bool} {r : Rep α} {l l' : List α} {cells cs' : List Value} (h : Kn0 Z wm H L Fr) (hk : L[k]? = some (.own r (.slice (some ⟨b, o, none⟩) len cap) l))
  (h3 : o' + cap' * r.sz ≤ cells.length) (h4 : l'.length ≤ cap') (h5 : cut cells o' (l'.length * r.sz) = some cs') (h6 : rowOf r Z cs' l') :
  Kn0 Z wm (H.set b (.row true gr r.sz cells)) (L.set k (.own r (.slice (some ⟨b, o', none⟩) l'.length cap') l')) Fr := by
 refine h.step hk (Nat.le_refl _) (fun x hx hne => H.get_set_ne _ (fun hh => hne (by rw [hh]; rfl))) (.inr ⟨b, o', cap', gr, cells, cs', rfl, by simp, h3, h4, h5, h6⟩) (fun x hx => ?_)
 obtain rfl : b = x := by simpa [Ent.blk, blkOf] using hx
 exact ⟨(h.blk _ (Kn0.mem hk) b rfl).1, h.low _ (List.mem_of_getElem? hk) b rfl, .inl rfl⟩
theorem Kn0.heq {Z : ZM} {H' : AHeap} (h : Kn0 Z wm H L Fr) (hg : ∀ x, H.get x = H'.get x) (hn : H'.n = H.n) : Kn0 Z wm H' L Fr :=
 ⟨by rw [hn]; exact h.hwm, fun b o hz => by rw [hn, ← hg]; exact h.z b o hz, fun e he => Ent.ok_of (fun b _ => (hg b).symm) (ZM.le_refl Z) (h.ok e he), fun e he b hb => by rw [hn]; exact h.blk e he b hb, h.low, h.dis⟩
/-- an append that has room. -/
theorem append_in {α : Type} {r : Rep α} {st xt : TypeId} {by_ : Nat} {elem elem2 : TypeId} {inf : TypeInfo} {zv w : Value} {m : List α} {b o len cap : Nat} {gr : Bool} {cells cells' ds : List Value} (hE : ElemOk P st xt r.sz by_ elem elem2 inf zv) (hc : aCells H r.sz w = some (m.length, ds)) (hm : m ≠ []) (hwm : wm ≤ b)
  (hg : H.get b = some (.row true gr r.sz cells)) (hfit : len + m.length ≤ cap) (hl : lay cells (o + len * r.sz) ds = some cells') :
  aAppend P wm H st xt (.slice (some ⟨b, o, none⟩) len cap) w = some (.slice (some ⟨b, o, none⟩) (len + m.length) cap, H.set b (.row true gr r.sz cells')) := by
 have hcond : (constOk zv && zv.cells.size == inf.size && decide (0 < inf.size)) = true := by rw [hE.k, hE.zs, hE.size]; simp [hE.pos]
 have hne : ¬ m.length = 0 := by cases m <;> simp_all
 unfold aAppend
 simp only [hE.u, hE.ux, hE.i, hE.size, hc, hE.z]
 rw [hE.size] at hcond
 simp only [hcond, if_true, if_neg hne, hg, ne_eq, not_true, if_false, if_pos hfit, hwm, decide_true, Bool.and_self, hl, Option.map_some]
theorem append_none {st xt : TypeId} {sz by_ : Nat} {elem elem2 : TypeId} {inf : TypeInfo} {zv w : Value} {a : Option Addr} {x y : Nat} {ds : List Value} (hE : ElemOk P st xt sz by_ elem elem2 inf zv) (hc : aCells H sz w = some (0, ds)) : aAppend P wm H st xt (.slice a x y) w = some (.slice a x y, H) := by
 have hcond : (constOk zv && zv.cells.size == inf.size && decide (0 < inf.size)) = true := by rw [hE.k, hE.zs, hE.size]; simp [hE.pos]
 unfold aAppend
 simp only [hE.u, hE.ux, hE.i, hE.size, hc, hE.z]
 rw [hE.size] at hcond
 simp only [hcond, if_true]
theorem clear_in {by_ b o cap k : Nat} {elem : TypeId} {inf : TypeInfo} {zv w : Value} {gr : Bool} {cells cells' : List Value} (hM : MkOk P t by_ elem inf zv w) (hwm : wm ≤ b) (hg : H.get b = some (.row true gr 1 cells)) (hl : lay cells o (zeros zv (k + 1)).toList = some cells') :
  aClear P wm H t (.slice (some ⟨b, o, none⟩) (k + 1) cap) = some (.tuple #[], H.set b (.row true gr 1 cells')) := by
 have hcc : (constOk zv && zv.cells.size == inf.size && decide (wm ≤ b)) = true := by rw [hM.k, hM.size, ← Array.length_toList, hM.c]; simp [hwm]
 rw [hM.size] at hcc
 simp only [aClear, hM.u, hM.i, hM.z, hcc, if_true, hg, hM.size, Nat.mul_one, hl, Option.map_some]
/-- slices.Delete, as plain lists. -/
def del {α : Type} (l : List α) (i j : Int) : Option (List α) := if 0 ≤ i ∧ i ≤ j ∧ j ≤ l.length then some (l.take i.toNat ++ l.drop j.toNat) else none
/-- slices.Insert, as plain lists. -/
def insL {α : Type} (by_ : Nat) (l : List α) (i : Int) (m : List α) : Option (List α) :=
 if 0 ≤ i ∧ i ≤ l.length ∧ 0 < l.length ∧ 0 < m.length ∧ (l.length + m.length) * by_ ≤ 140737488355328 then some (l.take i.toNat ++ m ++ l.drop i.toNat) else none
theorem ins_wp {f : FuncId} {fn : Func} {s1 v1 r : List Int} {i1 : Int} {w1 w2 : Value} (hf : P.funcs[f]? = some fn) (hni : isInsF fn = true) (hI : Kn wm H [.own (rI .i64) w1 s1, .lit (rI .i64) w2 v1] Fr) (h0 : insL 8 s1 i1 v1 = some r) :
  wpF P ora wm f [w1, .int .i64 i1, w2] H (fun res H => ∃ v2, res = v2 ∧ Kn wm H [.own (rI .i64) v2 r] Fr) := by
 unfold insL at h0
 split at h0
 case isFalse => cases h0
 rename_i hc
 obtain ⟨c1, c2, c3, c4, c5⟩ := hc
 obtain rfl := Option.some.inj h0
 obtain ⟨Z, hK⟩ := hI
 have hsz : (rI .i64).sz = 1 := rfl
 rcases hK.ok _ (List.mem_append_left _ (List.mem_cons_self ..)) with ⟨rfl, rfl⟩ | ⟨b, o, cap, gr, cells, cs, rfl, g1, g2, g3, g4, g5⟩
 ·simp at c3
 obtain ⟨vb, vcells, rfl, q1, q2⟩ := hK.ok _ (List.mem_append_left _ (List.mem_cons_of_mem _ (List.mem_cons_self ..)))
 rw [hsz] at g1 g2 q1
 rw [hsz, Nat.mul_one] at g4
 have hwm : wm ≤ b := hK.low _ (List.mem_cons_self ..) b rfl
 have hne : b ≠ vb := fun h => by
  have := hK.dis
  rw [List.cons_append, List.pairwise_cons] at this
  exact this.1 _ (List.mem_append_left _ (List.mem_cons_self ..)) b rfl (by rw [h]; rfl)
 have hvl : vcells.length = v1.length := by have := q2.len; rw [hsz, Nat.mul_one] at this; exact this
 have hcl : cs.length = s1.length := by have := g5.len; rw [hsz, Nat.mul_one] at this; exact this
 have hcut : cut vcells 0 v1.length = some vcells := by
  unfold cut
  rw [if_pos (by omega), List.drop_zero, List.take_of_length_le (by omega)]
 obtain ⟨I, rfl⟩ := Int.eq_ofNat_of_zero_le c1
 simp only [Int.toNat_natCast]
 have ha : aIns wm H [.slice (some ⟨b, o, none⟩) s1.length cap, .int .i64 (I : Int), .slice (some ⟨vb, 0, none⟩) v1.length v1.length] =
   some (.slice (some ⟨H.n, 0, none⟩) (s1.length + v1.length) (s1.length + v1.length), (H.set b .dead).push (.row true true 1 (cs.take I ++ vcells ++ cs.drop I))) := by
  unfold aIns
  simp only [g1, q1, g4, hcut]
  rw [if_pos (by simp only [true_and]; exact ⟨hwm, hne, c4, c3, c1, c2, c5⟩)]
  rfl
 refine wpF.ins hf (by simp) hni ha ⟨_, rfl, Z, ?_⟩
 have hK1 : Kn0 Z wm H [.own (rI .i64) (.slice (some ⟨b, o, none⟩) s1.length cap) s1] Fr := hK.sub (by simp)
 have hrow : rowOf (rI .i64) Z (cs.take I ++ vcells ++ cs.drop I) (s1.take I ++ v1 ++ s1.drop I) := by
  have h1 := g5.take I
  have h2 := g5.drop I
  rw [hsz, Nat.mul_one] at h1 h2
  exact (h1.app q2).app h2
 have hlen : (cs.take I ++ vcells ++ cs.drop I).length = s1.length + v1.length := by simp; omega
 have hlen2 : (s1.take I ++ v1 ++ s1.drop I).length = s1.length + v1.length := by simp; omega
 have := hK1.step (k := 0) (H' := (H.set b .dead).push (.row true true 1 (cs.take I ++ vcells ++ cs.drop I))) (e' := .own (rI .i64) (.slice (some ⟨H.n, 0, none⟩) (s1.length + v1.length) (s1.length + v1.length)) (s1.take I ++ v1 ++ s1.drop I)) rfl (by simp) (fun x hx hb => by
   rw [AHeap.get_push_ne _ _ (by simp; omega), AHeap.get_set_ne _ _ (fun h => hb (by rw [h]; rfl))]) (.inr ⟨H.n, 0, s1.length + v1.length, true, cs.take I ++ vcells ++ cs.drop I, cs.take I ++ vcells ++ cs.drop I, by rw [hlen2], by
    have := AHeap.get_push_new (H.set b .dead) (.row true true 1 (cs.take I ++ vcells ++ cs.drop I))
    exact this, by rw [hsz, hlen]; omega, by rw [hlen2]; exact Nat.le_refl _, by
    unfold cut
    rw [hsz, Nat.mul_one, hlen, hlen2, if_pos (by omega), List.drop_zero, List.take_of_length_le (by omega)], hrow⟩) (fun x hx => by
   have : x = H.n := by simpa [Ent.blk, blkOf] using hx.symm
   subst this
   exact ⟨by simp, hK.hwm, .inr (Nat.le_refl _)⟩)
 exact this
/-! ### Texts, rune by rune -/
theorem joinD {σ β : Type} {b : β} {f : σ → Option β} {c : β} (h : joinK (.done b) f = some c) : some b = some c := h
def runeAt (s : ByteArray) (p : Nat) : Int := (Utf8.decode s p).1
def nextP (s : ByteArray) (p : Nat) : Nat := if p < s.size then p + (Utf8.decode s p).2 else p
def nextV (s : ByteArray) (p : Nat) : Value := if p < s.size then .tuple #[.bool true, .int .i64 (p : Int), .int .i32 (runeAt s p)] else .tuple #[.bool false]
theorem nextV_true {s : ByteArray} {p : Nat} (h : decide (p < s.size) = true) : nextV s p = .tuple #[.bool true, .int .i64 (p : Int), .int .i32 (runeAt s p)] := if_pos (of_decide_eq_true h)
theorem o_range {s : ByteArray} (hS : S wm n tm H A L Fr) (hw : Wd A ops g) (hd : Nat.blt d n = true) (hx : evA A x = some (.string s)) (hu : P.underlying t = some .string)
  (k : ∀ b tm H, S wm n tm H ((d, .pointer (some ⟨b, 0, none⟩)) :: A) (.raw b (.iter s 0) :: L) Fr → wpO P ora wm draw ops rest tm H R) :
  wpO P ora wm draw ops (⟨some d, .range t x, ty, pos, aft, g⟩ :: rest) tm H R := by
 refine o_run (v := .pointer (some ⟨H.n, 0, none⟩)) (H' := H.push (.iter s 0)) hS hw rfl ?_ (k H.n _ _ ?_)
 ·simp only [aOp, ev_of hS.env hx, hu]
 ·exact (hS.put hd _).withK (hS.inv.push (fun Z => by show AHeap.get _ _ = _; simp) rfl)
theorem set_same.{u} {α : Type u} {l : List α} {k : Nat} {x : α} (h : l[k]? = some x) : l.set k x = l := by
 obtain ⟨h1, rfl⟩ := List.getElem?_eq_some_iff.mp h
 exact List.set_getElem_self h1
theorem o_next {b k p : Nat} {s : ByteArray} (hS : S wm n tm H A L Fr) (hw : Wd A ops g) (hd : Nat.blt d n = true) (hx : evA A x = some (.pointer (some ⟨b, 0, none⟩))) (hk : L[k]? = some (.raw b (.iter s p)))
  (kk : ∀ tm H, S wm n tm H ((d, nextV s p) :: A) (L.set k (.raw b (.iter s (nextP s p)))) Fr → wpO P ora wm draw ops rest tm H R) :
  wpO P ora wm draw ops (⟨some d, .next x true, ty, pos, aft, g⟩ :: rest) tm H R := by
 obtain ⟨Z, hi⟩ := hS.inv
 have hg : H.get b = some (.iter s p) := hi.ok _ (Kn0.mem hk)
 have hwm := hi.low _ (List.mem_of_getElem? hk) b rfl
 have hb := (hi.blk _ (Kn0.mem hk) b rfl).1
 by_cases hp : p < s.size
 ·refine o_run (v := nextV s p) (H' := H.set b (.iter s (nextP s p))) hS hw rfl ?_ (kk _ _ ((hS.put hd _).withK ⟨Z, hi.step hk (Nat.le_refl _) (fun x hx hne => H.get_set_ne _ (fun hh => hne (by rw [hh]; rfl))) ?_ (fun x hx => ?_)⟩))
  ·rw [lit_false rfl]
   simp only [aOp, ev_of hS.env hx, Option.bind_some, aNext, hg, hp, hwm, if_true, nextV, nextP, runeAt]
   rfl
  ·show AHeap.get _ _ = _; simp
  ·obtain rfl := Option.some.inj hx
   exact ⟨hb, hwm, .inl rfl⟩
 ·refine o_run (v := nextV s p) (H' := H) hS hw rfl ?_ (kk _ _ (by
   have e : nextP s p = p := if_neg hp
   rw [e, set_same hk]
   exact hS.put hd _))
  ·simp only [aOp, ev_of hS.env hx, Option.bind_some, aNext, hg, hp, if_false, nextV]
theorem o_nextB {p : Nat} {s : ByteArray} (hS : S wm n tm H A L Fr) (hw : Wd A ops g) (hd : Nat.blt d n = true) (hx : evA A x = some (nextV s p))
  (kk : ∀ tm, S wm n tm H ((d, .bool (decide (p < s.size))) :: A) L Fr → wpO P ora wm draw ops rest tm H R) :
  wpO P ora wm draw ops (⟨some d, .extract x 0, ty, pos, aft, g⟩ :: rest) tm H R := by
 refine o_run (v := .bool (decide (p < s.size))) (H' := H) hS hw rfl ?_ (kk _ (hS.put hd _))
 simp only [aOp, ev_of hS.env hx, nextV]
 by_cases hp : p < s.size <;> simp [hp]
/-! ### Shifts -/
def shlI (k : IntKind) (x y : Int) : Option Int := if y < 0 then none else some (k.wrap (x * 2 ^ (min y.toNat k.bits)))
def shrI (k : IntKind) (x y : Int) : Option Int := if y < 0 then none else some (x.fdiv (2 ^ (min y.toNat k.bits)))
theorem o_shl {ki kj : IntKind} {a b z : Int} {t2 : TypeId} (hS : S wm n tm H A L Fr) (hw : Wd A ops g) (hd : Nat.blt d n = true) (hx : evA A x = some (.int ki a)) (hy : evA A y = some (.int kj b)) (hz : shlI ki a b = some z)
  (kk : ∀ tm, S wm n tm H ((d, .int ki z) :: A) L Fr → wpO P ora wm draw ops rest tm H R) :
  wpO P ora wm draw ops (⟨some d, .binOp .shl t x y t2, ty, pos, aft, g⟩ :: rest) tm H R := by
 refine o_run (v := .int ki z) (H' := H) hS hw rfl ?_ (kk _ (hS.put hd _))
 unfold shlI at hz
 split at hz
 ·cases hz
 ·rename_i hb
  obtain rfl := Option.some.inj hz
  simp only [aOp, ev_of hS.env hx, ev_of hS.env hy, aBin, aShift, if_neg hb, Option.map_some]
theorem o_shr {ki kj : IntKind} {a b z : Int} {t2 : TypeId} (hS : S wm n tm H A L Fr) (hw : Wd A ops g) (hd : Nat.blt d n = true) (hx : evA A x = some (.int ki a)) (hy : evA A y = some (.int kj b)) (hz : shrI ki a b = some z)
  (kk : ∀ tm, S wm n tm H ((d, .int ki z) :: A) L Fr → wpO P ora wm draw ops rest tm H R) :
  wpO P ora wm draw ops (⟨some d, .binOp .shr t x y t2, ty, pos, aft, g⟩ :: rest) tm H R := by
 refine o_run (v := .int ki z) (H' := H) hS hw rfl ?_ (kk _ (hS.put hd _))
 unfold shrI at hz
 split at hz
 ·cases hz
 ·rename_i hb
  obtain rfl := Option.some.inj hz
  simp only [aOp, ev_of hS.env hx, ev_of hS.env hy, aBin, aShift, if_neg hb, Option.map_some]

/-! ### Parts that are written over -/
def View (sz : Nat) (v : Value) (lo n : Nat) (w : Value) : Prop :=
 (v = .slice none 0 0 ∧ w = .slice none 0 0 ∧ n = 0) ∨ ∃ b o len cap cap', v = .slice (some ⟨b, o, none⟩) len cap ∧ w = .slice (some ⟨b, o + lo * sz, none⟩) n cap' ∧ n ≤ cap'
def cpy {α : Type} (l : List α) (lo n : Nat) (m : List α) : List α := l.take lo ++ m.take n ++ l.drop (lo + min m.length n)
theorem cpy_len {α : Type} {l : List α} {lo n : Nat} {m : List α} (h : lo + n ≤ l.length) : (cpy l lo n m).length = l.length := by
 unfold cpy; simp; omega
theorem S.viewAll {α : Type} {k : Nat} {r : Rep α} {v : Value} {l : List α} (hS : S wm n tm H A L Fr) (hk : L[k]? = some (.own r v l)) : View r.sz v 0 l.length v := by
 obtain ⟨Z, hI⟩ := hS.inv
 rcases hI.ok _ (Kn0.mem hk) with ⟨rfl, rfl⟩ | ⟨b, o, cap, gr, cells, cs, rfl, h2, h3, h4, h5, h6⟩
 ·exact .inl ⟨rfl, rfl, rfl⟩
 ·exact .inr ⟨b, o, _, cap, cap, rfl, by simp, h4⟩
theorem sub_le {α : Type} {l l' : List α} {lo hi : Int} (h : sub l lo hi = some l') : lo.toNat + l'.length ≤ l.length := by
 unfold sub at h
 split at h
 ·obtain rfl := Option.some.inj h; simp; omega
 ·cases h
theorem sub_part {α : Type} {l l' : List α} {lo hi : Int} (h : sub l lo hi = some l') : l' = (l.drop lo.toNat).take l'.length := by
 unfold sub at h
 split at h
 ·obtain rfl := Option.some.inj h
  rename_i hh
  rw [List.drop_take]
  have : ((l.drop lo.toNat).take (hi.toNat - lo.toNat)).length = hi.toNat - lo.toNat := by simp; omega
  rw [this]
 ·cases h
theorem o_view {α : Type} {k : Nat} {r : Rep α} {v : Value} {l l' : List α} {elem : TypeId} {lo hi : Option Int} {xlo xhi : Option Operand} (hS : S wm n tm H A L Fr) (hw : Wd A ops g) (hd : Nat.blt d n = true) (hx : evA A x = some v) (hk : L[k]? = some (.own r v l))
  (hu : P.underlying t = some (.slice elem)) (hsz : sizeOf' P elem = some r.sz) (hlo : optA A xlo = some lo) (hhi : optA A xhi = some hi) (hsub : sub l (lo.getD 0) (hi.getD l.length) = some l')
  (kk : ∀ w tm, View r.sz v (lo.getD 0).toNat l'.length w → S wm n tm H ((d, w) :: A) L Fr → wpO P ora wm draw ops rest tm H R) :
  wpO P ora wm draw ops (⟨some d, .slice t x xlo xhi none, ty, pos, aft, g⟩ :: rest) tm H R := by
 obtain ⟨Z, hI⟩ := hS.inv
 obtain ⟨v', hrun, hres⟩ := slice_run hS.env (hI.slAt hk (.inr (.inl rfl))) hx hu hsz hlo hhi hsub (wm := if (draw && litBase ops (.slice t x xlo xhi none)) = true then H.n else wm)
 refine o_run (v := v') (H' := H) hS hw rfl hrun (kk v' _ ?_ (hS.put hd v'))
 rcases hres with ⟨rfl, _, rfl, rfl⟩ | ⟨b, o, cap, own, gr, cells, cs, rfl, h4, h5, h6, h7, rfl, h8, h9⟩
 ·exact .inl ⟨rfl, rfl, rfl⟩
 ·exact .inr ⟨b, o, _, _, _, rfl, rfl, by omega⟩
theorem kn0_viewAt {α : Type} {Z : ZM} {k lo m : Nat} {r : Rep α} {v w : Value} {l : List α} (h : Kn0 Z wm H L Fr) (hk : L[k]? = some (.own r v l)) (hv : View r.sz v lo m w) (hle : lo + m ≤ l.length) : slAt H Z r w ((l.drop lo).take m) := by
 rcases hv with ⟨rfl, rfl, rfl⟩ | ⟨b, o, len, cap, cap', rfl, rfl, hc⟩
 ·exact .inl ⟨rfl, by simp⟩
 ·obtain ⟨rfl, _, _, gr, cells, cs, g1, g2, g3, g4, g5⟩ := h.ownAt hk
  have hl : ((l.drop lo).take m).length = m := by simp; omega
  refine .inr ⟨b, _, cap', true, gr, cells, (cs.drop (lo * r.sz)).take (m * r.sz), by rw [hl], by omega, g1, ?_, (g5.drop lo).take m⟩
  rw [hl]
  exact cut_part g4 (by rw [← Nat.add_mul]; exact Nat.mul_le_mul_right _ hle)
theorem kn0_viewSub {α : Type} {Z : ZM} {k : Nat} {r : Rep α} {v w : Value} {l l' : List α} {lo hi : Int} (h : Kn0 Z wm H L Fr) (hk : L[k]? = some (.own r v l)) (hs : sub l lo hi = some l') (hv : View r.sz v lo.toNat l'.length w) : slAt H Z r w l' := by
 have := kn0_viewAt h hk hv (sub_le hs)
 rwa [← sub_part hs] at this
theorem o_copy {α : Type} {k lo nn : Nat} {r : Rep α} {v w u : Value} {l m : List α} {dt elem : TypeId} {xo yo : Operand} {ts : Array TypeId} (hS : S wm n tm H A L Fr) (hw : Wd A ops g) (hd : Nat.blt d n = true) (hx : evA A xo = some w) (hy : evA A yo = some u)
  (hk : L[k]? = some (.own r v l)) (hv : View r.sz v lo nn w) (hle : lo + nn ≤ l.length) (hsrc : ∀ Z, Kn0 Z wm H L Fr → slAt H Z r u m) (hts : ts.toList.head? = some dt) (hu : P.underlying dt = some (.slice elem)) (hsz : sizeOf' P elem = some r.sz)
  (kk : ∀ tm H, S wm n tm H ((d, .int .i64 ((min m.length nn : Nat) : Int)) :: A) (L.set k (.own r v (cpy l lo nn m))) Fr → wpO P ora wm draw ops rest tm H R) :
  wpO P ora wm draw ops (⟨some d, .call ⟨.builtin .copy, #[xo, yo], ts⟩, ty, pos, aft, g⟩ :: rest) tm H R := by
 obtain ⟨Z, hI⟩ := hS.inv
 obtain ⟨ds, hds, hrow⟩ := (hsrc Z hI).cells rfl
 obtain ⟨ts'', hts2⟩ : ∃ ts'', ts.toList = dt :: ts'' := by
  cases h : ts.toList with
  | nil => rw [h] at hts; cases hts
  | cons a l => rw [h] at hts; simp at hts; subst hts; exact ⟨_, rfl⟩
 have hargs : evL tm [xo, yo] = some [w, u] := evL_of hS.env (by simp only [evLA, hx, hy])
 rcases hv with ⟨rfl, rfl, rfl⟩ | ⟨b, o, len, cap, cap', rfl, rfl, hc⟩
 ·refine o_run (v := .int .i64 ((min m.length 0 : Nat) : Int)) (H' := H) hS hw rfl ?_ (kk _ _ (by
   rcases hI.ok _ (Kn0.mem hk) with ⟨_, rfl⟩ | ⟨b, o, cap, gr, cells, cs, hh, _⟩
   ·have e : cpy ([] : List α) lo 0 m = [] := by simp [cpy]
    rw [e, set_same hk]
    exact hS.put hd _
   ·cases hh))
  rw [Nat.min_zero]
  simp only [aOp, hargs, hts2, Option.bind_some, aBuiltin, aCopy, hu, hsz, hds]
  rfl
 ·obtain ⟨rfl, hwm, hb, gr, cells, cs, g1, g2, g3, g4, g5⟩ := hI.ownAt hk
  have hcl := g5.len
  have hdl := hrow.len
  have hmin : (ds.take (min m.length nn * r.sz)).length = min m.length nn * r.sz := by
   rw [List.length_take, hdl, Nat.min_eq_left (Nat.mul_le_mul_right _ (Nat.min_le_left _ _))]
  have hfit : lo * r.sz + (ds.take (min m.length nn * r.sz)).length ≤ cs.length := by
   rw [hmin, hcl, ← Nat.add_mul]; exact Nat.mul_le_mul_right _ (by omega)
  obtain ⟨cs', hl1, hl2⟩ := lay_ok hfit
  obtain ⟨rr, hr1, hr2, hr3⟩ := lay_cut g4 hl1
  obtain ⟨_, hcs'⟩ := lay_some hl1
  have hrow' : rowOf r Z cs' (cpy l lo nn m) := by
   rw [hcs', hmin, ← Nat.add_mul]
   unfold cpy
   have e : m.take nn = m.take (min m.length nn) := by
    by_cases h : m.length ≤ nn
    ·rw [Nat.min_eq_left h, List.take_of_length_le h, List.take_length]
    ·rw [Nat.min_eq_right (by omega)]
   rw [e]
   exact ((g5.take lo).app (hrow.take _)).app (g5.drop _)
  refine o_run (v := .int .i64 ((min m.length nn : Nat) : Int)) (H' := H.set b (.row true gr r.sz rr)) hS hw rfl ?_ (kk _ _ ((hS.put hd _).withK ⟨Z, hI.step hk (Nat.le_refl _) (fun x hx hne => H.get_set_ne _ (fun hh => hne (by rw [hh]; rfl))) ?_ (fun x hx => ?_)⟩))
  ·rw [lit_false rfl]
   simp only [aOp, hargs, hts2, Option.bind_some, aBuiltin, aCopy, hu, hsz, hds, hwm, if_true, g1]
   show (lay cells (o + lo * r.sz) (ds.take (min m.length nn * r.sz))).map _ = _
   rw [hr1]
   rfl
  ·refine .inr ⟨b, o, cap, gr, rr, cs', by rw [cpy_len hle], by simp, by rw [hr3]; exact g2, by rw [cpy_len hle]; exact g3, by rw [cpy_len hle]; exact hr2, hrow'⟩
  ·obtain rfl := Option.some.inj hx
   exact ⟨hb, hwm, .inl rfl⟩
theorem rowOf_rep {α : Type} {r : Rep α} {Z : ZM} {w : Value} {z : α} (h1 : r.sz = 1) (hr : r.rd Z [w] z) : ∀ n, rowOf r Z (List.replicate n w) (List.replicate n z)
 | 0 => rfl
 | n + 1 => ⟨[w], List.replicate n w, rfl, hr, rowOf_rep h1 hr n⟩
theorem o_clear {α : Type} {k lo nn by_ : Nat} {r : Rep α} {v u w : Value} {l : List α} {z : α} {elem : TypeId} {inf : TypeInfo} {zv : Value} {xo : Operand} {ts : Array TypeId} (hS : S wm n tm H A L Fr) (hw : Wd A ops g) (hx : evA A xo = some u)
  (hk : L[k]? = some (.own r v l)) (hv : View r.sz v lo nn u) (hle : lo + nn ≤ l.length) (hts : ts.toList = [t]) (hM : MkOk P t by_ elem inf zv w) (hr1 : r.sz = 1) (hr : ∀ Z, r.rd Z [w] z)
  (kk : ∀ tm H, S wm n tm H A (L.set k (.own r v (l.take lo ++ List.replicate nn z ++ l.drop (lo + nn)))) Fr → wpO P ora wm draw ops rest tm H R) :
  wpO P ora wm draw ops (⟨none, .call ⟨.builtin .clear, #[xo], ts⟩, ty, pos, aft, g⟩ :: rest) tm H R := by
 obtain ⟨Z, hI⟩ := hS.inv
 have hzero : ∀ c, nn = 0 → aClear P wm H t (.slice c 0 0) = some (.tuple #[], H) ∨ True := fun _ _ => .inr trivial
 rcases hv with ⟨rfl, rfl, rfl⟩ | ⟨b, o, len, cap, cap', rfl, rfl, hc⟩
 ·have e : l.take lo ++ List.replicate 0 z ++ l.drop (lo + 0) = l := by simp
  rw [e, set_same hk] at kk
  refine o_clrV (H' := H) hS hw hx hts ?_ hS.inv (fun tm h => kk tm H h)
  simp only [aClear, hM.u]
 ·by_cases h0 : nn = 0
  ·subst h0
   have e : l.take lo ++ List.replicate 0 z ++ l.drop (lo + 0) = l := by simp
   rw [e, set_same hk] at kk
   refine o_clrV (H' := H) hS hw hx hts ?_ hS.inv (fun tm h => kk tm H h)
   simp only [aClear, hM.u]
  ·obtain ⟨rfl, hwm, hb, gr, cells, cs, g1, g2, g3, g4, g5⟩ := hI.ownAt hk
   have hcl := g5.len
   rw [hr1, Nat.mul_one] at hcl
   rw [hr1] at g1 g2 g4 hx
   simp only [Nat.mul_one] at g2 g4 hx
   have hz1 : zv.cells.size = 1 := by rw [← Array.length_toList, hM.c]; rfl
   have hz0 : zv.cells[0]! = w := by
    have : zv.cells = #[w] := by
     apply Array.toList_inj.mp; rw [hM.c]
    rw [this]; rfl
   have hzz : ∀ q, (zeros zv q).toList = List.replicate q w := fun q => by rw [zerosL_one zv hz1, hz0]
   have hfit : lo + (List.replicate nn w).length ≤ cs.length := by simp; omega
   obtain ⟨cs', hl1, hl2⟩ := lay_ok hfit
   obtain ⟨rr, hr1', hr2, hr3⟩ := lay_cut g4 hl1
   obtain ⟨_, hcs'⟩ := lay_some hl1
   have hlen : (l.take lo ++ List.replicate nn z ++ l.drop (lo + nn)).length = l.length := by simp; omega
   have hrow' : rowOf r Z cs' (l.take lo ++ List.replicate nn z ++ l.drop (lo + nn)) := by
    rw [hcs', List.length_replicate]
    have t1 := g5.take lo
    have t2 := g5.drop (lo + nn)
    rw [hr1, Nat.mul_one] at t1 t2
    exact (t1.app (rowOf_rep hr1 (hr Z) nn)).app t2
   obtain ⟨kp, rfl⟩ : ∃ kp, nn = kp + 1 := ⟨nn - 1, by omega⟩
   refine o_clrV (H' := H.set b (.row true gr 1 rr)) hS hw hx hts ?_ ?_ (fun tm h => kk tm _ h)
   ·exact clear_in hM hwm g1 (by rw [hzz]; exact hr1')
   ·refine ⟨Z, hI.step hk (Nat.le_refl _) (fun x hx hne => H.get_set_ne _ (fun hh => hne (by rw [hh]; rfl))) ?_ (fun x hx => ?_)⟩
    ·refine .inr ⟨b, o, cap, gr, rr, cs', by rw [hlen], by rw [hr1]; simp, by rw [hr3, hr1, Nat.mul_one]; exact g2, by rw [hlen]; exact g3, by rw [hlen, hr1, Nat.mul_one]; exact hr2, hrow'⟩
    ·obtain rfl := Option.some.inj hx
     exact ⟨hb, hwm, .inl rfl⟩
/-! ### Tables of functions -/
def mapE (l : List (ByteArray × Nat)) : List (Value × Value) := l.map fun p => (.string p.1, .func (.func p.2) #[] #[])
def lookT (s : ByteArray) : List (ByteArray × Nat) → Value
 | [] => .tuple #[.nilFunc, .bool false]
 | (k, f) :: l => if (s == k) = true then .tuple #[.func (.func f) #[] #[], .bool true] else lookT s l
theorem lookT_yes {s k : ByteArray} {f : Nat} {l : List (ByteArray × Nat)} (h : (s == k) = true) : lookT s ((k, f) :: l) = .tuple #[.func (.func f) #[] #[], .bool true] := if_pos h
theorem lookT_no {s k : ByteArray} {f : Nat} {l : List (ByteArray × Nat)} (h : (s == k) = false) : lookT s ((k, f) :: l) = lookT s l := if_neg (by simp [h])
theorem lookT_nil {s : ByteArray} : lookT s [] = .tuple #[.nilFunc, .bool false] := rfl
theorem findS_fresh {k : ByteArray} : ∀ {l : List (ByteArray × Nat)}, (l.all fun p => !(k == p.1)) = true → findS k (mapE l) = some none
 | [], _ => rfl
 | (k', f) :: l, h => by
  simp only [List.all_cons, Bool.and_eq_true, Bool.not_eq_true'] at h
  show (if (k == k') = true then _ else findS k (mapE l)) = _
  rw [if_neg (by simp [h.1])]
  exact findS_fresh h.2
theorem findS_look {k : ByteArray} : ∀ {l : List (ByteArray × Nat)}, (findS k (mapE l) = some none ∧ lookT k l = .tuple #[.nilFunc, .bool false]) ∨ ∃ v, findS k (mapE l) = some (some v) ∧ lookT k l = .tuple #[v, .bool true]
 | [] => .inl ⟨rfl, rfl⟩
 | (k', f) :: l => by
  show ((if (k == k') = true then _ else findS k (mapE l)) = _ ∧ _) ∨ ∃ v, (if (k == k') = true then _ else findS k (mapE l)) = _ ∧ _
  unfold lookT
  by_cases h : (k == k') = true
  ·rw [if_pos h, if_pos h]; exact .inr ⟨_, rfl, rfl⟩
  ·rw [if_neg h, if_neg h]; exact findS_look
theorem o_mkmap (hS : S wm n tm H A L Fr) (hw : Wd A ops g) (hd : Nat.blt d n = true)
  (k : ∀ b tm H, S wm n tm H ((d, .map (some b)) :: A) (.raw b (.amap (mapE [])) :: L) Fr → wpO P ora wm draw ops rest tm H R) :
  wpO P ora wm draw ops (⟨some d, .makeMap t none, ty, pos, aft, g⟩ :: rest) tm H R := by
 refine o_run (v := .map (some H.n)) (H' := H.push (.amap [])) hS hw rfl rfl (k H.n _ _ ?_)
 exact (hS.put hd _).withK (hS.inv.push (fun Z => by show AHeap.get _ _ = _; simp [mapE]) rfl)
theorem o_insert {k b f : Nat} {l l' : List (ByteArray × Nat)} {key : ByteArray} {kt et : TypeId} {z : Operand} (hS : S wm n tm H A L Fr) (hw : Wd A ops g) (hx : evA A x = some (.map (some b))) (hy : evA A y = some (.string key)) (hz : evA A z = some (.func (.func f) #[] #[]))
  (hk : L[k]? = some (.raw b (.amap (mapE l)))) (hu : P.underlying t = some (.map kt et)) (hu2 : P.underlying kt = some .string) (hf : (l.all fun p => !(key == p.1)) = true) (hl : l ++ [(key, f)] = l')
  (kk : ∀ H, S wm n tm H A (L.set k (.raw b (.amap (mapE l')))) Fr → wpO P ora wm draw ops rest tm H R) :
  wpO P ora wm draw ops (⟨none, .insert t x y z, ty, pos, aft, g⟩ :: rest) tm H R := by
 subst hl
 obtain ⟨Z, hi⟩ := hS.inv
 have hg : H.get b = some (.amap (mapE l)) := hi.ok _ (Kn0.mem hk)
 have hwm := hi.low _ (List.mem_of_getElem? hk) b rfl
 have hb := (hi.blk _ (Kn0.mem hk) b rfl).1
 have e : mapE (l ++ [(key, f)]) = mapE l ++ [(.string key, .func (.func f) #[] #[])] := by simp [mapE]
 refine o_run (v := undef) (H' := H.set b (.amap (mapE (l ++ [(key, f)])))) hS hw rfl ?_ (kk _ (hS.withK ⟨Z, hi.step hk (Nat.le_refl _) (fun x hx hne => H.get_set_ne _ (fun hh => hne (by rw [hh]; rfl))) ?_ (fun x hx => ?_)⟩))
 ·rw [lit_false rfl, e]
  simp only [aOp, ev_of hS.env hx, ev_of hS.env hy, ev_of hS.env hz, oneCell, if_true, aInsert, hu, hu2, hg, hwm, findS_fresh hf, Option.map_some] <;> rfl
 ·show AHeap.get _ _ = _; simp
 ·obtain rfl := Option.some.inj hx
  exact ⟨hb, hwm, .inl rfl⟩
theorem o_lookup {k b : Nat} {l : List (ByteArray × Nat)} {s : ByteArray} {kt et : TypeId} (hS : S wm n tm H A L Fr) (hw : Wd A ops g) (hd : Nat.blt d n = true) (hx : evA A x = some (.map (some b))) (hy : evA A y = some (.string s))
  (hk : L[k]? = some (.raw b (.amap (mapE l)))) (hu : P.underlying t = some (.map kt et)) (hu2 : P.underlying kt = some .string) (hz : zeroOf P et = some .nilFunc)
  (kk : ∀ tm, S wm n tm H ((d, lookT s l) :: A) L Fr → wpO P ora wm draw ops rest tm H R) :
  wpO P ora wm draw ops (⟨some d, .lookup t x y true, ty, pos, aft, g⟩ :: rest) tm H R := by
 obtain ⟨Z, hi⟩ := hS.inv
 have hg : H.get b = some (.amap (mapE l)) := hi.ok _ (Kn0.mem hk)
 refine o_run (v := lookT s l) (H' := H) hS hw rfl ?_ (kk _ (hS.put hd _))
 rcases findS_look (k := s) (l := l) with ⟨h1, h2⟩ | ⟨v, h1, h2⟩
 ·simp only [aOp, ev_of hS.env hx, ev_of hS.env hy, aLookup, hu, hu2, hg, hz, h1, h2] <;> rfl
 ·simp only [aOp, ev_of hS.env hx, ev_of hS.env hy, aLookup, hu, hu2, hg, hz, h1, h2] <;> rfl
/-- as much as is asked for, put behind nothing. -/
theorem o_capNil {xo : Operand} {ts : Array TypeId} {st elem : TypeId} (hS : S wm n tm H A L Fr) (hw : Wd A ops g) (hd : Nat.blt d n = true) (hx : evA A xo = some (.slice none 0 0)) (hts : ts.toList = [st]) (hu : P.underlying st = some (.slice elem))
  (kk : ∀ tm, S wm n tm H ((d, .int .i64 0) :: A) L Fr → wpO P ora wm draw ops rest tm H R) :
  wpO P ora wm draw ops (⟨some d, .call ⟨.builtin .cap, #[xo], ts⟩, ty, pos, aft, g⟩ :: rest) tm H R := by
 refine o_run (v := .int .i64 0) (H' := H) hS hw rfl ?_ (kk _ (hS.put hd _))
 simp only [aOp, evL, ev_of hS.env hx, Option.bind_some, hts, aBuiltin, aCap, hu]
 rfl
theorem o_appZ {α : Type} {r : Rep α} {so xo : Operand} {ts : Array TypeId} {st xt elem : TypeId} {by_ : Nat} {inf : TypeInfo} {zv w : Value} {kd : IntKind} {k : Int} (hS : S wm n tm H A L Fr) (hw : Wd A ops g) (hd : Nat.blt d n = true) (hs : evA A so = some (.slice none 0 0)) (hx : evA A xo = some (.int .i64 k)) (hts : ts.toList = [st, xt]) (hux : P.underlying xt = some (.int kd))
  (hM : MkOk P st by_ elem inf zv w) (hr1 : r.sz = 1) (hb : Nat.ble 1 by_ = true) (hk : 0 < k) (hro : k.toNat * by_ ≤ 140737488355328)
  (kk : ∀ b cells tm H, H.get b = some (.row true true 1 cells) → S wm n tm H ((d, .slice (some ⟨b, 0, none⟩) k.toNat k.toNat) :: A) (.own r (.slice (some ⟨b, 0, none⟩) 0 k.toNat) ([] : List α) :: L) Fr → wpO P ora wm draw ops rest tm H R) :
  wpO P ora wm draw ops (⟨some d, .call ⟨.builtin .append, #[so, xo], ts⟩, ty, pos, aft, g⟩ :: rest) tm H R := by
 obtain ⟨Z, hI⟩ := hS.inv
 have hcs : zv.cells.size = 1 := by rw [← Array.length_toList, hM.c]; rfl
 have hb : 0 < by_ := Nat.le_of_ble_eq_true hb
 have hsz := hM.size
 refine o_run (v := .slice (some ⟨H.n, 0, none⟩) k.toNat k.toNat) (H' := H.push (.row true true inf.size (zeros zv (k.toNat * inf.size)).toList)) hS hw rfl ?_ (kk H.n (zeros zv (k.toNat * inf.size)).toList _ _ ?_ ((hS.put hd _).withK ⟨Z, hI.add (by simp) (fun b hb => H.get_push_ne _ (by omega)) (.inr ⟨H.n, 0, k.toNat, true, _, [], ?_, by rw [AHeap.get_push_new, hsz, hr1], ?_, ?_, ?_, rfl⟩) (fun b hb => ?_)⟩))
 ·have hcond : (constOk zv && zv.cells.size == inf.size && decide (0 < inf.size) && decide (0 < k) && roomy k.toNat inf.bytes) = true := by
   rw [hM.k, hcs, hsz, hM.byb]; unfold roomy; simp; omega
  simp only [aOp, evL, ev_of hS.env hs, ev_of hS.env hx, Option.bind_some, hts, aBuiltin, hux, isIntD, if_true, aAppendZ, hM.u, hM.i, hM.z, hcond]
 ·rw [AHeap.get_push_new, hsz]
 ·simp
 ·simp [hr1, hsz, zeros]
 ·simp
 ·simp only [List.length_nil, Nat.zero_mul]
  unfold cut
  rw [if_pos (by simp)]; simp
 ·obtain rfl : H.n = b := by simpa [Ent.blk, blkOf] using hb
  exact ⟨Nat.le_refl _, by simp⟩
def grow {α : Type} (by_ : Nat) (n : Int) : Option (List α) := if 0 ≤ n ∧ n.toNat * by_ ≤ 140737488355328 then some [] else none
def nthE : List Ent → Nat → Option Ent
 | [], _ => none
 | e :: _, 0 => some e
 | _ :: L, i+1 => nthE L i
def pickL (L : List Ent) : List Nat → List Ent
 | [] => []
 | i :: ix => match nthE L i with | some e => e :: pickL L ix | none => pickL L ix
def ndup : List Nat → Bool
 | [] => true
 | i :: l => (l.all fun j => !(Nat.beq i j)) && ndup l
theorem nthE_eq (L : List Ent) (i : Nat) : nthE L i = L[i]? := by
 induction L generalizing i with
 | nil => simp [nthE]
 | cons e L ih => cases i with
  | zero => simp [nthE]
  | succ i => simp [nthE, ih]
theorem pickL_mem {L : List Ent} {ix : List Nat} {e : Ent} (h : e ∈ pickL L ix) : ∃ i ∈ ix, L[i]? = some e := by
 induction ix with
 | nil => cases h
 | cons i ix ih =>
  unfold pickL at h
  rw [nthE_eq] at h
  split at h
  ·rename_i e' he
   rcases List.mem_cons.mp h with rfl | h
   ·exact ⟨i, by simp, he⟩
   ·obtain ⟨j, hj, hh⟩ := ih h; exact ⟨j, by simp [hj], hh⟩
  ·obtain ⟨j, hj, hh⟩ := ih h; exact ⟨j, by simp [hj], hh⟩
/-- what is known, in another row. -/
theorem Kn.pick {wm : Nat} {H : AHeap} {L Fr : List Ent} (h : Kn wm H L Fr) (ix : List Nat) (hn : ndup ix = true) : Kn wm H (pickL L ix) Fr := by
 obtain ⟨Z, hI⟩ := h
 have hL : (L ++ Fr).Pairwise fun e e' => ∀ b, e.blk = some b → e'.blk ≠ some b := hI.dis
 have hm : ∀ e ∈ pickL L ix ++ Fr, e ∈ L ++ Fr := fun e he => by
  rcases List.mem_append.mp he with h | h
  ·obtain ⟨i, _, hi⟩ := pickL_mem h
   exact List.mem_append_left _ (List.mem_of_getElem? hi)
  ·exact List.mem_append_right _ h
 refine ⟨Z, hI.hwm, hI.z, fun e he => hI.ok e (hm e he), fun e he => hI.blk e (hm e he), fun e he b hb => ?_, ?_⟩
 ·obtain ⟨i, _, hi⟩ := pickL_mem he
  exact hI.low e (List.mem_of_getElem? hi) b hb
 ·obtain ⟨h1, h2, h3⟩ := List.pairwise_append.mp hL
  refine List.pairwise_append.mpr ⟨?_, h2, fun a ha b hb => ?_⟩
  ·induction ix with
   | nil => exact .nil
   | cons i ix ih =>
    simp only [ndup, Bool.and_eq_true, List.all_eq_true] at hn
    have ih := ih hn.2 (fun e he => by
     rcases List.mem_append.mp he with h | h
     ·obtain ⟨j, _, hj⟩ := pickL_mem h
      exact List.mem_append_left _ (List.mem_of_getElem? hj)
     ·exact List.mem_append_right _ h)
    unfold pickL
    rw [nthE_eq]
    split
    ·rename_i e he
     refine List.pairwise_cons.mpr ⟨fun e' he' b hb => ?_, ih⟩
     obtain ⟨j, hj, hj'⟩ := pickL_mem he'
     have hne : i ≠ j := by
      intro hij; subst hij
      have := hn.1 i hj
      simp at this
     exact dis_ne h1 he hj' hne hb
    ·exact ih
  ·obtain ⟨i, _, hi⟩ := pickL_mem ha
   exact h3 a (List.mem_of_getElem? hi) b hb
theorem fill_nil {place : Nat → Option (Nat × Nat)} {cs : List Value} : fillL place cs [] = some cs := rfl
theorem fill_cons {place : Nat → Option (Nat × Nat)} {cells c cs : List Value} {i off size : Nat} {r : List (Nat × List Value)} (cells' : List Value) (hp : place i = some (off, size)) (hl : c.length = size) (hlay : lay cells off c = some cells') (h : fillL place cells' r = some cs) : fillL place cells ((i, c) :: r) = some cs := by
 simp only [fillL, hp, hl, if_true, hlay, h]
/-- a part with its room cut. -/
theorem o_sl3 {α : Type} {k : Nat} {r : Rep α} {v : Value} {l l' : List α} {elem : TypeId} {lo : Option Int} {hi mx : Int} {xlo xhi xmx : Option Operand} (hS : S wm n tm H A L Fr) (hw : Wd A ops g) (hd : Nat.blt d n = true) (hx : evA A x = some v) (hk : L[k]? = some (.fz r v l))
  (hu : P.underlying t = some (.slice elem)) (hsz : sizeOf' P elem = some r.sz) (hlo : optA A xlo = some lo) (hhi : optA A xhi = some (some hi)) (hmx : optA A xmx = some (some mx)) (hm : mx = hi) (hsub : sub l (lo.getD 0) hi = some l')
  (kk : ∀ v' tm, S wm n tm H ((d, v') :: A) (.fz r v' l' :: L) Fr → wpO P ora wm draw ops rest tm H R) :
  wpO P ora wm draw ops (⟨some d, .slice t x xlo xhi xmx, ty, pos, aft, g⟩ :: rest) tm H R := by
 subst hm
 obtain ⟨Z, hI⟩ := hS.inv
 have hfz := hI.ok _ (Kn0.mem hk)
 obtain ⟨h0, h1, h2, rfl⟩ := sub_lt hsub
 obtain ⟨vlo, hvlo, hblo⟩ := optA_ev hS.env hlo
 obtain ⟨vhi, hvhi, hbhi⟩ := optA_ev hS.env hhi
 obtain ⟨vmx, hvmx, hbmx⟩ := optA_ev hS.env hmx
 have hhn : vhi.head?.isNone = false := by
  have := hbhi mx.toNat (fun j hj => by cases hj; omega)
  cases hh : vhi.head? with
  | none => rw [hh] at this; simp [bnd] at this
  | some _ => rfl
 have e2 : (lo.map Int.toNat).getD 0 = (lo.getD 0).toNat := by cases lo <;> simp
 have hb2 := hblo mx.toNat (fun j hj => by subst hj; simp at h0 h1; omega)
 have hb1 := hbhi mx.toNat (fun j hj => by cases hj; omega)
 rcases hfz with ⟨rfl, rfl⟩ | ⟨b, o, cap, own, gr, cells, cs, rfl, h4, h5, h6, h7⟩
 ·obtain rfl : mx = 0 := by simp at h2; omega
  have hl0 : (lo.getD 0).toNat = 0 := by omega
  have hbm := hbmx 0 (fun j hj => by cases hj; omega)
  refine o_run (v := .slice none 0 0) (H' := H) hS hw rfl ?_ (kk _ _ ((hS.put hd _).addp (e := .fz r (.slice none 0 0) _) hI (.inl ⟨rfl, by simp⟩) rfl))
  simp only [aOp, ev_of hS.env hx, hvlo, hvhi, hvmx, aSlice, hu, hsz, hbm, hhn, Bool.and_false, Bool.false_eq_true, if_false, Option.map_some, Option.getD_some]
  have hb1' : bnd (Int.toNat 0) vhi.head? = some (some (Int.toNat 0)) := hb1
  simp only [hb1', Option.getD_some, hb2, e2, hl0]
  rfl
 ·have hbm := hbmx cap (fun j hj => by cases hj; omega)
  have hg := (hI.z b _ h5).2
  refine o_run (v := .slice (some ⟨b, o + (lo.getD 0).toNat * r.sz, none⟩) (mx.toNat - (lo.getD 0).toNat) (mx.toNat - (lo.getD 0).toNat)) (H' := H) hS hw rfl ?_ (kk _ _ ((hS.put hd _).addp (e := .fz r _ _) hI (.inr ⟨b, o + (lo.getD 0).toNat * r.sz, mx.toNat - (lo.getD 0).toNat, own, gr, cells, ((cs.drop ((lo.getD 0).toNat * r.sz)).take ((mx.toNat - (lo.getD 0).toNat) * r.sz)), ?_, ?_, h5, ?_, ?_⟩) rfl))
  ·simp only [aOp, ev_of hS.env hx, hvlo, hvhi, hvmx, aSlice, hu, hsz, hbm, hhn, Bool.and_false, Bool.false_eq_true, if_false, Option.map_some, Option.getD_some, hb1, hb2, e2, hg]
   simp
  ·congr 1; simp; omega
  ·simp; omega
  ·have e : ((l.take mx.toNat).drop (lo.getD 0).toNat).length = mx.toNat - (lo.getD 0).toNat := by simp; omega
   rw [e]
   exact cut_part (i := (lo.getD 0).toNat * r.sz) h6 (by rw [← Nat.add_mul]; exact Nat.mul_le_mul_right _ (by omega))
  ·have := (h7.drop (lo.getD 0).toNat).take (mx.toNat - (lo.getD 0).toNat)
   rw [List.drop_take]
   exact this
/-! several steps at once -/
theorem pp1 {d1 : Tmp} {op1 : Op} {v1 : Value} {ty1 : TypeId} {pos1 : String} {aft1 : Array Edge} (hS : S wm n tm H A L Fr) (e1 : Nat.blt d1 n = true) (h1 : aOpA P A op1 = some v1) (k : ∀ tm, S wm n tm H ((d1, v1) :: A) L Fr → wpO P ora wm draw ops rest tm H R) : wpO P ora wm draw ops (⟨some d1, op1, ty1, pos1, aft1, none⟩ :: rest) tm H R := o_pure hS (.inl rfl) e1 h1 (k)
theorem pp2 {d1 d2 : Tmp} {op1 op2 : Op} {v1 v2 : Value} {ty1 ty2 : TypeId} {pos1 pos2 : String} {aft1 aft2 : Array Edge} (hS : S wm n tm H A L Fr) (e1 : Nat.blt d1 n = true) (h1 : aOpA P A op1 = some v1) (e2 : Nat.blt d2 n = true) (h2 : aOpA P ((d1, v1) :: A) op2 = some v2) (k : ∀ tm, S wm n tm H ((d2, v2) :: ((d1, v1) :: A)) L Fr → wpO P ora wm draw ops rest tm H R) : wpO P ora wm draw ops (⟨some d1, op1, ty1, pos1, aft1, none⟩ :: ⟨some d2, op2, ty2, pos2, aft2, none⟩ :: rest) tm H R := o_pure hS (.inl rfl) e1 h1 (fun tm hS => o_pure hS (.inl rfl) e2 h2 (k))
theorem pp3 {d1 d2 d3 : Tmp} {op1 op2 op3 : Op} {v1 v2 v3 : Value} {ty1 ty2 ty3 : TypeId} {pos1 pos2 pos3 : String} {aft1 aft2 aft3 : Array Edge} (hS : S wm n tm H A L Fr) (e1 : Nat.blt d1 n = true) (h1 : aOpA P A op1 = some v1) (e2 : Nat.blt d2 n = true) (h2 : aOpA P ((d1, v1) :: A) op2 = some v2) (e3 : Nat.blt d3 n = true) (h3 : aOpA P ((d2, v2) :: ((d1, v1) :: A)) op3 = some v3) (k : ∀ tm, S wm n tm H ((d3, v3) :: ((d2, v2) :: ((d1, v1) :: A))) L Fr → wpO P ora wm draw ops rest tm H R) : wpO P ora wm draw ops (⟨some d1, op1, ty1, pos1, aft1, none⟩ :: ⟨some d2, op2, ty2, pos2, aft2, none⟩ :: ⟨some d3, op3, ty3, pos3, aft3, none⟩ :: rest) tm H R := o_pure hS (.inl rfl) e1 h1 (fun tm hS => o_pure hS (.inl rfl) e2 h2 (fun tm hS => o_pure hS (.inl rfl) e3 h3 (k)))
theorem pp4 {d1 d2 d3 d4 : Tmp} {op1 op2 op3 op4 : Op} {v1 v2 v3 v4 : Value} {ty1 ty2 ty3 ty4 : TypeId} {pos1 pos2 pos3 pos4 : String} {aft1 aft2 aft3 aft4 : Array Edge} (hS : S wm n tm H A L Fr) (e1 : Nat.blt d1 n = true) (h1 : aOpA P A op1 = some v1) (e2 : Nat.blt d2 n = true) (h2 : aOpA P ((d1, v1) :: A) op2 = some v2) (e3 : Nat.blt d3 n = true) (h3 : aOpA P ((d2, v2) :: ((d1, v1) :: A)) op3 = some v3) (e4 : Nat.blt d4 n = true) (h4 : aOpA P ((d3, v3) :: ((d2, v2) :: ((d1, v1) :: A))) op4 = some v4) (k : ∀ tm, S wm n tm H ((d4, v4) :: ((d3, v3) :: ((d2, v2) :: ((d1, v1) :: A)))) L Fr → wpO P ora wm draw ops rest tm H R) : wpO P ora wm draw ops (⟨some d1, op1, ty1, pos1, aft1, none⟩ :: ⟨some d2, op2, ty2, pos2, aft2, none⟩ :: ⟨some d3, op3, ty3, pos3, aft3, none⟩ :: ⟨some d4, op4, ty4, pos4, aft4, none⟩ :: rest) tm H R := o_pure hS (.inl rfl) e1 h1 (fun tm hS => o_pure hS (.inl rfl) e2 h2 (fun tm hS => o_pure hS (.inl rfl) e3 h3 (fun tm hS => o_pure hS (.inl rfl) e4 h4 (k))))
theorem pp5 {d1 d2 d3 d4 d5 : Tmp} {op1 op2 op3 op4 op5 : Op} {v1 v2 v3 v4 v5 : Value} {ty1 ty2 ty3 ty4 ty5 : TypeId} {pos1 pos2 pos3 pos4 pos5 : String} {aft1 aft2 aft3 aft4 aft5 : Array Edge} (hS : S wm n tm H A L Fr) (e1 : Nat.blt d1 n = true) (h1 : aOpA P A op1 = some v1) (e2 : Nat.blt d2 n = true) (h2 : aOpA P ((d1, v1) :: A) op2 = some v2) (e3 : Nat.blt d3 n = true) (h3 : aOpA P ((d2, v2) :: ((d1, v1) :: A)) op3 = some v3) (e4 : Nat.blt d4 n = true) (h4 : aOpA P ((d3, v3) :: ((d2, v2) :: ((d1, v1) :: A))) op4 = some v4) (e5 : Nat.blt d5 n = true) (h5 : aOpA P ((d4, v4) :: ((d3, v3) :: ((d2, v2) :: ((d1, v1) :: A)))) op5 = some v5) (k : ∀ tm, S wm n tm H ((d5, v5) :: ((d4, v4) :: ((d3, v3) :: ((d2, v2) :: ((d1, v1) :: A))))) L Fr → wpO P ora wm draw ops rest tm H R) : wpO P ora wm draw ops (⟨some d1, op1, ty1, pos1, aft1, none⟩ :: ⟨some d2, op2, ty2, pos2, aft2, none⟩ :: ⟨some d3, op3, ty3, pos3, aft3, none⟩ :: ⟨some d4, op4, ty4, pos4, aft4, none⟩ :: ⟨some d5, op5, ty5, pos5, aft5, none⟩ :: rest) tm H R := o_pure hS (.inl rfl) e1 h1 (fun tm hS => o_pure hS (.inl rfl) e2 h2 (fun tm hS => o_pure hS (.inl rfl) e3 h3 (fun tm hS => o_pure hS (.inl rfl) e4 h4 (fun tm hS => o_pure hS (.inl rfl) e5 h5 (k)))))
theorem pp6 {d1 d2 d3 d4 d5 d6 : Tmp} {op1 op2 op3 op4 op5 op6 : Op} {v1 v2 v3 v4 v5 v6 : Value} {ty1 ty2 ty3 ty4 ty5 ty6 : TypeId} {pos1 pos2 pos3 pos4 pos5 pos6 : String} {aft1 aft2 aft3 aft4 aft5 aft6 : Array Edge} (hS : S wm n tm H A L Fr) (e1 : Nat.blt d1 n = true) (h1 : aOpA P A op1 = some v1) (e2 : Nat.blt d2 n = true) (h2 : aOpA P ((d1, v1) :: A) op2 = some v2) (e3 : Nat.blt d3 n = true) (h3 : aOpA P ((d2, v2) :: ((d1, v1) :: A)) op3 = some v3) (e4 : Nat.blt d4 n = true) (h4 : aOpA P ((d3, v3) :: ((d2, v2) :: ((d1, v1) :: A))) op4 = some v4) (e5 : Nat.blt d5 n = true) (h5 : aOpA P ((d4, v4) :: ((d3, v3) :: ((d2, v2) :: ((d1, v1) :: A)))) op5 = some v5) (e6 : Nat.blt d6 n = true) (h6 : aOpA P ((d5, v5) :: ((d4, v4) :: ((d3, v3) :: ((d2, v2) :: ((d1, v1) :: A))))) op6 = some v6) (k : ∀ tm, S wm n tm H ((d6, v6) :: ((d5, v5) :: ((d4, v4) :: ((d3, v3) :: ((d2, v2) :: ((d1, v1) :: A)))))) L Fr → wpO P ora wm draw ops rest tm H R) : wpO P ora wm draw ops (⟨some d1, op1, ty1, pos1, aft1, none⟩ :: ⟨some d2, op2, ty2, pos2, aft2, none⟩ :: ⟨some d3, op3, ty3, pos3, aft3, none⟩ :: ⟨some d4, op4, ty4, pos4, aft4, none⟩ :: ⟨some d5, op5, ty5, pos5, aft5, none⟩ :: ⟨some d6, op6, ty6, pos6, aft6, none⟩ :: rest) tm H R := o_pure hS (.inl rfl) e1 h1 (fun tm hS => o_pure hS (.inl rfl) e2 h2 (fun tm hS => o_pure hS (.inl rfl) e3 h3 (fun tm hS => o_pure hS (.inl rfl) e4 h4 (fun tm hS => o_pure hS (.inl rfl) e5 h5 (fun tm hS => o_pure hS (.inl rfl) e6 h6 (k))))))
theorem pp7 {d1 d2 d3 d4 d5 d6 d7 : Tmp} {op1 op2 op3 op4 op5 op6 op7 : Op} {v1 v2 v3 v4 v5 v6 v7 : Value} {ty1 ty2 ty3 ty4 ty5 ty6 ty7 : TypeId} {pos1 pos2 pos3 pos4 pos5 pos6 pos7 : String} {aft1 aft2 aft3 aft4 aft5 aft6 aft7 : Array Edge} (hS : S wm n tm H A L Fr) (e1 : Nat.blt d1 n = true) (h1 : aOpA P A op1 = some v1) (e2 : Nat.blt d2 n = true) (h2 : aOpA P ((d1, v1) :: A) op2 = some v2) (e3 : Nat.blt d3 n = true) (h3 : aOpA P ((d2, v2) :: ((d1, v1) :: A)) op3 = some v3) (e4 : Nat.blt d4 n = true) (h4 : aOpA P ((d3, v3) :: ((d2, v2) :: ((d1, v1) :: A))) op4 = some v4) (e5 : Nat.blt d5 n = true) (h5 : aOpA P ((d4, v4) :: ((d3, v3) :: ((d2, v2) :: ((d1, v1) :: A)))) op5 = some v5) (e6 : Nat.blt d6 n = true) (h6 : aOpA P ((d5, v5) :: ((d4, v4) :: ((d3, v3) :: ((d2, v2) :: ((d1, v1) :: A))))) op6 = some v6) (e7 : Nat.blt d7 n = true) (h7 : aOpA P ((d6, v6) :: ((d5, v5) :: ((d4, v4) :: ((d3, v3) :: ((d2, v2) :: ((d1, v1) :: A)))))) op7 = some v7) (k : ∀ tm, S wm n tm H ((d7, v7) :: ((d6, v6) :: ((d5, v5) :: ((d4, v4) :: ((d3, v3) :: ((d2, v2) :: ((d1, v1) :: A))))))) L Fr → wpO P ora wm draw ops rest tm H R) : wpO P ora wm draw ops (⟨some d1, op1, ty1, pos1, aft1, none⟩ :: ⟨some d2, op2, ty2, pos2, aft2, none⟩ :: ⟨some d3, op3, ty3, pos3, aft3, none⟩ :: ⟨some d4, op4, ty4, pos4, aft4, none⟩ :: ⟨some d5, op5, ty5, pos5, aft5, none⟩ :: ⟨some d6, op6, ty6, pos6, aft6, none⟩ :: ⟨some d7, op7, ty7, pos7, aft7, none⟩ :: rest) tm H R := o_pure hS (.inl rfl) e1 h1 (fun tm hS => o_pure hS (.inl rfl) e2 h2 (fun tm hS => o_pure hS (.inl rfl) e3 h3 (fun tm hS => o_pure hS (.inl rfl) e4 h4 (fun tm hS => o_pure hS (.inl rfl) e5 h5 (fun tm hS => o_pure hS (.inl rfl) e6 h6 (fun tm hS => o_pure hS (.inl rfl) e7 h7 (k)))))))
theorem pp8 {d1 d2 d3 d4 d5 d6 d7 d8 : Tmp} {op1 op2 op3 op4 op5 op6 op7 op8 : Op} {v1 v2 v3 v4 v5 v6 v7 v8 : Value} {ty1 ty2 ty3 ty4 ty5 ty6 ty7 ty8 : TypeId} {pos1 pos2 pos3 pos4 pos5 pos6 pos7 pos8 : String} {aft1 aft2 aft3 aft4 aft5 aft6 aft7 aft8 : Array Edge} (hS : S wm n tm H A L Fr) (e1 : Nat.blt d1 n = true) (h1 : aOpA P A op1 = some v1) (e2 : Nat.blt d2 n = true) (h2 : aOpA P ((d1, v1) :: A) op2 = some v2) (e3 : Nat.blt d3 n = true) (h3 : aOpA P ((d2, v2) :: ((d1, v1) :: A)) op3 = some v3) (e4 : Nat.blt d4 n = true) (h4 : aOpA P ((d3, v3) :: ((d2, v2) :: ((d1, v1) :: A))) op4 = some v4) (e5 : Nat.blt d5 n = true) (h5 : aOpA P ((d4, v4) :: ((d3, v3) :: ((d2, v2) :: ((d1, v1) :: A)))) op5 = some v5) (e6 : Nat.blt d6 n = true) (h6 : aOpA P ((d5, v5) :: ((d4, v4) :: ((d3, v3) :: ((d2, v2) :: ((d1, v1) :: A))))) op6 = some v6) (e7 : Nat.blt d7 n = true) (h7 : aOpA P ((d6, v6) :: ((d5, v5) :: ((d4, v4) :: ((d3, v3) :: ((d2, v2) :: ((d1, v1) :: A)))))) op7 = some v7) (e8 : Nat.blt d8 n = true) (h8 : aOpA P ((d7, v7) :: ((d6, v6) :: ((d5, v5) :: ((d4, v4) :: ((d3, v3) :: ((d2, v2) :: ((d1, v1) :: A))))))) op8 = some v8) (k : ∀ tm, S wm n tm H ((d8, v8) :: ((d7, v7) :: ((d6, v6) :: ((d5, v5) :: ((d4, v4) :: ((d3, v3) :: ((d2, v2) :: ((d1, v1) :: A)))))))) L Fr → wpO P ora wm draw ops rest tm H R) : wpO P ora wm draw ops (⟨some d1, op1, ty1, pos1, aft1, none⟩ :: ⟨some d2, op2, ty2, pos2, aft2, none⟩ :: ⟨some d3, op3, ty3, pos3, aft3, none⟩ :: ⟨some d4, op4, ty4, pos4, aft4, none⟩ :: ⟨some d5, op5, ty5, pos5, aft5, none⟩ :: ⟨some d6, op6, ty6, pos6, aft6, none⟩ :: ⟨some d7, op7, ty7, pos7, aft7, none⟩ :: ⟨some d8, op8, ty8, pos8, aft8, none⟩ :: rest) tm H R := o_pure hS (.inl rfl) e1 h1 (fun tm hS => o_pure hS (.inl rfl) e2 h2 (fun tm hS => o_pure hS (.inl rfl) e3 h3 (fun tm hS => o_pure hS (.inl rfl) e4 h4 (fun tm hS => o_pure hS (.inl rfl) e5 h5 (fun tm hS => o_pure hS (.inl rfl) e6 h6 (fun tm hS => o_pure hS (.inl rfl) e7 h7 (fun tm hS => o_pure hS (.inl rfl) e8 h8 (k))))))))
theorem cr1 {d1 : Tmp} {op1 : Op} {v1 : Value} {ty1 : TypeId} {pos1 : String} {aft1 : Array Edge} {id : Nat} {b : Code} (hS : S wm n tm H A L Fr) (e1 : Nat.blt d1 n = true) (h1 : aOpA P A op1 = some v1) (k : ∀ tm, S wm n tm H ((d1, v1) :: A) L Fr → wpC P ora wm b tm H Q) : wpC P ora wm (.seq (.region id #[⟨some d1, op1, ty1, pos1, aft1, none⟩] draw) b) tm H Q := c_reg fun R hR => pp1 hS e1 h1 (fun tm hS => o_nil (hR _ _ (k tm hS)))
theorem cs1 {d1 : Tmp} {op1 : Op} {v1 : Value} {ty1 : TypeId} {pos1 : String} {aft1 : Array Edge} {id : Nat} (hS : S wm n tm H A L Fr) (e1 : Nat.blt d1 n = true) (h1 : aOpA P A op1 = some v1) (k : ∀ tm, S wm n tm H ((d1, v1) :: A) L Fr → Q .normal tm H) : wpC P ora wm (.region id #[⟨some d1, op1, ty1, pos1, aft1, none⟩] draw) tm H Q := c_reg1 fun R hR => pp1 hS e1 h1 (fun tm hS => o_nil (hR _ _ (k tm hS)))
theorem cr2 {d1 d2 : Tmp} {op1 op2 : Op} {v1 v2 : Value} {ty1 ty2 : TypeId} {pos1 pos2 : String} {aft1 aft2 : Array Edge} {id : Nat} {b : Code} (hS : S wm n tm H A L Fr) (e1 : Nat.blt d1 n = true) (h1 : aOpA P A op1 = some v1) (e2 : Nat.blt d2 n = true) (h2 : aOpA P ((d1, v1) :: A) op2 = some v2) (k : ∀ tm, S wm n tm H ((d2, v2) :: ((d1, v1) :: A)) L Fr → wpC P ora wm b tm H Q) : wpC P ora wm (.seq (.region id #[⟨some d1, op1, ty1, pos1, aft1, none⟩, ⟨some d2, op2, ty2, pos2, aft2, none⟩] draw) b) tm H Q := c_reg fun R hR => pp2 hS e1 h1 e2 h2 (fun tm hS => o_nil (hR _ _ (k tm hS)))
theorem cs2 {d1 d2 : Tmp} {op1 op2 : Op} {v1 v2 : Value} {ty1 ty2 : TypeId} {pos1 pos2 : String} {aft1 aft2 : Array Edge} {id : Nat} (hS : S wm n tm H A L Fr) (e1 : Nat.blt d1 n = true) (h1 : aOpA P A op1 = some v1) (e2 : Nat.blt d2 n = true) (h2 : aOpA P ((d1, v1) :: A) op2 = some v2) (k : ∀ tm, S wm n tm H ((d2, v2) :: ((d1, v1) :: A)) L Fr → Q .normal tm H) : wpC P ora wm (.region id #[⟨some d1, op1, ty1, pos1, aft1, none⟩, ⟨some d2, op2, ty2, pos2, aft2, none⟩] draw) tm H Q := c_reg1 fun R hR => pp2 hS e1 h1 e2 h2 (fun tm hS => o_nil (hR _ _ (k tm hS)))
theorem cr3 {d1 d2 d3 : Tmp} {op1 op2 op3 : Op} {v1 v2 v3 : Value} {ty1 ty2 ty3 : TypeId} {pos1 pos2 pos3 : String} {aft1 aft2 aft3 : Array Edge} {id : Nat} {b : Code} (hS : S wm n tm H A L Fr) (e1 : Nat.blt d1 n = true) (h1 : aOpA P A op1 = some v1) (e2 : Nat.blt d2 n = true) (h2 : aOpA P ((d1, v1) :: A) op2 = some v2) (e3 : Nat.blt d3 n = true) (h3 : aOpA P ((d2, v2) :: ((d1, v1) :: A)) op3 = some v3) (k : ∀ tm, S wm n tm H ((d3, v3) :: ((d2, v2) :: ((d1, v1) :: A))) L Fr → wpC P ora wm b tm H Q) : wpC P ora wm (.seq (.region id #[⟨some d1, op1, ty1, pos1, aft1, none⟩, ⟨some d2, op2, ty2, pos2, aft2, none⟩, ⟨some d3, op3, ty3, pos3, aft3, none⟩] draw) b) tm H Q := c_reg fun R hR => pp3 hS e1 h1 e2 h2 e3 h3 (fun tm hS => o_nil (hR _ _ (k tm hS)))
theorem cs3 {d1 d2 d3 : Tmp} {op1 op2 op3 : Op} {v1 v2 v3 : Value} {ty1 ty2 ty3 : TypeId} {pos1 pos2 pos3 : String} {aft1 aft2 aft3 : Array Edge} {id : Nat} (hS : S wm n tm H A L Fr) (e1 : Nat.blt d1 n = true) (h1 : aOpA P A op1 = some v1) (e2 : Nat.blt d2 n = true) (h2 : aOpA P ((d1, v1) :: A) op2 = some v2) (e3 : Nat.blt d3 n = true) (h3 : aOpA P ((d2, v2) :: ((d1, v1) :: A)) op3 = some v3) (k : ∀ tm, S wm n tm H ((d3, v3) :: ((d2, v2) :: ((d1, v1) :: A))) L Fr → Q .normal tm H) : wpC P ora wm (.region id #[⟨some d1, op1, ty1, pos1, aft1, none⟩, ⟨some d2, op2, ty2, pos2, aft2, none⟩, ⟨some d3, op3, ty3, pos3, aft3, none⟩] draw) tm H Q := c_reg1 fun R hR => pp3 hS e1 h1 e2 h2 e3 h3 (fun tm hS => o_nil (hR _ _ (k tm hS)))
theorem cr4 {d1 d2 d3 d4 : Tmp} {op1 op2 op3 op4 : Op} {v1 v2 v3 v4 : Value} {ty1 ty2 ty3 ty4 : TypeId} {pos1 pos2 pos3 pos4 : String} {aft1 aft2 aft3 aft4 : Array Edge} {id : Nat} {b : Code} (hS : S wm n tm H A L Fr) (e1 : Nat.blt d1 n = true) (h1 : aOpA P A op1 = some v1) (e2 : Nat.blt d2 n = true) (h2 : aOpA P ((d1, v1) :: A) op2 = some v2) (e3 : Nat.blt d3 n = true) (h3 : aOpA P ((d2, v2) :: ((d1, v1) :: A)) op3 = some v3) (e4 : Nat.blt d4 n = true) (h4 : aOpA P ((d3, v3) :: ((d2, v2) :: ((d1, v1) :: A))) op4 = some v4) (k : ∀ tm, S wm n tm H ((d4, v4) :: ((d3, v3) :: ((d2, v2) :: ((d1, v1) :: A)))) L Fr → wpC P ora wm b tm H Q) : wpC P ora wm (.seq (.region id #[⟨some d1, op1, ty1, pos1, aft1, none⟩, ⟨some d2, op2, ty2, pos2, aft2, none⟩, ⟨some d3, op3, ty3, pos3, aft3, none⟩, ⟨some d4, op4, ty4, pos4, aft4, none⟩] draw) b) tm H Q := c_reg fun R hR => pp4 hS e1 h1 e2 h2 e3 h3 e4 h4 (fun tm hS => o_nil (hR _ _ (k tm hS)))
theorem cs4 {d1 d2 d3 d4 : Tmp} {op1 op2 op3 op4 : Op} {v1 v2 v3 v4 : Value} {ty1 ty2 ty3 ty4 : TypeId} {pos1 pos2 pos3 pos4 : String} {aft1 aft2 aft3 aft4 : Array Edge} {id : Nat} (hS : S wm n tm H A L Fr) (e1 : Nat.blt d1 n = true) (h1 : aOpA P A op1 = some v1) (e2 : Nat.blt d2 n = true) (h2 : aOpA P ((d1, v1) :: A) op2 = some v2) (e3 : Nat.blt d3 n = true) (h3 : aOpA P ((d2, v2) :: ((d1, v1) :: A)) op3 = some v3) (e4 : Nat.blt d4 n = true) (h4 : aOpA P ((d3, v3) :: ((d2, v2) :: ((d1, v1) :: A))) op4 = some v4) (k : ∀ tm, S wm n tm H ((d4, v4) :: ((d3, v3) :: ((d2, v2) :: ((d1, v1) :: A)))) L Fr → Q .normal tm H) : wpC P ora wm (.region id #[⟨some d1, op1, ty1, pos1, aft1, none⟩, ⟨some d2, op2, ty2, pos2, aft2, none⟩, ⟨some d3, op3, ty3, pos3, aft3, none⟩, ⟨some d4, op4, ty4, pos4, aft4, none⟩] draw) tm H Q := c_reg1 fun R hR => pp4 hS e1 h1 e2 h2 e3 h3 e4 h4 (fun tm hS => o_nil (hR _ _ (k tm hS)))
theorem cr5 {d1 d2 d3 d4 d5 : Tmp} {op1 op2 op3 op4 op5 : Op} {v1 v2 v3 v4 v5 : Value} {ty1 ty2 ty3 ty4 ty5 : TypeId} {pos1 pos2 pos3 pos4 pos5 : String} {aft1 aft2 aft3 aft4 aft5 : Array Edge} {id : Nat} {b : Code} (hS : S wm n tm H A L Fr) (e1 : Nat.blt d1 n = true) (h1 : aOpA P A op1 = some v1) (e2 : Nat.blt d2 n = true) (h2 : aOpA P ((d1, v1) :: A) op2 = some v2) (e3 : Nat.blt d3 n = true) (h3 : aOpA P ((d2, v2) :: ((d1, v1) :: A)) op3 = some v3) (e4 : Nat.blt d4 n = true) (h4 : aOpA P ((d3, v3) :: ((d2, v2) :: ((d1, v1) :: A))) op4 = some v4) (e5 : Nat.blt d5 n = true) (h5 : aOpA P ((d4, v4) :: ((d3, v3) :: ((d2, v2) :: ((d1, v1) :: A)))) op5 = some v5) (k : ∀ tm, S wm n tm H ((d5, v5) :: ((d4, v4) :: ((d3, v3) :: ((d2, v2) :: ((d1, v1) :: A))))) L Fr → wpC P ora wm b tm H Q) : wpC P ora wm (.seq (.region id #[⟨some d1, op1, ty1, pos1, aft1, none⟩, ⟨some d2, op2, ty2, pos2, aft2, none⟩, ⟨some d3, op3, ty3, pos3, aft3, none⟩, ⟨some d4, op4, ty4, pos4, aft4, none⟩, ⟨some d5, op5, ty5, pos5, aft5, none⟩] draw) b) tm H Q := c_reg fun R hR => pp5 hS e1 h1 e2 h2 e3 h3 e4 h4 e5 h5 (fun tm hS => o_nil (hR _ _ (k tm hS)))
theorem cs5 {d1 d2 d3 d4 d5 : Tmp} {op1 op2 op3 op4 op5 : Op} {v1 v2 v3 v4 v5 : Value} {ty1 ty2 ty3 ty4 ty5 : TypeId} {pos1 pos2 pos3 pos4 pos5 : String} {aft1 aft2 aft3 aft4 aft5 : Array Edge} {id : Nat} (hS : S wm n tm H A L Fr) (e1 : Nat.blt d1 n = true) (h1 : aOpA P A op1 = some v1) (e2 : Nat.blt d2 n = true) (h2 : aOpA P ((d1, v1) :: A) op2 = some v2) (e3 : Nat.blt d3 n = true) (h3 : aOpA P ((d2, v2) :: ((d1, v1) :: A)) op3 = some v3) (e4 : Nat.blt d4 n = true) (h4 : aOpA P ((d3, v3) :: ((d2, v2) :: ((d1, v1) :: A))) op4 = some v4) (e5 : Nat.blt d5 n = true) (h5 : aOpA P ((d4, v4) :: ((d3, v3) :: ((d2, v2) :: ((d1, v1) :: A)))) op5 = some v5) (k : ∀ tm, S wm n tm H ((d5, v5) :: ((d4, v4) :: ((d3, v3) :: ((d2, v2) :: ((d1, v1) :: A))))) L Fr → Q .normal tm H) : wpC P ora wm (.region id #[⟨some d1, op1, ty1, pos1, aft1, none⟩, ⟨some d2, op2, ty2, pos2, aft2, none⟩, ⟨some d3, op3, ty3, pos3, aft3, none⟩, ⟨some d4, op4, ty4, pos4, aft4, none⟩, ⟨some d5, op5, ty5, pos5, aft5, none⟩] draw) tm H Q := c_reg1 fun R hR => pp5 hS e1 h1 e2 h2 e3 h3 e4 h4 e5 h5 (fun tm hS => o_nil (hR _ _ (k tm hS)))
theorem cr6 {d1 d2 d3 d4 d5 d6 : Tmp} {op1 op2 op3 op4 op5 op6 : Op} {v1 v2 v3 v4 v5 v6 : Value} {ty1 ty2 ty3 ty4 ty5 ty6 : TypeId} {pos1 pos2 pos3 pos4 pos5 pos6 : String} {aft1 aft2 aft3 aft4 aft5 aft6 : Array Edge} {id : Nat} {b : Code} (hS : S wm n tm H A L Fr) (e1 : Nat.blt d1 n = true) (h1 : aOpA P A op1 = some v1) (e2 : Nat.blt d2 n = true) (h2 : aOpA P ((d1, v1) :: A) op2 = some v2) (e3 : Nat.blt d3 n = true) (h3 : aOpA P ((d2, v2) :: ((d1, v1) :: A)) op3 = some v3) (e4 : Nat.blt d4 n = true) (h4 : aOpA P ((d3, v3) :: ((d2, v2) :: ((d1, v1) :: A))) op4 = some v4) (e5 : Nat.blt d5 n = true) (h5 : aOpA P ((d4, v4) :: ((d3, v3) :: ((d2, v2) :: ((d1, v1) :: A)))) op5 = some v5) (e6 : Nat.blt d6 n = true) (h6 : aOpA P ((d5, v5) :: ((d4, v4) :: ((d3, v3) :: ((d2, v2) :: ((d1, v1) :: A))))) op6 = some v6) (k : ∀ tm, S wm n tm H ((d6, v6) :: ((d5, v5) :: ((d4, v4) :: ((d3, v3) :: ((d2, v2) :: ((d1, v1) :: A)))))) L Fr → wpC P ora wm b tm H Q) : wpC P ora wm (.seq (.region id #[⟨some d1, op1, ty1, pos1, aft1, none⟩, ⟨some d2, op2, ty2, pos2, aft2, none⟩, ⟨some d3, op3, ty3, pos3, aft3, none⟩, ⟨some d4, op4, ty4, pos4, aft4, none⟩, ⟨some d5, op5, ty5, pos5, aft5, none⟩, ⟨some d6, op6, ty6, pos6, aft6, none⟩] draw) b) tm H Q := c_reg fun R hR => pp6 hS e1 h1 e2 h2 e3 h3 e4 h4 e5 h5 e6 h6 (fun tm hS => o_nil (hR _ _ (k tm hS)))
theorem cs6 {d1 d2 d3 d4 d5 d6 : Tmp} {op1 op2 op3 op4 op5 op6 : Op} {v1 v2 v3 v4 v5 v6 : Value} {ty1 ty2 ty3 ty4 ty5 ty6 : TypeId} {pos1 pos2 pos3 pos4 pos5 pos6 : String} {aft1 aft2 aft3 aft4 aft5 aft6 : Array Edge} {id : Nat} (hS : S wm n tm H A L Fr) (e1 : Nat.blt d1 n = true) (h1 : aOpA P A op1 = some v1) (e2 : Nat.blt d2 n = true) (h2 : aOpA P ((d1, v1) :: A) op2 = some v2) (e3 : Nat.blt d3 n = true) (h3 : aOpA P ((d2, v2) :: ((d1, v1) :: A)) op3 = some v3) (e4 : Nat.blt d4 n = true) (h4 : aOpA P ((d3, v3) :: ((d2, v2) :: ((d1, v1) :: A))) op4 = some v4) (e5 : Nat.blt d5 n = true) (h5 : aOpA P ((d4, v4) :: ((d3, v3) :: ((d2, v2) :: ((d1, v1) :: A)))) op5 = some v5) (e6 : Nat.blt d6 n = true) (h6 : aOpA P ((d5, v5) :: ((d4, v4) :: ((d3, v3) :: ((d2, v2) :: ((d1, v1) :: A))))) op6 = some v6) (k : ∀ tm, S wm n tm H ((d6, v6) :: ((d5, v5) :: ((d4, v4) :: ((d3, v3) :: ((d2, v2) :: ((d1, v1) :: A)))))) L Fr → Q .normal tm H) : wpC P ora wm (.region id #[⟨some d1, op1, ty1, pos1, aft1, none⟩, ⟨some d2, op2, ty2, pos2, aft2, none⟩, ⟨some d3, op3, ty3, pos3, aft3, none⟩, ⟨some d4, op4, ty4, pos4, aft4, none⟩, ⟨some d5, op5, ty5, pos5, aft5, none⟩, ⟨some d6, op6, ty6, pos6, aft6, none⟩] draw) tm H Q := c_reg1 fun R hR => pp6 hS e1 h1 e2 h2 e3 h3 e4 h4 e5 h5 e6 h6 (fun tm hS => o_nil (hR _ _ (k tm hS)))
theorem k2 {i1 i2 : Nat} {u1 u2 : Value} (h1 : lk A i1 = some u1) (h2 : lk A i2 = some u2) : ∀ t v, lk [(i1, u1), (i2, u2)] t = some v → lk A t = some v := ka_cons h1 (ka_cons h2 (ka_nil))
theorem k3 {i1 i2 i3 : Nat} {u1 u2 u3 : Value} (h1 : lk A i1 = some u1) (h2 : lk A i2 = some u2) (h3 : lk A i3 = some u3) : ∀ t v, lk [(i1, u1), (i2, u2), (i3, u3)] t = some v → lk A t = some v := ka_cons h1 (ka_cons h2 (ka_cons h3 (ka_nil)))
theorem k4 {i1 i2 i3 i4 : Nat} {u1 u2 u3 u4 : Value} (h1 : lk A i1 = some u1) (h2 : lk A i2 = some u2) (h3 : lk A i3 = some u3) (h4 : lk A i4 = some u4) : ∀ t v, lk [(i1, u1), (i2, u2), (i3, u3), (i4, u4)] t = some v → lk A t = some v := ka_cons h1 (ka_cons h2 (ka_cons h3 (ka_cons h4 (ka_nil))))
theorem k5 {i1 i2 i3 i4 i5 : Nat} {u1 u2 u3 u4 u5 : Value} (h1 : lk A i1 = some u1) (h2 : lk A i2 = some u2) (h3 : lk A i3 = some u3) (h4 : lk A i4 = some u4) (h5 : lk A i5 = some u5) : ∀ t v, lk [(i1, u1), (i2, u2), (i3, u3), (i4, u4), (i5, u5)] t = some v → lk A t = some v := ka_cons h1 (ka_cons h2 (ka_cons h3 (ka_cons h4 (ka_cons h5 (ka_nil)))))
theorem k6 {i1 i2 i3 i4 i5 i6 : Nat} {u1 u2 u3 u4 u5 u6 : Value} (h1 : lk A i1 = some u1) (h2 : lk A i2 = some u2) (h3 : lk A i3 = some u3) (h4 : lk A i4 = some u4) (h5 : lk A i5 = some u5) (h6 : lk A i6 = some u6) : ∀ t v, lk [(i1, u1), (i2, u2), (i3, u3), (i4, u4), (i5, u5), (i6, u6)] t = some v → lk A t = some v := ka_cons h1 (ka_cons h2 (ka_cons h3 (ka_cons h4 (ka_cons h5 (ka_cons h6 (ka_nil))))))
theorem k7 {i1 i2 i3 i4 i5 i6 i7 : Nat} {u1 u2 u3 u4 u5 u6 u7 : Value} (h1 : lk A i1 = some u1) (h2 : lk A i2 = some u2) (h3 : lk A i3 = some u3) (h4 : lk A i4 = some u4) (h5 : lk A i5 = some u5) (h6 : lk A i6 = some u6) (h7 : lk A i7 = some u7) : ∀ t v, lk [(i1, u1), (i2, u2), (i3, u3), (i4, u4), (i5, u5), (i6, u6), (i7, u7)] t = some v → lk A t = some v := ka_cons h1 (ka_cons h2 (ka_cons h3 (ka_cons h4 (ka_cons h5 (ka_cons h6 (ka_cons h7 (ka_nil)))))))
theorem k8 {i1 i2 i3 i4 i5 i6 i7 i8 : Nat} {u1 u2 u3 u4 u5 u6 u7 u8 : Value} (h1 : lk A i1 = some u1) (h2 : lk A i2 = some u2) (h3 : lk A i3 = some u3) (h4 : lk A i4 = some u4) (h5 : lk A i5 = some u5) (h6 : lk A i6 = some u6) (h7 : lk A i7 = some u7) (h8 : lk A i8 = some u8) : ∀ t v, lk [(i1, u1), (i2, u2), (i3, u3), (i4, u4), (i5, u5), (i6, u6), (i7, u7), (i8, u8)] t = some v → lk A t = some v := ka_cons h1 (ka_cons h2 (ka_cons h3 (ka_cons h4 (ka_cons h5 (ka_cons h6 (ka_cons h7 (ka_cons h8 (ka_nil))))))))
theorem k9 {i1 i2 i3 i4 i5 i6 i7 i8 i9 : Nat} {u1 u2 u3 u4 u5 u6 u7 u8 u9 : Value} (h1 : lk A i1 = some u1) (h2 : lk A i2 = some u2) (h3 : lk A i3 = some u3) (h4 : lk A i4 = some u4) (h5 : lk A i5 = some u5) (h6 : lk A i6 = some u6) (h7 : lk A i7 = some u7) (h8 : lk A i8 = some u8) (h9 : lk A i9 = some u9) : ∀ t v, lk [(i1, u1), (i2, u2), (i3, u3), (i4, u4), (i5, u5), (i6, u6), (i7, u7), (i8, u8), (i9, u9)] t = some v → lk A t = some v := ka_cons h1 (ka_cons h2 (ka_cons h3 (ka_cons h4 (ka_cons h5 (ka_cons h6 (ka_cons h7 (ka_cons h8 (ka_cons h9 (ka_nil)))))))))
theorem k10 {i1 i2 i3 i4 i5 i6 i7 i8 i9 i10 : Nat} {u1 u2 u3 u4 u5 u6 u7 u8 u9 u10 : Value} (h1 : lk A i1 = some u1) (h2 : lk A i2 = some u2) (h3 : lk A i3 = some u3) (h4 : lk A i4 = some u4) (h5 : lk A i5 = some u5) (h6 : lk A i6 = some u6) (h7 : lk A i7 = some u7) (h8 : lk A i8 = some u8) (h9 : lk A i9 = some u9) (h10 : lk A i10 = some u10) : ∀ t v, lk [(i1, u1), (i2, u2), (i3, u3), (i4, u4), (i5, u5), (i6, u6), (i7, u7), (i8, u8), (i9, u9), (i10, u10)] t = some v → lk A t = some v := ka_cons h1 (ka_cons h2 (ka_cons h3 (ka_cons h4 (ka_cons h5 (ka_cons h6 (ka_cons h7 (ka_cons h8 (ka_cons h9 (ka_cons h10 (ka_nil))))))))))
theorem k11 {i1 i2 i3 i4 i5 i6 i7 i8 i9 i10 i11 : Nat} {u1 u2 u3 u4 u5 u6 u7 u8 u9 u10 u11 : Value} (h1 : lk A i1 = some u1) (h2 : lk A i2 = some u2) (h3 : lk A i3 = some u3) (h4 : lk A i4 = some u4) (h5 : lk A i5 = some u5) (h6 : lk A i6 = some u6) (h7 : lk A i7 = some u7) (h8 : lk A i8 = some u8) (h9 : lk A i9 = some u9) (h10 : lk A i10 = some u10) (h11 : lk A i11 = some u11) : ∀ t v, lk [(i1, u1), (i2, u2), (i3, u3), (i4, u4), (i5, u5), (i6, u6), (i7, u7), (i8, u8), (i9, u9), (i10, u10), (i11, u11)] t = some v → lk A t = some v := ka_cons h1 (ka_cons h2 (ka_cons h3 (ka_cons h4 (ka_cons h5 (ka_cons h6 (ka_cons h7 (ka_cons h8 (ka_cons h9 (ka_cons h10 (ka_cons h11 (ka_nil)))))))))))
theorem k12 {i1 i2 i3 i4 i5 i6 i7 i8 i9 i10 i11 i12 : Nat} {u1 u2 u3 u4 u5 u6 u7 u8 u9 u10 u11 u12 : Value} (h1 : lk A i1 = some u1) (h2 : lk A i2 = some u2) (h3 : lk A i3 = some u3) (h4 : lk A i4 = some u4) (h5 : lk A i5 = some u5) (h6 : lk A i6 = some u6) (h7 : lk A i7 = some u7) (h8 : lk A i8 = some u8) (h9 : lk A i9 = some u9) (h10 : lk A i10 = some u10) (h11 : lk A i11 = some u11) (h12 : lk A i12 = some u12) : ∀ t v, lk [(i1, u1), (i2, u2), (i3, u3), (i4, u4), (i5, u5), (i6, u6), (i7, u7), (i8, u8), (i9, u9), (i10, u10), (i11, u11), (i12, u12)] t = some v → lk A t = some v := ka_cons h1 (ka_cons h2 (ka_cons h3 (ka_cons h4 (ka_cons h5 (ka_cons h6 (ka_cons h7 (ka_cons h8 (ka_cons h9 (ka_cons h10 (ka_cons h11 (ka_cons h12 (ka_nil))))))))))))
theorem k13 {i1 i2 i3 i4 i5 i6 i7 i8 i9 i10 i11 i12 i13 : Nat} {u1 u2 u3 u4 u5 u6 u7 u8 u9 u10 u11 u12 u13 : Value} (h1 : lk A i1 = some u1) (h2 : lk A i2 = some u2) (h3 : lk A i3 = some u3) (h4 : lk A i4 = some u4) (h5 : lk A i5 = some u5) (h6 : lk A i6 = some u6) (h7 : lk A i7 = some u7) (h8 : lk A i8 = some u8) (h9 : lk A i9 = some u9) (h10 : lk A i10 = some u10) (h11 : lk A i11 = some u11) (h12 : lk A i12 = some u12) (h13 : lk A i13 = some u13) : ∀ t v, lk [(i1, u1), (i2, u2), (i3, u3), (i4, u4), (i5, u5), (i6, u6), (i7, u7), (i8, u8), (i9, u9), (i10, u10), (i11, u11), (i12, u12), (i13, u13)] t = some v → lk A t = some v := ka_cons h1 (ka_cons h2 (ka_cons h3 (ka_cons h4 (ka_cons h5 (ka_cons h6 (ka_cons h7 (ka_cons h8 (ka_cons h9 (ka_cons h10 (ka_cons h11 (ka_cons h12 (ka_cons h13 (ka_nil)))))))))))))
theorem k14 {i1 i2 i3 i4 i5 i6 i7 i8 i9 i10 i11 i12 i13 i14 : Nat} {u1 u2 u3 u4 u5 u6 u7 u8 u9 u10 u11 u12 u13 u14 : Value} (h1 : lk A i1 = some u1) (h2 : lk A i2 = some u2) (h3 : lk A i3 = some u3) (h4 : lk A i4 = some u4) (h5 : lk A i5 = some u5) (h6 : lk A i6 = some u6) (h7 : lk A i7 = some u7) (h8 : lk A i8 = some u8) (h9 : lk A i9 = some u9) (h10 : lk A i10 = some u10) (h11 : lk A i11 = some u11) (h12 : lk A i12 = some u12) (h13 : lk A i13 = some u13) (h14 : lk A i14 = some u14) : ∀ t v, lk [(i1, u1), (i2, u2), (i3, u3), (i4, u4), (i5, u5), (i6, u6), (i7, u7), (i8, u8), (i9, u9), (i10, u10), (i11, u11), (i12, u12), (i13, u13), (i14, u14)] t = some v → lk A t = some v := ka_cons h1 (ka_cons h2 (ka_cons h3 (ka_cons h4 (ka_cons h5 (ka_cons h6 (ka_cons h7 (ka_cons h8 (ka_cons h9 (ka_cons h10 (ka_cons h11 (ka_cons h12 (ka_cons h13 (ka_cons h14 (ka_nil))))))))))))))
theorem k15 {i1 i2 i3 i4 i5 i6 i7 i8 i9 i10 i11 i12 i13 i14 i15 : Nat} {u1 u2 u3 u4 u5 u6 u7 u8 u9 u10 u11 u12 u13 u14 u15 : Value} (h1 : lk A i1 = some u1) (h2 : lk A i2 = some u2) (h3 : lk A i3 = some u3) (h4 : lk A i4 = some u4) (h5 : lk A i5 = some u5) (h6 : lk A i6 = some u6) (h7 : lk A i7 = some u7) (h8 : lk A i8 = some u8) (h9 : lk A i9 = some u9) (h10 : lk A i10 = some u10) (h11 : lk A i11 = some u11) (h12 : lk A i12 = some u12) (h13 : lk A i13 = some u13) (h14 : lk A i14 = some u14) (h15 : lk A i15 = some u15) : ∀ t v, lk [(i1, u1), (i2, u2), (i3, u3), (i4, u4), (i5, u5), (i6, u6), (i7, u7), (i8, u8), (i9, u9), (i10, u10), (i11, u11), (i12, u12), (i13, u13), (i14, u14), (i15, u15)] t = some v → lk A t = some v := ka_cons h1 (ka_cons h2 (ka_cons h3 (ka_cons h4 (ka_cons h5 (ka_cons h6 (ka_cons h7 (ka_cons h8 (ka_cons h9 (ka_cons h10 (ka_cons h11 (ka_cons h12 (ka_cons h13 (ka_cons h14 (ka_cons h15 (ka_nil)))))))))))))))
theorem k16 {i1 i2 i3 i4 i5 i6 i7 i8 i9 i10 i11 i12 i13 i14 i15 i16 : Nat} {u1 u2 u3 u4 u5 u6 u7 u8 u9 u10 u11 u12 u13 u14 u15 u16 : Value} (h1 : lk A i1 = some u1) (h2 : lk A i2 = some u2) (h3 : lk A i3 = some u3) (h4 : lk A i4 = some u4) (h5 : lk A i5 = some u5) (h6 : lk A i6 = some u6) (h7 : lk A i7 = some u7) (h8 : lk A i8 = some u8) (h9 : lk A i9 = some u9) (h10 : lk A i10 = some u10) (h11 : lk A i11 = some u11) (h12 : lk A i12 = some u12) (h13 : lk A i13 = some u13) (h14 : lk A i14 = some u14) (h15 : lk A i15 = some u15) (h16 : lk A i16 = some u16) : ∀ t v, lk [(i1, u1), (i2, u2), (i3, u3), (i4, u4), (i5, u5), (i6, u6), (i7, u7), (i8, u8), (i9, u9), (i10, u10), (i11, u11), (i12, u12), (i13, u13), (i14, u14), (i15, u15), (i16, u16)] t = some v → lk A t = some v := ka_cons h1 (ka_cons h2 (ka_cons h3 (ka_cons h4 (ka_cons h5 (ka_cons h6 (ka_cons h7 (ka_cons h8 (ka_cons h9 (ka_cons h10 (ka_cons h11 (ka_cons h12 (ka_cons h13 (ka_cons h14 (ka_cons h15 (ka_cons h16 (ka_nil))))))))))))))))
end rules
end Go.Am

namespace Go.Am
open Go.ChangeShapes Go.WideShapes

theorem rowAt_off {P : Program} {fits : TypeId → Bool} : ∀ {d : Nat} {e : TypeId} {count off n : Nat}, rowAt P fits d e count off n = true → off ≤ count * P.cellsOf e
 | 0, e, count, off, n, h => by simp [rowAt] at h
 | d + 1, e, count, off, n, h => by
  unfold rowAt at h
  by_cases hs : P.cellsOf e = 0
  ·simp [hs] at h
  ·simp only [if_neg hs] at h
   have hdm := Nat.div_add_mod off (P.cellsOf e)
   have hml := Nat.mod_lt off (Nat.pos_of_ne_zero hs)
   have hc : P.cellsOf e * (off / P.cellsOf e) = off / P.cellsOf e * P.cellsOf e := Nat.mul_comm _ _
   by_cases h1 : (off % P.cellsOf e == 0 && decide (off / P.cellsOf e + n ≤ count) && fits e) = true
   ·simp at h1
    have : off / P.cellsOf e * P.cellsOf e ≤ count * P.cellsOf e := Nat.mul_le_mul_right _ (by omega)
    omega
   ·rw [Bool.not_eq_true] at h1
    rw [h1, Bool.false_or, Bool.and_eq_true] at h
    have h2 : off / P.cellsOf e < count := by simpa using h.1
    have : (off / P.cellsOf e + 1) * P.cellsOf e ≤ count * P.cellsOf e := Nat.mul_le_mul_right _ (by omega)
    rw [Nat.add_mul] at this
    omega

/-- no array. -/
def noArr (P : Program) (e : TypeId) : Bool := match P.underlying e with | some (.array _ _) => false | _ => true

theorem lies_row {P : Program} {row e : TypeId} {cnt off n : Nat} (ha : noArr P e = true) : ∀ {d : Nat}, liesAt P d row cnt off e n = true → rowAt P (sameLayout P P.depth · e) P.depth row cnt off n = true
 | 0, h => by simp [liesAt] at h
 | d + 1, h => by
  unfold liesAt at h
  unfold noArr at ha
  rw [Bool.or_eq_true] at h
  rcases h with h | h
  ·exact h
  ·split at h
   ·rename_i hu; rw [hu] at ha; cases ha
   ·cases h

theorem has_off {P : Program} {W : World} {base : Nat} {a : Addr} {e : TypeId} {n : Nat} (h : W.has P .any base a e n) (ha : noArr P e = true) :
  a.spot = none ∧ a.block < W.heap.size ∧ ∃ C el f, W.heap[a.block]? = some (.cells C el f) ∧ a.off ≤ C.size := by
 obtain ⟨_, hs, row, cells, hsh, hl⟩ := h
 unfold World.shape? at hsh
 split at hsh
 ·rename_i c elem fz hb
  simp at hsh
  obtain ⟨rfl, rfl⟩ := hsh
  refine ⟨hs, (Array.getElem?_eq_some_iff.mp hb).1, c, elem, fz, hb, ?_⟩
  have hr := lies_row ha hl
  have h1 := rowAt_off hr
  have h2 := Nat.div_mul_le_self c.size (P.cellsOf elem)
  omega
 ·cases hsh

structure OpSt (W : World) (m : Map) (H : AHeap) (Z : ZM) : Prop where
 hr : HR W.heap.size m H W
 z : ∀ b o, Z b = some o → b < H.n ∧ H.get b = some o

theorem OpSt.empty (W : World) : OpSt W (fun _ => none) AHeap.empty (fun _ => none) :=
 ⟨⟨Nat.le_refl _, fun b g h => by simp at h, fun b g h => by simp at h, fun b o g h => by simp [AHeap.empty, AHeap.get, Tr.get] at h, fun b b' g g' _ h => by simp [AHeap.empty, AHeap.get, Tr.get, mine] at h⟩, fun b o h => by cases h⟩

/-- a row that came in. -/
theorem OpSt.push {W : World} {m : Map} {H : AHeap} {Z : ZM} (h : OpSt W m H Z) {cells : List Value} {g : Img} (hc : g.c < W.heap.size) (hg : g.own = false) (hgr : g.gr = false) {sz : Nat} (hs : g.sz = sz) (ho : orel m g (.row false false sz cells) W.heap[g.c]?) :
  OpSt W (m.upd H.n g) (H.push (.row false false sz cells)) (fun b => if b = H.n then some (.row false false sz cells) else Z b) ∧ m.le (m.upd H.n g) ∧ ZM.le Z (fun b => if b = H.n then some (.row false false sz cells) else Z b) := by
 have hle := Map.upd_le h.hr g
 refine ⟨⟨⟨h.hr.le, fun b g' hb => ?_, fun b g' hb => ?_, fun b o' g' hb hm => ?_, fun b b' g1 g2 hne h1 h2 m1 m2 => ?_⟩, fun b o hz => ?_⟩, hle, fun b o hz => ?_⟩
 ·by_cases e : b = H.n
  ·subst e; rw [Map.upd_same] at hb; simp at hb; subst hb; simp [hc]
  ·rw [Map.upd_ne _ _ e] at hb; have := h.hr.dom _ _ hb; simp; omega
 ·by_cases e : b = H.n
  ·subst e; rw [Map.upd_same] at hb; simp at hb; subst hb; rw [hg]; simp; exact hc
  ·rw [Map.upd_ne _ _ e] at hb; exact h.hr.own _ _ hb
 ·by_cases e : b = H.n
  ·subst e; rw [Map.upd_same] at hm; simp at hm; subst hm
   rw [AHeap.get_push_new] at hb; simp at hb; subst hb
   exact ho.mono hle
  ·rw [Map.upd_ne _ _ e] at hm; rw [AHeap.get_push_ne _ _ e] at hb
   exact (h.hr.obj _ _ _ hb hm).mono hle
 ·by_cases e1 : b = H.n
  ·subst e1; rw [AHeap.get_push_new] at h1; simp [mine] at h1
  ·by_cases e2 : b' = H.n
   ·subst e2; rw [AHeap.get_push_new] at h2; simp [mine] at h2
   ·rw [Map.upd_ne _ _ e1] at m1; rw [Map.upd_ne _ _ e2] at m2
    rw [AHeap.get_push_ne _ _ e1] at h1; rw [AHeap.get_push_ne _ _ e2] at h2
    exact h.hr.inj _ _ _ _ hne h1 h2 m1 m2
 ·by_cases e : b = H.n
  ·subst e; simp at hz; subst hz; simp
  ·simp only [if_neg e] at hz
   have := h.z b o hz
   exact ⟨by simp; omega, by rw [AHeap.get_push_ne _ _ e]; exact this.2⟩
 ·have := (h.z b o hz).1
  show (if b = H.n then _ else Z b) = some o
  rw [if_neg (by omega)]; exact hz

/-- A thing of one cell, as it lies and as it is told. -/
structure Cell1 {α : Type} (P : Program) (e : TypeId) (r : Rep α) (f : α → Value) (good : α → Prop) : Prop where
 size : P.cellsOf e = 1
 sz : r.sz = 1
 arr : noArr P e = true
 rd : ∀ Z x, r.rd Z [f x] x
 rel : ∀ m x, vrel m (f x) (f x)
 op : ∀ {H : Type} {enc : TypeId × Value → H} {W : World} {base : Nat} {sp : Nat → Bool} {held : Bool} {n : Nat} {c : List Value} {y : DataW H × List MemPlace}, DataW.trod enc P W base sp held n e c = some y → ∃ x, c = [f x] ∧ good x

theorem cell1_int {P : Program} {e : TypeId} {k : IntKind} (hu : P.underlying e = some (.int k)) (hc : P.cellsOf e = 1) : Cell1 P e (rI k) (fun n => .int k n) (fun n => (Lit.int k n).wf = true) :=
 ⟨hc, rfl, by unfold noArr; rw [hu], fun _ _ => rfl, fun m x => .base ⟨rfl, rfl⟩, fun h => by
  obtain ⟨n, h1, _, h3⟩ := DataW.trod_int hu h
  exact ⟨n, h1, h3⟩⟩
theorem cell1_bool {P : Program} {e : TypeId} (hu : P.underlying e = some .bool) (hc : P.cellsOf e = 1) : Cell1 P e rB (fun n => .bool n) (fun _ => True) :=
 ⟨hc, rfl, by unfold noArr; rw [hu], fun _ _ => rfl, fun m x => .base rfl, fun h => by
  obtain ⟨n, h1, _⟩ := DataW.trod_bool hu h
  exact ⟨n, h1, trivial⟩⟩

theorem rowOf_map {α : Type} {r : Rep α} {Z : ZM} {f : α → Value} (h : ∀ x, r.rd Z [f x] x) : ∀ l : List α, rowOf r Z (l.map f) l
 | [] => rfl
 | x :: l => ⟨[f x], l.map f, rfl, h x, rowOf_map h l⟩

theorem open_slice2 {α : Type} {P : Program} {t e : TypeId} {r : Rep α} {f : α → Value} {good : α → Prop} (hu : P.underlying t = some (.slice e)) (h1 : Cell1 P e r f good)
  {H0 : Type} {enc : TypeId × Value → H0} {W : World} {m : Map} {H : AHeap} {Z : ZM} (st : OpSt W m H Z) {base : Nat} {v : Value} {n : Nat} {x : DataW H0 × List MemPlace}
  (hok : Cell.okWide P W .any base t v) (hd : DataW.trod enc P W 0 (fun _ => true) true n t [v] = some x) :
  ∃ m' H' Z' av l, OpSt W m' H' Z' ∧ m.le m' ∧ ZM.le Z Z' ∧ slOk r Z' av l ∧ vrel m' av v ∧ (∀ x ∈ l, good x) ∧ l.length ≤ maxLen ∧ (x.1 = .nil ∧ l = [] ∨ ∃ es rs, x.1 = .slice es rs ∧ l.length = es.length) := by
 rcases DataW.trod_slice hu hd with ⟨hv, hxx⟩ | ⟨a, len, cap, elems, rest, k, _, hv, hxx, _, hlen, hmax, hel, hge, hsp, _⟩
 ·obtain rfl : v = .slice none 0 0 := by simpa using hv
  exact ⟨m, H, Z, .slice none 0 0, [], st, m.le_refl, fun _ _ h => h, .inl ⟨rfl, rfl⟩, .base ⟨rfl, rfl, rfl, rfl⟩, fun x hx => by simp at hx, by simp, .inl ⟨by rw [hxx], rfl⟩⟩
 ·obtain rfl : v = .slice (some a) len cap := by simpa using hv
  have hhas : W.has P .any base a e cap := by
   simp only [Cell.okWide, hu, Cell.ok] at hok
   exact hok.2.2
  obtain ⟨hspot, hblk, C, ce, fz, hC, hoff⟩ := has_off hhas h1.arr
  obtain ⟨hrl, hre⟩ := hsp rfl
  rw [h1.size] at hge hre
  -- each cell
  have each : ∀ i, i < cap → ∃ y, W.cell? (a.add i) = some (f y) ∧ good y := by
   intro i hi
   have hb : ∃ z, (W.cells? 0 (a.add (i * 1)) 1).bind (DataW.trod enc P W 0 (fun _ => true) true k e) = some z := by
    by_cases h : i < len
    ·have := hge i h
     rw [List.getElem?_eq_getElem (by omega)] at this
     exact ⟨_, this⟩
    ·have := hre (i - len) (by omega)
     rw [show len + (i - len) = i by omega, List.getElem?_eq_getElem (by omega)] at this
     exact ⟨_, this⟩
   obtain ⟨z, hz⟩ := hb
   rw [Option.bind_eq_some_iff] at hz
   obtain ⟨cs, hcs, hz⟩ := hz
   obtain ⟨y, rfl, hy⟩ := h1.op hz
   obtain ⟨_, _, hcell⟩ := World.cells?_some hcs
   have := hcell 0 (by omega)
   refine ⟨y, ?_, hy⟩
   rw [Nat.mul_one] at this
   simpa [Addr.add] using this
  have hall : ∃ zs : List α, zs.length = cap ∧ ∀ i y, zs[i]? = some y → W.cell? (a.add i) = some (f y) ∧ good y := by
   have key : ∀ c, c ≤ cap → ∃ zs : List α, zs.length = c ∧ ∀ i y, zs[i]? = some y → W.cell? (a.add i) = some (f y) ∧ good y := by
    intro c
    induction c with
    | zero => intro _; exact ⟨[], rfl, fun i y h => by simp at h⟩
    | succ c ih =>
     intro hc
     obtain ⟨zs, hz1, hz2⟩ := ih (by omega)
     obtain ⟨y, hy1, hy2⟩ := each c (by omega)
     refine ⟨zs ++ [y], by simp [hz1], fun i z h => ?_⟩
     rw [List.getElem?_append] at h
     split at h
     ·exact hz2 i z h
     ·have : i = c := by
       rcases Nat.lt_or_ge (i - zs.length) 1 with h' | h'
       ·omega
       ·rw [List.getElem?_eq_none (by simpa using h')] at h; cases h
      subst this
      simp [hz1] at h
      subst h; exact ⟨hy1, hy2⟩
   exact key cap (Nat.le_refl _)
  obtain ⟨zs, hz1, hz2⟩ := hall
  have hcellC : ∀ i y, zs[i]? = some y → C.toList[a.off + i]? = some (f y) := by
   intro i y h
   have := (hz2 i y h).1
   unfold World.cell? at this
   have hab : (a.add i).block = a.block := by unfold Addr.add; split <;> rfl
   have hao : (a.add i).off = a.off + i := by unfold Addr.add; split <;> simp_all
   have has : (a.add i).spot = none := by unfold Addr.add; split <;> simp_all
   rw [hab, hC] at this
   simp only [has, hao] at this
   simpa using this
  have hfit : a.off + cap ≤ C.size := by
   cases Nat.eq_zero_or_pos cap with
   | inl h => omega
   | inr h =>
    have hl : zs[cap - 1]? = some zs[cap - 1] := List.getElem?_eq_getElem (by omega)
    have := (List.getElem?_eq_some_iff.mp (hcellC (cap - 1) _ hl)).1
    simp at this; omega
  let g : Img := ⟨a.block, a.off, cap, C.size, 1, false, false⟩
  have horel : orel m g (.row false false 1 (zs.map f)) W.heap[g.c]? := by
   refine ⟨rfl, rfl, by simp [g, hz1], by simp [g, hz1]; omega, C, ce, fz, hC, rfl, (fun h => by cases h), ⟨by simp [hz1, g]; omega, fun i u u' hu1 hu2 => ?_⟩, ?_, rfl, fun h => Bool.noConfusion h⟩
   ·rw [List.getElem?_map, Option.map_eq_some_iff] at hu1
    obtain ⟨y, hy, rfl⟩ := hu1
    have hi : i < cap := by rw [← hz1]; exact (List.getElem?_eq_some_iff.mp hy).1
    simp only [List.length_map, hz1] at hu2
    rw [List.getElem?_take, if_pos hi, List.getElem?_drop] at hu2
    rw [hcellC i y hy] at hu2
    obtain rfl := Option.some.inj hu2
    exact h1.rel m y
   ·have := (rowOf_map (r := r) (Z := Z) (h1.rd Z) zs).one
    exact this
  obtain ⟨st', hle, hzle⟩ := st.push (g := g) hblk rfl rfl rfl horel
  refine ⟨_, _, _, .slice (some ⟨H.n, 0, none⟩) len cap, zs.take len, st', hle, hzle, ?_, ?_, fun y hy => ?_, ?_, .inr ⟨_, _, by rw [hxx], by simp; omega⟩⟩
  ·refine .inr ⟨H.n, 0, cap, false, false, zs.map f, (zs.take len).map f, by rw [List.length_take, hz1, Nat.min_eq_left hlen], by rw [List.length_take]; omega, by simp [h1.sz, g], ?_, rowOf_map (h1.rd _) _⟩
   unfold cut
   rw [if_pos (by simp [h1.sz, hz1]; omega)]
   simp only [h1.sz, Nat.mul_one, List.length_take, hz1, Nat.min_eq_left hlen, List.drop_zero, List.map_take]
  ·refine .base (.inl ?_)
   refine ⟨rfl, hspot, rfl, hlen, Nat.le_refl _, g, Map.upd_same _ _ _, rfl, ?_, ?_, ?_, ?_⟩
   ·simp [g]
   ·simp [g]; exact hfit
   ·intro _; simp [g]
   ·intro _; rfl
  ·obtain ⟨i, hi⟩ := List.getElem?_of_mem (List.mem_of_mem_take hy)
   exact (hz2 i y hi).2
  ·simp; omega
theorem open_slice {α : Type} {P : Program} {t e : TypeId} {r : Rep α} {f : α → Value} {good : α → Prop} (hu : P.underlying t = some (.slice e)) (h1 : Cell1 P e r f good)
  {H0 : Type} {enc : TypeId × Value → H0} {W : World} {m : Map} {H : AHeap} {Z : ZM} (st : OpSt W m H Z) {base : Nat} {v : Value} {n : Nat} {x : DataW H0 × List MemPlace}
  (hok : Cell.okWide P W .any base t v) (hd : DataW.trod enc P W 0 (fun _ => true) true n t [v] = some x) :
  ∃ m' H' Z' av l, OpSt W m' H' Z' ∧ m.le m' ∧ ZM.le Z Z' ∧ slOk r Z' av l ∧ vrel m' av v ∧ (∀ x ∈ l, good x) ∧ l.length ≤ maxLen := by
 obtain ⟨m', H', Z', av, l, h1', h2, h3, h4, h5, h6, h7, _⟩ := open_slice2 hu h1 st hok hd
 exact ⟨m', H', Z', av, l, h1', h2, h3, h4, h5, h6, h7⟩
end Go.Am

namespace Go.Am
open Go.ChangeShapes Go.WideShapes

theorem vr_int {m : Map} {k : IntKind} {n : Int} : vrel m (.int k n) (.int k n) := .base ⟨rfl, rfl⟩
theorem vr_bool {m : Map} {b : Bool} : vrel m (.bool b) (.bool b) := .base rfl
theorem vr_str {m : Map} {s : ByteArray} : vrel m (.string s) (.string s) := .base rfl
theorem slice_cell {P : Program} {W : World} {base : Nat} {t e : TypeId} {v : Value} (hu : P.underlying t = some (.slice e)) (h : Value.okWide P W .any base t v) : Cell.okWide P W .any base t v := by
 simp only [Value.okWide, hu] at h
 exact h

/-- a slice handed in. -/
theorem open_slice_arg {α : Type} {P : Program} {t e : TypeId} {r : Rep α} {f : α → Value} {good : α → Prop} (hu : P.underlying t = some (.slice e)) (h1 : Cell1 P e r f good)
  {H0 : Type} {enc : TypeId × Value → H0} {W : World} {m : Map} {H : AHeap} {Z : ZM} (st : OpSt W m H Z) {base : Nat} {v : Value} {d : DataW H0} {ps : List MemPlace}
  (hok : Value.okWide P W .any base t v) (hd : DataW.Trod enc P W 0 (fun _ => true) true t v d ps) :
  ∃ m' H' Z' av l, OpSt W m' H' Z' ∧ m.le m' ∧ ZM.le Z Z' ∧ slOk r Z' av l ∧ vrel m' av v ∧ (∀ x ∈ l, good x) ∧ l.length ≤ maxLen := by
 obtain ⟨a, len, cap, rfl⟩ := okWide_slice hu hok
 obtain ⟨n, hn⟩ := hd
 exact open_slice hu h1 st (slice_cell hu hok) hn

/-- a slice handed in, and how long its tale is. -/
theorem open_slice_arg2 {α : Type} {P : Program} {t e : TypeId} {r : Rep α} {f : α → Value} {good : α → Prop} (hu : P.underlying t = some (.slice e)) (h1 : Cell1 P e r f good)
  {H0 : Type} {enc : TypeId × Value → H0} {W : World} {m : Map} {H : AHeap} {Z : ZM} (st : OpSt W m H Z) {base : Nat} {v : Value} {d : DataW H0} {ps : List MemPlace}
  (hok : Value.okWide P W .any base t v) (hd : DataW.Trod enc P W 0 (fun _ => true) true t v d ps) :
  ∃ m' H' Z' av l, OpSt W m' H' Z' ∧ m.le m' ∧ ZM.le Z Z' ∧ slOk r Z' av l ∧ vrel m' av v ∧ (∀ x ∈ l, good x) ∧ l.length ≤ maxLen ∧ (d = .nil ∧ l = [] ∨ ∃ es rs, d = .slice es rs ∧ l.length = es.length) := by
 obtain ⟨a, len, cap, rfl⟩ := okWide_slice hu hok
 obtain ⟨n, hn⟩ := hd
 exact open_slice2 hu h1 st (slice_cell hu hok) hn

/-- What is said of a number of a kind. -/
def wfI (k : IntKind) (n : Int) : Prop := (Lit.int k n).wf = true

/-- The type of arrays. -/
structure ValTy (P : Program) (t : TypeId) (tb ts td e1 e2 : TypeId) : Prop where
 u : ∃ f0 f1 f2 : Field, P.underlying t = some (.struct #[f0, f1, f2]) ∧ f0.offset = 0 ∧ f1.offset = 1 ∧ f2.offset = 2 ∧ f0.type = tb ∧ f1.type = ts ∧ f2.type = td
 ct : P.cellTypes P.depth t = some [tb, ts, td]
 cb : P.cellsOf tb = 1
 cs : P.cellsOf ts = 1
 cd : P.cellsOf td = 1
 ub : P.underlying tb = some .bool
 us : P.underlying ts = some (.slice e1)
 ud : P.underlying td = some (.slice e2)
 c1 : Cell1 P e1 (rI .i64) (fun n => .int .i64 n) (fun n => (Lit.int .i64 n).wf = true)
 c2 : Cell1 P e2 (rI .i64) (fun n => .int .i64 n) (fun n => (Lit.int .i64 n).wf = true)
 sz : P.cellsOf t = 3

theorem open_val_arg {P : Program} {t tb ts td e1 e2 : TypeId} (hV : ValTy P t tb ts td e1 e2)
  {H0 : Type} {enc : TypeId × Value → H0} {W : World} {m : Map} {H : AHeap} {Z : ZM} (st : OpSt W m H Z) {base : Nat} {v : Value} {d : DataW H0} {ps : List MemPlace}
  (hok : Value.okWide P W .any base t v) (hd : DataW.Trod enc P W 0 (fun _ => true) true t v d ps) :
  ∃ m' H' Z' a1 a2, ∃ x : Val, OpSt W m' H' Z' ∧ m.le m' ∧ ZM.le Z Z' ∧ slOk (rI .i64) Z' a1 x.Shape ∧ slOk (rI .i64) Z' a2 x.Data ∧ vrel m' (.agg #[.bool x.Char, a1, a2]) v ∧
   ((∀ n ∈ x.Shape, (Lit.int .i64 n).wf = true) ∧ (∀ n ∈ x.Data, (Lit.int .i64 n).wf = true) ∧ x.Shape.length ≤ maxLen ∧ x.Data.length ≤ maxLen) := by
 obtain ⟨f0, f1, f2, hu, o0, o1, o2, t0, t1, t2⟩ := hV.u
 have hok' := hok
 simp only [Value.okWide, hu] at hok'
 obtain ⟨cs, rfl, hsz, ts', hct, _, hcell⟩ := hok'
 rw [hV.ct] at hct
 obtain rfl := Option.some.inj hct
 rw [hV.sz] at hsz
 obtain ⟨c0, c1, c2, hcs⟩ : ∃ c0 c1 c2, cs = #[c0, c1, c2] := by
  rcases cs with ⟨l⟩
  match l, hsz with
  | [a, b, c], _ => exact ⟨a, b, c, rfl⟩
 subst hcs
 obtain ⟨n, hn⟩ := hd
 obtain ⟨xs, k, _, _, _, hxl, hx⟩ := DataW.trod_struct hu hn
 have e0 := hx 0 f0 rfl
 have e1 := hx 1 f1 rfl
 have e2 := hx 2 f2 rfl
 rw [t0, hV.cb, o0] at e0
 rw [t1, hV.cs, o1] at e1
 rw [t2, hV.cd, o2] at e2
 have hl : xs.length = 3 := by simpa using hxl
 rw [List.getElem?_eq_getElem (by omega)] at e0 e1 e2
 simp [Value.cells] at e0 e1 e2
 obtain ⟨b, hb, _⟩ := DataW.trod_bool hV.ub e0
 obtain rfl : c0 = .bool b := by simpa using hb
 have k1 : Cell.okWide P W .any base ts c1 := by
  obtain ⟨u, hu1, hu2⟩ := hcell 1 c1 rfl
  simp at hu1; subst hu1; exact hu2
 have k2 : Cell.okWide P W .any base td c2 := by
  obtain ⟨u, hu1, hu2⟩ := hcell 2 c2 rfl
  simp at hu1; subst hu1; exact hu2
 obtain ⟨m1, H1, Z1, a1, l1, st1, le1, zl1, s1, v1, g1, n1⟩ := open_slice hV.us hV.c1 st k1 e1
 obtain ⟨m2, H2, Z2, a2, l2, st2, le2, zl2, s2, v2, g2, n2⟩ := open_slice hV.ud hV.c2 st1 k2 e2
 refine ⟨m2, H2, Z2, a1, a2, ⟨b, l1, l2⟩, st2, Map.le_trans le1 le2, fun b o h => zl2 b o (zl1 b o h), s1.mono zl2, s2, .agg rfl (fun i u u' hu hu' => ?_), g1, g2, n1, n2⟩
 match i with
 | 0 => simp at hu hu'; subst hu; subst hu'; exact .base rfl
 | 1 => simp at hu hu'; subst hu; subst hu'; exact v1.mono le2
 | 2 => simp at hu hu'; subst hu; subst hu'; exact v2
 | i + 3 => simp at hu

theorem OpSt.kn {W : World} {m : Map} {H : AHeap} {Z : ZM} (st : OpSt W m H Z) {L : List Ent} (hL : ∀ e ∈ L, e.ok H Z ∧ e.blk = none) : Kn 0 H L [] := by
 refine ⟨Z, Nat.zero_le _, st.z, fun e he => (hL e (by simpa using he)).1, fun e he b hb => ?_, fun e he b hb => Nat.zero_le _, ?_⟩
 ·rw [(hL e (by simpa using he)).2] at hb; cases hb
 ·rw [List.append_nil]
  exact List.pairwise_of_forall_mem_list fun a ha b hb x hx => by rw [(hL a ha).2] at hx; cases hx

/-- The call, run. -/
theorem law_calls {P : Program} {ora : FuncId → Bool} (hP : ProgOk P) (ho : OraOk P ora) {f : FuncId} {args : List Value} {H : AHeap} {R : AHeap → Prop} {W : World} {m : Map} {cargs : Array Value} (hr : HR W.heap.size m H W) (ha : lrel m args cargs.toList)
  (h : wpF P ora 0 f args H (fun res H' => res = .bool true ∧ R H')) : Calls P f cargs W fun e W' => e = .returned (.bool true) ∧ Go.RowKit.Below W.heap.size W W' := by
 obtain ⟨v, H', ⟨rfl, _⟩, n, he⟩ := h
 exact returnsX hP ho (he n n (Nat.le_refl _) (Nat.le_refl _)) hr ha

/-- The arguments read as they did. -/
theorem below_all {H0 : Type} {enc : TypeId × Value → H0} {P : Program} (hl : laidOutB P = true) {W W' : World} (hb : Go.RowKit.Below W.heap.size W W') : ∀ {ts : List TypeId} {vs : List Value} {ds : List (DataW H0)} {ps : List MemPlace},
  ts.all (fun t => P.readableRec t && decide (t < P.types.size)) = true → DataW.TrodAll enc P W 0 (fun _ => true) true ts vs ds ps → (∀ x ∈ ps, x.block < W.heap.size) → DataW.TrodAll enc P W' 0 (fun b => decide (b < W.heap.size)) true ts vs ds ps
 | [], [], [], ps, _, h, _ => h
 | t :: ts, v :: vs, d :: ds, ps, ht, ⟨p, q, h1, h2, h3⟩, hlt => by
  subst h3
  simp only [List.all_cons, Bool.and_eq_true, decide_eq_true_eq] at ht
  exact ⟨p, q, Go.RowKit.Below.trod hl ht.1.1 ht.1.2 h1 hb (fun x hx => hlt x (List.mem_append_left _ hx)), below_all hl hb ht.2 h2 (fun x hx => hlt x (List.mem_append_right _ hx)), rfl⟩
 | [], _ :: _, _, _, _, h, _ => h.elim
 | [], [], _ :: _, _, _, h, _ => h.elim
 | _ :: _, [], _, _, _, h, _ => h.elim
 | _ :: _, _ :: _, [], _, _, h, _ => h.elim
/-- a row that stands for none. -/
theorem OpSt.pushU {W : World} {m : Map} {H : AHeap} {Z : ZM} (h : OpSt W m H Z) {o : AObj} (ho : mine (some o) = false) :
  OpSt W m (H.push o) (fun b => if b = H.n then some o else Z b) ∧ ZM.le Z (fun b => if b = H.n then some o else Z b) := by
 have ne : ∀ {b : Nat} {g : Img}, m b = some g → b ≠ H.n := fun hb e => by
  have := (h.hr.dom _ _ hb).1; omega
 refine ⟨⟨⟨h.hr.le, fun b g hb => ?_, h.hr.own, fun b o' g hb hm => ?_, fun b b' g1 g2 hne h1 h2 m1 m2 => ?_⟩, fun b o' hz => ?_⟩, fun b o' hz => ?_⟩
 ·have := h.hr.dom _ _ hb; simp; omega
 ·rw [AHeap.get_push_ne _ _ (ne hm)] at hb
  exact h.hr.obj _ _ _ hb hm
 ·rw [AHeap.get_push_ne _ _ (ne m1)] at h1
  rw [AHeap.get_push_ne _ _ (ne m2)] at h2
  exact h.hr.inj _ _ _ _ hne h1 h2 m1 m2
 ·by_cases e : b = H.n
  ·subst e; simp at hz; subst hz; simp
  ·simp only [if_neg e] at hz
   have := h.z b o' hz
   exact ⟨by simp; omega, by rw [AHeap.get_push_ne _ _ e]; exact this.2⟩
 ·have := (h.z b o' hz).1
  show (if b = H.n then _ else Z b) = some o'
  rw [if_neg (by omega)]; exact hz
/-- A thing of some cells, as it lies and as it is told. -/
structure CellN {α : Type} (P : Program) (e : TypeId) (r : Rep α) (good : α → Prop) : Prop where
 size : P.cellsOf e = r.sz
 pos : 0 < r.sz
 op : ∀ {H0 : Type} {enc : TypeId × Value → H0} {W : World} {m : Map} {H : AHeap} {Z : ZM} (st : OpSt W m H Z) {n : Nat} {c : List Value} {y : DataW H0 × List MemPlace},
  DataW.trod enc P W 0 (fun _ => true) true n e c = some y → ∃ m' H' Z' c' x, OpSt W m' H' Z' ∧ m.le m' ∧ ZM.le Z Z' ∧ r.rd Z' c' x ∧ lrel m' c' c ∧ good x
theorem lrel_one {m : Map} {v v' : Value} (h : vrel m v v') : lrel m [v] [v'] := ⟨rfl, fun i u u' hu hu' => by
 match i with
 | 0 => simp at hu hu'; subst hu; subst hu'; exact h
 | i + 1 => simp at hu⟩
theorem CellN.of1 {α : Type} {P : Program} {e : TypeId} {r : Rep α} {f : α → Value} {good : α → Prop} (h : Cell1 P e r f good) : CellN P e r good :=
 ⟨h.size.trans h.sz.symm, by rw [h.sz]; omega, fun {H0 enc W m H Z} st {n c y} hd => by
  obtain ⟨x, rfl, hx⟩ := h.op hd
  exact ⟨m, H, Z, [f x], x, st, m.le_refl, fun _ _ h => h, h.rd Z x, lrel_one (h.rel m x), hx⟩⟩
theorem addr_add_add (a : Addr) (n k : Nat) : (a.add n).add k = a.add (n + k) := by
 unfold Addr.add
 by_cases hn : n = 0
 ·subst hn; simp
 ·by_cases hk : k = 0
  ·subst hk; simp [hn]
  ·rw [if_neg hn, if_neg hk, if_neg (by omega)]
   simp [Nat.add_assoc]
theorem open_slice_n {α : Type} {P : Program} {t e : TypeId} {r : Rep α} {good : α → Prop} (hu : P.underlying t = some (.slice e)) (hN : CellN P e r good)
  {H0 : Type} {enc : TypeId × Value → H0} {W : World} {m : Map} {H : AHeap} {Z : ZM} (st : OpSt W m H Z) {v : Value} {n : Nat} {x : DataW H0 × List MemPlace}
  (hd : DataW.trod enc P W 0 (fun _ => true) true n t [v] = some x) :
  ∃ m' H' Z' av l, OpSt W m' H' Z' ∧ m.le m' ∧ ZM.le Z Z' ∧ slOk r Z' av l ∧ vrel m' av v ∧ (∀ x ∈ l, good x) ∧ l.length ≤ maxLen := by
 have hp := hN.pos
 rcases DataW.trod_slice hu hd with ⟨hv, hxx⟩ | ⟨a, len, cap, elems, rest, k, _, hv, hxx, _, hlen, hmax, hel, hge, hsp, _⟩
 ·obtain rfl : v = .slice none 0 0 := by simpa using hv
  exact ⟨m, H, Z, .slice none 0 0, [], st, m.le_refl, fun _ _ h => h, .inl ⟨rfl, rfl⟩, .base ⟨rfl, rfl, rfl, rfl⟩, fun x hx => by simp at hx, by simp⟩
 ·obtain rfl : v = .slice (some a) len cap := by simpa using hv
  obtain ⟨hrl, hre⟩ := hsp rfl
  rw [hN.size] at hge hre
  rcases Nat.eq_zero_or_pos cap with hcap | hcap
  ·obtain rfl : len = 0 := by omega
   subst hcap
   obtain ⟨st', hz⟩ := st.pushU (o := .row false false r.sz []) rfl
   refine ⟨m, _, _, .slice (some ⟨H.n, 0, none⟩) 0 0, [], st', m.le_refl, hz, ?_, .base (.inr ⟨rfl, rfl, rfl, rfl, rfl⟩), fun x hx => by simp at hx, by simp⟩
   refine .inr ⟨H.n, 0, 0, false, false, [], [], rfl, Nat.le_refl _, by simp, ?_, rfl⟩
   unfold cut; simp
  ·have each : ∀ i, i < cap → ∃ cs k y, W.cells? 0 (a.add (i * r.sz)) r.sz = some cs ∧ DataW.trod enc P W 0 (fun _ => true) true k e cs = some y := by
    intro i hi
    have hb : ∃ z, (W.cells? 0 (a.add (i * r.sz)) r.sz).bind (DataW.trod enc P W 0 (fun _ => true) true k e) = some z := by
     by_cases h : i < len
     ·have := hge i h
      rw [List.getElem?_eq_getElem (by omega)] at this
      exact ⟨_, this⟩
     ·have := hre (i - len) (by omega)
      rw [show len + (i - len) = i by omega, List.getElem?_eq_getElem (by omega)] at this
      exact ⟨_, this⟩
    obtain ⟨z, hz⟩ := hb
    rw [Option.bind_eq_some_iff] at hz
    obtain ⟨cs, hcs, hz⟩ := hz
    exact ⟨cs, k, z, hcs, hz⟩
   have key : ∀ c, c ≤ cap → ∃ m' H' Z' cs' xs cs, OpSt W m' H' Z' ∧ m.le m' ∧ ZM.le Z Z' ∧ rowOf r Z' cs' xs ∧ xs.length = c ∧ lrel m' cs' cs ∧ cs.length = c * r.sz ∧ (∀ j, j < c * r.sz → W.cell? (a.add j) = cs[j]?) ∧ ∀ x ∈ xs, good x := by
    intro c
    induction c with
    | zero => intro _; exact ⟨m, H, Z, [], [], [], st, m.le_refl, fun _ _ h => h, rfl, rfl, lrel.nil m, by simp, fun j hj => by simp at hj, fun x hx => by simp at hx⟩
    | succ c ih =>
     intro hc
     obtain ⟨m1, H1, Z1, cs1, xs1, cs2, st1, le1, zl1, row1, xl1, lr1, cl1, cell1, g1⟩ := ih (by omega)
     obtain ⟨ccs, k', y, hcs, htr⟩ := each c (by omega)
     obtain ⟨_, hccl, hccell⟩ := World.cells?_some hcs
     obtain ⟨m2, H2, Z2, c', x', st2, le2, zl2, rd2, lr2, g2⟩ := hN.op st1 htr
     refine ⟨m2, H2, Z2, cs1 ++ c', xs1 ++ [x'], cs2 ++ ccs, st2, Map.le_trans le1 le2, fun b o h => zl2 b o (zl1 b o h), (row1.mono zl2).app ⟨c', [], by simp, rd2, rfl⟩, by simp [xl1], (lr1.mono le2).append lr2, by rw [List.length_append, cl1, hccl, Nat.succ_mul], fun j hj => ?_, fun x hx => ?_⟩
     ·by_cases hlt : j < c * r.sz
      ·rw [List.getElem?_append_left (by omega)]; exact cell1 j hlt
      ·rw [List.getElem?_append_right (by omega), cl1]
       rw [Nat.succ_mul] at hj
       have := hccell (j - c * r.sz) (by omega)
       rw [addr_add_add, show c * r.sz + (j - c * r.sz) = j by omega] at this
       exact this
     ·rcases List.mem_append.mp hx with h | h
      ·exact g1 x h
      ·simp at h; rw [h]; exact g2
   obtain ⟨m1, H1, Z1, cs1, xs1, cs2, st1, le1, zl1, row1, xl1, lr1, cl1, cell1, g1⟩ := key cap (Nat.le_refl _)
   have hcs1 : cs1.length = cap * r.sz := by rw [row1.len, xl1]
   have hpos : 0 < cap * r.sz := Nat.mul_pos hcap hp
   have h0 := cell1 0 hpos
   rw [List.getElem?_eq_getElem (by omega)] at h0
   have ha0 : a.add 0 = a := rfl
   rw [ha0] at h0
   unfold World.cell? at h0
   split at h0
   case h_2 => cases h0
   case h_1 C ce fz hC =>
    have hspot : a.spot = none := by
     cases hs : a.spot with
     | none => rfl
     | some s => rw [hs] at h0; simp at h0
    have hblk : a.block < W.heap.size := (Array.getElem?_eq_some_iff.mp hC).1
    have hcellC : ∀ j, j < cap * r.sz → C.toList[a.off + j]? = cs2[j]? := by
     intro j hj
     have := cell1 j hj
     unfold World.cell? at this
     have hab : (a.add j).block = a.block := by unfold Addr.add; split <;> rfl
     have hao : (a.add j).off = a.off + j := by unfold Addr.add; split <;> simp_all
     have has : (a.add j).spot = none := by unfold Addr.add; split <;> simp_all
     rw [hab, hC] at this
     simp only [has, hao] at this
     simpa using this
    have hfit : a.off + cap * r.sz ≤ C.size := by
     have h1 := hcellC (cap * r.sz - 1) (by omega)
     rw [List.getElem?_eq_getElem (l := cs2) (by omega)] at h1
     have := (List.getElem?_eq_some_iff.mp h1).1
     simp at this; omega
    have hcs2 : (C.toList.drop a.off).take cs1.length = cs2 := by
     apply List.ext_getElem?
     intro j
     rw [List.getElem?_take, hcs1]
     by_cases hj : j < cap * r.sz
     ·rw [if_pos hj, List.getElem?_drop, hcellC j hj]
     ·rw [if_neg hj, List.getElem?_eq_none (by omega)]
    let g : Img := ⟨a.block, a.off, cap * r.sz, C.size, r.sz, false, false⟩
    have horel : orel m1 g (.row false false r.sz cs1) W.heap[g.c]? :=
     ⟨rfl, rfl, by simp [g, hcs1], by simp [g, hcs1]; omega, C, ce, fz, hC, rfl, (fun h => by cases h), by simp only [g]; rw [hcs2]; exact lr1, row1.one, rfl, fun h => Bool.noConfusion h⟩
    obtain ⟨st', hle, hzle⟩ := st1.push (g := g) hblk rfl rfl rfl horel
    have hll : len * r.sz ≤ cap * r.sz := Nat.mul_le_mul_right _ hlen
    refine ⟨_, _, _, .slice (some ⟨H1.n, 0, none⟩) len cap, xs1.take len, st', Map.le_trans le1 hle, fun b o h => hzle b o (zl1 b o h), ?_, ?_, fun y hy => g1 y (List.mem_of_mem_take hy), by simp; omega⟩
    ·refine .inr ⟨H1.n, 0, cap, false, false, cs1, cs1.take (len * r.sz), by rw [List.length_take, xl1, Nat.min_eq_left hlen], by rw [List.length_take]; omega, by simp [g], ?_, (row1.take len).mono hzle⟩
     unfold cut
     rw [List.length_take, xl1, Nat.min_eq_left hlen, if_pos (by omega)]
     simp
    ·refine .base (.inl ⟨rfl, hspot, rfl, hlen, Nat.le_refl _, g, Map.upd_same _ _ _, rfl, ?_, ?_, ?_, ?_⟩)
     ·simp [g]
     ·simp [g]; exact hfit
     ·intro _; simp [g]
     ·intro _; rfl
def goodVal (x : Val) : Prop := (∀ n ∈ x.Shape, (Lit.int .i64 n).wf = true) ∧ (∀ n ∈ x.Data, (Lit.int .i64 n).wf = true) ∧ x.Shape.length ≤ maxLen ∧ x.Data.length ≤ maxLen
theorem list_three {α : Type} {l : List α} (h : l.length = 3) : ∃ a b c, l = [a, b, c] := by
 match l, h with
 | [a, b, c], _ => exact ⟨a, b, c, rfl⟩
/-- an array in cells. -/
theorem cellN_val {P : Program} {t tb ts td e1 e2 : TypeId} (hV : ValTy P t tb ts td e1 e2) : CellN P t rVal goodVal :=
 ⟨hV.sz, by decide, fun {H0 enc W m H Z} st {n c y} hd => by
  obtain ⟨f0, f1, f2, hu, o0, o1, o2, t0, t1, t2⟩ := hV.u
  obtain ⟨xs, k, _, _, hcl, hxl, hx⟩ := DataW.trod_struct hu hd
  rw [hV.sz] at hcl
  obtain ⟨c0, c1, c2, rfl⟩ := list_three hcl
  have e0 := hx 0 f0 rfl
  have e1 := hx 1 f1 rfl
  have e2 := hx 2 f2 rfl
  rw [t0, hV.cb, o0] at e0
  rw [t1, hV.cs, o1] at e1
  rw [t2, hV.cd, o2] at e2
  have hl : xs.length = 3 := by simpa using hxl
  rw [List.getElem?_eq_getElem (by omega)] at e0 e1 e2
  simp at e0 e1 e2
  obtain ⟨b, hb, _⟩ := DataW.trod_bool hV.ub e0
  obtain rfl : c0 = .bool b := by simpa using hb
  obtain ⟨m1, H1, Z1, a1, l1, st1, le1, zl1, s1, v1, g1, n1⟩ := open_slice_n hV.us (CellN.of1 hV.c1) st e1
  obtain ⟨m2, H2, Z2, a2, l2, st2, le2, zl2, s2, v2, g2, n2⟩ := open_slice_n hV.ud (CellN.of1 hV.c2) st1 e2
  exact ⟨m2, H2, Z2, [.bool b, a1, a2], ⟨b, l1, l2⟩, st2, Map.le_trans le1 le2, fun b o h => zl2 b o (zl1 b o h), ⟨a1, a2, rfl, s1.mono zl2, s2⟩,
   (lrel_one vr_bool).append ((lrel_one (v1.mono le2)).append (lrel_one v2)), g1, g2, n1, n2⟩⟩
/-- The type of index.Place. -/
structure PlaceTy (P : Program) (t ta tv tb ts td e1 e2 : TypeId) : Prop where
 u : ∃ f0 f1 : Field, P.underlying t = some (.struct #[f0, f1]) ∧ f0.offset = 0 ∧ f1.offset = 1 ∧ f0.type = ta ∧ f1.type = tv
 ca : P.cellsOf ta = 1
 ua : P.underlying ta = some .bool
 v : ValTy P tv tb ts td e1 e2
 sz : P.cellsOf t = 4
theorem cellN_place {P : Program} {t ta tv tb ts td e1 e2 : TypeId} (hV : PlaceTy P t ta tv tb ts td e1 e2) : CellN P t rPlace (fun x => goodVal x.V) :=
 ⟨hV.sz, by decide, fun {H0 enc W m H Z} st {n c y} hd => by
  obtain ⟨f0, f1, hu, o0, o1, t0, t1⟩ := hV.u
  obtain ⟨xs, k, _, _, hcl, hxl, hx⟩ := DataW.trod_struct hu hd
  rw [hV.sz] at hcl
  have e0 := hx 0 f0 rfl
  have e1 := hx 1 f1 rfl
  rw [t0, hV.ca, o0] at e0
  rw [t1, hV.v.sz, o1] at e1
  have hl : xs.length = 2 := by simpa using hxl
  rw [List.getElem?_eq_getElem (by omega)] at e0 e1
  obtain ⟨c0, cr, rfl⟩ : ∃ c0 cr, c = c0 :: cr := by
   match c, hcl with
   | a :: l, _ => exact ⟨a, l, rfl⟩
  have hcr : cr.length = 3 := by simpa using hcl
  simp at e0
  rw [List.drop_succ_cons, List.drop_zero, List.take_of_length_le (by omega)] at e1
  obtain ⟨b, hb, _⟩ := DataW.trod_bool hV.ua e0
  obtain rfl : c0 = .bool b := by simpa using hb
  obtain ⟨m1, H1, Z1, c', x, st1, le1, zl1, ⟨v, w, rfl, s1, s2⟩, lr, gd⟩ := (cellN_val hV.v).op st e1
  exact ⟨m1, H1, Z1, _, ⟨b, x⟩, st1, le1, zl1, ⟨v, w, rfl, s1, s2⟩, (lrel_one vr_bool).append lr, gd⟩⟩
/-- places handed in. -/
theorem open_places_arg {P : Program} {t e : TypeId} (hu : P.underlying t = some (.slice e)) {ta tv tb ts td e1 e2 : TypeId} (hN : PlaceTy P e ta tv tb ts td e1 e2)
  {H0 : Type} {enc : TypeId × Value → H0} {W : World} {m : Map} {H : AHeap} {Z : ZM} (st : OpSt W m H Z) {base : Nat} {v : Value} {d : DataW H0} {ps : List MemPlace}
  (_ : Value.okWide P W .any base t v) (hd : DataW.Trod enc P W 0 (fun _ => true) true t v d ps) :
  ∃ m' H' Z' av l, OpSt W m' H' Z' ∧ m.le m' ∧ ZM.le Z Z' ∧ slOk rPlace Z' av l ∧ vrel m' av v ∧ (∀ x ∈ l, goodVal x.V) ∧ l.length ≤ maxLen := by
 rename_i hok
 obtain ⟨a, len, cap, rfl⟩ := okWide_slice hu hok
 obtain ⟨n, hn⟩ := hd
 exact open_slice_n hu (cellN_place hN) st hn
end Go.Am
