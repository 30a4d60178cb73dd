/- The abstract machine: arithmetic, comparisons, append, copy, conversions, maps, ranges; all operations together. -/
import Derived.Test.YtaedfhikoamfeaaAmB
import Derived.Lib.ConvBytes
import Derived.Laws.BytesString
set_option linter.unusedVariables false
set_option linter.unusedSimpArgs false
namespace Go.Am
section ops
variable {P : Program} {B wm : Nat} {m : Map} {H : AHeap} {w : World}

theorem aInt_run {op : BinOp} {k : IntKind} {x y : Int} {v : Value} (h1 : op ≠ .shl) (h2 : op ≠ .shr) (h : aInt op k x y = some v) (t : TypeId) : (binOp op t (.int k x) (.int k y)).run P w = .ok v w ∧ flat1 v = true := by
 cases op <;> simp [aInt] at h <;> try contradiction
 case quo => obtain ⟨h0, rfl⟩ := h; simp [binOp, Op.intDiv, h0, flat1]
 case rem => obtain ⟨h0, rfl⟩ := h; simp [binOp, Op.intDiv, h0, flat1]
 all_goals (subst h; simp [binOp, Op.intArith, Op.intBits, Op.intCmp, flat1])

theorem aShift_run {op : BinOp} {k k' : IntKind} {x y : Int} {v : Value} (ho : op = .shl ∨ op = .shr) (h : aShift op k x y = some v) (t : TypeId) : (binOp op t (.int k x) (.int k' y)).run P w = .ok v w ∧ flat1 v = true := by
 unfold aShift at h
 split at h
 ·simp at h
 ·rename_i hy
  rcases ho with rfl | rfl
  ·simp at h; subst h; simp [binOp, Op.shift, hy, flat1]
  ·simp at h; subst h; simp [binOp, Op.shift, hy, flat1]

theorem fArith_run {op : BinOp} {k : FloatKind} {x y r : Nat} (h : fArith op k x y = some r) : (Op.Complex.arith op k x y).run P w = .ok r w := by
 unfold fArith at h
 cases op <;> simp at h <;> simp [Op.Complex.arith, Op.floatArith, h]

theorem cMul_run {a b c d : Nat} {r : Nat × Nat} (h : cMul .f64 a b c d = some r) (t : TypeId) : (binOp .mul t (.complex .f64 a b) (.complex .f64 c d)).run P w = .ok (.complex .f64 r.1 r.2) w := by
 unfold cMul at h
 split at h
 case h_2 => simp at h
 case h_1 p q r1 s hp hq hr1 hs =>
  split at h
  case h_2 => simp at h
  case h_1 x y hx hy =>
   simp at h; subst h
   have e1 := fArith_run (P := P) (w := w) hp
   have e2 := fArith_run (P := P) (w := w) hq
   have e3 := fArith_run (P := P) (w := w) hr1
   have e4 := fArith_run (P := P) (w := w) hs
   have e5 := fArith_run (P := P) (w := w) hx
   have e6 := fArith_run (P := P) (w := w) hy
   simp [binOp, Op.complexOp, Op.Complex.conv, Op.Complex.product, Op.Complex.mul, Op.Complex.sub, Op.Complex.add, e1, e2, e3, e4, e5, e6]

theorem aStr_run {op : BinOp} {x y : ByteArray} {v : Value} (h : aStr op x y = some v) (t : TypeId) : (binOp op t (.string x) (.string y)).run P w = .ok v w ∧ flat1 v = true := by
 cases op <;> simp [aStr] at h
 case add =>
  obtain ⟨hs, rfl⟩ := h
  have h64 : IntKind.i64.max = 9223372036854775807 := by decide
  have : ¬ ((9223372036854775807 : Int) < (x.size : Int) + (y.size : Int)) := by omega
  simp [binOp, Op.stringOp, h64, this, flat1]
 case eql => subst h; simp [binOp, Op.stringOp, flat1]
 case neq => subst h; simp [binOp, Op.stringOp, flat1]

theorem eq1_run {d : TypeDesc} {x y : Value} {b : Bool} {n : Nat} {t : TypeId} (hu : P.underlying t = some d) (h : eq1 d x y = some b) : (Op.equalIn (n + 1) t x y).run P w = .ok b w := by
 unfold eq1 at h
 split at h
 ·simp at h; subst h; simp [Op.equalIn, rUnd hu]
 ·split at h
  ·simp at h; subst h; rename_i hk; subst hk; simp [Op.equalIn, rUnd hu]
  ·simp at h
 ·simp at h; subst h; simp [Op.equalIn, rUnd hu]
 ·simp at h

theorem eq1_rel {d : TypeDesc} {x y x' y' : Value} {b : Bool} (h : eq1 d x y = some b) (hx : vrel m x x') (hy : vrel m y y') : x' = x ∧ y' = y := by
 unfold eq1 at h
 split at h
 ·exact ⟨hx.bool_inv, hy.bool_inv⟩
 ·exact ⟨hx.int_inv, hy.int_inv⟩
 ·exact ⟨hx.string_inv, hy.string_inv⟩
 ·simp at h

theorem eq1_plain {d : TypeDesc} {x y : Value} {b : Bool} (h : eq1 d x y = some b) : isAggD d = false := by
 unfold eq1 at h
 split at h <;> first | rfl | simp at h

/-- Fields compared one by one, as the model's loop has it. -/
theorem eqF_run {n : Nat} {xs ys : List Value} {xs' ys' : Array Value} (hx : lrel m xs xs'.toList) (hy : lrel m ys ys'.toList) : ∀ (fs : List Field) (b : Bool), eqF P xs ys fs = some b →
    (do for f in fs do
          if f.name ≠ "_" then
            if !(← Op.equalIn (n + 1) f.type (← part f.type xs' f.offset) (← part f.type ys' f.offset)) then return false
        pure true : Sem Bool).run P w = .ok b w
 | [], b, h => by simp [eqF] at h; subst h; simp
 | f :: fs, b, h => by
  unfold eqF at h
  split at h
  case isFalse => simp at h
  rename_i hname
  split at h
  case h_2 => simp at h
  case h_1 d x y hd hxo hyo =>
   obtain ⟨x', hx', hxr⟩ := hx.get hxo
   obtain ⟨y', hy', hyr⟩ := hy.get hyo
   have p1 : ∀ (q : Bool), eq1 d x y = some q → (part f.type xs' f.offset).run P w = .ok x w := fun q hq => by
    obtain ⟨rfl, _⟩ := eq1_rel hq hxr hyr
    have : xs'[f.offset]? = some x' := by simpa using hx'
    simp [part, rAgg hd, eq1_plain hq, this]
   have p2 : ∀ (q : Bool), eq1 d x y = some q → (part f.type ys' f.offset).run P w = .ok y w := fun q hq => by
    obtain ⟨_, rfl⟩ := eq1_rel hq hxr hyr
    have : ys'[f.offset]? = some y' := by simpa using hy'
    simp [part, rAgg hd, eq1_plain hq, this]
   have ih := eqF_run (n := n) hx hy fs
   split at h
   case h_3 => simp at h
   case h_1 hq =>
    have ih' := ih b h
    simp only [List.forIn_cons, ne_eq, hname, not_false_eq_true, if_true, Sem.run_bind, p1 _ hq, p2 _ hq, eq1_run hd hq, Result.andThen_ok]
    simpa using ih'
   case h_2 hq =>
    simp at h; subst h
    simp only [List.forIn_cons, ne_eq, hname, not_false_eq_true, if_true, Sem.run_bind, p1 _ hq, p2 _ hq, eq1_run hd hq, Result.andThen_ok]
    simp

theorem eqIn_bool {n : Nat} {t : TypeId} (p q : Bool) (hu : P.underlying t = some .bool) : (Op.equalIn (n + 1) t (.bool p) (.bool q)).run P w = .ok (p == q) w := by simp [Op.equalIn, rUnd hu]
theorem eqIn_snil {n l c l' c' : Nat} {t e : TypeId} (a : Option Addr) (hu : P.underlying t = some (.slice e)) : (Op.equalIn (n + 1) t (.slice a l c) (.slice none l' c')).run P w = .ok a.isNone w := by cases a <;> simp [Op.equalIn, rUnd hu]
theorem eqIn_fnil {n : Nat} {t : TypeId} {x y z} (hu : P.underlying t = some (.func x y z)) : (Op.equalIn (n + 1) t .nilFunc .nilFunc).run P w = .ok true w := by simp [Op.equalIn, rUnd hu]
theorem eqIn_func {n : Nat} {t : TypeId} {x y z} {f : Fn} {a b : Array Value} (hu : P.underlying t = some (.func x y z)) : (Op.equalIn (n + 1) t (.func f a b) .nilFunc).run P w = .ok false w := by simp [Op.equalIn, rUnd hu]
theorem equal_eq (t : TypeId) (x y : Value) : Op.equal t x y = Op.equalIn (9998 + 1 + 1) t x y := rfl

theorem aEq_run {op : BinOp} (ho : op = .eql ∨ op = .neq) {t : TypeId} {x y x' y' : Value} {b : Bool} (hx : vrel m x x') (hy : vrel m y y') (h : aEq P t x y = some b) (ox oy : Operand) :
  (do eqGuard op t ox oy x' y'; Op.equal t x' y' : Sem Bool).run P w = .ok b w ∧ (∀ s1 s2, x' = .string s1 → y' = .string s2 → False) ∧ (∀ k a k' c, x' = .int k a → y' = .int k' c → False) ∧ (∀ k a k' c, x' = .float k a → y' = .float k' c → False) ∧ (∀ k a a' k' c c', x' = .complex k a a' → y' = .complex k' c c' → False) := by
 unfold aEq at h
 split at h
 case h_6 => simp at h
 case h_1 p q hu =>
  obtain rfl := hx.bool_inv
  obtain rfl := hy.bool_inv
  simp at h; subst h
  rw [equal_eq]
  rcases ho with rfl | rfl <;> simp [eqGuard, eqIn_bool _ _ hu, -Nat.reduceAdd]
 case h_2 e a l c l' c' hu =>
  obtain ⟨rfl, _⟩ := hy.snil_inv
  simp at h; subst h
  cases a with
  | none =>
   obtain ⟨rfl, _⟩ := hx.snil_inv
   rw [equal_eq]
   rcases ho with rfl | rfl <;> simp [eqGuard, eqIn_snil _ hu, -Nat.reduceAdd]
  | some a =>
   obtain ⟨a', c'', rfl, _⟩ := hx.slice_inv
   rw [equal_eq]
   rcases ho with rfl | rfl <;> simp [eqGuard, eqIn_snil _ hu, -Nat.reduceAdd]
 case h_3 hu =>
  obtain rfl := hx.nilFunc_inv
  obtain rfl := hy.nilFunc_inv
  simp at h; subst h
  rw [equal_eq]
  rcases ho with rfl | rfl <;> simp [eqGuard, eqIn_fnil hu, -Nat.reduceAdd]
 case h_4 fn fs cs hu =>
  obtain ⟨_, cs', rfl, _⟩ := hx.func_inv
  obtain rfl := hy.nilFunc_inv
  simp at h; subst h
  rw [equal_eq]
  rcases ho with rfl | rfl <;> simp [eqGuard, eqIn_func hu, -Nat.reduceAdd]
 case h_5 fields xs ys hu =>
  obtain ⟨xs', rfl, hxr⟩ := hx.agg_inv
  obtain ⟨ys', rfl, hyr⟩ := hy.agg_inv
  split at h
  ·simp at h
  ·rename_i hc
   simp only [Bool.or_eq_true, not_or, Bool.not_eq_true] at hc
   have hrun := eqF_run (P := P) (w := w) (n := 9998) hxr hyr fields.toList b h
   refine ⟨?_, by simp, by simp, by simp, by simp⟩
   have hg : (eqGuard op t ox oy (.agg xs') (.agg ys')).run P w = .ok () w := by
    rcases ho with rfl | rfl <;> simp [eqGuard, hc.1]
   simp only [Sem.run_bind, hg, Result.andThen_ok]
   rw [equal_eq]
   unfold Op.equalIn
   simp only [Sem.run_bind, rUnd hu, Result.andThen_ok, run_program, hc.2, Bool.false_eq_true, if_false]
   simp only [Sem.run_bind] at hrun
   rw [← Array.forIn_toList]
   exact hrun

theorem bin_sim (hr : HR B m H w) {op : BinOp} {t : TypeId} {x x' y y' v : Value} (hx : vrel m x x') (hy : vrel m y y') (h : aBin P op t x y = some v) (ox oy : Operand) :
  DoneV P B wm m H w v H (do eqGuard op t ox oy x' y'; binOp op t x' y') := by
 unfold aBin at h
 have guardI : ∀ (k k' : IntKind) (a b : Int), (eqGuard op t ox oy (.int k a) (.int k' b)).run P w = .ok () w := fun k k' a b => by
  unfold eqGuard; cases op <;> simp
 have guardC : ∀ (k k' : FloatKind) (a b a' b' : Nat), (eqGuard op t ox oy (.complex k a b) (.complex k' a' b')).run P w = .ok () w := fun k k' a b a' b' => by
  unfold eqGuard; cases op <;> simp
 have guardS : ∀ (a b : ByteArray), (eqGuard op t ox oy (.string a) (.string b)).run P w = .ok () w := fun a b => by
  unfold eqGuard; cases op <;> simp
 split at h
 case h_1 k a k' b =>
  obtain rfl := hx.int_inv
  obtain rfl := hy.int_inv
  split at h
  case h_1 =>
   obtain ⟨h1, h2⟩ := aShift_run (P := P) (w := w) (k' := k') (.inl rfl) h t
   exact DoneV.pure hr (v' := v) (by simp [guardI, h1]) (vrel.flat1 m h2)
  case h_2 =>
   obtain ⟨h1, h2⟩ := aShift_run (P := P) (w := w) (k' := k') (.inr rfl) h t
   exact DoneV.pure hr (v' := v) (by simp [guardI, h1]) (vrel.flat1 m h2)
  case h_3 n1 n2 =>
   split at h
   case isFalse => simp at h
   rename_i hk; subst hk
   obtain ⟨h1, h2⟩ := aInt_run (P := P) (w := w) n1 n2 h t
   exact DoneV.pure hr (v' := v) (by simp [guardI, h1]) (vrel.flat1 m h2)
 case h_2 a b c d =>
  obtain rfl := hx.complex_inv
  obtain rfl := hy.complex_inv
  split at h
  case h_2 => simp at h
  case h_1 =>
   simp only [Option.map_eq_some_iff] at h
   obtain ⟨r, hr', rfl⟩ := h
   exact DoneV.pure hr (v' := .complex .f64 r.1 r.2) (by simp [guardC, cMul_run hr' t]) (.base ⟨rfl, rfl, rfl⟩)
 case h_3 a b =>
  obtain rfl := hx.string_inv
  obtain rfl := hy.string_inv
  obtain ⟨h1, h2⟩ := aStr_run (P := P) (w := w) h t
  exact DoneV.pure hr (v' := v) (by simp [guardS, h1]) (vrel.flat1 m h2)
 case h_4 =>
  split at h
  case h_3 => simp at h
  case h_1 =>
   simp only [Option.map_eq_some_iff] at h
   obtain ⟨b, hb, rfl⟩ := h
   obtain ⟨h1, n1, n2, n3, n4⟩ := aEq_run (P := P) (w := w) (op := .eql) (.inl rfl) hx hy hb ox oy
   refine DoneV.pure hr (v' := .bool b) ?_ (.base rfl)
   have hbin : binOp .eql t x' y' = (do pure (.bool (← Op.equal t x' y'))) := by
    unfold binOp
    split <;> first | rfl | (exfalso; first | exact n1 _ _ rfl rfl | exact n2 _ _ _ _ rfl rfl | exact n3 _ _ _ _ rfl rfl | exact n4 _ _ _ _ _ _ rfl rfl | simp_all)
   rw [hbin]
   simp only [Sem.run_bind] at h1 ⊢
   revert h1
   cases (eqGuard .eql t ox oy x' y').run P w with
   | ok u w1 => simp only [Result.andThen_ok]; intro h1; rw [h1]; rfl
   | halt _ _ => intro h1; simp at h1
  case h_2 =>
   simp only [Option.map_eq_some_iff] at h
   obtain ⟨b, hb, rfl⟩ := h
   obtain ⟨h1, n1, n2, n3, n4⟩ := aEq_run (P := P) (w := w) (op := .neq) (.inr rfl) hx hy hb ox oy
   refine DoneV.pure hr (v' := .bool !b) ?_ (.base rfl)
   have hbin : binOp .neq t x' y' = (do pure (.bool (!(← Op.equal t x' y')))) := by
    unfold binOp
    split <;> first | rfl | (exfalso; first | exact n1 _ _ rfl rfl | exact n2 _ _ _ _ rfl rfl | exact n3 _ _ _ _ rfl rfl | exact n4 _ _ _ _ _ _ rfl rfl | simp_all)
   rw [hbin]
   simp only [Sem.run_bind] at h1 ⊢
   revert h1
   cases (eqGuard .neq t ox oy x' y').run P w with
   | ok u w1 => simp only [Result.andThen_ok]; intro h1; rw [h1]; rfl
   | halt _ _ => intro h1; simp at h1

theorem un_sim (hr : HR B m H w) {op : UnOp} {x x' v : Value} (hx : vrel m x x') (h : aUn op x = some v) : DoneV P B wm m H w v H (Op.unary op x') := by
 unfold aUn at h
 split at h
 ·rename_i k n
  obtain rfl := hx.int_inv; simp at h; subst h
  exact DoneV.pure hr (v' := .int k (k.wrap (-n))) (by simp [Op.unary, Op.intArith]) (.base ⟨rfl, rfl⟩)
 ·rename_i b
  obtain rfl := hx.bool_inv; simp at h; subst h
  exact DoneV.pure hr (v' := .bool !b) (by simp [Op.unary]) (.base rfl)
 ·rename_i k b
  obtain rfl := hx.float_inv; simp at h; subst h
  exact DoneV.pure hr (v' := .float k (Op.negFloat k b)) (by simp [Op.unary]) (.base ⟨rfl, rfl⟩)
 ·simp at h
end ops
end Go.Am

namespace Go.Am
section ops
variable {P : Program} {B wm : Nat} {m : Map} {H : AHeap} {w : World}

def byteCells (s : ByteArray) : List Value := s.data.toList.map fun b => .int .u8 b.toNat
theorem byteCells_flat (s : ByteArray) : (byteCells s).all flat1 = true := by
 rw [List.all_eq_true]; intro x hx; obtain ⟨b, _, rfl⟩ := List.mem_map.1 hx; rfl

/-- What is appended or copied. -/
theorem cells_run (hr : HR B m H w) {size n : Nat} {x x' : Value} {l : List Value} (hx : vrel m x x') (h : aCells H size x = some (n, l)) :
  (Builtin.lenOf x').run P w = .ok n w ∧ l.length = n * size ∧ l.all oneCell = true ∧ ∃ l' : List Value, lrel m l l' ∧ ∀ (w2 : World) (k : Nat), w2.heap = w.heap → k ≤ n → (Builtin.firstCells size k x').run P w2 = .ok (l'.take (k * size)).toArray w2 := by
 unfold aCells at h
 split at h
 case h_4 => simp at h
 case h_1 len cap =>
  obtain ⟨rfl, rfl, rfl⟩ := hx.snil_inv
  simp at h
  obtain ⟨rfl, rfl⟩ := h
  exact ⟨by simp [Builtin.lenOf], by simp, rfl, [], lrel.nil m, fun w2 k _ hk => by simp [Builtin.firstCells]⟩
 case h_2 b o k cap =>
  obtain ⟨a', cap', rfl, ⟨k1, k2, k3, k4, k5, g, hg, k6, k7, k8, k9, k10⟩ | ⟨k1, rfl, rfl, _, rfl⟩⟩ := hx.slice_inv
  rotate_left
  ·split at h
   case h_2 => simp at h
   case h_1 own gr sz cells hrow =>
    simp only [Option.map_eq_some_iff] at h
    obtain ⟨r, hc, h⟩ := h
    simp at h
    obtain ⟨rfl, rfl⟩ := h
    obtain ⟨hc1, hc2⟩ := cut_some hc
    have : r = [] := by rw [hc2]; simp
    subst this
    refine ⟨by simp [Builtin.lenOf], by simp, rfl, [], lrel.nil m, fun w2 j hw hj => ?_⟩
    have hj0 : j = 0 := by omega
    subst hj0
    simp [Builtin.firstCells, loadCells, loadCellsFrom]
  obtain ⟨ab, ao, as⟩ := a'
  simp only at hg k2 k6 k7 k8 k9
  subst k2 k6
  split at h
  case h_2 => simp at h
  case h_1 own gr sz cells hrow =>
   simp only [Option.map_eq_some_iff] at h
   obtain ⟨r, hc, h⟩ := h
   simp at h
   obtain ⟨rfl, rfl⟩ := h
   obtain ⟨_, g2, g3, g4, C, e, f, hC, hsz, hf, hl⟩ := hr.row hrow hg
   rw [← hsz] at g4
   obtain ⟨hc1, hc2⟩ := cut_some hc
   have hlen : r.length = k * size := by rw [hc2]; simp; omega
   refine ⟨by simp [Builtin.lenOf], hlen, all_cut hc (hr.one hrow hg), ?_⟩
   by_cases hcap : 0 < cap
   ·have k11 := k9 hcap
    obtain ⟨h1, h2⟩ := row_cut hl g4 hc
    refine ⟨_, h1, fun w2 j hw hj => ?_⟩
    have hjs : j * size ≤ k * size := Nat.mul_le_mul_right _ hj
    have := rCells (P := P) (w := w2) (c := g.c) (off := ao) (by rw [hw]; exact hC) (j * size) (by omega)
    simp only [Builtin.firstCells, this]
    rw [List.take_take, Nat.min_eq_left hjs, k11]
   ·have hk0 : k = 0 := by omega
    subst hk0
    have : r = [] := by simpa using hlen
    subst this
    refine ⟨[], lrel.nil m, fun w2 j hw hj => ?_⟩
    have hj0 : j = 0 := by omega
    subst hj0
    simp [Builtin.firstCells, loadCells, loadCellsFrom]
 case h_3 s =>
  obtain rfl := hx.string_inv
  split at h
  case isFalse => simp at h
  rename_i hs1
  subst hs1
  simp at h
  obtain ⟨rfl, rfl⟩ := h
  refine ⟨by simp [Builtin.lenOf], by simp, all_flat (byteCells_flat s), byteCells s, lrel.flat1 m (byteCells_flat s), fun w2 k _ hk => ?_⟩
  have : s.extract 0 k = ⟨(s.data.toList.take k).toArray⟩ := by
   apply ByteArray.ext
   apply Array.ext'
   simp [ByteArray.data_extract]
  simp [Builtin.firstCells, this, byteCells]

theorem min_take (l : List Value) (n : Nat) (h : l.length = n) : l.take n = l := by rw [List.take_of_length_le (by omega)]

/-- An append that moves. -/
theorem grow_run {st xt ty elem : TypeId} {xd : TypeDesc} {i : TypeInfo} {z : Value} {base : Option Addr} {len cap n : Nat} {x : Value} {old new : List Value}
  (hu : P.underlying st = some (.slice elem)) (hux : P.underlying xt = some xd) (hxd : xd = .string ∨ ∃ e, xd = .slice e) (hi : P.info? elem = some i) (hz : i.zero = some z)
  (hlen : (Builtin.lenOf x).run P w = .ok n w) (hn : cap < len + n) (hroom : roomy (len + n) i.bytes = true)
  (hold : (Builtin.firstCells i.size len (.slice base len cap)).run P w.drew = .ok old.toArray w.drew) (hnew : (Builtin.firstCells i.size n x).run P w.drew = .ok new.toArray w.drew) :
  (Builtin.append_ #[st, xt] ty #[.slice base len cap, x]).run P w =
   .ok (.slice (some ⟨w.heap.size, 0, none⟩) (len + n) (grownCap w (len + n) cap elem)) (w.drew.alloc (.cells ((old ++ new).toArray ++ Builtin.zeroCells z.cells (grownCap w (len + n) cap elem - (len + n))) elem)) := by
 simp only [roomy, Bool.and_eq_true, decide_eq_true_eq] at hroom
 have hnn : ¬ (len + n ≤ cap) := by omega
 have h48 := growslice_fits (old := cap) hn hroom.1
 have h48' : ¬ (281474976710656 < Builtin.nextslicecap (len + n) cap * i.bytes) := by omega
 have hb0 : ¬ (i.bytes = 0) := by omega
 rcases hxd with rfl | ⟨e, rfl⟩ <;> (
  simp [Builtin.append_, rUnd hu, rUnd hux, rSize (show sizeOf' P elem = some i.size by simp [sizeOf', hi]), rInfo hi, hlen, hnn, hb0, h48', Question.forced, hold, hnew, newRow, grownCap, rZero (show zeroOf P elem = some z by simp [zeroOf, hi, hz])]; congr 2; apply Array.ext'; simp)

/-- An append that stays. -/
theorem stay_run {st xt ty elem : TypeId} {xd : TypeDesc} {i : TypeInfo} {a : Addr} {len cap n : Nat} {x : Value} {new : List Value} {w' : World}
  (hu : P.underlying st = some (.slice elem)) (hux : P.underlying xt = some xd) (hxd : xd = .string ∨ ∃ e, xd = .slice e) (hi : P.info? elem = some i)
  (hlen : (Builtin.lenOf x).run P w = .ok n w) (hn : len + n ≤ cap) (hnew : (Builtin.firstCells i.size n x).run P w = .ok new.toArray w)
  (hst : (storeCells (a.add (len * i.size)) new).run P w = .ok () w') :
  (Builtin.append_ #[st, xt] ty #[.slice (some a) len cap, x]).run P w = .ok (.slice (some a) (len + n) cap) w' := by
 rcases hxd with rfl | ⟨e, rfl⟩ <;> (
  simp [Builtin.append_, rUnd hu, rUnd hux, rSize (show sizeOf' P elem = some i.size by simp [sizeOf', hi]), hlen, hn, hnew, hst])

theorem stay_nil {st xt ty elem : TypeId} {xd : TypeDesc} {i : TypeInfo} {x : Value} {new : Array Value}
  (hu : P.underlying st = some (.slice elem)) (hux : P.underlying xt = some xd) (hxd : xd = .string ∨ ∃ e, xd = .slice e) (hi : P.info? elem = some i)
  (hlen : (Builtin.lenOf x).run P w = .ok 0 w) (hnew : (Builtin.firstCells i.size 0 x).run P w = .ok new w) :
  (Builtin.append_ #[st, xt] ty #[.slice none 0 0, x]).run P w = .ok (.slice none 0 0) w := by
 rcases hxd with rfl | ⟨e, rfl⟩ <;> (
  simp [Builtin.append_, rUnd hu, rUnd hux, rSize (show sizeOf' P elem = some i.size by simp [sizeOf', hi]), hlen, hnew])

theorem roomy_le {n b : Nat} (h : roomy n b = true) : n ≤ 9223372036854775807 := by
 simp only [roomy, Bool.and_eq_true, decide_eq_true_eq] at h
 have := Nat.le_mul_of_pos_right n h.2
 omega
theorem grown_max {w : World} {n c : Nat} {e : TypeId} (h : n ≤ 9223372036854775807) : grownCap w n c e ≤ 9223372036854775807 := grownCap_le_maxLen w n c e h
theorem grown_ge (w : World) (need old : Nat) (e : TypeId) : need ≤ grownCap w need old e := grownCap_ge w need old e

theorem zsize (z : Array Value) (n : Nat) : (Builtin.zeroCells z n).size = n * z.size := by simp [Builtin.zeroCells]

/-- A new row behind a draw, with room to spare. -/
theorem spare_sim (hr : HR B m H w) {size n cap : Nat} {cells cells' : List Value} {z : Array Value} (e : TypeId) (hl : lrel m cells cells') (hc : cells.length = n * size) (hz : z.size = size) (hn : n ≤ cap) (h1 : cells.all oneCell = true) (hm : cap ≤ 9223372036854775807) :
  ∃ m', Stp B wm m H w m' (H.push (.row true true size cells)) (w.drew.alloc (.cells (cells'.toArray ++ Builtin.zeroCells z (cap - n)) e)) ∧ vrel m' (.slice (some ⟨H.n, 0, none⟩) n n) (.slice (some ⟨w.heap.size, 0, none⟩) n cap) := by
 have h0 : Stp B wm m H w m H w.drew := Stp.same hr rfl rfl rfl rfl
 have e1 := hl.1
 have hsz : (cells'.toArray ++ Builtin.zeroCells z (cap - n)).size = cap * size := by
  simp [zsize, ← e1, hc, hz, ← Nat.add_mul]; rw [Nat.add_sub_cancel' hn]
 obtain ⟨m', h2, hm⟩ := new_sim (wm := wm) h0.hr true size (cells := cells) (C := cells'.toArray ++ Builtin.zeroCells z (cap - n)) e (0, 0) (by
   have : cells = cells.take cells.length := by simp
   rw [Array.toList_append, List.take_append_of_le_length (by simp [e1]), e1]; simpa using hl) (by rw [hsz, hc]; exact Nat.mul_le_mul_right _ hn) (clear0 _) h1 (grOk1 rfl (by rw [hsz]; exact Nat.mul_le_mul_right _ hm))
 refine ⟨m', h0.trans h2, .base (.inl ⟨rfl, rfl, rfl, Nat.le_refl _, hn, _, hm, rfl, ?_, ?_, fun _ => rfl, ?_⟩)⟩
 ·simp [hc]
 ·rw [hsz]; simp
 ·intro h; simp [hc] at h

theorem growZ_run {st xt ty elem : TypeId} {k : IntKind} {i : TypeInfo} {z : Value} {n : Int}
  (hu : P.underlying st = some (.slice elem)) (hux : P.underlying xt = some (.int k)) (hi : P.info? elem = some i) (hz : i.zero = some z) (hzs : z.cells.size = i.size) (hpos : 0 < i.size)
  (hn : 0 < n) (hroom : roomy n.toNat i.bytes = true) :
  (Builtin.append_ #[st, xt] ty #[.slice none 0 0, .int .i64 n]).run P w =
   .ok (.slice (some ⟨w.heap.size, 0, none⟩) n.toNat (grownCap w n.toNat 0 elem)) (w.drew.alloc (.cells (Builtin.zeroCells z.cells n.toNat ++ Builtin.zeroCells z.cells (grownCap w n.toNat 0 elem - n.toNat)) elem)) := by
 simp only [roomy, Bool.and_eq_true, decide_eq_true_eq] at hroom
 obtain ⟨N, rfl⟩ : ∃ N : Nat, n = N := ⟨n.toNat, by omega⟩
 simp only [Int.toNat_natCast] at hroom ⊢
 have hb0 : 0 < i.bytes := hroom.2
 have hN : N ≤ 140737488355328 := Nat.le_trans (Nat.le_mul_of_pos_right _ hb0) hroom.1
 have h48 := growslice_fits (old := 0) (show 0 < N by omega) hroom.1
 have h48' : ¬ (281474976710656 < Builtin.nextslicecap N 0 * i.bytes) := by omega
 have hw1 : IntKind.i64.wrap (N : Int) = N := by rw [IntKind.wrap_i64]; omega
 have t1 : ¬ ((N : Int) < 0) := by omega
 have t2 : ¬ (281474976710656 < (N : Int) * (i.bytes : Int)) := by
  rw [← Int.natCast_mul]
  have := hroom.1
  omega
 have hmax : IntKind.i64.max = 9223372036854775807 := by decide
 have t3 : ¬ (N = 0) := by omega
 have t4 : ¬ ((9223372036854775807 : Int) < (N : Int)) := by omega
 have t5 : ¬ (N * i.size = 0) := by
  have := Nat.mul_pos (show 0 < N by omega) hpos
  omega
 have hb1 : ¬ (i.bytes = 0) := by omega
 simp [Builtin.append_, rUnd hu, rUnd hux, rSize (show sizeOf' P elem = some i.size by simp [sizeOf', hi]), rInfo hi, asInt, asIntOf, hw1, t1, t2, t3, t4, t5, hb1, h48', Question.forced, newRow, grownCap, rZero (show zeroOf P elem = some z by simp [zeroOf, hi, hz]), Builtin.firstCells, hmax]

theorem appendZ_sim (hr : HR B m H w) {st xt ty : TypeId} {s s' x x' v : Value} {H' : AHeap} (hs : vrel m s s') (hx : vrel m x x') (hxt : isIntD (P.underlying xt) = true) (h : aAppendZ P H st s x = some (v, H')) :
  DoneV P B wm m H w v H' (Builtin.append_ #[st, xt] ty #[s', x']) := by
 obtain ⟨k, hux⟩ : ∃ k, P.underlying xt = some (.int k) := by
  unfold isIntD at hxt
  split at hxt
  ·rename_i k hk; exact ⟨k, hk⟩
  ·simp at hxt
 unfold aAppendZ at h
 split at h
 case h_2 => simp at h
 case h_1 elem l c n hu =>
  obtain ⟨rfl, rfl, rfl⟩ := hs.snil_inv
  obtain rfl := hx.int_inv
  split at h
  case h_2 => simp at h
  case h_1 i hi =>
   split at h
   case h_2 => simp at h
   case h_1 z hz =>
    split at h
    case isFalse => simp at h
    rename_i hcond
    simp only [Bool.and_eq_true, decide_eq_true_eq, beq_iff_eq] at hcond
    obtain ⟨⟨⟨⟨hk, hzs⟩, hpos⟩, hn⟩, hroom⟩ := hcond
    simp at h
    obtain ⟨rfl, rfl⟩ := h
    have hge := grown_ge w n.toNat 0 elem
    have hzc : (Builtin.zeroCells z.cells n.toNat).toList = (zeros z (n.toNat * i.size)).toList := by
     simp [Builtin.zeroCells, zeros, hzs]
    obtain ⟨m', hst, hv⟩ := spare_sim (wm := wm) hr (size := i.size) (n := n.toNat) (cap := grownCap w n.toNat 0 elem) (cells := (zeros z (n.toNat * i.size)).toList) (cells' := (Builtin.zeroCells z.cells n.toNat).toList) (z := z.cells) elem
     (by rw [hzc]; exact zeros_rel hk _ (by omega)) (by simp [zeros]) hzs hge (zeros_one hk _ (by omega)) (grown_max (roomy_le hroom))
    refine ⟨_, _, m', growZ_run (ty := ty) hu hux hi hz hzs hpos hn hroom, hv, ?_⟩
    simpa using hst

theorem append_sim (hr : HR B m H w) {st xt ty : TypeId} {s s' x x' v : Value} {H' : AHeap} (hs : vrel m s s') (hx : vrel m x x') (h : aAppend P wm H st xt s x = some (v, H')) :
  DoneV P B wm m H w v H' (Builtin.append_ #[st, xt] ty #[s', x']) := by
 unfold aAppend at h
 split at h
 case h_2 => simp at h
 case h_1 elem xd hu hux =>
  split at h
  case h_1 => simp at h
  case h_2 i hi =>
   split at h
   case h_2 => simp at h
   case h_1 n new z hcell hz =>
    obtain ⟨hxd, hcell'⟩ : (xd = .string ∨ ∃ e, xd = .slice e) ∧ aCells H i.size x = some (n, new) := by
     split at hcell
     ·exact ⟨.inr ⟨_, rfl⟩, hcell⟩
     ·exact ⟨.inl rfl, hcell⟩
     ·simp at hcell
    obtain ⟨hlen, hnl, hnone, new', hnr, hfirst⟩ := cells_run (P := P) hr hx hcell'
    have hnl' : new'.length = n * i.size := by rw [← hnr.1]; exact hnl
    split at h
    case isFalse => simp at h
    rename_i hcond
    simp only [Bool.and_eq_true, decide_eq_true_eq, beq_iff_eq] at hcond
    obtain ⟨⟨hk, hzs⟩, hpos⟩ := hcond
    split at h
    case isTrue hn0 =>
     subst hn0
     have hnw : new' = [] := by simpa using hnl'
     subst hnw
     split at h
     case h_2 => simp at h
     case h_1 a len cap =>
      simp at h
      obtain ⟨rfl, rfl⟩ := h
      cases a with
      | none =>
       obtain ⟨rfl, rfl, rfl⟩ := hs.snil_inv
       exact DoneV.pure hr (stay_nil hu hux hxd hi hlen (hfirst w 0 rfl (Nat.le_refl _))) hs
      | some a =>
       obtain ⟨a', cap', rfl, hq⟩ := hs.slice_inv
       have hlc : len ≤ cap' := by
        rcases hq with ⟨_, _, _, k4, k5, _⟩ | ⟨_, k3, _, _, _⟩ <;> omega
       refine DoneV.pure hr ?_ hs
       exact stay_run hu hux hxd hi hlen (by omega) (hfirst w 0 rfl (Nat.le_refl _)) (by simp [storeCells])
    case isFalse hn0 =>
     split at h
     case h_3 => simp at h
     case h_1 l c =>
      obtain ⟨rfl, rfl, rfl⟩ := hs.snil_inv
      split at h
      case isFalse => simp at h
      rename_i hroom
      simp at h
      obtain ⟨rfl, rfl⟩ := h
      have hrun := grow_run (P := P) (w := w) (ty := ty) (base := none) (len := 0) (cap := 0) (old := []) hu hux hxd hi hz hlen (by omega) (by simpa using hroom) (by simp [Builtin.firstCells]) (hfirst w.drew n rfl (Nat.le_refl _))
      obtain ⟨m', hst, hv⟩ := spare_sim (wm := wm) hr (z := z.cells) elem hnr hnl hzs (grown_ge w n 0 elem) hnone (grown_max (roomy_le (by simpa using hroom)))
      refine ⟨_, _, m', hrun, ?_, ?_⟩
      ·simpa using hv
      ·simpa [min_take _ _ hnl'] using hst
     case h_2 b o len cap =>
      obtain ⟨a', cap', rfl, ⟨k1, k2, k3, k4, k5, g, hg, k6, k7, k8, k9, k10⟩ | ⟨k1, rfl, rfl, _, rfl⟩⟩ := hs.slice_inv
      rotate_left
      ·split at h
       case h_2 => simp at h
       case h_1 own gr sz cells hrow =>
        split at h
        case isTrue => simp at h
        rename_i hszi
        have hszi' : sz = i.size := by simpa using hszi
        subst hszi'
        split at h
        case isTrue hroomy => omega
        case isFalse hroomy =>
         split at h
         case h_1 => simp at h
         case h_2 old hold =>
          split at h
          case isTrue => simp at h
          rename_i hroom
          have hroom' : roomy n i.bytes = true := by simpa using hroom
          obtain ⟨ho1, ho2⟩ := cut_some hold
          have : old = [] := by rw [ho2]; simp
          subst this
          have hrun := grow_run (P := P) (w := w) (ty := ty) (base := some a') (len := 0) (cap := 0) (old := []) hu hux hxd hi hz hlen (by omega) (by simpa using hroom') (by simp [Builtin.firstCells, loadCells, loadCellsFrom]) (hfirst w.drew n rfl (Nat.le_refl _))
          split at h
          case isTrue =>
           simp at h
           obtain ⟨rfl, rfl⟩ := h
           obtain ⟨m', hst, hv⟩ := spare_sim (wm := wm) hr (z := z.cells) elem hnr hnl hzs (grown_ge w n 0 elem) hnone (grown_max (roomy_le (by simpa using hroom)))
           refine ⟨_, _, m', hrun, ?_, ?_⟩
           ·simpa using hv
           ·simpa [min_take _ _ hnl'] using hst
          case isFalse =>
           split at h
           case isFalse => simp at h
           rename_i hwm
           simp only [Bool.and_eq_true, decide_eq_true_eq] at hwm
           obtain ⟨hown, hwm⟩ := hwm
           subst hown
           simp at h
           obtain ⟨rfl, rfl⟩ := h
           have hkill : Stp B wm m H w m (H.set b .dead) w := by
            cases hmb : m b with
            | none => exact Stp.setU hr hmb
            | some g => exact Stp.set hr hwm (by rw [hrow]; rfl) hmb trivial rfl (fun _ _ => rfl) rfl rfl rfl
           obtain ⟨m', hst, hv⟩ := spare_sim (wm := wm) hkill.hr (z := z.cells) elem hnr hnl hzs (grown_ge w n 0 elem) hnone (grown_max (roomy_le (by simpa using hroom)))
           refine ⟨_, _, m', hrun, by simpa using hv, ?_⟩
           have := hkill.trans hst
           simpa [min_take _ _ hnl'] using this
      obtain ⟨ab, ao, as⟩ := a'
      simp only at hg k2 k6 k7 k8 k9 k10
      subst k2 k6
      split at h
      case h_2 => simp at h
      case h_1 own gr sz cells hrow =>
       obtain ⟨g1, g2, g3, g4, C, e, f, hC, hsz, hf, hl⟩ := hr.row hrow hg
       split at h
       case isTrue => simp at h
       rename_i hszi
       have hszi' : sz = i.size := by simpa using hszi
       subst hszi'
       rw [g2] at k7 k8 k10
       rw [g3] at k7 k10
       split at h
       case isTrue hroomy =>
        -- it stays
        split at h
        case isFalse => simp at h
        rename_i hown
        simp only [Bool.and_eq_true, decide_eq_true_eq] at hown
        obtain ⟨rfl, hwm⟩ := hown
        simp only [Option.map_eq_some_iff] at h
        obtain ⟨r, hlay, h⟩ := h
        simp at h
        obtain ⟨rfl, rfl⟩ := h
        have k11 := k9 (by omega)
        obtain ⟨hst, hstp⟩ := lay_sim (P := P) hr hwm hrow hg hlay hnr hnone
        have hf2 := hfirst w n rfl (Nat.le_refl _)
        rw [min_take _ _ hnl'] at hf2
        refine ⟨_, _, m, stay_run (ty := ty) hu hux hxd hi hlen (by omega) hf2 (by rw [add_addr, k11, Nat.add_assoc]; exact hst), ?_, hstp⟩
        refine .base (.inl ⟨rfl, rfl, rfl, hroomy, k5, g, hg, rfl, by rw [g2, g3]; exact k7, by rw [g2]; exact k8, k9, by rw [g2, g3]; exact k10⟩)
       case isFalse hroomy =>
        split at h
        case h_1 => simp at h
        case h_2 old hold =>
         split at h
         case isTrue => simp at h
         rename_i hroom
         have hroom' : roomy (len + n) i.bytes = true := by simpa using hroom
         obtain ⟨ho1, ho2⟩ := cut_some hold
         have hbone : (old ++ new).all oneCell = true := all_append (all_cut hold (hr.one hrow hg)) hnone
         have hol : old.length = len * i.size := by rw [ho2]; simp; omega
         have hboth : (old ++ new).length = (len + n) * i.size := by simp [hol, hnl, Nat.add_mul]
         -- the old cells, in whatever world with this heap
         have holdr : ∃ old' : List Value, lrel m old old' ∧ ao + len * i.size ≤ C.size ∧ old' = (C.toList.drop ao).take (len * i.size) := by
          by_cases hcap : 0 < cap
          ·have k11 := k9 hcap
           obtain ⟨h1, h2⟩ := row_cut hl (by rw [hsz]; exact g4) hold
           exact ⟨_, h1, by omega, by rw [k11]⟩
          ·have : len = 0 := by omega
           subst this
           have : old = [] := by simpa using hol
           subst this
           refine ⟨[], lrel.nil m, ?_, by simp⟩
           have : 0 ≤ cap' * i.size := Nat.zero_le _
           omega
         obtain ⟨old', hor, hob, hoe⟩ := holdr
         have hfo : ∀ w2 : World, w2.heap = w.heap → (Builtin.firstCells i.size len (.slice (some ⟨g.c, ao, none⟩) len cap')).run P w2 = .ok old'.toArray w2 := fun w2 hw => by
          simp only [Builtin.firstCells]
          rw [rCells (P := P) (w := w2) (by rw [hw]; exact hC) _ hob, hoe]
         have hol' : old'.length = len * i.size := by rw [← hor.1]; exact hol
         split at h
         case isTrue hex =>
          -- it moves for certain
          simp at h
          obtain ⟨rfl, rfl⟩ := h
          have hcc : cap' = cap := by
           refine k10 ?_
           simp only [Bool.or_eq_true, Bool.not_eq_true', decide_eq_true_eq] at hex
           rcases hex with hex | hex
           ·exact .inl (by rw [hr.grow hrow hg]; exact hex)
           ·exact .inr hex
          have hrun := grow_run (P := P) (w := w) (ty := ty) (old := old') hu hux hxd hi hz hlen (by omega) hroom' (hfo w.drew rfl) (hfirst w.drew n rfl (Nat.le_refl _))
          obtain ⟨m', hst, hv⟩ := spare_sim (wm := wm) hr (z := z.cells) elem (hor.append hnr) hboth hzs (grown_ge w (len + n) cap' elem) hbone (grown_max (roomy_le hroom'))
          refine ⟨_, _, m', hrun, hv, ?_⟩
          simpa [min_take _ _ hnl'] using hst
         case isFalse hex =>
          have hgr : gr = true := by
           cases hg2 : gr with
           | true => rfl
           | false => exact absurd (by simp [hg2]) hex
          split at h
          case isFalse => simp at h
          rename_i hwm
          simp at h
          obtain ⟨rfl, rfl⟩ := h
          simp only [Bool.and_eq_true, decide_eq_true_eq] at hwm
          obtain ⟨hown, hwm⟩ := hwm
          subst hown
          by_cases hin : len + n ≤ cap'
          ·-- it stays after all
           have hone : ∀ v ∈ new', v.oneCell' = true := all_oneCell hnone hnr
           have hle : (len + n) * i.size ≤ cap' * i.size := Nat.mul_le_mul_right _ hin
           rw [Nat.add_mul] at hle
           have hst := run_storeCells_cells (P := P) g.c (ao + len * i.size) new' 0 w (fun j hj => by
             rw [cell_of hC, Array.getElem?_eq_getElem (by omega)]; rfl) (fun j hj => frozen_of hC (hf rfl) (by omega)) hone
           rw [Nat.add_zero] at hst
           obtain ⟨⟨C', hC', ht⟩, s1, s2, s3, s4, s5⟩ := setCells_heap g.c new' (ao + len * i.size) w C e f hC (by omega)
           have hC's : C'.size = C.size := by
            have := congrArg List.length ht
            simp at this; omega
           have hf2 := hfirst w n rfl (Nat.le_refl _)
           rw [min_take _ _ hnl'] at hf2
           have hstp := Stp.move (wm := wm) hr (b := b) (g := g) (g' := ⟨g.c, ao, (len + n) * i.size, g.nc, i.size, true, true⟩) (o := .row true true i.size (old ++ new)) hwm (by rw [hrow]; rfl) hg rfl rfl
            (by
             refine ⟨rfl, rfl, hboth.symm, by rw [hboth, Nat.add_mul]; simp only; omega, C', e, f, hC', by rw [hC's, hsz], fun _ => by rw [hC's]; exact hf rfl, ?_⟩
             have hd : (C'.toList.drop ao).take (old ++ new).length = old' ++ new' := by
              rw [ht, hboth, Nat.add_mul, hoe]
              have e1 : (C.toList.take (ao + len * i.size) ++ new' ++ C.toList.drop (ao + len * i.size + new'.length)).drop ao = (C.toList.drop ao).take (len * i.size) ++ (new' ++ C.toList.drop (ao + len * i.size + new'.length)) := by
               rw [List.append_assoc, List.drop_append_of_le_length (by simp; omega), List.drop_take]
               congr 2; omega
              rw [e1, List.take_append, List.take_of_length_le (by simp; omega)]
              congr 1
              have e2 : len * i.size + n * i.size - (List.take (len * i.size) (List.drop ao C.toList)).length = new'.length := by simp; omega
              rw [e2, List.take_append_of_le_length (Nat.le_refl _), List.take_length]
             exact ⟨by rw [hd]; exact hor.append hnr, hbone, rfl, grOk1 rfl (by rw [hC's]; exact ((hr.grOk hrow hg hC) rfl).2)⟩) s1 s2 s3 s4 s5
           refine ⟨_, _, _, stay_run (ty := ty) hu hux hxd hi hlen hin hf2 (by rw [add_addr]; exact hst), ?_, hstp⟩
           refine .base (.inl ⟨rfl, rfl, rfl, Nat.le_refl _, hin, _, Map.upd_same _ _ _, rfl, ?_, ?_, ?_, ?_⟩)
           ·simp
           ·simp only; exact k8
           ·intro _; simp
           ·intro hh; simp at hh
          ·-- it moves
           have hrun := grow_run (P := P) (w := w) (ty := ty) (old := old') hu hux hxd hi hz hlen (by omega) hroom' (hfo w.drew rfl) (hfirst w.drew n rfl (Nat.le_refl _))
           have hkill : Stp B wm m H w m (H.set b .dead) w := Stp.set hr hwm (by rw [hrow]; rfl) hg trivial rfl (fun _ _ => rfl) rfl rfl rfl
           obtain ⟨m', hst, hv⟩ := spare_sim (wm := wm) hkill.hr (z := z.cells) elem (hor.append hnr) hboth hzs (grown_ge w (len + n) cap' elem) hbone (grown_max (roomy_le hroom'))
           refine ⟨_, _, m', hrun, by simpa using hv, ?_⟩
           have := hkill.trans hst
           simpa [min_take _ _ hnl'] using this
end ops
end Go.Am

namespace Go.Am
section ops
variable {P : Program} {B wm : Nat} {m : Map} {H : AHeap} {w : World}

theorem copy_sim (hr : HR B m H w) {dt st ty : TypeId} {d d' s s' v : Value} {H' : AHeap} (hd : vrel m d d') (hs : vrel m s s') (h : aCopy P wm H dt d s = some (v, H')) :
  DoneV P B wm m H w v H' (Builtin.copy_ #[dt, st] ty #[d', s']) := by
 unfold aCopy at h
 split at h
 case h_2 => simp at h
 case h_1 elem a len cap hu =>
  split at h
  case h_1 => simp at h
  case h_2 size hsz =>
   split at h
   case h_1 => simp at h
   case h_2 n l hcell =>
    obtain ⟨hlen, hnl, hnone, new', hnr, hfirst⟩ := cells_run (P := P) hr hs hcell
    split at h
    case h_1 =>
     obtain ⟨rfl, rfl, rfl⟩ := hd.snil_inv
     simp at h
     obtain ⟨rfl, rfl⟩ := h
     have hf := hfirst w (Nat.min n 0) rfl (Nat.min_le_left _ _)
     refine DoneV.pure hr (v' := goInt 0) ?_ (.base ⟨rfl, rfl⟩)
     simp at hf
     simp [Builtin.copy_, rUnd hu, hlen, rSize hsz, hf]
    case h_2 b o =>
     obtain ⟨a', cap', rfl, ⟨k1, k2, k3, k4, k5, g, hg, k6, k7, k8, k9, k10⟩ | ⟨k1, rfl, rfl, _, rfl⟩⟩ := hd.slice_inv
     rotate_left
     ·split at h
      case isFalse => simp at h
      rename_i hwm
      split at h
      case h_2 => simp at h
      case h_1 gr sz cells hrow =>
       split at h
       case isFalse => simp at h
       rename_i hsz2
       subst hsz2
       simp only [Option.map_eq_some_iff] at h
       obtain ⟨r, hlay, h⟩ := h
       simp at h
       obtain ⟨rfl, rfl⟩ := h
       have hf2 := hfirst w 0 rfl (Nat.zero_le _)
       have hst2 : Stp B wm m H w m (H.set b (.row true gr sz r)) w := by
        have hr0 : r = cells := by
         unfold lay at hlay
         split at hlay
         ·simp at hlay; exact hlay.symm
         ·simp at hlay
        cases hmb : m b with
        | none => exact Stp.setU hr hmb
        | some g =>
         refine Stp.set hr hwm (by rw [hrow]; rfl) hmb ?_ rfl (fun _ _ => rfl) rfl rfl rfl
         rw [hr0]; exact hr.obj _ _ _ hrow hmb
       refine ⟨goInt 0, _, m, ?_, .base ⟨rfl, rfl⟩, hst2⟩
       simp [Builtin.copy_, rUnd hu, hlen, rSize hsz, hf2, storeCells, goInt]
     obtain ⟨ab, ao, as⟩ := a'
     simp only at hg k2 k6 k7 k8 k9 k10
     subst k2 k6
     split at h
     case isFalse => simp at h
     rename_i hwm
     split at h
     case h_2 => simp at h
     case h_1 gr sz cells hrow =>
      obtain ⟨g1, g2, g3, g4, C, e, f, hC, hszC, hf, hl⟩ := hr.row hrow hg
      split at h
      case isFalse => simp at h
      rename_i hsz2
      subst hsz2
      simp only [Option.map_eq_some_iff] at h
      obtain ⟨r, hlay, h⟩ := h
      simp at h
      obtain ⟨rfl, rfl⟩ := h
      have hmin := Nat.min_le_left n len
      have hf2 := hfirst w (Nat.min n len) rfl hmin
      have hnr2 := hnr.take (Nat.min n len * sz)
      by_cases hcap : 0 < cap
      ·obtain ⟨hst, hstp⟩ := lay_sim (P := P) hr hwm hrow hg hlay hnr2 (all_take hnone _)
       rw [← k9 hcap] at hst hstp
       refine ⟨goInt (Nat.min n len), _, m, ?_, .base ⟨rfl, rfl⟩, hstp⟩
       simp [Builtin.copy_, rUnd hu, hlen, rSize hsz, hf2, hst, goInt]
      ·have hl0 : len = 0 := by omega
       subst hl0
       simp at hlay hf2
       have hr2 : H.set b (.row true gr sz r) = H.set b (.row true gr sz cells) := by
        obtain ⟨q1, rfl⟩ := lay_some hlay
        simp
       have hstp : Stp B wm m H w m (H.set b (.row true gr sz r)) w := by
        rw [hr2]
        refine Stp.set hr hwm (by rw [hrow]; rfl) hg ?_ rfl (fun _ _ => rfl) rfl rfl rfl
        exact hr.obj _ _ _ hrow hg
       refine ⟨goInt 0, w, m, ?_, .base ⟨rfl, by simp⟩, hstp⟩
       simp [Builtin.copy_, rUnd hu, hlen, rSize hsz, hf2, storeCells, goInt]
    case h_3 => simp at h

theorem slice_any {a : Option Addr} {l c : Nat} {x : Value} (h : vrel m (.slice a l c) x) : ∃ a' c', x = .slice a' l c' := by
 cases a with
 | none => obtain ⟨rfl, rfl, rfl⟩ := h.snil_inv; exact ⟨_, _, rfl⟩
 | some a => obtain ⟨a', c', rfl, _⟩ := h.slice_inv; exact ⟨_, _, rfl⟩

theorem clear_sim (hr : HR B m H w) {t ty : TypeId} {x x' v : Value} {H' : AHeap} (hx : vrel m x x') (h : aClear P wm H t x = some (v, H')) :
  DoneV P B wm m H w v H' (Builtin.clear_ #[t] ty #[x']) := by
 unfold aClear at h
 split at h
 case h_4 => simp at h
 case h_1 e l c hu =>
  obtain ⟨rfl, rfl, rfl⟩ := hx.snil_inv
  simp at h
  obtain ⟨rfl, rfl⟩ := h
  exact DoneV.pure hr (v' := .tuple #[]) (by simp [Builtin.clear_, rUnd hu]) (vrel.undef m)
 case h_2 hu =>
  simp at h
  obtain ⟨rfl, rfl⟩ := h
  obtain ⟨a', c', rfl⟩ := slice_any hx
  exact DoneV.pure hr (v' := .tuple #[]) (by cases a' <;> simp [Builtin.clear_, rUnd hu]) (vrel.undef m)
 case h_3 elem b o n cap hn0 hu =>
  obtain ⟨a', cap', rfl, ⟨k1, k2, k3, k4, k5, g, hg, k6, k7, k8, k9, k10⟩ | ⟨k1, rfl, rfl, _, rfl⟩⟩ := hx.slice_inv
  rotate_left
  ·exact absurd rfl (fun h => hn0 h)
  obtain ⟨ab, ao, as⟩ := a'
  simp only at hg k2 k6 k9
  subst k2 k6
  split at h
  case h_2 => simp at h
  case h_1 i hi =>
   split at h
   case h_2 => simp at h
   case h_1 z hz =>
    split at h
    case isFalse => simp at h
    rename_i hcond
    simp only [Bool.and_eq_true, decide_eq_true_eq, beq_iff_eq] at hcond
    obtain ⟨⟨hk, hzs⟩, hwm⟩ := hcond
    split at h
    case h_2 => simp at h
    case h_1 gr sz cells hrow =>
     split at h
     case isFalse => simp at h
     rename_i hsz
     subst hsz
     simp only [Option.map_eq_some_iff] at h
     obtain ⟨r, hlay, h⟩ := h
     simp at h
     obtain ⟨rfl, rfl⟩ := h
     by_cases hn : n = 0
     ·subst hn; exact absurd rfl (fun h => hn0 h)
     ·have k11 := k9 (by omega)
      have hzr : lrel m (zeros z (n * i.size)).toList (zeros z (n * i.size)).toList := by
       by_cases hp : 0 < i.size
       ·exact zeros_rel hk _ (by omega)
       ·have : i.size = 0 := by omega
        rw [this, Nat.mul_zero]
        simp only [zeros, range0]; exact lrel.nil m
      have hzo : (zeros z (n * i.size)).toList.all oneCell = true := by
       by_cases hp : 0 < i.size
       ·exact zeros_one hk _ (by omega)
       ·have : i.size = 0 := by omega
        rw [this, Nat.mul_zero]
        simp only [zeros, range0]; rfl
      obtain ⟨hst, hstp⟩ := lay_sim (P := P) hr hwm hrow hg hlay hzr hzo
      rw [← k11] at hst hstp
      refine ⟨.tuple #[], _, m, ?_, vrel.undef m, hstp⟩
      have hzc : Builtin.zeroCells z.cells n = zeros z (n * i.size) := by simp [Builtin.zeroCells, zeros, hzs]
      obtain ⟨k, rfl⟩ : ∃ k, n = k + 1 := ⟨n - 1, by omega⟩
      simp [Builtin.clear_, rUnd hu, rZero (show zeroOf P elem = some z by simp [zeroOf, hi, hz]), hzc, hst]

theorem bytes_rel {l l' : List Value} {bs : List UInt8} (h : bytesOf l = some bs) (hr : lrel m l l') : ∃ ns : List Int, l' = ns.map (Value.int .u8) ∧ bs = ns.map fun n => UInt8.ofNat n.toNat := by
 induction l generalizing l' bs with
 | nil =>
  have := hr.nil_left; subst this
  simp [bytesOf] at h; subst h
  exact ⟨[], rfl, rfl⟩
 | cons v l ih =>
  obtain ⟨v', r', rfl, h1, h2⟩ := hr.cons_left
  unfold bytesOf at h
  split at h
  ·rename_i heq; simp at heq
  ·rename_i n r heq
   simp at heq
   obtain ⟨rfl, rfl⟩ := heq
   simp only [Option.map_eq_some_iff] at h
   obtain ⟨bs', hb, rfl⟩ := h
   obtain ⟨ns, rfl, rfl⟩ := ih hb h2
   obtain rfl := h1.int_inv
   exact ⟨n :: ns, rfl, rfl⟩
  ·simp at h

theorem foldl_push (ns : List Int) : ∀ s : ByteArray, ns.foldl (fun r n => r.push (UInt8.ofNat n.toNat)) s = ⟨(s.data.toList ++ ns.map fun n => UInt8.ofNat n.toNat).toArray⟩ := by
 induction ns with
 | nil => intro s; simp
 | cons n ns ih =>
  intro s
  rw [List.foldl_cons, ih]
  simp [ByteArray.push]

theorem conv_sim (hr : HR B m H w) {src dst : TypeId} {x x' v : Value} {H' : AHeap} (hx : vrel m x x') (h : aConv P H src dst x = some (v, H')) :
  DoneV P B wm m H w v H' (convert src dst x') := by
 unfold aConv at h
 split at h
 case h_1 k' k n hs hd =>
  obtain rfl := hx.int_inv
  simp at h; obtain ⟨rfl, rfl⟩ := h
  exact DoneV.pure hr (v' := .int k' (k'.wrap n)) (by simp [convert, rUnd hs, rUnd hd, Conv.intToInt]) (.base ⟨rfl, rfl⟩)
 case h_2 k' k n hs hd =>
  obtain rfl := hx.int_inv
  simp at h; obtain ⟨rfl, rfl⟩ := h
  exact DoneV.pure hr (v' := .float k' (k'.nearest n)) (by simp [convert, rUnd hs, rUnd hd, Conv.intToFloat]) (.base ⟨rfl, rfl⟩)
 case h_3 k' k s b hs hd =>
  obtain rfl := hx.float_inv
  split at h
  case h_2 => simp at h
  case h_1 n hn =>
   split at h
   case isFalse => simp at h
   rename_i hb
   simp at h; obtain ⟨rfl, rfl⟩ := h
   exact DoneV.pure hr (v' := .int k n) (by simp [convert, rUnd hs, rUnd hd, Conv.floatToInt, hn, hb]) (.base ⟨rfl, rfl⟩)
 case h_4 k' n hs hd =>
  obtain rfl := hx.int_inv
  simp at h; obtain ⟨rfl, rfl⟩ := h
  exact DoneV.pure hr (v' := .string (Utf8.encode n)) (by simp [convert, rUnd hs, rUnd hd, Conv.intToString]) (.base rfl)
 case h_5 s hs hd =>
  obtain rfl := hx.string_inv
  simp at h; obtain ⟨rfl, rfl⟩ := h
  exact DoneV.pure hr (v' := .string s) (by simp [convert, rUnd hs, rUnd hd]) (.base rfl)
 case h_6 e a len cap hs hd =>
  split at h
  case h_1 he =>
   obtain ⟨rfl, rfl, rfl⟩ := hx.snil_inv
   simp at h; obtain ⟨rfl, rfl⟩ := h
   refine DoneV.pure hr (v' := .string .empty) ?_ (.base rfl)
   rw [run_convert_bytes_string w src dst e _ _ _ hs he hd]
   simp [Conv.bytesToString]
  case h_2 b o he =>
   obtain ⟨a', cap', rfl, ⟨k1, k2, k3, k4, k5, g, hg, k6, k7, k8, k9, k10⟩ | ⟨k1, rfl, rfl, _, rfl⟩⟩ := hx.slice_inv
   rotate_left
   ·split at h
    case h_2 => simp at h
    case h_1 own gr sz cells hrow =>
     simp only [Option.map_eq_some_iff, Option.bind_eq_some_iff] at h
     obtain ⟨bs, ⟨r, hcut, hbs⟩, h⟩ := h
     simp at h; obtain ⟨rfl, rfl⟩ := h
     obtain ⟨hc1, hc2⟩ := cut_some hcut
     have : r = [] := by rw [hc2]; simp
     subst this
     obtain ⟨ns, hns, rfl⟩ := bytes_rel hbs (lrel.nil m)
     have hns0 : ns = [] := by simpa using hns
     subst hns0
     have hload : (loadCells a' 0).run P w = .ok (([] : List Int).map (Value.int .u8)).toArray w := by simp [loadCells, loadCellsFrom]
     refine DoneV.pure hr (v' := .string ⟨(([] : List Int).map fun (n : Int) => UInt8.ofNat n.toNat).toArray⟩) ?_ (.base rfl)
     rw [run_convert_bytes_string w src dst e _ _ _ hs he hd, run_bytesToString w _ _ _ [] hload, foldl_push]
     simp
   obtain ⟨ab, ao, as⟩ := a'
   simp only at hg k2 k6 k9
   subst k2 k6
   split at h
   case h_2 => simp at h
   case h_1 own gr sz cells hrow =>
    obtain ⟨g1, g2, g3, g4, C, e', f, hC, hszC, hf, hl⟩ := hr.row hrow hg
    simp only [Option.map_eq_some_iff, Option.bind_eq_some_iff] at h
    obtain ⟨bs, ⟨r, hcut, hbs⟩, h⟩ := h
    simp at h; obtain ⟨rfl, rfl⟩ := h
    obtain ⟨h1, h2⟩ := row_cut hl (by rw [hszC]; exact g4) hcut
    obtain ⟨ns, hns, rfl⟩ := bytes_rel hbs h1
    have hload : (loadCells ⟨g.c, ao, none⟩ len).run P w = .ok (ns.map (Value.int .u8)).toArray w := by
     by_cases hcap : 0 < cap
     ·rw [k9 hcap, ← hns]; exact rCells hC len h2
     ·have : len = 0 := by omega
      subst this
      simp at hns
      subst hns
      simp [loadCells, loadCellsFrom]
    refine DoneV.pure hr (v' := .string ⟨(ns.map fun (n : Int) => UInt8.ofNat n.toNat).toArray⟩) ?_ (.base rfl)
    rw [run_convert_bytes_string w src dst e _ _ _ hs he hd, run_bytesToString w _ _ _ ns hload, foldl_push]
    simp
  case h_3 => simp at h
 case h_7 e s hs hd =>
  obtain rfl := hx.string_inv
  split at h
  case h_2 => simp at h
  case h_1 he =>
   split at h
   case isFalse => simp at h
   rename_i hs62
   simp at h; obtain ⟨rfl, rfl⟩ := h
   have hrun := Lib.run_convert_string_bytes w src dst e s hs hd he
   have hn : s.size ≤ grownCap w s.size 0 e := grownCap_ge w _ _ _
   have hsz : (Lib.bytesCells w e s).size = grownCap w s.size 0 e := by simp [Lib.bytesCells]; omega
   have h0 : Stp B wm m H w m H w.drew := Stp.same hr rfl rfl rfl rfl
   have hbl : (byteCells s).length = s.size := by simp [byteCells]
   have htake : (Lib.bytesCells w e s).toList.take (byteCells s).length = byteCells s := by
    rw [Lib.bytesCells, Array.toList_append, List.take_append_of_le_length (by simp [byteCells])]
    have : (Array.map (fun b => Value.int .u8 b.toNat) s.data).toList = byteCells s := by simp [byteCells]
    rw [this, List.take_length]
   obtain ⟨m', hst, hm⟩ := new_sim (wm := wm) h0.hr true 1 (cells := byteCells s) (C := Lib.bytesCells w e s) e ((Lib.bytesCells w e s).size, (Lib.bytesCells w e s).size + 1) (by
     rw [htake]; exact lrel.flat1 m (byteCells_flat s)) (by rw [hsz, hbl]; exact hn) (fun i hi hh => by omega) (all_flat (byteCells_flat s)) (grOk1 rfl (by rw [hsz]; have := grownCap_le_maxLen w s.size 0 e (show s.size ≤ 9223372036854775807 by omega); rw [Nat.mul_one]; exact this))
   have hw : Lib.bytesWorld w e s = w.drew.alloc (.cells (Lib.bytesCells w e s) e ((Lib.bytesCells w e s).size, (Lib.bytesCells w e s).size + 1)) := by
    have hh : (Lib.bytesWorld w e s).heap = (w.drew.alloc (.cells (Lib.bytesCells w e s) e ((Lib.bytesCells w e s).size, (Lib.bytesCells w e s).size + 1))).heap := by
     apply Array.ext_getElem?
     intro j
     by_cases h1 : j < w.heap.size
     ·rw [Lib.bytesWorld_at_old w e s j h1, Go.RowKit.Below.heap_alloc _ _ _ (by simpa using h1)]; rfl
     ·by_cases h2 : j = w.heap.size
      ·subst h2; rw [Lib.bytesWorld_at_new]
       show _ = (w.heap.push _)[w.heap.size]?
       simp
      ·rw [Array.getElem?_eq_none (by rw [Lib.bytesWorld_size]; omega), Array.getElem?_eq_none (by simp; omega)]
    have hb : Lib.bytesWorld w e s = { w.drew with heap := (Lib.bytesWorld w e s).heap } := by
     unfold Lib.bytesWorld World.freeze
     simp only [Nat.reduceEqDiff, if_false, Nat.one_ne_zero]
     rfl
    rw [hb, hh]
    rfl
   refine ⟨_, _, m', hrun, .base (.inl ⟨rfl, rfl, rfl, Nat.le_refl _, hn, _, hm, rfl, by simp [hbl], by simp [hsz], fun _ => rfl, ?_⟩), ?_⟩
   ·intro hh; simp [hbl] at hh
   ·rw [hw]; exact h0.trans hst
 case h_8 => simp at h
end ops
end Go.Am

namespace Go.Am
section ops
variable {P : Program} {B wm : Nat} {m : Map} {H : AHeap} {w : World}

theorem erel.cons {x : Value × Value} {es : List (Value × Value)} {E : List MapEntry} (h : erel m (x :: es) E) : ∃ y E', E = y :: E' ∧ vrel m x.1 y.key ∧ vrel m x.2 y.val ∧ erel m es E' := by
 cases E with
 | nil => simp [erel] at h
 | cons y E' =>
  obtain ⟨h1, h2⟩ := h
  obtain ⟨q1, q2⟩ := h2 0 x y rfl rfl
  exact ⟨y, E', rfl, q1, q2, by simpa using h1, fun i a b ha hb => h2 (i + 1) a b (by simpa using ha) (by simpa using hb)⟩

theorem findS_now {k : ByteArray} : ∀ {es : List (Value × Value)} {E : List MapEntry} (i : Nat) {r : Option Value}, erel m es E → findS k es = some r →
  match r with
  | some v => ∃ j v', Instr.findNow .string (.string k) E i = some (some (j, v')) ∧ vrel m v v'
  | none => Instr.findNow .string (.string k) E i = some none
 | [], E, i, r, he, h => by
  have : E = [] := by have := he.1; simpa using this.symm
  subst this
  simp [findS] at h; subst h
  rfl
 | (x, v) :: es, E, i, r, he, h => by
  obtain ⟨y, E', rfl, hk, hv, he'⟩ := he.cons
  unfold findS at h
  split at h
  ·rename_i heq; simp at heq
  ·rename_i s v2 r2 heq
   simp at heq
   obtain ⟨⟨rfl, rfl⟩, rfl⟩ := heq
   have hy := hk.string_inv
   split at h
   ·rename_i hks
    simp at h; subst h
    exact ⟨i, y.val, by simp [Instr.findNow, Instr.sameNow, hy, hks], hv⟩
   ·rename_i hks
    have ih := findS_now (i + 1) he' h
    have hstep : Instr.findNow .string (.string k) (y :: E') i = Instr.findNow .string (.string k) E' (i + 1) := by
     simp [Instr.findNow, Instr.sameNow, hy, hks]
    rw [hstep]
    exact ih
  ·simp at h

theorem checkKey_str {e : Bool} {n : Nat} {t : TypeId} {v : Value} (h : P.underlying t = some .string) : (Instr.checkKey e (n + 1) t v).run P w = .ok () w := by
 unfold Instr.checkKey
 simp [rUnd h]

theorem lookup_sim (hr : HR B m H w) {t : TypeId} {x x' k k' v : Value} {ok : Bool} (hx : vrel m x x') (hk : vrel m k k') (h : aLookup P H t x k ok = some v) : DoneV P B wm m H w v H (Instr.lookup t x' k' ok) := by
 unfold aLookup at h
 split at h
 case h_2 => simp at h
 case h_1 kt et r s hu =>
  obtain ⟨g, hg, rfl⟩ := hx.map_inv
  obtain rfl := hk.string_inv
  split at h
  case h_2 => simp at h
  case h_1 es z hkt hH hz =>
   obtain ⟨_, E, c, hE, he⟩ := hr.obj _ _ _ hH hg
   split at h
   case isFalse => simp at h
   rename_i hkz
   have hck : ∀ e, (Instr.checkKey e 10000 kt (.string s)).run P w = .ok () w := fun e => checkKey_str (n := 9999) hkt
   have hget : (getObj g.c).run P w = .ok (.map E c) w := by simp [getObj, Sem.run, hE]
   split at h
   case h_1 vv hf =>
    simp at h; subst h
    obtain ⟨j, v', hnow, hv⟩ := findS_now 0 he hf
    refine DoneV.pure hr (v' := if ok then .tuple #[v', .bool true] else v') ?_ ?_
    ·simp [Instr.lookup, rUnd hu, hget, hck, Instr.findKey, rUnd hkt, hnow]
    ·cases ok
     ·exact hv
     ·exact .tup' (.cons hv (.cons (.base rfl) (lrel.nil m)))
   case h_2 hf =>
    simp at h; subst h
    have hnow := findS_now 0 he hf
    simp only at hnow
    refine DoneV.pure hr (v' := if ok then .tuple #[z, .bool false] else z) ?_ ?_
    ·simp [Instr.lookup, rUnd hu, hget, hck, Instr.findKey, rUnd hkt, hnow, rZero hz]
    ·cases ok
     ·exact vrel.constOk m hkz
     ·exact .tup' (.cons (vrel.constOk m hkz) (.cons (.base rfl) (lrel.nil m)))
   case h_3 => simp at h

theorem insert_sim (hr : HR B m H w) {t : TypeId} {x x' k k' v v' : Value} {H' : AHeap} (hx : vrel m x x') (hk : vrel m k k') (hv : vrel m v v') (h : aInsert P wm H t x k v = some H') :
  ∃ w', (Instr.mapUpdate t x' k' v').run P w = .ok () w' ∧ Stp B wm m H w m H' w' := by
 unfold aInsert at h
 split at h
 case h_2 => simp at h
 case h_1 kt et r s hu =>
  obtain ⟨g, hg, rfl⟩ := hx.map_inv
  obtain rfl := hk.string_inv
  split at h
  case h_2 => simp at h
  case h_1 es hkt hH =>
   obtain ⟨gown, E, c, hE, he⟩ := hr.obj _ _ _ hH hg
   split at h
   case isFalse => simp at h
   rename_i hwm
   split at h
   case h_2 => simp at h
   case h_1 hf =>
    simp at h; subst h
    have hnow := findS_now 0 he hf
    simp only at hnow
    have hlt : g.c < w.heap.size := (hr.dom _ _ hg).2
    have hck : (Instr.checkKey false 10000 kt (.string s)).run P w = .ok () w := checkKey_str (n := 9999) hkt
    have hget : (getObj g.c).run P w = .ok (.map E c) w := by simp [getObj, Sem.run, hE]
    have hset : ∀ o, (setObj g.c o).run P w = .ok () { w with heap := w.heap.setIfInBounds g.c o } := fun o => by simp [setObj, Sem.run, hE]
    refine ⟨{ w with heap := w.heap.setIfInBounds g.c (.map (E.push { key := .string s, val := v', born := c }) (c + 1)) }, ?_, ?_⟩
    ·simp [Instr.mapUpdate, rUnd hu, hget, hck, Instr.findKey, rUnd hkt, hnow, hset]
    ·refine Stp.set hr hwm (by rw [hH]; rfl) hg ?_ (by simp) (fun c' hc' => by simp [Array.getElem?_setIfInBounds_ne (Ne.symm hc')]) rfl rfl rfl
     refine ⟨gown, E.push { key := .string s, val := v', born := c }, c + 1, by simp [hlt], ?_⟩
     rw [Array.toList_push]
     refine ⟨by simp [he.1], fun i a b ha hb => ?_⟩
     by_cases hi : i < es.length
     ·rw [List.getElem?_append_left hi] at ha
      rw [List.getElem?_append_left (by rw [← he.1]; exact hi)] at hb
      exact he.2 i a b ha hb
     ·rw [List.getElem?_append_right (by omega)] at ha
      rw [List.getElem?_append_right (by rw [← he.1]; omega), ← he.1] at hb
      cases hj : i - es.length with
      | zero => rw [hj] at ha hb; simp at ha hb; subst ha; subst hb; exact ⟨hk, hv⟩
      | succ j => rw [hj] at ha; simp at ha

theorem next_sim (hr : HR B m H w) {it it' v : Value} {t : TypeId} {H' : AHeap} (hi : vrel m it it') (h : aNext wm H it = some (v, H')) : DoneV P B wm m H w v H' (Instr.next it' true t) := by
 unfold aNext at h
 split at h
 case h_2 => simp at h
 case h_1 r =>
  obtain ⟨y, rfl, hx1, hx2, g, hg, hx3, hx4⟩ := hi.pointer_inv
  obtain ⟨yb, yo, ys⟩ := y
  simp only at hg hx2 hx3 hx4
  split at h
  case h_2 => simp at h
  case h_1 s pos hH =>
   obtain ⟨gown, hdl, hit⟩ := hr.obj _ _ _ hH hg
   subst hx2 hx3 hx4
   have hget : (getObj g.c).run P w = .ok (.stringIter s pos) w := by simp [getObj, Sem.run, hit]
   have hlt : g.c < w.heap.size := (hr.dom _ _ hg).2
   split at h
   case isFalse hp =>
    simp at h; obtain ⟨rfl, rfl⟩ := h
    refine DoneV.pure hr (v' := .tuple #[.bool false]) ?_ (.tup' (.cons (.base rfl) (lrel.nil m)))
    simp [Instr.next, hdl, hget, hp]
   case isTrue hp =>
    split at h
    case isFalse => simp at h
    rename_i hwm
    simp at h; obtain ⟨rfl, rfl⟩ := h
    have hset : ∀ o, (setObj g.c o).run P w = .ok () { w with heap := w.heap.setIfInBounds g.c o } := fun o => by simp [setObj, Sem.run, hit]
    refine ⟨.tuple #[.bool true, goInt pos, .int .i32 (Utf8.decode s pos).1], { w with heap := w.heap.setIfInBounds g.c (.stringIter s (pos + (Utf8.decode s pos).2)) }, m, ?_, ?_, ?_⟩
    ·simp [Instr.next, hdl, hget, hp, hset]
    ·exact .tup' (.cons (.base rfl) (.cons (.base ⟨rfl, rfl⟩) (.cons (.base ⟨rfl, rfl⟩) (lrel.nil m))))
    ·refine Stp.set hr hwm (by rw [hH]; rfl) hg ⟨gown, hdl, by simp [hlt]⟩ (by simp) (fun c' hc' => by simp [Array.getElem?_setIfInBounds_ne (Ne.symm hc')]) rfl rfl rfl

/-- Operands. -/
theorem ev_rel {tm : List Value} {ct : Array Value} {ds : List Deferred} (ht : lrel m tm ct.toList) {x : Operand} {v : Value} (h : ev tm x = some v) : vrel m v (Act.eval ⟨ct, ds⟩ x) := by
 cases x with
 | tmp t =>
  simp [ev] at h; subst h
  simp only [Act.eval]
  by_cases hlt : t < tm.length
  ·have h1 : tm[t]? = some tm[t] := List.getElem?_eq_getElem hlt
   obtain ⟨v', h2, h3⟩ := ht.get h1
   have h4 : ct.getD t undef = v' := by simp at h2; simp [Array.getD_eq_getD_getElem?, h2]
   rw [h4]; simpa [h1] using h3
  ·have h1 : tm[t]? = none := List.getElem?_eq_none (Nat.le_of_not_lt hlt)
   have h2 : ct[t]? = none := Array.getElem?_eq_none (by have := ht.1; simp at this; rw [← this]; exact Nat.le_of_not_lt hlt)
   rw [Array.getD_eq_getD_getElem?, h2, h1]
   exact vrel.undef m
 | const c => simp [ev] at h; obtain ⟨h, rfl⟩ := h; exact vrel.constOk m h
 | global g => simp [ev] at h
 | func f => simp [ev] at h; subst h; exact .func' (lrel.nil m)

/-- What the operands are worth: in the abstract frame, and by ρ. -/
def Ev (m : Map) (tm : List Value) (ρ : Operand → Value) (xs : List Operand) : Prop := ∀ x ∈ xs, ∀ v, ev tm x = some v → vrel m v (ρ x)

theorem Ev.sub {tm : List Value} {ρ : Operand → Value} {xs ys : List Operand} (h : Ev m tm ρ ys) (hs : ∀ x ∈ xs, x ∈ ys) : Ev m tm ρ xs := fun x hx v hv => h x (hs x hx) v hv

theorem evL_rel {tm : List Value} {ρ : Operand → Value} : ∀ {xs : List Operand} {l : List Value}, Ev m tm ρ xs → evL tm xs = some l → lrel m l (xs.map ρ)
 | [], l, _, h => by simp [evL] at h; subst h; exact lrel.nil m
 | x :: xs, l, ht, h => by
  unfold evL at h
  split at h
  ·rename_i v vs hv hvs
   simp at h; subst h
   exact .cons (ht x (by simp) v hv) (evL_rel (ht.sub (by simp_all)) hvs)
  ·simp at h

theorem evP_rel {tm : List Value} {ρ : Operand → Value} : ∀ {xs : List (Nat × Operand)} {l : List (Nat × Value)}, Ev m tm ρ (xs.map (·.2)) → evP tm xs = some l → prel m l (xs.map fun (i, x) => (i, ρ x))
 | [], l, _, h => by simp [evP] at h; subst h; exact ⟨rfl, lrel.nil m⟩
 | x :: xs, l, ht, h => by
  unfold evP at h
  split at h
  ·rename_i v vs hv hvs
   simp at h; subst h
   obtain ⟨q1, q2⟩ := evP_rel (ht.sub (by simp_all)) hvs
   exact ⟨by simp [q1], .cons (ht x.2 (by simp) v hv) q2⟩
  ·simp at h

theorem evO_rel {tm : List Value} {ρ : Operand → Value} {o : Option Operand} {l : List Value} (ht : Ev m tm ρ o.toList) (h : evL tm o.toList = some l) : ovrel m l.head? (o.map ρ) := by
 cases o with
 | none => simp [evL] at h; subst h; trivial
 | some x =>
  obtain ⟨v, hv, rfl⟩ : ∃ v, ev tm x = some v ∧ l = [v] := by
   simp only [Option.toList, evL] at h
   split at h
   ·rename_i v vs hv hvs; simp at hvs h; subst hvs; exact ⟨v, hv, h.symm⟩
   ·simp at h
  exact ht x (by simp) v hv

theorem Ev.of {tm : List Value} {ct : Array Value} {ds : List Deferred} (ht : lrel m tm ct.toList) (xs : List Operand) : Ev m tm (Act.eval ⟨ct, ds⟩) xs := fun x _ v hv => ev_rel ht hv

/-- What an operation gives: a value, or nothing. -/
def Done (P : Program) (B wm : Nat) (m : Map) (H : AHeap) (w : World) (v : Value) (H' : AHeap) (s : Sem Next) : Prop :=
 ∃ x w' m' v', s.run P w = .ok x w' ∧ (x = .value v' ∨ (x = .skip ∧ v' = undef)) ∧ vrel m' v v' ∧ Stp B wm m H w m' H' w'

theorem Done.of {v : Value} {H' : AHeap} {s : Sem Value} {s' : Sem Next} (h : DoneV P B wm m H w v H' s) (e : s' = (do pure (.value (← s)))) : Done P B wm m H w v H' s' := by
 obtain ⟨v', w', m', h1, h2, h3⟩ := h
 exact ⟨.value v', w', m', v', by rw [e]; simp [h1], .inl rfl, h2, h3⟩
theorem Done.val (hr : HR B m H w) {v v' : Value} {s : Sem Next} (h : vrel m v v') (e : s.run P w = .ok (.value v') w) : Done P B wm m H w v H s :=
 ⟨_, w, m, v', e, .inl rfl, h, Stp.refl hr⟩

theorem map_some {α β : Type} {f : α → β} {o : Option α} {b : β} (h : o.map f = some b) : ∃ a, o = some a ∧ f a = b := by simpa using h
theorem bind_some {α β : Type} {f : α → Option β} {o : Option α} {b : β} (h : o.bind f = some b) : ∃ a, o = some a ∧ f a = some b := by
 cases o with
 | none => simp at h
 | some a => exact ⟨a, rfl, by simpa using h⟩

theorem list_arr (a : Array Operand) (f : Operand → Value) : (a.map f).toList = a.toList.map f := by simp

theorem builtin_sim (hr : HR B m H w) {b : Builtin} {ts : Array TypeId} {ty : TypeId} {cs : Array Bool} {l : List Value} {l' : Array Value} {v : Value} {H' : AHeap} (hl : lrel m l l'.toList) (h : aBuiltin P wm H b ts.toList l = some (v, H')) :
  Done P B wm m H w v H' (builtin b ts ty cs l') := by
 obtain ⟨ts⟩ := ts
 obtain ⟨l'⟩ := l'
 simp only at hl h
 unfold aBuiltin at h
 split at h
 case h_11 => simp at h
 case h_10 t ts x =>
  obtain ⟨v2, hv2, h⟩ := map_some h
  simp at h; obtain ⟨rfl, rfl⟩ := h
  obtain ⟨x', r', rfl, hx, hl2⟩ := hl.cons_left
  obtain rfl := hl2.nil_left
  unfold aCap at hv2
  split at hv2
  ·rename_i e n c hu
   obtain ⟨rfl, rfl, rfl⟩ := hx.snil_inv
   simp at hv2; subst hv2
   exact Done.val hr (v' := goInt 0) (.base ⟨rfl, rfl⟩) (by simp [builtin, Builtin.cap_, rUnd hu])
  ·rename_i e b o n c hu
   split at hv2
   ·rename_i own gr sz cells hg
    split at hv2
    ·rename_i hc
     obtain ⟨a', cap', rfl, hq⟩ := hx.slice_inv
     have hcap : cap' = c := by
      rcases hq with ⟨k1, k2, k3, k4, k5, g, hgm, k6, k7, k8, k9, k10⟩ | ⟨_, _, k4, _, k6⟩
      ·obtain ⟨r1, r2, r3, _⟩ := hr.row hg hgm
       have hgr := hr.grow hg hgm
       apply k10
       simp at hc
       rcases hc with hc | hc
       ·left; rw [hgr, hc]
       ·right; rw [r2, r3]; exact hc
      ·omega
     simp at hv2; subst hv2
     subst hcap
     exact Done.val hr (v' := goInt cap') (.base ⟨rfl, rfl⟩) (by simp [builtin, Builtin.cap_, rUnd hu])
    ·simp at hv2
   ·simp at hv2
  ·simp at hv2
 case h_1 t ts x xs =>
  obtain ⟨v2, hv2, h⟩ := map_some h
  simp at h; obtain ⟨rfl, rfl⟩ := h
  obtain ⟨x', xs', rfl, hx, _⟩ := hl.cons_left
  unfold aLen at hv2
  split at hv2
  ·rename_i s hu
   obtain rfl := hx.string_inv
   simp at hv2; subst hv2
   exact Done.val hr (v' := goInt s.size) (.base ⟨rfl, rfl⟩) (by simp [builtin, Builtin.len_, rUnd hu])
  ·rename_i e a n c hu
   obtain ⟨a', c', rfl⟩ := slice_any hx
   simp at hv2; subst hv2
   exact Done.val hr (v' := goInt n) (.base ⟨rfl, rfl⟩) (by simp [builtin, Builtin.len_, rUnd hu])
  ·rename_i n e hu
   simp at hv2; subst hv2
   exact Done.val hr (v' := goInt n) (.base ⟨rfl, rfl⟩) (by simp [builtin, Builtin.len_, rUnd hu])
  ·simp at hv2
 case h_2 st xt s x =>
  obtain ⟨s', r', rfl, hs, hl2⟩ := hl.cons_left
  obtain ⟨x', r2, rfl, hx, hl3⟩ := hl2.cons_left
  obtain rfl := hl3.nil_left
  split at h
  ·rename_i hz
   exact Done.of (appendZ_sim (ty := ty) hr hs hx hz h) rfl
  ·exact Done.of (append_sim (ty := ty) hr hs hx h) rfl
 case h_3 dt ts d s =>
  obtain ⟨d', r', rfl, hd, hl2⟩ := hl.cons_left
  obtain ⟨s', r2, rfl, hs, hl3⟩ := hl2.cons_left
  obtain rfl := hl3.nil_left
  have := copy_sim (st := dt) (ty := ty) hr hd hs h
  refine Done.of (s := Builtin.copy_ ⟨dt :: ts⟩ ty #[d', s']) ?_ rfl
  have e : Builtin.copy_ ⟨dt :: ts⟩ ty #[d', s'] = Builtin.copy_ #[dt, dt] ty #[d', s'] := by simp [Builtin.copy_]
  rw [e]; exact this
 case h_4 t ts x =>
  obtain ⟨x', r', rfl, hx, hl2⟩ := hl.cons_left
  obtain rfl := hl2.nil_left
  have := clear_sim (ty := ty) hr hx h
  refine Done.of (s := Builtin.clear_ ⟨t :: ts⟩ ty #[x']) ?_ rfl
  have e : Builtin.clear_ ⟨t :: ts⟩ ty #[x'] = Builtin.clear_ #[t] ty #[x'] := by simp [Builtin.clear_]
  rw [e]; exact this
 case h_5 =>
  obtain ⟨v2, hv2, h⟩ := map_some h
  simp at h; obtain ⟨rfl, rfl⟩ := h
  unfold minI at hv2
  split at hv2
  case h_2 => simp at hv2
  case h_1 k a k' b =>
   split at hv2
   case isFalse => simp at hv2
   rename_i hk; subst hk
   simp at hv2; subst hv2
   obtain ⟨x', r', rfl, hx, hl2⟩ := hl.cons_left
   obtain ⟨y', r2, rfl, hy, hl3⟩ := hl2.cons_left
   obtain rfl := hl3.nil_left
   obtain rfl := hx.int_inv
   obtain rfl := hy.int_inv
   exact Done.val hr (v' := .int k (if b < a then b else a)) (.base ⟨rfl, rfl⟩) (by simp [builtin, Builtin.min_, Builtin.min2])
 case h_6 =>
  obtain ⟨v2, hv2, h⟩ := map_some h
  simp at h; obtain ⟨rfl, rfl⟩ := h
  unfold maxI at hv2
  split at hv2
  case h_2 => simp at hv2
  case h_1 k a k' b =>
   split at hv2
   case isFalse => simp at hv2
   rename_i hk; subst hk
   simp at hv2; subst hv2
   obtain ⟨x', r', rfl, hx, hl2⟩ := hl.cons_left
   obtain ⟨y', r2, rfl, hy, hl3⟩ := hl2.cons_left
   obtain rfl := hl3.nil_left
   obtain rfl := hx.int_inv
   obtain rfl := hy.int_inv
   exact Done.val hr (v' := .int k (if a < b then b else a)) (.base ⟨rfl, rfl⟩) (by simp [builtin, Builtin.max_, Builtin.max2])
 case h_7 k re im =>
  obtain ⟨x', r', rfl, hx, hl2⟩ := hl.cons_left
  obtain rfl := hl2.nil_left
  obtain rfl := hx.complex_inv
  simp at h; obtain ⟨rfl, rfl⟩ := h
  exact Done.val hr (v' := .float k re) (.base ⟨rfl, rfl⟩) rfl
 case h_8 k re im =>
  obtain ⟨x', r', rfl, hx, hl2⟩ := hl.cons_left
  obtain rfl := hl2.nil_left
  obtain rfl := hx.complex_inv
  simp at h; obtain ⟨rfl, rfl⟩ := h
  exact Done.val hr (v' := .float k im) (.base ⟨rfl, rfl⟩) rfl
 case h_9 k a k' b =>
  obtain ⟨x', r', rfl, hx, hl2⟩ := hl.cons_left
  obtain ⟨y', r2, rfl, hy, hl3⟩ := hl2.cons_left
  obtain rfl := hl3.nil_left
  obtain rfl := hx.float_inv
  obtain rfl := hy.float_inv
  split at h
  case isFalse => simp at h
  rename_i hk; subst hk
  simp at h; obtain ⟨rfl, rfl⟩ := h
  have e : Builtin.complex_ ⟨ts⟩ ty #[.float k a, .float k b] = (if k = k then pure (.complex k a b) else stuck "complex: parts of different kinds") := rfl
  exact Done.val hr (v' := .complex k a b) (.base ⟨rfl, rfl, rfl⟩) (by simp [builtin, e])

theorem op_sim (hr : HR B m H w) {tm : List Value} {ρ : Operand → Value} {o : Oper} (ht : Ev m tm ρ o.op.operands.toList) {v : Value} {H' : AHeap} (h : aOp P wm tm H o.op = some (v, H')) :
  Done P B wm m H w v H' (execOp ρ o) := by
 obtain ⟨dst, op, type, pos, after, guard⟩ := o
 simp only at h ht
 have E : ∀ {x : Operand} {v : Value}, ev tm x = some v → x ∈ op.operands.toList → vrel m v (ρ x) := fun h hx => ht _ hx _ h
 unfold aOp at h
 split at h
 case h_1 x => obtain ⟨a, ha, h⟩ := map_some h; simp at h; obtain ⟨rfl, rfl⟩ := h; exact Done.val hr (E ha (by simp [Op.operands])) rfl
 case h_2 x => obtain ⟨a, ha, h⟩ := map_some h; simp at h; obtain ⟨rfl, rfl⟩ := h; exact Done.val hr (E ha (by simp [Op.operands])) rfl
 case h_3 c a b =>
  split at h
  case h_2 => simp at h
  case h_1 t hc =>
   have hc' := (E hc (by simp [Op.operands])).bool_inv
   obtain ⟨a', ha, h⟩ := map_some h
   simp at h; obtain ⟨rfl, rfl⟩ := h
   cases t
   ·simp at ha; exact Done.val hr (E ha (by simp [Op.operands])) (by simp [execOp, hc', asBool])
   ·simp at ha; exact Done.val hr (E ha (by simp [Op.operands])) (by simp [execOp, hc', asBool])
 case h_4 t =>
  obtain ⟨z, hz, h⟩ := bind_some h
  split at h
  case isFalse => simp at h
  rename_i hk
  exact Done.of (alloc_sim hr hz hk h) rfl
 case h_5 e x => obtain ⟨a, ha, h⟩ := bind_some h; exact Done.of (box_sim (t := e) hr (E ha (by simp [Op.operands])) h) rfl
 case h_6 t ps =>
  obtain ⟨l, hl, h⟩ := bind_some h
  obtain ⟨v2, hv, h⟩ := map_some h
  simp at h; obtain ⟨rfl, rfl⟩ := h
  refine Done.of (build_sim hr (evP_rel (ht.sub (by simp [Op.operands])) hl) hv) ?_
  obtain ⟨ps⟩ := ps
  simp [execOp]
 case h_7 t n ps =>
  obtain ⟨l, hl, h⟩ := bind_some h
  refine Done.of (buildSlice_sim hr (evP_rel (ht.sub (by simp [Op.operands])) hl) h) ?_
  obtain ⟨ps⟩ := ps
  simp [execOp]
 case h_8 t x =>
  obtain ⟨a, ha, h⟩ := bind_some h
  obtain ⟨v2, hv, h⟩ := map_some h
  simp at h; obtain ⟨rfl, rfl⟩ := h
  exact Done.of (load_sim hr (E ha (by simp [Op.operands])) hv) rfl
 case h_9 t x y =>
  split at h
  case h_2 => simp at h
  case h_1 a b ha hb =>
   obtain ⟨H2, hs, h⟩ := map_some h
   simp at h; obtain ⟨rfl, rfl⟩ := h
   obtain ⟨w', h1, h2⟩ := store_sim (P := P) hr (E ha (by simp [Op.operands])) (E hb (by simp [Op.operands])) hs
   exact ⟨.skip, w', m, undef, by simp [execOp, h1], .inr ⟨rfl, rfl⟩, vrel.undef m, h2⟩
 case h_10 x =>
  split at h
  ·rename_i a ha
   simp at h; obtain ⟨rfl, rfl⟩ := h
   have hv := E ha (by simp [Op.operands])
   obtain ⟨a', he, _⟩ := hv.pointer_inv
   exact Done.val hr hv (by simp [execOp, he])
  ·rename_i f fs cs ha
   simp at h; obtain ⟨rfl, rfl⟩ := h
   have hv := E ha (by simp [Op.operands])
   obtain ⟨_, cs', he, _⟩ := hv.func_inv
   exact Done.val hr hv (by simp [execOp, he])
  ·simp at h
 case h_11 op t x y yt =>
  split at h
  case h_2 => simp at h
  case h_1 a b ha hb =>
   obtain ⟨v2, hv, h⟩ := map_some h
   simp at h; obtain ⟨rfl, rfl⟩ := h
   exact Done.of (bin_sim hr (E ha (by simp [Op.operands])) (E hb (by simp [Op.operands])) hv x y) rfl
 case h_12 op t x =>
  obtain ⟨a, ha, h⟩ := bind_some h
  obtain ⟨v2, hv, h⟩ := map_some h
  simp at h; obtain ⟨rfl, rfl⟩ := h
  exact Done.of (un_sim hr (E ha (by simp [Op.operands])) hv) rfl
 case h_13 s d x => obtain ⟨a, ha, h⟩ := bind_some h; exact Done.of (conv_sim hr (E ha (by simp [Op.operands])) h) rfl
 case h_14 fn first cs =>
  split at h
  case isFalse => simp at h
  rename_i hf
  have hf' : first = #[] := by simpa using hf
  subst hf'
  obtain ⟨l, hl, h⟩ := map_some h
  simp at h; obtain ⟨rfl, rfl⟩ := h
  refine Done.val hr (v' := .func fn #[] (cs.map ρ)) (.func' ?_) (by simp [execOp, Instr.makeFunc])
  rw [list_arr]; simpa using evL_rel (ht.sub (by simp [Op.operands])) hl
 case h_15 t =>
  simp at h; obtain ⟨rfl, rfl⟩ := h
  have hp : Stp B wm m H w _ _ _ := Stp.push (wm := wm) hr (o := .amap []) (O := .map #[] 0) (g := ⟨w.heap.size, 0, 0, 0, 0, true, false⟩) rfl rfl ⟨rfl, #[], 0, rfl, rfl, fun i a b ha => by simp at ha⟩
  exact ⟨.value (.map (some w.heap.size)), _, _, .map (some w.heap.size), by simp [execOp, Instr.makeMap], .inl rfl, .base ⟨_, Map.upd_same _ _ _, rfl⟩, hp⟩
 case h_16 t l c =>
  split at h
  case h_2 => simp at h
  case h_1 a b ha hb => exact Done.of (makeSlice_sim hr (E ha (by simp [Op.operands])) (E hb (by simp [Op.operands])) h) rfl
 case h_17 t x lo hi mx =>
  split at h
  case h_2 => simp at h
  case h_1 a l h1 m1 ha hl hh hm =>
   obtain ⟨v2, hv, h⟩ := map_some h
   simp at h; obtain ⟨rfl, rfl⟩ := h
   exact Done.of (slice_sim hr (E ha (by simp [Op.operands])) (evO_rel (ht.sub (by simp [Op.operands]; intro _ h; simp [h])) hl) (evO_rel (ht.sub (by simp [Op.operands]; intro _ h; simp [h])) hh) (evO_rel (ht.sub (by simp [Op.operands]; intro _ h; simp [h])) hm) hv) rfl
 case h_18 t x i =>
  obtain ⟨a, ha, h⟩ := bind_some h
  obtain ⟨v2, hv, h⟩ := map_some h
  simp at h; obtain ⟨rfl, rfl⟩ := h
  exact Done.of (fieldAddr_sim hr (E ha (by simp [Op.operands])) hv) rfl
 case h_19 t x i =>
  obtain ⟨a, ha, h⟩ := bind_some h
  obtain ⟨v2, hv, h⟩ := map_some h
  simp at h; obtain ⟨rfl, rfl⟩ := h
  exact Done.of (field_sim hr (E ha (by simp [Op.operands])) hv) rfl
 case h_20 t x i =>
  split at h
  case h_2 => simp at h
  case h_1 a b ha hb =>
   obtain ⟨v2, hv, h⟩ := map_some h
   simp at h; obtain ⟨rfl, rfl⟩ := h
   exact Done.of (indexAddr_sim hr (E ha (by simp [Op.operands])) (E hb (by simp [Op.operands])) hv) rfl
 case h_21 t x i =>
  split at h
  case h_2 => simp at h
  case h_1 a b ha hb =>
   obtain ⟨v2, hv, h⟩ := map_some h
   simp at h; obtain ⟨rfl, rfl⟩ := h
   exact Done.of (index_sim hr (E ha (by simp [Op.operands])) (E hb (by simp [Op.operands])) hv) rfl
 case h_22 t x k ok =>
  split at h
  case h_2 => simp at h
  case h_1 a b ha hb =>
   obtain ⟨v2, hv, h⟩ := map_some h
   simp at h; obtain ⟨rfl, rfl⟩ := h
   exact Done.of (lookup_sim hr (E ha (by simp [Op.operands])) (E hb (by simp [Op.operands])) hv) rfl
 case h_23 t mm k x =>
  split at h
  case h_2 => simp at h
  case h_1 a b c ha hb hc =>
   split at h
   case isFalse => simp at h
   obtain ⟨H2, hs, h⟩ := map_some h
   simp at h; obtain ⟨rfl, rfl⟩ := h
   obtain ⟨w', h1, h2⟩ := insert_sim (P := P) hr (E ha (by simp [Op.operands])) (E hb (by simp [Op.operands])) (E hc (by simp [Op.operands])) hs
   exact ⟨.skip, w', m, undef, by simp [execOp, h1], .inr ⟨rfl, rfl⟩, vrel.undef m, h2⟩
 case h_24 t x =>
  split at h
  case h_2 => simp at h
  case h_1 s hu hs =>
   simp at h; obtain ⟨rfl, rfl⟩ := h
   have hx := (E hs (by simp [Op.operands])).string_inv
   have hp : Stp B wm m H w _ _ _ := Stp.push (wm := wm) hr (o := .iter s 0) (O := .stringIter s 0) (g := ⟨w.heap.size, 0, 0, 0, 0, true, false⟩) rfl rfl ⟨rfl, rfl, rfl⟩
   exact ⟨.value (.pointer (some ⟨w.heap.size, 0, none⟩)), _, _, _, by simp [execOp, Instr.range, rUnd hu, hx], .inl rfl, .base ⟨rfl, rfl, _, Map.upd_same _ _ _, rfl, rfl⟩, hp⟩
 case h_25 it => obtain ⟨a, ha, h⟩ := bind_some h; exact Done.of (next_sim (t := type) hr (E ha (by simp [Op.operands])) h) rfl
 case h_26 x i =>
  split at h
  case h_2 => simp at h
  case h_1 vs hx =>
   obtain ⟨vs', he, hr2⟩ := (E hx (by simp [Op.operands])).tup_inv
   obtain ⟨v2, hv, h⟩ := map_some h
   simp at h; obtain ⟨rfl, rfl⟩ := h
   obtain ⟨v', hv', hvr⟩ := hr2.get hv
   have : vs'[i]? = some v' := by simpa using hv'
   exact Done.val hr hvr (by simp [execOp, he, Instr.extract, this])
 case h_27 b args ts =>
  obtain ⟨l, hl, h⟩ := bind_some h
  have hl' : lrel m l (args.map ρ).toList := by rw [list_arr]; exact evL_rel (ht.sub (by simp [Op.operands, Call.operands])) hl
  obtain ⟨cs, e⟩ : ∃ cs, execOp ρ ⟨dst, .call { callee := .builtin b, args, argTypes := ts }, type, pos, after, guard⟩ = builtin b ts type cs (args.map ρ) := ⟨_, rfl⟩
  rw [e]
  exact builtin_sim (ty := type) hr hl' h
 case h_28 => simp at h
end ops
end Go.Am
