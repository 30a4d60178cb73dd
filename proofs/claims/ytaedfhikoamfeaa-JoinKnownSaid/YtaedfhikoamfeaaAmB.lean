/- The abstract machine: how its heap stands to a world of the model's; loads, stores, new blocks, slices, fields, indexes. -/
import Derived.Test.YtaedfhikoamfeaaAmA
import Derived.Laws.IdiomCopy
set_option linter.unusedVariables false
set_option linter.unusedSimpArgs false
namespace Go.Am

theorem Tr.get_mk_same (f : Nat) : ∀ (b : Nat) (o : AObj), b ≤ f → (Tr.mk f b o).get b = some o := by
 induction f with
 | zero =>
  intro b o h
  obtain rfl : b = 0 := by omega
  rfl
 | succ f ih =>
  intro b o h
  unfold Tr.mk
  by_cases h0 : b = 0
  ·simp [h0, Tr.get]
  ·by_cases h1 : b % 2 = 1
   ·simp [h0, h1, Tr.get, ih (b / 2) o (by omega)]
   ·simp [h0, h1, Tr.get, ih (b / 2 - 1) o (by omega)]

theorem Tr.get_mk_ne (f : Nat) : ∀ (b b' : Nat) (o : AObj), b ≤ f → b' ≠ b → (Tr.mk f b o).get b' = none := by
 induction f with
 | zero =>
  intro b b' o h hne
  obtain rfl : b = 0 := by omega
  simp only [Tr.mk, Tr.get, hne, if_false]
  split <;> rfl
 | succ f ih =>
  intro b b' o h hne
  unfold Tr.mk
  by_cases h0 : b = 0
  ·have : b' ≠ 0 := by omega
   simp only [h0, if_true, Tr.get, this, if_false]
   split <;> rfl
  ·by_cases h1 : b % 2 = 1
   ·simp only [h0, if_false, h1, if_true, Tr.get]
    by_cases hb0 : b' = 0
    ·simp [hb0]
    ·by_cases hb1 : b' % 2 = 1
     ·simp [hb0, hb1, ih (b / 2) (b' / 2) o (by omega) (by omega)]
     ·simp [hb0, hb1]
   ·simp only [h0, if_false, h1, Tr.get]
    by_cases hb0 : b' = 0
    ·simp [hb0]
    ·by_cases hb1 : b' % 2 = 1
     ·simp [hb0, hb1]
     ·simp [hb0, hb1, ih (b / 2 - 1) (b' / 2 - 1) o (by omega) (by omega)]

theorem Tr.get_set_same (t : Tr) : ∀ (b : Nat) (o : AObj), (t.set b o).get b = some o := by
 induction t with
 | leaf => intro b o; exact Tr.get_mk_same b b o (Nat.le_refl _)
 | node l v r ihl ihr =>
  intro b o
  unfold Tr.set
  by_cases h0 : b = 0
  ·simp [h0, Tr.get]
  ·by_cases h1 : b % 2 = 1
   ·simp [h0, h1, Tr.get, ihl]
   ·simp [h0, h1, Tr.get, ihr]

theorem Tr.get_set_ne (t : Tr) : ∀ (b b' : Nat) (o : AObj), b' ≠ b → (t.set b o).get b' = t.get b' := by
 induction t with
 | leaf => intro b b' o h; show (Tr.mk b b o).get b' = none; exact Tr.get_mk_ne b b b' o (Nat.le_refl _) h
 | node l v r ihl ihr =>
  intro b b' o h
  unfold Tr.set
  by_cases h0 : b = 0
  ·have : b' ≠ 0 := by omega
   simp [h0, Tr.get, this]
  ·by_cases h1 : b % 2 = 1
   ·by_cases hb0 : b' = 0
    ·simp [h0, h1, Tr.get, hb0]
    ·by_cases hb1 : b' % 2 = 1
     ·simp [h0, h1, Tr.get, hb0, hb1, ihl (b / 2) (b' / 2) o (by omega)]
     ·simp [h0, h1, Tr.get, hb0, hb1]
   ·by_cases hb0 : b' = 0
    ·simp [h0, h1, Tr.get, hb0]
    ·by_cases hb1 : b' % 2 = 1
     ·simp [h0, h1, Tr.get, hb0, hb1]
     ·simp [h0, h1, Tr.get, hb0, hb1, ihr (b / 2 - 1) (b' / 2 - 1) o (by omega)]

@[simp] theorem AHeap.get_set_same (H : AHeap) (b : Nat) (o : AObj) : (H.set b o).get b = some o := Tr.get_set_same _ _ _
theorem AHeap.get_set_ne (H : AHeap) {b b' : Nat} (o : AObj) (h : b' ≠ b) : (H.set b o).get b' = H.get b' := Tr.get_set_ne _ _ _ _ h
@[simp] theorem AHeap.get_push_new (H : AHeap) (o : AObj) : (H.push o).get H.n = some o := Tr.get_set_same _ _ _
theorem AHeap.get_push_ne (H : AHeap) {b' : Nat} (o : AObj) (h : b' ≠ H.n) : (H.push o).get b' = H.get b' := Tr.get_set_ne _ _ _ _ h
@[simp] theorem AHeap.n_set (H : AHeap) (b : Nat) (o : AObj) : (H.set b o).n = H.n := rfl
@[simp] theorem AHeap.n_push (H : AHeap) (o : AObj) : (H.push o).n = H.n + 1 := rfl

/-- Where an abstract block lies: the model's block, by how much its offsets are moved, how many cells the abstract block has, how many the model's block has, cells an element, whether the call made it. -/
structure Img where
 c : Nat
 dl : Nat
 na : Nat
 nc : Nat
 sz : Nat
 own : Bool
 gr : Bool

abbrev Map := Nat → Option Img

def arel (m : Map) (a a' : Addr) : Prop :=
 a.spot = none ∧ a'.spot = none ∧ ∃ g, m a.block = some g ∧ a'.block = g.c ∧ a'.off = g.dl + a.off

def srel (m : Map) (a : Addr) (len cap : Nat) (a' : Addr) (len' cap' : Nat) : Prop :=
 a.spot = none ∧ a'.spot = none ∧ len' = len ∧ len ≤ cap ∧ cap ≤ cap' ∧ ∃ g, m a.block = some g ∧ a'.block = g.c ∧
  a.off + cap * g.sz ≤ g.na ∧ a'.off + cap' * g.sz ≤ g.nc ∧ (0 < cap → a'.off = g.dl + a.off) ∧ (g.gr = false ∨ a.off + cap * g.sz < g.na → cap' = cap)

/-- A slice without room, from anywhere. -/
def drel (a : Addr) (len cap : Nat) (a' : Addr) (len' cap' : Nat) : Prop := a.spot = none ∧ len = 0 ∧ cap = 0 ∧ len' = 0 ∧ cap' = 0

def brel (m : Map) : Value → Value → Prop
 | .bool a, .bool b => a = b
 | .int k a, .int k' b => k = k' ∧ a = b
 | .float k a, .float k' b => k = k' ∧ a = b
 | .complex k a b, .complex k' a' b' => k = k' ∧ a = a' ∧ b = b'
 | .string a, .string b => a = b
 | .pointer none, .pointer none => True
 | .pointer (some a), .pointer (some a') => arel m a a'
 | .slice none l c, .slice none l' c' => l = 0 ∧ c = 0 ∧ l' = 0 ∧ c' = 0
 | .slice (some a) l c, .slice (some a') l' c' => srel m a l c a' l' c' ∨ drel a l c a' l' c'
 | .map none, .map none => True
 | .map (some r), .map (some r') => ∃ g, m r = some g ∧ r' = g.c
 | .nilFunc, .nilFunc => True
 | .nilIface, .nilIface => True
 | _, _ => False

inductive vrel (m : Map) : Value → Value → Prop where
 | base {v v' : Value} (h : brel m v v') : vrel m v v'
 | func {fn : Fn} {cs cs' : Array Value} (hs : cs.size = cs'.size) (h : ∀ (i : Nat) v v', cs[i]? = some v → cs'[i]? = some v' → vrel m v v') : vrel m (.func fn #[] cs) (.func fn #[] cs')
 | agg {cs cs' : Array Value} (hs : cs.size = cs'.size) (h : ∀ (i : Nat) v v', cs[i]? = some v → cs'[i]? = some v' → vrel m v v') : vrel m (.agg cs) (.agg cs')
 | tup {cs cs' : Array Value} (hs : cs.size = cs'.size) (h : ∀ (i : Nat) v v', cs[i]? = some v → cs'[i]? = some v' → vrel m v v') : vrel m (.tuple cs) (.tuple cs')

def Map.le (m m' : Map) : Prop := ∀ b g, m b = some g → m' b = some g
theorem Map.le_refl (m : Map) : m.le m := fun _ _ h => h
theorem Map.le_trans {a b c : Map} (h : a.le b) (k : b.le c) : a.le c := fun x g hx => k x g (h x g hx)

theorem arel.mono {m m' : Map} (h : m.le m') {a a' : Addr} (r : arel m a a') : arel m' a a' := by
 obtain ⟨h1, h2, g, hg, r⟩ := r
 exact ⟨h1, h2, g, h _ _ hg, r⟩
theorem srel.mono {m m' : Map} (h : m.le m') {a a' : Addr} {l c l' c' : Nat} (r : srel m a l c a' l' c') : srel m' a l c a' l' c' := by
 obtain ⟨h1, h2, h3, h4, h5, g, hg, r⟩ := r
 exact ⟨h1, h2, h3, h4, h5, g, h _ _ hg, r⟩
theorem brel.mono {m m' : Map} (h : m.le m') {v v' : Value} (r : brel m v v') : brel m' v v' := by
 unfold brel at r ⊢
 split at r <;> first
  | exact r
  | exact arel.mono h r
  | exact r.imp (srel.mono h) id
  | (obtain ⟨g, hg, e⟩ := r; exact ⟨g, h _ _ hg, e⟩)
  | exact r.elim
theorem vrel.mono {m m' : Map} (h : m.le m') {v v' : Value} (r : vrel m v v') : vrel m' v v' := by
 induction r with
 | base hb => exact .base (hb.mono h)
 | func hs _ ih => exact .func hs ih
 | agg hs _ ih => exact .agg hs ih
 | tup hs _ ih => exact .tup hs ih

/-- Two lists of values, one by one. -/
def lrel (m : Map) (l l' : List Value) : Prop := l.length = l'.length ∧ ∀ (i : Nat) v v', l[i]? = some v → l'[i]? = some v' → vrel m v v'

theorem lrel.mono {m m' : Map} (h : m.le m') {l l' : List Value} (r : lrel m l l') : lrel m' l l' := ⟨r.1, fun i v v' a b => (r.2 i v v' a b).mono h⟩
theorem lrel.nil (m : Map) : lrel m [] [] := ⟨rfl, fun i v v' a => by simp at a⟩
theorem lrel.cons {m : Map} {v v' : Value} {l l' : List Value} (h : vrel m v v') (r : lrel m l l') : lrel m (v :: l) (v' :: l') := by
 refine ⟨by simp [r.1], fun i a b ha hb => ?_⟩
 cases i with
 | zero => simp at ha hb; subst ha; subst hb; exact h
 | succ i => simp at ha hb; exact r.2 i a b ha hb
theorem lrel.uncons {m : Map} {v v' : Value} {l l' : List Value} (r : lrel m (v :: l) (v' :: l')) : vrel m v v' ∧ lrel m l l' :=
 ⟨r.2 0 v v' rfl rfl, by simpa using r.1, fun i a b ha hb => r.2 (i + 1) a b (by simpa using ha) (by simpa using hb)⟩
theorem lrel.cons_left {m : Map} {v : Value} {l l' : List Value} (r : lrel m (v :: l) l') : ∃ v' r', l' = v' :: r' ∧ vrel m v v' ∧ lrel m l r' := by
 cases l' with
 | nil => simp [lrel] at r
 | cons v' r' => exact ⟨v', r', rfl, r.uncons⟩
theorem lrel.nil_left {m : Map} {l' : List Value} (r : lrel m [] l') : l' = [] := by
 have := r.1; cases l' <;> simp_all
theorem lrel.get {m : Map} {l l' : List Value} (r : lrel m l l') {i : Nat} {v : Value} (h : l[i]? = some v) : ∃ v', l'[i]? = some v' ∧ vrel m v v' := by
 have hi : i < l.length := by
  rcases Nat.lt_or_ge i l.length with h' | h'
  ·exact h'
  ·simp [List.getElem?_eq_none h'] at h
 have hi' : i < l'.length := by rw [← r.1]; exact hi
 exact ⟨l'[i], List.getElem?_eq_getElem hi', r.2 i v _ h (List.getElem?_eq_getElem hi')⟩
theorem lrel.append {m : Map} {l l' k k' : List Value} (r : lrel m l l') (s : lrel m k k') : lrel m (l ++ k) (l' ++ k') := by
 refine ⟨by simp [r.1, s.1], fun i a b ha hb => ?_⟩
 by_cases h : i < l.length
 ·rw [List.getElem?_append_left h] at ha
  rw [List.getElem?_append_left (by rw [← r.1]; exact h)] at hb
  exact r.2 i a b ha hb
 ·rw [List.getElem?_append_right (by omega)] at ha
  rw [List.getElem?_append_right (by rw [← r.1]; omega), ← r.1] at hb
  exact s.2 _ a b ha hb
theorem lrel.take {m : Map} {l l' : List Value} (r : lrel m l l') (n : Nat) : lrel m (l.take n) (l'.take n) := by
 refine ⟨by simp [r.1], fun i a b ha hb => ?_⟩
 rw [List.getElem?_take] at ha hb
 by_cases h : i < n
 ·simp [h] at ha hb; exact r.2 i a b ha hb
 ·simp [h] at ha
theorem lrel.drop {m : Map} {l l' : List Value} (r : lrel m l l') (n : Nat) : lrel m (l.drop n) (l'.drop n) := by
 refine ⟨by simp [r.1], fun i a b ha hb => ?_⟩
 rw [List.getElem?_drop] at ha hb
 exact r.2 _ a b ha hb
theorem lrel.set {m : Map} {l l' : List Value} (r : lrel m l l') (n : Nat) {v v' : Value} (h : vrel m v v') : lrel m (l.set n v) (l'.set n v') := by
 refine ⟨by simp [r.1], fun i a b ha hb => ?_⟩
 by_cases hi : n = i
 ·subst hi
  by_cases hn : n < l.length
  ·rw [List.getElem?_set_self hn] at ha
   rw [List.getElem?_set_self (by rw [← r.1]; exact hn)] at hb
   simp at ha hb; subst ha; subst hb; exact h
  ·rw [List.getElem?_eq_none (by simp; omega)] at ha; simp at ha
 ·rw [List.getElem?_set_ne hi] at ha hb
  exact r.2 i a b ha hb
theorem lrel.replicate {m : Map} (n : Nat) {v v' : Value} (h : vrel m v v') : lrel m (List.replicate n v) (List.replicate n v') := by
 refine ⟨by simp, fun i a b ha hb => ?_⟩
 rw [List.getElem?_replicate] at ha hb
 split at ha
 ·simp at ha; rw [if_pos (by assumption)] at hb; simp at hb; subst ha; subst hb; exact h
 ·simp at ha

theorem arr_rel {m : Map} {cs cs' : Array Value} : lrel m cs.toList cs'.toList ↔ cs.size = cs'.size ∧ ∀ (i : Nat) v v', cs[i]? = some v → cs'[i]? = some v' → vrel m v v' := by
 unfold lrel; simp

theorem vrel.agg' {m : Map} {cs cs' : Array Value} (r : lrel m cs.toList cs'.toList) : vrel m (.agg cs) (.agg cs') := .agg (arr_rel.1 r).1 (arr_rel.1 r).2
theorem vrel.tup' {m : Map} {cs cs' : Array Value} (r : lrel m cs.toList cs'.toList) : vrel m (.tuple cs) (.tuple cs') := .tup (arr_rel.1 r).1 (arr_rel.1 r).2
theorem vrel.func' {m : Map} {fn : Fn} {cs cs' : Array Value} (r : lrel m cs.toList cs'.toList) : vrel m (.func fn #[] cs) (.func fn #[] cs') := .func (arr_rel.1 r).1 (arr_rel.1 r).2

theorem vrel.undef (m : Map) : vrel m undef undef := .tup rfl (fun i v v' h => by simp at h)

/-! What a value on the left says of the one on the right. -/
section inv
variable {m : Map} {w : Value}
theorem vrel.bool_inv {b : Bool} (h : vrel m (.bool b) w) : w = .bool b := by
 cases h with | base h => cases w <;> simp [brel] at h; rw [h]
theorem vrel.int_inv {k : IntKind} {n : Int} (h : vrel m (.int k n) w) : w = .int k n := by
 cases h with | base h => cases w <;> simp [brel] at h; rw [h.1, h.2]
theorem vrel.float_inv {k : FloatKind} {n : Nat} (h : vrel m (.float k n) w) : w = .float k n := by
 cases h with | base h => cases w <;> simp [brel] at h; rw [h.1, h.2]
theorem vrel.complex_inv {k : FloatKind} {a b : Nat} (h : vrel m (.complex k a b) w) : w = .complex k a b := by
 cases h with | base h => cases w <;> simp [brel] at h; rw [h.1, h.2.1, h.2.2]
theorem vrel.string_inv {s : ByteArray} (h : vrel m (.string s) w) : w = .string s := by
 cases h with | base h => cases w <;> simp [brel] at h; rw [h]
theorem vrel.pointer_inv {a : Addr} (h : vrel m (.pointer (some a)) w) : ∃ a', w = .pointer (some a') ∧ arel m a a' := by
 cases h with | base h =>
  cases w <;> simp [brel] at h
  rename_i x; cases x <;> simp at h; exact ⟨_, rfl, h⟩
theorem vrel.pnil_inv (h : vrel m (.pointer none) w) : w = .pointer none := by
 cases h with | base h => cases w <;> simp [brel] at h; rename_i x; cases x <;> simp at h; rfl
theorem vrel.slice_inv {a : Addr} {l c : Nat} (h : vrel m (.slice (some a) l c) w) : ∃ a' c', w = .slice (some a') l c' ∧ (srel m a l c a' l c' ∨ drel a l c a' l c') := by
 cases h with | base h =>
  cases w <;> simp [brel] at h
  rename_i x l' c'; cases x <;> simp at h
  have : l' = l := by
   rcases h with h | h
   ·exact h.2.2.1
   ·have := h.2.1; have := h.2.2.2.1; omega
  subst this
  exact ⟨_, _, rfl, h⟩
theorem vrel.snil_inv {l c : Nat} (h : vrel m (.slice none l c) w) : w = .slice none 0 0 ∧ l = 0 ∧ c = 0 := by
 cases h with | base h =>
  cases w <;> simp [brel] at h
  rename_i x l' c'; cases x <;> simp at h
  obtain ⟨rfl, rfl, rfl, rfl⟩ := h
  exact ⟨rfl, rfl, rfl⟩
theorem vrel.map_inv {r : Nat} (h : vrel m (.map (some r)) w) : ∃ g, m r = some g ∧ w = .map (some g.c) := by
 cases h with | base h =>
  cases w <;> simp [brel] at h
  rename_i x; cases x <;> simp at h
  obtain ⟨g, hg, e⟩ := h; exact ⟨g, hg, by rw [e]⟩
theorem vrel.nilFunc_inv (h : vrel m .nilFunc w) : w = .nilFunc := by
 cases h with | base h => cases w <;> simp [brel] at h; rfl
theorem vrel.agg_inv {cs : Array Value} (h : vrel m (.agg cs) w) : ∃ cs', w = .agg cs' ∧ lrel m cs.toList cs'.toList := by
 cases h with
 | base h => cases w <;> simp [brel] at h
 | agg hs h => exact ⟨_, rfl, arr_rel.2 ⟨hs, h⟩⟩
theorem vrel.tup_inv {cs : Array Value} (h : vrel m (.tuple cs) w) : ∃ cs', w = .tuple cs' ∧ lrel m cs.toList cs'.toList := by
 cases h with
 | base h => cases w <;> simp [brel] at h
 | tup hs h => exact ⟨_, rfl, arr_rel.2 ⟨hs, h⟩⟩
theorem vrel.func_inv {fn : Fn} {fs cs : Array Value} (h : vrel m (.func fn fs cs) w) : fs = #[] ∧ ∃ cs', w = .func fn #[] cs' ∧ lrel m cs.toList cs'.toList := by
 cases h with
 | base h => cases w <;> simp [brel] at h
 | func hs h => exact ⟨rfl, _, rfl, arr_rel.2 ⟨hs, h⟩⟩
end inv

theorem vrel.flat1 (m : Map) {v : Value} (h : flat1 v = true) : vrel m v v := by
 unfold Am.flat1 at h
 split at h <;> first | (simp at h; done) | (exact .base (by simp [brel]))
theorem lrel.flat1 (m : Map) : ∀ {l : List Value}, l.all flat1 = true → lrel m l l
 | [], _ => lrel.nil m
 | v :: l, h => by simp at h; exact .cons (vrel.flat1 m h.1) (lrel.flat1 m (by simpa using h.2))
theorem vrel.constOk (m : Map) {v : Value} (h : constOk v = true) : vrel m v v := by
 unfold Am.constOk at h
 split at h
 ·exact .agg' (lrel.flat1 m h)
 ·exact vrel.flat1 m h

theorem vrel.oneCell {m : Map} {v v' : Value} (h : vrel m v v') (ho : oneCell v = true) : v'.oneCell' = true := by
 cases h with
 | base h => cases v <;> cases v' <;> simp [brel] at h <;> rfl
 | func => rfl
 | agg => simp [Am.oneCell] at ho
 | tup => simp [Am.oneCell] at ho
theorem vrel.cells {m : Map} {v v' : Value} (h : vrel m v v') : lrel m v.cells.toList v'.cells.toList := by
 cases h with
 | agg hs h => exact arr_rel.2 ⟨hs, h⟩
 | func hs h => exact .cons (.func hs h) (lrel.nil m)
 | tup hs h => exact .cons (.tup hs h) (lrel.nil m)
 | base h =>
  have key : lrel m [v] [v'] := .cons (.base h) (lrel.nil m)
  cases v <;> cases v' <;> simp [brel] at h <;> exact key
theorem oneCell_oneCell' {v : Value} (h : oneCell v = true) : v.oneCell' = true := by cases v <;> simp_all [oneCell, Value.oneCell']

/-- A block that the call may write: not dead, not one that came in. -/
def mine : Option AObj → Bool
 | some (.row true _ _ _) | some (.amap _) | some (.iter _ _) => true
 | _ => false

def clearOf (f : Nat × Nat) (n : Nat) : Prop := ∀ i, i < n → ¬ (f.1 ≤ i ∧ i < f.2)

/-- A row of the call's own that can't have grown has no mark behind its end; none is longer than a slice can be. -/
def grOk (own gr : Bool) (sz : Nat) (f : Nat × Nat) (n : Nat) : Prop := own = true → (gr = false → ¬ (f.1 ≤ n ∧ n < f.2)) ∧ n ≤ 9223372036854775807 * sz

def erel (m : Map) (es : List (Value × Value)) (es' : List MapEntry) : Prop :=
 es.length = es'.length ∧ ∀ (i : Nat) x x', es[i]? = some x → es'[i]? = some x' → vrel m x.1 x'.key ∧ vrel m x.2 x'.val

/-- The abstract object o, at the place g, is what the world holds there. -/
def orel (m : Map) (g : Img) (o : AObj) (O : Option Obj) : Prop :=
 match o with
 | .row own gr sz cells => g.own = own ∧ g.sz = sz ∧ g.na = cells.length ∧ g.dl + cells.length ≤ g.nc ∧
   ∃ C e f, O = some (.cells C e f) ∧ C.size = g.nc ∧ (own = true → clearOf f C.size) ∧ lrel m cells ((C.toList.drop g.dl).take cells.length) ∧ cells.all oneCell = true ∧ g.gr = gr ∧ grOk own gr sz f C.size
 | .amap es => g.own = true ∧ ∃ E k, O = some (.map E k) ∧ erel m es E.toList
 | .iter s p => g.own = true ∧ g.dl = 0 ∧ O = some (.stringIter s p)
 | .dead => True

theorem erel.mono {m m' : Map} (h : m.le m') {es : List (Value × Value)} {E : List MapEntry} (r : erel m es E) : erel m' es E :=
 ⟨r.1, fun i x x' a b => ⟨(r.2 i x x' a b).1.mono h, (r.2 i x x' a b).2.mono h⟩⟩

theorem orel.mono {m m' : Map} (h : m.le m') {g : Img} {o : AObj} {O : Option Obj} (r : orel m g o O) : orel m' g o O := by
 cases o with
 | row own gr sz cells =>
  obtain ⟨h1, h2, h3, h4, C, e, f, h5, h6, h7, h8, h9⟩ := r
  exact ⟨h1, h2, h3, h4, C, e, f, h5, h6, h7, h8.mono h, h9⟩
 | amap es => obtain ⟨h1, E, k, h2, h3⟩ := r; exact ⟨h1, E, k, h2, h3.mono h⟩
 | iter s p => exact r
 | dead => trivial

/-- The abstract heap H, at the places m, is what the world holds. B: the heap's size when the whole began. -/
structure HR (B : Nat) (m : Map) (H : AHeap) (w : World) : Prop where
 le : B ≤ w.heap.size
 dom : ∀ b g, m b = some g → b < H.n ∧ g.c < w.heap.size
 own : ∀ b g, m b = some g → (g.own = true ↔ B ≤ g.c)
 obj : ∀ b o g, H.get b = some o → m b = some g → orel m g o w.heap[g.c]?
 inj : ∀ b b' g g', b ≠ b' → mine (H.get b) = true → mine (H.get b') = true → m b = some g → m b' = some g' → g.c ≠ g'.c

/-- The model's blocks that a call under the mark wm may turn. -/
def Wr (m : Map) (H : AHeap) (wm c : Nat) : Prop := ∃ b g, wm ≤ b ∧ mine (H.get b) = true ∧ m b = some g ∧ g.c = c

/-- What a step of the abstract machine does to the world. -/
structure Stp (B wm : Nat) (m : Map) (H : AHeap) (w : World) (m' : Map) (H' : AHeap) (w' : World) : Prop where
 hr : HR B m' H' w'
 le : m.le m'
 new : ∀ b g, m' b = some g → m b = some g ∨ H.n ≤ b
 nle : H.n ≤ H'.n
 size : w.heap.size ≤ w'.heap.size
 keep : ∀ c, c < w.heap.size → ¬ Wr m H wm c → w'.heap[c]? = w.heap[c]?
 wr : ∀ c, c < w.heap.size → Wr m' H' wm c → Wr m H wm c
 os : w'.os = w.os
 tape : w'.tape = w.tape
 output : w'.output = w.output

theorem Stp.refl {B wm : Nat} {m : Map} {H : AHeap} {w : World} (h : HR B m H w) : Stp B wm m H w m H w :=
 ⟨h, m.le_refl, fun _ _ h => .inl h, Nat.le_refl _, Nat.le_refl _, fun _ _ _ => rfl, fun _ _ h => h, rfl, rfl, rfl⟩

theorem Stp.trans {B wm : Nat} {m m' m'' : Map} {H H' H'' : AHeap} {w w' w'' : World} (h : Stp B wm m H w m' H' w') (k : Stp B wm m' H' w' m'' H'' w'') : Stp B wm m H w m'' H'' w'' := by
 refine ⟨k.hr, Map.le_trans h.le k.le, fun b g hb => ?_, Nat.le_trans h.nle k.nle, Nat.le_trans h.size k.size, fun c hc hn => ?_, fun c hc hw => ?_, k.os.trans h.os, k.tape.trans h.tape, k.output.trans h.output⟩
 ·rcases k.new b g hb with h1 | h1
  ·exact h.new b g h1
  ·exact .inr (Nat.le_trans h.nle h1)
 ·rw [k.keep c (Nat.lt_of_lt_of_le hc h.size) (fun hw => hn (h.wr c hc hw)), h.keep c hc hn]
 ·exact h.wr c hc (k.wr c (Nat.lt_of_lt_of_le hc h.size) hw)

def Map.upd (m : Map) (b : Nat) (g : Img) : Map := fun x => if x = b then some g else m x
theorem Map.upd_same (m : Map) (b : Nat) (g : Img) : m.upd b g b = some g := by simp [Map.upd]
theorem Map.upd_ne (m : Map) {b x : Nat} (g : Img) (h : x ≠ b) : m.upd b g x = m x := by simp [Map.upd, h]
theorem HR.fresh {B : Nat} {m : Map} {H : AHeap} {w : World} (h : HR B m H w) : m H.n = none := by
 cases hm : m H.n with
 | none => rfl
 | some g => exact absurd (h.dom _ _ hm).1 (Nat.lt_irrefl _)
theorem Map.upd_le {B : Nat} {m : Map} {H : AHeap} {w : World} (h : HR B m H w) (g : Img) : m.le (m.upd H.n g) := fun b g' hb => by
 have : b ≠ H.n := fun e => by rw [e, h.fresh] at hb; simp at hb
 rw [Map.upd_ne _ _ this, hb]

theorem orel.own_of_mine {m : Map} {g : Img} {o : AObj} {O : Option Obj} (h : orel m g o O) (hm : mine (some o) = true) : g.own = true := by
 cases o with
 | row own gr sz cells => cases own with
  | true => exact h.1
  | false => simp [mine] at hm
 | amap es => exact h.1
 | iter s p => exact h.1
 | dead => simp [mine] at hm

/-- A world whose heap is the same (a draw). -/
theorem Stp.same {B wm : Nat} {m : Map} {H : AHeap} {w w' : World} (h : HR B m H w) (hh : w'.heap = w.heap) (ho : w'.os = w.os) (ht : w'.tape = w.tape) (hp : w'.output = w.output) : Stp B wm m H w m H w' :=
 ⟨⟨by rw [hh]; exact h.le, by rw [hh]; exact h.dom, h.own, by rw [hh]; exact h.obj, h.inj⟩, m.le_refl, fun _ _ h => .inl h, Nat.le_refl _, by rw [hh]; exact Nat.le_refl _, fun _ _ _ => by rw [hh], fun _ _ h => h, ho, ht, hp⟩

/-- A new block. -/
theorem Stp.push {B wm : Nat} {m : Map} {H : AHeap} {w : World} (h : HR B m H w) {o : AObj} {O : Obj} {g : Img} (hc : g.c = w.heap.size) (hg : g.own = true) (ho : orel m g o (some O)) :
  Stp B wm m H w (m.upd H.n g) (H.push o) (w.alloc O) := by
 have hle := Map.upd_le h g
 have hnew : (w.alloc O).heap[w.heap.size]? = some O := by show (w.heap.push O)[w.heap.size]? = _; simp
 have hold : ∀ c, c < w.heap.size → (w.alloc O).heap[c]? = w.heap[c]? := fun c hc => Go.RowKit.Below.heap_alloc w O c hc
 refine ⟨⟨by simp; have := h.le; omega, fun b g' hb => ?_, fun b g' hb => ?_, fun b o' g' hb hm => ?_, fun b b' g1 g2 hne h1 h2 m1 m2 => ?_⟩, hle, fun b g' hb => ?_, by simp, by simp, fun c hc _ => hold c hc, fun c hc hw => ?_, rfl, rfl, rfl⟩
 ·by_cases e : b = H.n
  ·subst e; rw [Map.upd_same] at hb; simp at hb; subst hb; simp [hc]
  ·rw [Map.upd_ne _ _ e] at hb; have := h.dom _ _ hb; simp; omega
 ·by_cases e : b = H.n
  ·subst e; rw [Map.upd_same] at hb; simp at hb; subst hb; simp [hc, hg, h.le]
  ·rw [Map.upd_ne _ _ e] at hb; exact h.own _ _ hb
 ·by_cases e : b = H.n
  ·subst e; rw [Map.upd_same] at hm; simp at hm; subst hm
   rw [AHeap.get_push_new] at hb; simp at hb; subst hb
   rw [hc, hnew]; exact ho.mono hle
  ·rw [Map.upd_ne _ _ e] at hm; rw [AHeap.get_push_ne _ _ e] at hb
   rw [hold _ (h.dom _ _ hm).2]; exact (h.obj _ _ _ hb hm).mono hle
 ·by_cases e1 : b = H.n
  ·have e2 : b' ≠ H.n := fun e => hne (by rw [e1, e])
   subst e1; rw [Map.upd_same] at m1; simp at m1; subst m1
   rw [Map.upd_ne _ _ e2] at m2; have := (h.dom _ _ m2).2; omega
  ·by_cases e2 : b' = H.n
   ·subst e2; rw [Map.upd_same] at m2; simp at m2; subst m2
    rw [Map.upd_ne _ _ e1] at m1; have := (h.dom _ _ m1).2; omega
   ·rw [Map.upd_ne _ _ e1] at m1; rw [Map.upd_ne _ _ e2] at m2
    rw [AHeap.get_push_ne _ _ e1] at h1; rw [AHeap.get_push_ne _ _ e2] at h2
    exact h.inj _ _ _ _ hne h1 h2 m1 m2
 ·by_cases e : b = H.n
  ·exact .inr (by omega)
  ·rw [Map.upd_ne _ _ e] at hb; exact .inl hb
 ·obtain ⟨b, g', hb, hmi, hm, hcc⟩ := hw
  by_cases e : b = H.n
  ·subst e; rw [Map.upd_same] at hm; simp at hm; subst hm; omega
  ·rw [Map.upd_ne _ _ e] at hm; rw [AHeap.get_push_ne _ _ e] at hmi; exact ⟨b, g', hb, hmi, hm, hcc⟩

/-- A block of the call's own is written: of the model's blocks its own alone turns. -/
theorem Stp.set {B wm : Nat} {m : Map} {H : AHeap} {w w' : World} (h : HR B m H w) {b : Nat} {g : Img} {o : AObj} (hb : wm ≤ b) (hmi : mine (H.get b) = true) (hm : m b = some g)
  (ho : orel m g o w'.heap[g.c]?) (hs : w'.heap.size = w.heap.size) (hk : ∀ c, c ≠ g.c → w'.heap[c]? = w.heap[c]?) (h1 : w'.os = w.os) (h2 : w'.tape = w.tape) (h3 : w'.output = w.output) :
  Stp B wm m H w m (H.set b o) w' := by
 have hown : g.own = true := by
  cases hg : H.get b with
  | none => rw [hg] at hmi; simp [mine] at hmi
  | some o' => rw [hg] at hmi; exact (h.obj _ _ _ hg hm).own_of_mine hmi
 refine ⟨⟨by rw [hs]; exact h.le, by rw [hs]; exact h.dom, h.own, fun b' o' g' hb' hm' => ?_, fun b1 b2 g1 g2 hne n1 n2 m1 m2 => ?_⟩, m.le_refl, fun _ _ h => .inl h, by simp, by rw [hs]; exact Nat.le_refl _, fun c hc hw => hk c (fun e => hw ⟨b, g, hb, hmi, hm, e.symm⟩), fun c hc hw => ?_, h1, h2, h3⟩
 ·by_cases e : b' = b
  ·subst e; rw [AHeap.get_set_same] at hb'; simp at hb'; subst hb'
   rw [hm] at hm'; simp at hm'; subst hm'; exact ho
  ·rw [AHeap.get_set_ne _ _ e] at hb'
   have hr := h.obj _ _ _ hb' hm'
   by_cases ec : g'.c = g.c
   ·cases hmine : mine (some o') with
    | true => exact absurd ec (h.inj _ _ _ _ e (by rw [hb']; exact hmine) hmi hm' hm)
    | false =>
     cases o' with
     | row own gr sz cells =>
      cases own with
      | true => simp [mine] at hmine
      | false =>
       have h5 : g'.own = false := hr.1
       have h6 := (h.own _ _ hm')
       have h7 := (h.own _ _ hm).1 hown
       rw [← ec] at h7
       rw [h6.2 h7] at h5; simp at h5
     | amap es => simp [mine] at hmine
     | iter s p => simp [mine] at hmine
     | dead => trivial
   ·rw [hk _ ec]; exact hr
 ·have k : ∀ x, mine ((H.set b o).get x) = true → mine (H.get x) = true := fun x hx => by
   by_cases e : x = b
   ·rw [e]; exact hmi
   ·rwa [AHeap.get_set_ne _ _ e] at hx
  exact h.inj _ _ _ _ hne (k _ n1) (k _ n2) m1 m2
 ·obtain ⟨b', g', hb', hmi', hm', hcc⟩ := hw
  refine ⟨b', g', hb', ?_, hm', hcc⟩
  by_cases e : b' = b
  ·rw [e]; exact hmi
  ·rwa [AHeap.get_set_ne _ _ e] at hmi'

/-- A block that stands for none turns. -/
theorem Stp.setU {B wm : Nat} {m : Map} {H : AHeap} {w : World} (h : HR B m H w) {b : Nat} {o : AObj} (hm : m b = none) : Stp B wm m H w m (H.set b o) w := by
 have ne : ∀ {b' : Nat} {g : Img}, m b' = some g → b' ≠ b := fun hb e => by rw [e, hm] at hb; cases hb
 refine ⟨⟨h.le, h.dom, h.own, fun b' o' g' hb' hm' => ?_, fun b1 b2 g1 g2 hne n1 n2 m1 m2 => ?_⟩, m.le_refl, fun _ _ h => .inl h, by simp, Nat.le_refl _, fun c hc _ => rfl, fun c hc hw => ?_, rfl, rfl, rfl⟩
 ·rw [AHeap.get_set_ne _ _ (ne hm')] at hb'
  exact h.obj _ _ _ hb' hm'
 ·rw [AHeap.get_set_ne _ _ (ne m1)] at n1
  rw [AHeap.get_set_ne _ _ (ne m2)] at n2
  exact h.inj _ _ _ _ hne n1 n2 m1 m2
 ·obtain ⟨b', g', hb, hmi', hm', hcc⟩ := hw
  rw [AHeap.get_set_ne _ _ (ne hm')] at hmi'
  exact ⟨b', g', hb, hmi', hm', hcc⟩

/-- A block of the call's own dies, and a new one lies where it lay. -/
theorem Stp.move {B wm : Nat} {m : Map} {H : AHeap} {w w' : World} (h : HR B m H w) {b : Nat} {g g' : Img} {o : AObj} (hb : wm ≤ b) (hmi : mine (H.get b) = true) (hm : m b = some g)
  (hc : g'.c = g.c) (hg : g'.own = true) (ho : orel m g' o w'.heap[g.c]?) (hs : w'.heap.size = w.heap.size) (hk : ∀ c, c ≠ g.c → w'.heap[c]? = w.heap[c]?) (h1 : w'.os = w.os) (h2 : w'.tape = w.tape) (h3 : w'.output = w.output) :
  Stp B wm m H w (m.upd H.n g') ((H.set b .dead).push o) w' := by
 have h0 : Stp B wm m H w m (H.set b .dead) w' := Stp.set h hb hmi hm trivial hs hk h1 h2 h3
 have hbn : b < H.n := (h.dom _ _ hm).1
 have hown : g.own = true := by
  cases hg : H.get b with
  | none => rw [hg] at hmi; simp [mine] at hmi
  | some o' => rw [hg] at hmi; exact (h.obj _ _ _ hg hm).own_of_mine hmi
 have hle := Map.upd_le h g'
 have hr := h0.hr
 have hfree : ∀ b1 g1, b1 ≠ H.n → mine ((H.set b .dead).get b1) = true → m b1 = some g1 → g1.c ≠ g.c := fun b1 g1 _ n1 m1 => by
  by_cases e : b1 = b
  ·rw [e, AHeap.get_set_same] at n1; simp [mine] at n1
  ·rw [AHeap.get_set_ne _ _ e] at n1; exact h.inj _ _ _ _ e n1 hmi m1 hm
 refine ⟨⟨hr.le, fun b1 g1 hb1 => ?_, fun b1 g1 hb1 => ?_, fun b1 o1 g1 hb1 hm1 => ?_, fun b1 b2 g1 g2 hne n1 n2 m1 m2 => ?_⟩, hle, fun b1 g1 hb1 => ?_, by simp, h0.size, h0.keep, fun c hcl hw => ?_, h1, h2, h3⟩
 ·by_cases e : b1 = H.n
  ·subst e; rw [Map.upd_same] at hb1; simp at hb1; subst hb1; simp [hc]; have := (hr.dom _ _ hm).2; omega
  ·rw [Map.upd_ne _ _ e] at hb1; have := hr.dom _ _ hb1; simp at *; omega
 ·by_cases e : b1 = H.n
  ·subst e; rw [Map.upd_same] at hb1; simp at hb1; subst hb1; rw [hc, hg]; simp; exact (h.own _ _ hm).1 hown
  ·rw [Map.upd_ne _ _ e] at hb1; exact h.own _ _ hb1
 ·by_cases e : b1 = H.n
  ·subst e; rw [Map.upd_same] at hm1; simp at hm1; subst hm1
   rw [show H.n = (H.set b .dead).n from rfl, AHeap.get_push_new] at hb1; simp at hb1; subst hb1
   rw [hc]; exact ho.mono hle
  ·rw [Map.upd_ne _ _ e] at hm1; rw [AHeap.get_push_ne _ _ (by simpa using e)] at hb1
   exact (hr.obj _ _ _ hb1 hm1).mono hle
 ·by_cases e1 : b1 = H.n
  ·have e2 : b2 ≠ H.n := fun e => hne (by rw [e1, e])
   subst e1; rw [Map.upd_same] at m1; simp at m1; subst m1
   rw [Map.upd_ne _ _ e2] at m2; rw [AHeap.get_push_ne _ _ (by simpa using e2)] at n2
   rw [hc]; exact (hfree _ _ e2 n2 m2).symm
  ·by_cases e2 : b2 = H.n
   ·subst e2; rw [Map.upd_same] at m2; simp at m2; subst m2
    rw [Map.upd_ne _ _ e1] at m1; rw [AHeap.get_push_ne _ _ (by simpa using e1)] at n1
    rw [hc]; exact hfree _ _ e1 n1 m1
   ·rw [Map.upd_ne _ _ e1] at m1; rw [Map.upd_ne _ _ e2] at m2
    rw [AHeap.get_push_ne _ _ (by simpa using e1)] at n1; rw [AHeap.get_push_ne _ _ (by simpa using e2)] at n2
    exact hr.inj _ _ _ _ hne n1 n2 m1 m2
 ·by_cases e : b1 = H.n
  ·exact .inr (by omega)
  ·rw [Map.upd_ne _ _ e] at hb1; exact .inl hb1
 ·obtain ⟨b1, g1, hb1, hmi1, hm1, hcc⟩ := hw
  by_cases e : b1 = H.n
  ·subst e; rw [Map.upd_same] at hm1; simp at hm1; subst hm1; exact ⟨b, g, hb, hmi, hm, by rw [← hc]; exact hcc⟩
  ·rw [Map.upd_ne _ _ e] at hm1; rw [AHeap.get_push_ne _ _ (by simpa using e)] at hmi1
   exact h0.wr c hcl ⟨b1, g1, hb1, hmi1, hm1, hcc⟩
end Go.Am

namespace Go.Am

section runs
variable {P : Program} {w : World} {t : TypeId}
theorem rSize {s : Nat} (h : sizeOf' P t = some s) : (sizeOf t).run P w = .ok s w := by
 unfold sizeOf' at h
 cases hi : P.info? t with
 | none => simp [hi] at h
 | some i => simp [hi] at h; simp [sizeOf, typeInfo, hi, h]
theorem rInfo {i : TypeInfo} (h : P.info? t = some i) : (typeInfo t).run P w = .ok i w := by simp [typeInfo, h]
theorem rZero {z : Value} (h : zeroOf P t = some z) : (zeroValue t).run P w = .ok z w := by
 unfold zeroOf at h
 cases hi : P.info? t with
 | none => simp [hi] at h
 | some i => simp [hi] at h; simp [zeroValue, typeInfo, hi, h]
theorem rUnd {d : TypeDesc} (h : P.underlying t = some d) : (underlying t).run P w = .ok d w := run_underlying h w
theorem rAgg {d : TypeDesc} (h : P.underlying t = some d) : (isAgg t).run P w = .ok (isAggD d) w := by
 unfold isAgg isAggD
 simp only [Sem.run_bind, rUnd h, Result.andThen_ok]
 cases d <;> rfl
end runs

theorem cell_of {w : World} {c off : Nat} {C : Array Value} {e : TypeId} {f : Nat × Nat} (h : w.heap[c]? = some (.cells C e f)) : w.cell? ⟨c, off, none⟩ = C[off]? := by
 simp [World.cell?, h]
theorem frozen_of {w : World} {c off : Nat} {C : Array Value} {e : TypeId} {f : Nat × Nat} (h : w.heap[c]? = some (.cells C e f)) (hf : clearOf f C.size) (ho : off < C.size) : w.frozen? ⟨c, off, none⟩ = false := by
 have := hf off ho
 simp only [World.frozen?, h]
 simp only [Bool.and_eq_false_iff, decide_eq_false_iff_not]
 by_cases h1 : f.1 ≤ off
 ·exact .inr (fun h2 => this ⟨h1, h2⟩)
 ·exact .inl h1

theorem rCells {P : Program} {w : World} {c off : Nat} {C : Array Value} {e : TypeId} {f : Nat × Nat} (h : w.heap[c]? = some (.cells C e f)) (n : Nat) (hn : off + n ≤ C.size) :
  (loadCells ⟨c, off, none⟩ n).run P w = .ok ((C.toList.drop off).take n).toArray w := by
 have hl : ((C.toList.drop off).take n).length = n := by simp; omega
 have := run_loadCells_list (P := P) w ⟨c, off, none⟩ ((C.toList.drop off).take n) (fun j v hj => by
  rw [List.getElem?_take] at hj
  split at hj
  ·rw [List.getElem?_drop] at hj
   have : (⟨c, off, none⟩ : Addr).add j = ⟨c, off + j, none⟩ := by unfold Addr.add; split <;> simp_all
   rw [this, cell_of h]; simpa using hj
  ·simp at hj)
 rw [hl] at this
 exact this

/-- What a pointer that is related leads to. -/
theorem HR.row {B : Nat} {m : Map} {H : AHeap} {w : World} (h : HR B m H w) {b : Nat} {g : Img} {own gr : Bool} {sz : Nat} {cells : List Value} (hb : H.get b = some (.row own gr sz cells)) (hm : m b = some g) :
  g.own = own ∧ g.sz = sz ∧ g.na = cells.length ∧ g.dl + cells.length ≤ g.nc ∧ ∃ C e f, w.heap[g.c]? = some (.cells C e f) ∧ C.size = g.nc ∧ (own = true → clearOf f C.size) ∧ lrel m cells ((C.toList.drop g.dl).take cells.length) := by
 obtain ⟨h1, h2, h3, h4, C, e, f, h5, h6, h7, h8, _⟩ := h.obj _ _ _ hb hm
 exact ⟨h1, h2, h3, h4, C, e, f, h5, h6, h7, h8⟩

theorem HR.one {B : Nat} {m : Map} {H : AHeap} {w : World} (h : HR B m H w) {b : Nat} {g : Img} {own gr : Bool} {sz : Nat} {cells : List Value} (hb : H.get b = some (.row own gr sz cells)) (hm : m b = some g) : cells.all oneCell = true := by
 obtain ⟨h1, h2, h3, h4, C, e, f, h5, h6, h7, h8, h9, _⟩ := h.obj _ _ _ hb hm
 exact h9

theorem HR.grow {B : Nat} {m : Map} {H : AHeap} {w : World} (h : HR B m H w) {b : Nat} {g : Img} {own gr : Bool} {sz : Nat} {cells : List Value} (hb : H.get b = some (.row own gr sz cells)) (hm : m b = some g) : g.gr = gr := by
 obtain ⟨h1, h2, h3, h4, C, e, f, h5, h6, h7, h8, h9, h10⟩ := h.obj _ _ _ hb hm
 exact h10.1

theorem HR.grOk {B : Nat} {m : Map} {H : AHeap} {w : World} (h : HR B m H w) {b : Nat} {g : Img} {own gr : Bool} {sz : Nat} {cells : List Value} (hb : H.get b = some (.row own gr sz cells)) (hm : m b = some g) {C : Array Value} {e : TypeId} {f : Nat × Nat} (hC : w.heap[g.c]? = some (.cells C e f)) : Am.grOk own gr sz f C.size := by
 obtain ⟨h1, h2, h3, h4, C, e, f, h5, h6, h7, h8, h9, h10⟩ := h.obj _ _ _ hb hm
 rw [hC] at h5
 simp at h5
 obtain ⟨rfl, rfl, rfl⟩ := h5
 exact h10.2
theorem grOk0 {sz n : Nat} (hn : n ≤ 9223372036854775807 * sz) : Am.grOk true false sz (0, 0) n := fun _ => ⟨fun _ h => by simp at h, hn⟩
theorem grOk1 {gr : Bool} {sz n : Nat} {f : Nat × Nat} (h : gr = true) (hn : n ≤ 9223372036854775807 * sz) : Am.grOk true gr sz f n := fun _ => ⟨fun h2 => absurd (h.symm.trans h2) Bool.noConfusion, hn⟩

theorem cut_some {l : List Value} {o n : Nat} {r : List Value} (h : cut l o n = some r) : o + n ≤ l.length ∧ r = (l.drop o).take n := by
 unfold cut at h
 split at h
 ·simp at h; exact ⟨by assumption, h.symm⟩
 ·simp at h
theorem lay_some {l : List Value} {o : Nat} {vs r : List Value} (h : lay l o vs = some r) : o + vs.length ≤ l.length ∧ r = l.take o ++ vs ++ l.drop (o + vs.length) := by
 unfold lay at h
 split at h
 ·simp at h; exact ⟨by assumption, by rw [← h]; simp⟩
 ·simp at h

theorem drop_take_drop (l : List Value) (d L o n : Nat) (h : o + n ≤ L) : (((l.drop d).take L).drop o).take n = (l.drop (d + o)).take n := by
 apply List.ext_getElem?
 intro i
 simp only [List.getElem?_take, List.getElem?_drop]
 by_cases hi : i < n
 ·simp only [hi, if_true]
  rw [if_pos (by omega)]
  congr 1; omega
 ·simp [hi]

/-- n cells from a place of an abstract row are, in the model's block, n cells from the moved place. -/
theorem row_cut {m : Map} {cells r : List Value} {C : Array Value} {dl o n : Nat} (hl : lrel m cells ((C.toList.drop dl).take cells.length)) (hb : dl + cells.length ≤ C.size) (h : cut cells o n = some r) :
  lrel m r ((C.toList.drop (dl + o)).take n) ∧ dl + o + n ≤ C.size := by
 obtain ⟨h1, rfl⟩ := cut_some h
 refine ⟨?_, by omega⟩
 rw [← drop_take_drop _ _ _ _ _ h1]
 exact (hl.drop o).take n

/-- What an operation is to give. -/
def DoneV (P : Program) (B wm : Nat) (m : Map) (H : AHeap) (w : World) (v : Value) (H' : AHeap) (s : Sem Value) : Prop :=
 ∃ v' w' m', s.run P w = .ok v' w' ∧ vrel m' v v' ∧ Stp B wm m H w m' H' w'

theorem DoneV.pure {P : Program} {B wm : Nat} {m : Map} {H : AHeap} {w : World} {v v' : Value} {s : Sem Value} (hr : HR B m H w) (h : s.run P w = .ok v' w) (hv : vrel m v v') : DoneV P B wm m H w v H s :=
 ⟨v', w, m, h, hv, Stp.refl hr⟩

section ops
variable {P : Program} {B wm : Nat} {m : Map} {H : AHeap} {w : World}

theorem load_pure (hr : HR B m H w) {t : TypeId} {a a' v : Value} (ha : vrel m a a') (h : aLoad P H t a = some v) : ∃ v', (Instr.loadAt t a').run P w = .ok v' w ∧ vrel m v v' := by
 unfold aLoad at h
 split at h
 case h_2 => simp at h
 case h_1 b o =>
  obtain ⟨x, rfl, hx1, hx2, g, hg, hx3, hx4⟩ := ha.pointer_inv
  simp only at hg hx3 hx4
  obtain ⟨xb, xo, xs⟩ := x
  simp only at hx2 hx3 hx4
  subst hx2 hx3 hx4
  split at h
  case h_2 => simp at h
  case h_1 own gr sz cells d hrow hd =>
   obtain ⟨_, _, _, hn, C, e, f, hC, hsz, _, hl⟩ := hr.row hrow hg
   rw [← hsz] at hn
   cases hag : isAggD d with
   | true =>
    rw [hag] at h
    simp only [if_true] at h
    cases hi : P.info? t with
    | none => rw [hi] at h; simp at h
    | some i =>
     rw [hi] at h
     simp only [Option.map_eq_some_iff] at h
     obtain ⟨r, hc, rfl⟩ := h
     obtain ⟨h1, h2⟩ := row_cut hl hn hc
     refine ⟨.agg ((C.toList.drop (g.dl + o)).take i.size).toArray, ?_, .agg' (by simpa using h1)⟩
     simp [Instr.loadAt, Instr.sureAddr, loadVar, rAgg hd, hag, sizeOf, rInfo hi, rCells hC i.size h2]
   | false =>
    rw [hag] at h
    simp only [Bool.false_eq_true, if_false] at h
    obtain ⟨v', hv', hvr⟩ := hl.get h
    rw [List.getElem?_take] at hv'
    split at hv'
    case isFalse => simp at hv'
    rw [List.getElem?_drop] at hv'
    refine ⟨v', ?_, hvr⟩
    have hc : w.cell? ⟨g.c, g.dl + o, none⟩ = some v' := by rw [cell_of hC]; simpa using hv'
    simp [Instr.loadAt, Instr.sureAddr, loadVar, rAgg hd, hag, hc]

theorem load_sim (hr : HR B m H w) {t : TypeId} {a a' v : Value} (ha : vrel m a a') (h : aLoad P H t a = some v) : DoneV P B wm m H w v H (Instr.loadAt t a') := by
 obtain ⟨v', h1, h2⟩ := load_pure (P := P) hr ha h
 exact DoneV.pure hr h1 h2

theorem setCells_heap (b : Nat) : ∀ (vs : List Value) (o : Nat) (w : World) (C : Array Value) (e : TypeId) (f : Nat × Nat), w.heap[b]? = some (.cells C e f) → o + vs.length ≤ C.size →
  (∃ C' : Array Value, (w.setCells b o vs).heap[b]? = some (.cells C' e f) ∧ C'.toList = C.toList.take o ++ vs ++ C.toList.drop (o + vs.length)) ∧ (w.setCells b o vs).heap.size = w.heap.size ∧ (∀ c, c ≠ b → (w.setCells b o vs).heap[c]? = w.heap[c]?) ∧
  (w.setCells b o vs).os = w.os ∧ (w.setCells b o vs).tape = w.tape ∧ (w.setCells b o vs).output = w.output
 | [], o, w, C, e, f, h, _ => ⟨⟨C, h, by simp⟩, rfl, fun _ _ => rfl, rfl, rfl, rfl⟩
 | v :: r, o, w, C, e, f, h, hn => by
  have h1 : (w.setCell ⟨b, o, none⟩ v).heap[b]? = some (.cells (C.setIfInBounds o v) e f) := by
   simp only [World.setCell, Array.getElem?_modify, h]
   simp
  obtain ⟨⟨C', hC', ht⟩, h2, h3, h4, h5, h6⟩ := setCells_heap b r (o + 1) (w.setCell ⟨b, o, none⟩ v) _ e f h1 (by simp at hn ⊢; omega)
  refine ⟨⟨C', hC', ?_⟩, by rw [World.setCells]; rw [h2]; simp, fun c hc => by rw [World.setCells, h3 c hc, Go.RowKit.Below.heap_setCell _ _ _ _ hc], h4, h5, h6⟩
  rw [ht]
  simp only [Array.toList_setIfInBounds, List.length_cons]
  have ho : o < C.toList.length := by simp at hn ⊢; omega
  apply List.ext_getElem?
  intro i
  simp only [List.getElem?_append, List.getElem?_take, List.getElem?_drop, List.length_take, List.length_set, List.length_append, List.length_cons, List.getElem?_set]
  have hm1 : min (o + 1) C.toList.length = o + 1 := by omega
  have hm2 : min o C.toList.length = o := by omega
  rw [hm1, hm2]
  by_cases c1 : i < o
  ·have : ¬ o = i := by omega
   simp [show i < o + 1 by omega, show i < o + 1 + r.length by omega, c1, show i < o + (r.length + 1) by omega, this]
  ·by_cases c2 : i = o
   ·subst c2
    simp at ho
    simp [ho, show i < i + 1 + r.length by omega]
   ·by_cases c3 : i < o + 1 + r.length
    ·simp only [c3, if_true, show ¬ i < o + 1 by omega, if_false, show i < o + (r.length + 1) by omega, c1]
     obtain ⟨k, rfl⟩ : ∃ k, i = o + 1 + k := ⟨i - (o + 1), by omega⟩
     rw [show o + 1 + k - o = k + 1 by omega, show o + 1 + k - (o + 1) = k by omega]; simp
    ·simp only [c3, if_false, show ¬ i < o + (r.length + 1) by omega]
     rw [show o + 1 + r.length + (i - (o + 1 + r.length)) = i by omega, show o + (r.length + 1) + (i - (o + (r.length + 1))) = i by omega, if_neg (by omega)]

/-- Cells laid into an abstract row, and into the model's block. -/
theorem row_lay {cells r vs vs' : List Value} {C C' : Array Value} {dl o : Nat} (hl : lrel m cells ((C.toList.drop dl).take cells.length)) (hb : dl + cells.length ≤ C.size) (h : lay cells o vs = some r) (hv : lrel m vs vs')
  (hC' : C'.toList = C.toList.take (dl + o) ++ vs' ++ C.toList.drop (dl + o + vs'.length)) : C'.size = C.size ∧ r.length = cells.length ∧ lrel m r ((C'.toList.drop dl).take r.length) := by
 obtain ⟨h1, rfl⟩ := lay_some h
 have e1 := hv.1
 have hlen : C'.size = C.size := by
  have := congrArg List.length hC'
  simp at this; omega
 have hrl : (cells.take o ++ vs ++ cells.drop (o + vs.length)).length = cells.length := by simp; omega
 refine ⟨hlen, hrl, ?_⟩
 rw [hrl]
 refine ⟨by rw [hrl]; simp; omega, fun i a b ha hb' => ?_⟩
 rw [List.getElem?_take] at hb'
 split at hb'
 case isFalse => simp at hb'
 rename_i hi
 rw [List.getElem?_drop, hC'] at hb'
 have hcl : C.toList.length = C.size := by simp
 by_cases c1 : i < o
 ·rw [List.append_assoc, List.getElem?_append_left (by simp; omega), List.getElem?_take, if_pos c1] at ha
  rw [List.append_assoc, List.getElem?_append_left (by simp; omega), List.getElem?_take, if_pos (by omega)] at hb'
  refine hl.2 i a b ha ?_
  rw [List.getElem?_take, if_pos (by omega), List.getElem?_drop]; exact hb'
 ·by_cases c2 : i < o + vs.length
  ·rw [List.append_assoc, List.getElem?_append_right (by simp; omega), List.getElem?_append_left (by simp; omega)] at ha
   rw [List.append_assoc, List.getElem?_append_right (by simp; omega), List.getElem?_append_left (by simp; omega)] at hb'
   have e2 : min o cells.length = o := by omega
   have e3 : min (dl + o) C.size = dl + o := by omega
   simp only [List.length_take, e2] at ha
   simp only [List.length_take, hcl, e3] at hb'
   rw [show dl + i - (dl + o) = i - o by omega] at hb'
   exact hv.2 _ a b ha hb'
  ·rw [List.getElem?_append_right (by simp; omega), List.getElem?_drop] at ha
   rw [List.getElem?_append_right (by simp; omega), List.getElem?_drop] at hb'
   simp only [List.length_append, List.length_take] at ha hb'
   rw [hcl] at hb'
   have e2 : min o cells.length = o := by omega
   have e3 : min (dl + o) C.size = dl + o := by omega
   rw [e2] at ha
   rw [e3] at hb'
   refine hl.2 i a b ?_ ?_
   ·rw [← ha]; congr 1; omega
   ·rw [List.getElem?_take, if_pos (by omega), List.getElem?_drop, ← hb']; congr 1; omega

theorem all_oneCell {l l' : List Value} (h : l.all oneCell = true) (r : lrel m l l') : ∀ v ∈ l', v.oneCell' = true := by
 intro v hv
 obtain ⟨i, hi, rfl⟩ := List.getElem_of_mem hv
 have hi' : i < l.length := by rw [r.1]; exact hi
 have := r.2 i l[i] l'[i] (List.getElem?_eq_getElem hi') (List.getElem?_eq_getElem hi)
 exact this.oneCell (by simp at h; exact h _ (List.getElem_mem hi'))

theorem all_append {l k : List Value} (h : l.all oneCell = true) (g : k.all oneCell = true) : (l ++ k).all oneCell = true := by simp_all
theorem all_take {l : List Value} (h : l.all oneCell = true) (n : Nat) : (l.take n).all oneCell = true := by
 rw [List.all_eq_true] at h ⊢; exact fun x hx => h x (List.mem_of_mem_take hx)
theorem all_drop {l : List Value} (h : l.all oneCell = true) (n : Nat) : (l.drop n).all oneCell = true := by
 rw [List.all_eq_true] at h ⊢; exact fun x hx => h x (List.mem_of_mem_drop hx)
theorem all_cut {l r : List Value} {o n : Nat} (h : cut l o n = some r) (g : l.all oneCell = true) : r.all oneCell = true := by
 obtain ⟨_, rfl⟩ := cut_some h; exact all_take (all_drop g o) n
theorem lay_all {l vs r : List Value} {o : Nat} (h : lay l o vs = some r) (g : l.all oneCell = true) (k : vs.all oneCell = true) : r.all oneCell = true := by
 obtain ⟨_, rfl⟩ := lay_some h
 exact all_append (all_append (all_take g o) k) (all_drop g _)
theorem flat_one {v : Value} (h : flat1 v = true) : oneCell v = true := by cases v <;> simp_all [flat1, oneCell]
theorem all_flat {l : List Value} (h : l.all flat1 = true) : l.all oneCell = true := by
 rw [List.all_eq_true] at h ⊢; exact fun x hx => flat_one (h x hx)

/-- Cells laid into a row of the call's own: the model's run, and the step. -/
theorem lay_sim (hr : HR B m H w) {b : Nat} {g : Img} {gr : Bool} {sz : Nat} {cells r vs vs' : List Value} {o : Nat} (hb : wm ≤ b) (hrow : H.get b = some (.row true gr sz cells)) (hg : m b = some g) (h : lay cells o vs = some r) (hv : lrel m vs vs') (h0 : vs.all oneCell = true) :
  (storeCells ⟨g.c, g.dl + o, none⟩ vs').run P w = .ok () (w.setCells g.c (g.dl + o) vs') ∧ Stp B wm m H w m (H.set b (.row true gr sz r)) (w.setCells g.c (g.dl + o) vs') := by
 obtain ⟨k1, k2, k3, hn, C, e, f, hC, hsz, hf, hl⟩ := hr.row hrow hg
 have h1 := all_oneCell h0 hv
 have hle := (lay_some h).1
 have e1 := hv.1
 rw [← hsz] at hn
 have hst := run_storeCells_cells (P := P) g.c (g.dl + o) vs' 0 w (fun j hj => by
   rw [cell_of hC, Array.getElem?_eq_getElem (by omega)]; rfl) (fun j hj => frozen_of hC (hf rfl) (by omega)) h1
 rw [Nat.add_zero] at hst
 obtain ⟨⟨C', hC', ht⟩, s1, s2, s3, s4, s5⟩ := setCells_heap g.c vs' (g.dl + o) w C e f hC (by omega)
 obtain ⟨q1, q2, q3⟩ := row_lay hl hn h hv ht
 refine ⟨hst, Stp.set hr hb (by rw [hrow]; rfl) hg ?_ s1 s2 s3 s4 s5⟩
 exact ⟨k1, k2, by rw [q2]; exact k3, by rw [q2, ← hsz]; exact hn, C', e, f, hC', by rw [q1, hsz], fun _ => by rw [q1]; exact hf rfl, q3, lay_all h (hr.one hrow hg) h0, hr.grow hrow hg, by rw [q1]; exact hr.grOk hrow hg hC⟩

theorem store_sim (hr : HR B m H w) {t : TypeId} {a a' v v' : Value} {H' : AHeap} (ha : vrel m a a') (hv : vrel m v v') (h : aStore P wm H t a v = some H') :
  ∃ w', (Instr.storeAt t a' v').run P w = .ok () w' ∧ Stp B wm m H w m H' w' := by
 unfold aStore at h
 split at h
 case h_2 => simp at h
 case h_1 b o i hi =>
  obtain ⟨x, rfl, hx1, hx2, g, hg, hx3, hx4⟩ := ha.pointer_inv
  obtain ⟨xb, xo, xs⟩ := x
  simp only at hg hx2 hx3 hx4
  subst hx2 hx3 hx4
  split at h
  case isFalse => simp at h
  rename_i hc
  simp only [Bool.and_eq_true, decide_eq_true_eq, beq_iff_eq] at hc
  obtain ⟨⟨hwm, hs⟩, hone⟩ := hc
  split at h
  case h_2 => simp at h
  case h_1 gr sz cells hrow =>
   simp only [Option.map_eq_some_iff] at h
   obtain ⟨r, hlay, rfl⟩ := h
   have hcv := hv.cells
   obtain ⟨h1, h2⟩ := lay_sim (P := P) hr hwm hrow hg hlay hcv hone
   refine ⟨_, ?_, h2⟩
   have hsz : v'.cells.size = i.size := by have := hcv.1; simp at this; omega
   simp [Instr.storeAt, Instr.sureAddr, storeVar, sizeOf, rInfo hi, hsz, h1]

/-- A new row of the call's own. -/
theorem new_sim (hr : HR B m H w) (gr : Bool) (sz : Nat) {cells : List Value} {C : Array Value} (e : TypeId) (f : Nat × Nat) (hl : lrel m cells (C.toList.take cells.length)) (hn : cells.length ≤ C.size) (hf : clearOf f C.size) (h1 : cells.all oneCell = true) (hq : Am.grOk true gr sz f C.size) :
  ∃ m', Stp B wm m H w m' (H.push (.row true gr sz cells)) (w.alloc (.cells C e f)) ∧ m' H.n = some ⟨w.heap.size, 0, cells.length, C.size, sz, true, gr⟩ := by
 refine ⟨_, Stp.push hr (g := ⟨w.heap.size, 0, cells.length, C.size, sz, true, gr⟩) rfl rfl ⟨rfl, rfl, rfl, by simpa using hn, C, e, f, rfl, rfl, fun _ => hf, by simpa using hl, h1, rfl, hq⟩, Map.upd_same _ _ _⟩

theorem clear0 (n : Nat) : clearOf (0, 0) n := fun i _ h => by simp at h

theorem box_sim (hr : HR B m H w) {t : TypeId} {v v' p : Value} {H' : AHeap} (hv : vrel m v v') (h : aBox H v = some (p, H')) : DoneV P B wm m H w p H' (Instr.box t v') := by
 unfold aBox at h
 split at h
 case isFalse => simp at h
 rename_i hone
 simp at h
 obtain ⟨rfl, rfl⟩ := h
 have hc := hv.cells
 have e1 := hc.1
 simp at e1
 obtain ⟨m', hs, hm⟩ := new_sim (wm := wm) hr false v.cells.size (cells := v.cells.toList) (C := v'.cells) t (0, 0) (by rw [List.take_of_length_le (by simp; omega)]; exact hc) (by simp; omega) (clear0 _) hone (grOk0 (by have := hc.1; simp at this; omega))
 refine ⟨.pointer (some ⟨w.heap.size, 0, none⟩), _, m', ?_, .base ⟨rfl, rfl, _, hm, rfl, rfl⟩, hs⟩
 simp [Instr.box, newVar, newRow]

theorem alloc_sim (hr : HR B m H w) {t : TypeId} {z p : Value} {H' : AHeap} (hz : zeroOf P t = some z) (hk : constOk z = true) (h : aBox H z = some (p, H')) : DoneV P B wm m H w p H' (Instr.alloc t true (.tuple #[])) := by
 obtain ⟨v', w', m', h1, h2, h3⟩ := box_sim (P := P) (wm := wm) (t := t) hr (vrel.constOk m hk) h
 refine ⟨v', w', m', ?_, h2, h3⟩
 rw [← h1]
 simp [Instr.alloc, Instr.box, rZero hz]

end ops
end Go.Am

namespace Go.Am
section ops
variable {P : Program} {B wm : Nat} {m : Map} {H : AHeap} {w : World}

theorem fold_size (l : List (Value × Nat)) : ∀ (cs : Array Value) (off : Nat), (l.foldl (fun cs (x : Value × Nat) => cs.setIfInBounds (off + x.2) x.1) cs).size = cs.size := by
 induction l with
 | nil => intro cs off; rfl
 | cons x l ih => intro cs off; rw [List.foldl_cons, ih]; simp

theorem fold_rel {off : Nat} : ∀ (l l' : List (Value × Nat)) (cs cs' : Array Value), lrel m cs.toList cs'.toList → lrel m (l.map (·.1)) (l'.map (·.1)) → l.map (·.2) = l'.map (·.2) →
  lrel m (l.foldl (fun cs (x : Value × Nat) => cs.setIfInBounds (off + x.2) x.1) cs).toList (l'.foldl (fun cs (x : Value × Nat) => cs.setIfInBounds (off + x.2) x.1) cs').toList
 | [], l', cs, cs', h, hr, _ => by
  have : l' = [] := by have := hr.nil_left; simpa using this
  subst this; exact h
 | x :: l, l', cs, cs', h, hr, he => by
  cases l' with
  | nil => simp [lrel] at hr
  | cons y l' =>
   simp only [List.map_cons] at hr he
   obtain ⟨r1, r2⟩ := hr.uncons
   simp only [List.cons.injEq] at he
   simp only [List.foldl_cons]
   refine fold_rel l l' _ _ ?_ r2 he.2
   rw [Array.toList_setIfInBounds, Array.toList_setIfInBounds, he.1]
   exact h.set _ r1

def prel (m : Map) (l l' : List (Nat × Value)) : Prop := l.map (·.1) = l'.map (·.1) ∧ lrel m (l.map (·.2)) (l'.map (·.2))

theorem zipIdx_rel {vs vs' : Array Value} (h : lrel m vs.toList vs'.toList) : lrel m (vs.zipIdx.toList.map (·.1)) (vs'.zipIdx.toList.map (·.1)) ∧ vs.zipIdx.toList.map (·.2) = vs'.zipIdx.toList.map (·.2) := by
 have e1 : vs.size = vs'.size := by have := h.1; simpa using this
 constructor
 ·simpa using h
 ·simp [e1]

theorem fill_rel {place : Nat → Option (Nat × Nat)} : ∀ (ps ps' : List (Nat × Value)) (cs cs' r : Array Value), prel m ps ps' → lrel m cs.toList cs'.toList → Instr.fill place cs ps = some r → ∃ r', Instr.fill place cs' ps' = some r' ∧ lrel m r.toList r'.toList
 | [], ps', cs, cs', r, hp, hc, h => by
  have : ps' = [] := by have := hp.1; simpa using this.symm
  subst this
  simp [Instr.fill] at h; subst h
  exact ⟨cs', rfl, hc⟩
 | (i, v) :: ps, ps', cs, cs', r, hp, hc, h => by
  cases ps' with
  | nil => simp [prel] at hp
  | cons y ps' =>
   obtain ⟨j, v'⟩ := y
   obtain ⟨h1, h2⟩ := hp
   simp only [List.map_cons, List.cons.injEq] at h1 h2
   obtain ⟨r1, r2⟩ := h2.uncons
   obtain ⟨rfl, h1⟩ := h1
   have hcv := r1.cells
   have e1 : v.cells.size = v'.cells.size := by have := hcv.1; simpa using this
   have e2 : cs.size = cs'.size := by have := hc.1; simpa using this
   unfold Instr.fill at h ⊢
   cases hp : place i with
   | none => simp [hp] at h
   | some q =>
    obtain ⟨off, size⟩ := q
    simp only [hp] at h ⊢
    rw [← e1, ← e2]
    split at h
    ·simp at h
    ·rename_i hcond
     rw [if_neg hcond]
     refine fill_rel ps ps' _ _ r ⟨h1, r2⟩ ?_ h
     obtain ⟨z1, z2⟩ := zipIdx_rel hcv
     have := fold_rel (off := off) v.cells.zipIdx.toList v'.cells.zipIdx.toList cs cs' hc z1 z2
     simpa only [Array.foldl_toList] using this

theorem rSizes {fs : List Field} {l : List (Nat × Nat)} (h : sizesOf P fs = some l) : (fs.mapM fun f => Prod.mk f.offset <$> sizeOf f.type : Sem (List (Nat × Nat))).run P w = .ok l w := by
 induction fs generalizing l with
 | nil => simp [sizesOf] at h; subst h; rfl
 | cons f fs ih =>
  unfold sizesOf at h
  split at h
  case h_2 => simp at h
  case h_1 s l' hs hl =>
   simp at h; subst h
   have := ih hl
   simp [List.mapM_cons, rSize hs, this]

theorem rSizesA {fs : Array Field} {l : List (Nat × Nat)} (h : sizesOf P fs.toList = some l) : (fs.mapM fun f => Prod.mk f.offset <$> sizeOf f.type : Sem (Array (Nat × Nat))).run P w = .ok l.toArray w := by
 have := rSizes (w := w) h
 obtain ⟨fs⟩ := fs
 simp only [List.mapM_toArray, Sem.run_map, this, Result.andThen_ok]

theorem build_sim (hr : HR B m H w) {t : TypeId} {ps ps' : List (Nat × Value)} {v : Value} (hp : prel m ps ps') (h : aBuild P t ps = some v) : DoneV P B wm m H w v H (Instr.build t ps'.toArray) := by
 unfold aBuild at h
 split at h
 case h_3 => simp at h
 case h_1 z fields hz hu =>
  split at h
  case isFalse => simp at h
  rename_i hk
  split at h
  case h_2 => simp at h
  case h_1 places hpl =>
   simp only [Option.map_eq_some_iff] at h
   obtain ⟨cs, hf, rfl⟩ := h
   obtain ⟨r', hf', hrel⟩ := fill_rel ps ps' _ _ cs hp (vrel.constOk m hk).cells hf
   refine DoneV.pure hr (v' := .agg r') ?_ (.agg' hrel)
   have e : (fun (i : Nat) => (places.toArray)[i]?) = (fun i => places[i]?) := by funext i; simp
   simp [Instr.build, rZero hz, rUnd hu, rSizesA hpl, hf']
 case h_2 z n elem hz hu =>
  split at h
  case isFalse => simp at h
  rename_i hk
  split at h
  case h_2 => simp at h
  case h_1 size hs =>
   simp only [Option.map_eq_some_iff] at h
   obtain ⟨cs, hf, rfl⟩ := h
   obtain ⟨r', hf', hrel⟩ := fill_rel ps ps' _ _ cs hp (vrel.constOk m hk).cells hf
   refine DoneV.pure hr (v' := .agg r') ?_ (.agg' hrel)
   simp [Instr.build, rZero hz, rUnd hu, rSize hs, hf']

theorem zeros_rel {z : Value} (hk : constOk z = true) (n : Nat) (hz : 0 < z.cells.size) : lrel m (zeros z n).toList (zeros z n).toList := by
 have hc := (vrel.constOk m hk).cells
 refine ⟨rfl, fun i a b ha hb => ?_⟩
 rw [ha] at hb; simp at hb; subst hb
 simp only [zeros, Array.getElem?_toList, Array.getElem?_map, Array.getElem?_range] at ha
 split at ha
 case isFalse => simp at ha
 simp at ha
 have hi : i % z.cells.size < z.cells.size := Nat.mod_lt _ hz
 have hg : z.cells.toList[i % z.cells.size]? = some a := by
  rw [← ha, getElem!_pos z.cells _ hi]; simp [hi]
 exact hc.2 _ a a hg hg

theorem zeros_one {z : Value} (hk : constOk z = true) (n : Nat) (hz : 0 < z.cells.size) : (zeros z n).toList.all oneCell = true := by
 have hall : z.cells.toList.all flat1 = true := by
  cases z <;> simp [constOk, Value.cells] at hk ⊢ <;> first | exact hk | simp_all [flat1]
 rw [List.all_eq_true] at hall ⊢
 intro x hx
 obtain ⟨i, hi, rfl⟩ := List.getElem_of_mem hx
 have hlt : i % z.cells.size < z.cells.size := Nat.mod_lt _ hz
 refine flat_one (hall _ ?_)
 simp only [zeros, Array.getElem_toList, Array.getElem_map, Array.getElem_range]
 rw [getElem!_pos z.cells _ hlt]
 simp

theorem range0' (f : Nat → Value) : (Array.range 0).map f = #[] := by apply Array.ext'; simp

theorem buildSlice_sim (hr : HR B m H w) {t : TypeId} {n : Nat} {ps ps' : List (Nat × Value)} {v : Value} {H' : AHeap} (hp : prel m ps ps') (h : aBuildSlice P H t n ps = some (v, H')) : DoneV P B wm m H w v H' (Instr.buildSlice t n ps'.toArray) := by
 unfold aBuildSlice at h
 split at h
 case h_2 => simp at h
 case h_1 elem hu =>
  split at h
  case h_2 => simp at h
  case h_1 size z hs hz =>
   split at h
   case isFalse => simp at h
   rename_i hc
   simp only [Bool.and_eq_true, decide_eq_true_eq, beq_iff_eq] at hc
   obtain ⟨⟨⟨h24, hk⟩, hzs⟩, hpos⟩ := hc
   split at h
   case h_2 => simp at h
   case h_1 cs hf =>
    split at h
    case isFalse => simp at h
    rename_i hone
    simp at h
    obtain ⟨rfl, rfl⟩ := h
    obtain ⟨r', hf', hrel⟩ := fill_rel ps ps' _ _ cs hp (zeros_rel hk _ (by omega)) hf
    have e1 : cs.size = r'.size := by have := hrel.1; simpa using this
    have hlen : cs.size = n * size := by
     have key : ∀ (ps : List (Nat × Value)) (place : Nat → Option (Nat × Nat)) (c0 c1 : Array Value), Instr.fill place c0 ps = some c1 → c1.size = c0.size := by
      intro ps place
      induction ps with
      | nil => intro c0 c1 h; simp [Instr.fill] at h; rw [h]
      | cons p ps ih =>
       intro c0 c1 h
       obtain ⟨i, v⟩ := p
       unfold Instr.fill at h
       split at h
       ·simp at h
       ·split at h
        ·simp at h
        ·rw [ih _ _ h, ← Array.foldl_toList, fold_size]
     rw [key _ _ _ _ hf]; simp [zeros]
    obtain ⟨m', hst, hm⟩ := new_sim (wm := wm) hr false size (cells := cs.toList) (C := r') elem (0, 0) (by rw [List.take_of_length_le (by simp; omega)]; exact hrel) (by simp; omega) (clear0 _) hone (grOk0 (by rw [← e1, hlen]; have h5 : 9223372036854775807 * 1 ≤ 9223372036854775807 * size := Nat.mul_le_mul_left _ hpos; omega))
    refine ⟨.slice (some ⟨w.heap.size, 0, none⟩) n n, _, m', ?_, .base (.inl ⟨rfl, rfl, rfl, Nat.le_refl _, Nat.le_refl _, _, hm, rfl, ?_, ?_, fun _ => rfl, fun _ => rfl⟩), hst⟩
    ·unfold zeros at hf'
     have h24' : ¬ (2 ^ 24 < n * size) := by omega
     by_cases h0 : n * size = 0
     ·rw [h0, range0'] at hf'
      simp [Instr.buildSlice, rUnd hu, rSize hs, h24', h0, newRow, range0', hf']
     ·simp [Instr.buildSlice, rUnd hu, rSize hs, h24', h0, newRow, rZero hz, hf']
    ·simp [hlen]
    ·simp [← e1, hlen]

theorem range0 (f : Nat → Value) : (Array.range 0).map f = #[] := by apply Array.ext'; simp

theorem makeSlice_sim (hr : HR B m H w) {t : TypeId} {l l' c c' v : Value} {H' : AHeap} (hl : vrel m l l') (hc : vrel m c c') (h : aMakeSlice P H t l c = some (v, H')) : DoneV P B wm m H w v H' (Instr.makeSlice t l' c') := by
 unfold aMakeSlice at h
 split at h
 case h_2 => simp at h
 case h_1 elem l c hu =>
  obtain rfl := hl.int_inv
  obtain rfl := hc.int_inv
  split at h
  case h_2 => simp at h
  case h_1 i hi =>
   split at h
   case h_2 => simp at h
   case h_1 z hz =>
    split at h
    case isFalse => simp at h
    rename_i hcond
    simp only [Bool.and_eq_true, decide_eq_true_eq, beq_iff_eq] at hcond
    obtain ⟨⟨hk, hzs⟩, hpos⟩ := hcond
    split at h
    case isFalse => simp at h
    rename_i hb
    obtain ⟨h1, h2, h3, h4⟩ := hb
    simp at h
    obtain ⟨rfl, rfl⟩ := h
    have hw1 : IntKind.i64.wrap l = l := by rw [IntKind.wrap_i64]; omega
    have hw2 : IntKind.i64.wrap c = c := by rw [IntKind.wrap_i64]; omega
    have hn : (zeros z (c.toNat * i.size)).size = c.toNat * i.size := by simp [zeros]
    obtain ⟨m', hst, hm⟩ := new_sim (wm := wm) hr false i.size (cells := (zeros z (c.toNat * i.size)).toList) (C := zeros z (c.toNat * i.size)) elem (0, 0) (by rw [List.take_of_length_le (by simp)]; exact zeros_rel hk _ (by omega)) (by simp) (clear0 _) (zeros_one hk _ (by omega)) (grOk0 (by rw [hn]; exact Nat.mul_le_mul_right _ (by omega)))
    refine ⟨.slice (some ⟨w.heap.size, 0, none⟩) l.toNat c.toNat, _, m', ?_, .base (.inl ⟨rfl, rfl, rfl, by omega, Nat.le_refl _, _, hm, rfl, ?_, ?_, fun _ => rfl, fun _ => rfl⟩), hst⟩
    ·have hzr : (zeroValue elem).run P w = .ok z w := rZero (by simp [zeroOf, hi, hz])
     have hs : (sizeOf elem).run P w = .ok i.size w := rSize (by simp [sizeOf', hi])
     have t1 : (decide (c < 0) || decide ((i.bytes : Int) * c > 2 ^ 48)) = false := by simp; omega
     have t2 : ¬ (c < 0) := by omega
     have t3 : ¬ (281474976710656 < (i.bytes : Int) * c) := by omega
     have t4 : ¬ (l < 0) := by omega
     have t5 : ¬ (c < l) := by omega
     by_cases h0 : c.toNat * i.size = 0
     ·simp [Instr.makeSlice, rUnd hu, asInt, asIntOf, rInfo hi, hw1, hw2, t2, t3, t4, t5, hs, h0, newRow, zeros, range0]
     ·simp [Instr.makeSlice, rUnd hu, asInt, asIntOf, rInfo hi, hw1, hw2, t2, t3, t4, t5, hs, h0, newRow, hzr, zeros]
    ·simp [hn]
    ·simp [hn]
end ops
end Go.Am

namespace Go.Am

def ovrel (m : Map) : Option Value → Option Value → Prop
 | none, none => True
 | some a, some b => vrel m a b
 | _, _ => False

section ops
variable {P : Program} {B wm : Nat} {m : Map} {H : AHeap} {w : World}

theorem bnd_eq {y : Nat} {o o' : Option Value} {r : Option Nat} (h : bnd y o = some r) (ho : ovrel m o o') : o' = o := by
 cases o with
 | none => cases o' with
  | none => rfl
  | some _ => exact ho.elim
 | some v =>
  cases o' with
  | none => exact ho.elim
  | some v' =>
   cases v <;> simp [bnd] at h
   rw [vrel.int_inv ho]

theorem bnd_run {y y' : Nat} {v : Value} {r : Option Nat} (h : bnd y (some v) = some r) (hy : y ≤ y') (code : BoundsCode) : ∃ i, r = some i ∧ i ≤ y ∧ (Instr.sliceBound v y' code).run P w = .ok i w := by
 cases v <;> simp [bnd] at h
 rename_i k n
 obtain ⟨⟨h1, h2⟩, rfl⟩ := h
 refine ⟨_, rfl, by omega, ?_⟩
 have : n ≤ (y' : Int) := by omega
 simp [Instr.sliceBound, asIntOf, h1, this]

theorem bounds_run {isSlice : Bool} {len cap cap' : Nat} {lo hi mx : Option Value} {mo ho lo' : Option Nat} (hm : bnd cap mx = some mo) (hh : bnd (mo.getD cap) hi = some ho) (hl : bnd (ho.getD len) lo = some lo') (hx : (mo.isSome && hi.isNone) = false) (hc : cap ≤ cap') :
  (Instr.sliceBounds isSlice len cap' lo hi mx).run P w = .ok (lo'.getD 0, ho.getD len, mo.getD cap') w ∧ mo.getD cap ≤ cap ∧ (∀ i, mo = some i → mo.getD cap' = mo.getD cap) ∧ (∀ i, ho = some i → ho.getD len ≤ mo.getD cap) ∧ lo'.getD 0 ≤ ho.getD len ∧ (ho = none → mo = none) := by
 unfold Instr.sliceBounds
 cases mx with
 | none =>
  simp [bnd] at hm; subst hm
  cases hi with
  | none =>
   simp [bnd] at hh; subst hh
   cases lo with
   | none => simp [bnd] at hl; subst hl; simp
   | some v =>
    obtain ⟨i, rfl, hi, hr⟩ := bnd_run (P := P) (w := w) (y' := len) hl (Nat.le_refl _) .sliceB
    simp at hi
    simp [hr, hi]
  | some v =>
   obtain ⟨i, rfl, hi, hr⟩ := bnd_run (P := P) (w := w) (y' := cap') hh (by simpa using hc) (if isSlice then .sliceAcap else .sliceAlen)
   simp at hi
   cases lo with
   | none => simp [bnd] at hl; subst hl; simp [hr, hi]
   | some v =>
    obtain ⟨j, rfl, hj, hs⟩ := bnd_run (P := P) (w := w) (y' := i) hl (Nat.le_refl _) .sliceB
    simp at hj
    simp [hr, hs, hi, hj]
 | some u =>
  obtain ⟨k, rfl, hk, hrk⟩ := bnd_run (P := P) (w := w) (y' := cap') hm hc (if isSlice then .slice3Acap else .slice3Alen)
  cases hi with
  | none => simp at hx
  | some v =>
   obtain ⟨i, rfl, hi, hr⟩ := bnd_run (P := P) (w := w) (y' := k) hh (Nat.le_refl _) .slice3B
   simp at hi
   cases lo with
   | none => simp [bnd] at hl; subst hl; simp [hrk, hr, hi, hk]
   | some v =>
    obtain ⟨j, rfl, hj, hs⟩ := bnd_run (P := P) (w := w) (y' := i) hl (Nat.le_refl _) .slice3C
    simp at hj
    simp [hrk, hr, hs, hi, hj, hk]

theorem add_addr (c off n : Nat) : (⟨c, off, none⟩ : Addr).add n = ⟨c, off + n, none⟩ := by unfold Addr.add; split <;> simp_all

theorem slice_sim (hr : HR B m H w) {t : TypeId} {x x' v : Value} {lo lo' hi hi' mx mx' : Option Value} (hx : vrel m x x') (hlo : ovrel m lo lo') (hhi : ovrel m hi hi') (hmx : ovrel m mx mx') (h : aSlice P H t x lo hi mx = some v) :
  DoneV P B wm m H w v H (Instr.sliceAt t x' lo' hi' mx') := by
 unfold aSlice at h
 split at h
 case h_3 => simp at h
 case h_1 s hu =>
  obtain rfl := hx.string_inv
  split at h
  ·simp at h
  ·obtain rfl : mx' = none := by cases mx' with | none => rfl | some _ => exact hmx.elim
   split at h
   case h_2 => simp at h
   case h_1 ho hho =>
    split at h
    case h_2 => simp at h
    case h_1 l hl =>
     simp at h; subst h
     obtain rfl := bnd_eq hho hhi
     obtain rfl := bnd_eq hl hlo
     obtain ⟨h1, _⟩ := bounds_run (P := P) (w := w) (isSlice := false) (len := s.size) (cap := s.size) (cap' := s.size) (mx := none) (mo := none) rfl hho hl rfl (Nat.le_refl _)
     refine DoneV.pure hr (v' := .string _) ?_ (.base rfl)
     simp [Instr.sliceAt, Instr.slice, rUnd hu, h1]
 case h_2 elem a len cap hu =>
  split at h
  case h_1 => simp at h
  case h_2 size hs =>
   split at h
   case h_1 => simp at h
   case h_2 mo hmo =>
    split at h
    case isTrue => simp at h
    rename_i hcond
    split at h
    case h_1 => simp at h
    case h_2 ho hho =>
     split at h
     case h_1 => simp at h
     case h_2 l hl =>
      obtain rfl := bnd_eq hmo hmx
      obtain rfl := bnd_eq hho hhi
      obtain rfl := bnd_eq hl hlo
      have hcond' : (mo.isSome && hi'.isNone) = false := by rw [← Bool.not_eq_true]; exact hcond
      split at h
      ·simp at h; subst h
       obtain ⟨rfl, rfl, rfl⟩ := hx.snil_inv
       obtain ⟨h1, h2, h3, h4, h5, h6⟩ := bounds_run (P := P) (w := w) (isSlice := true) (len := 0) (cap := 0) (cap' := 0) hmo hho hl hcond' (Nat.le_refl _)
       refine DoneV.pure hr (v' := .slice none (ho.getD 0 - l.getD 0) (mo.getD 0 - l.getD 0)) ?_ ?_
       ·simp [Instr.sliceAt, Instr.slice, rUnd hu, rSize hs, h1]
       ·have e1 : ho.getD 0 = 0 := by
         cases ho with
         | none => rfl
         | some i => have := h4 i rfl; simp at this h2 ⊢; omega
        have e2 : mo.getD 0 = 0 := by omega
        rw [e1, e2]
        exact .base ⟨by simp, by simp, by simp, by simp⟩
      ·rename_i b o
       split at h
       case h_2 => simp at h
       case h_1 own gr sz cells hrow =>
        split at h
        case isFalse => simp at h
        rename_i hsz
        subst hsz
        simp at h; subst h
        obtain ⟨a', cap', rfl, ⟨k1, k2, k3, k4, k5, g, hg, k6, k7, k8, k9, k10⟩ | ⟨k1, rfl, rfl, _, rfl⟩⟩ := hx.slice_inv
        rotate_left
        ·obtain ⟨h1, h2, h3, h4, h5, h6⟩ := bounds_run (P := P) (w := w) (isSlice := true) (len := 0) (cap := 0) (cap' := 0) hmo hho hl hcond' (Nat.le_refl _)
         have e1 : ho.getD 0 = 0 := by
          cases ho with
          | none => rfl
          | some i => have := h4 i rfl; simp at this h2 ⊢; omega
         have e2 : mo.getD 0 = 0 := by omega
         have e3 : l.getD 0 = 0 := by omega
         refine DoneV.pure hr (v' := .slice (some a') 0 0) ?_ ?_
         ·simp [Instr.sliceAt, Instr.slice, rUnd hu, rSize hs, h1, e1, e2, e3]
         ·rw [e1, e2, e3]
          exact .base (.inr ⟨rfl, rfl, rfl, rfl, rfl⟩)
        obtain ⟨ab, ao, as⟩ := a'
        simp only at hg k2 k6 k7 k8 k9 k10
        subst k2 k6
        obtain ⟨_, g2, _, _⟩ := hr.row hrow hg
        obtain ⟨h1, h2, h3, h4, h5, h6⟩ := bounds_run (P := P) (w := w) (isSlice := true) (len := len) (cap := cap) (cap' := cap') hmo hho hl hcond' k5
        have hhm : ho.getD len ≤ mo.getD cap := by
         cases ho with
         | none => rw [h6 rfl]; exact k4
         | some i => exact h4 i rfl
        have hmm : mo.getD cap ≤ mo.getD cap' := by
         cases mo with
         | none => exact k5
         | some i => exact Nat.le_refl _
        have hmc : mo.getD cap' ≤ cap' := by
         cases mo with
         | none => exact Nat.le_refl _
         | some i => exact Nat.le_trans h2 k5
        generalize hM : mo.getD cap = M at *
        generalize hM' : mo.getD cap' = M' at *
        generalize hL : l.getD 0 = L at *
        generalize hh' : ho.getD len = hh at *
        have hLM : L ≤ M := Nat.le_trans h5 hhm
        have n1 : L * sz + (M - L) * sz = M * sz := by rw [← Nat.add_mul]; congr 1; omega
        have n2 : L * sz + (M' - L) * sz = M' * sz := by rw [← Nat.add_mul]; congr 1; omega
        have n3 : M * sz ≤ cap * sz := Nat.mul_le_mul_right _ h2
        have n4 : M' * sz ≤ cap' * sz := Nat.mul_le_mul_right _ hmc
        refine DoneV.pure hr (v' := .slice (some ⟨g.c, if M' = L then ao else ao + L * sz, none⟩) (hh - L) (M' - L)) ?_ ?_
        ·by_cases hML : M' = L
         ·simp [Instr.sliceAt, Instr.slice, rUnd hu, rSize hs, h1, hML]
         ·simp [Instr.sliceAt, Instr.slice, rUnd hu, rSize hs, h1, hML, add_addr]
        ·refine .base (.inl ⟨rfl, rfl, rfl, by omega, by omega, g, hg, rfl, ?_, ?_, ?_, ?_⟩)
         ·rw [g2] at k7 ⊢; simp only; omega
         ·rw [g2] at k8 ⊢
          simp only
          by_cases hML : M' = L
          ·simp [hML]; omega
          ·simp [hML]; omega
         ·intro hpos
          simp only
          rw [if_neg (by omega), k9 (by omega)]; omega
         ·intro hex
          cases mo with
          | some i => simp at hM hM'; omega
          | none =>
           simp at hM hM'
           subst hM hM'
           rw [k10 ?_]
           rcases hex with hex | hex
           ·exact .inl hex
           ·refine .inr ?_
            rw [g2] at hex ⊢
            simp only at hex; omega
      ·simp at h

theorem fieldAddr_sim (hr : HR B m H w) {t : TypeId} {x x' v : Value} {i : Nat} (hx : vrel m x x') (h : aFieldAddr P t x i = some v) : DoneV P B wm m H w v H (Instr.fieldAt t x' i) := by
 unfold aFieldAddr at h
 split at h
 case h_2 => simp at h
 case h_1 fields b o hu =>
  obtain ⟨y, rfl, hx1, hx2, g, hg, hx3, hx4⟩ := hx.pointer_inv
  obtain ⟨yb, yo, ys⟩ := y
  simp only at hg hx2 hx3 hx4
  subst hx2 hx3 hx4
  split at h
  case h_2 => simp at h
  case h_1 f hf =>
   split at h
   case h_2 => simp at h
   case h_1 s hs =>
    split at h
    ·simp at h
    ·rename_i hs0
     simp at h; subst h
     refine DoneV.pure hr (v' := .pointer (some ⟨g.c, g.dl + o + f.offset, none⟩)) ?_ (.base ⟨rfl, rfl, g, hg, rfl, by simp; omega⟩)
     simp [Instr.fieldAt, rUnd hu, hf, Instr.sureAddr, fieldPlace, rSize hs, hs0, add_addr]

theorem part_sim (hr : HR B m H w) {t : TypeId} {cs : List Value} {cs' : Array Value} {off : Nat} {v : Value} (hc : lrel m cs cs'.toList) (h : aPart P t cs off = some v) : DoneV P B wm m H w v H (part t cs' off) := by
 unfold aPart at h
 split at h
 case h_2 => simp at h
 case h_1 d hd =>
  cases hag : isAggD d with
  | true =>
   rw [hag] at h
   simp only [if_true] at h
   split at h
   case h_2 => simp at h
   case h_1 s hs =>
    simp only [Option.map_eq_some_iff] at h
    obtain ⟨r, hcut, rfl⟩ := h
    obtain ⟨h1, rfl⟩ := cut_some hcut
    refine DoneV.pure hr (v' := .agg (cs'.extract off (off + s))) ?_ (.agg' ?_)
    ·simp [part, rAgg hd, hag, rSize hs]
    ·have := (hc.drop off).take s
     simpa [List.extract] using this
  | false =>
   rw [hag] at h
   simp only [Bool.false_eq_true, if_false] at h
   obtain ⟨v', hv', hvr⟩ := hc.get h
   refine DoneV.pure hr (v' := v') ?_ hvr
   have : cs'[off]? = some v' := by simpa using hv'
   simp [part, rAgg hd, hag, this]

theorem field_sim (hr : HR B m H w) {t : TypeId} {x x' v : Value} {i : Nat} (hx : vrel m x x') (h : aField P t x i = some v) : DoneV P B wm m H w v H (Instr.field t x' i) := by
 unfold aField at h
 split at h
 case h_2 => simp at h
 case h_1 fields cs hu =>
  obtain ⟨cs', rfl, hc⟩ := hx.agg_inv
  split at h
  case h_2 => simp at h
  case h_1 f hf =>
   obtain ⟨v', w', m', h1, h2, h3⟩ := part_sim (P := P) (wm := wm) hr hc h
   refine ⟨v', w', m', ?_, h2, h3⟩
   simp [Instr.field, rUnd hu, hf, asAgg, h1]

theorem indexAddr_sim (hr : HR B m H w) {t : TypeId} {x x' i i' v : Value} (hx : vrel m x x') (hi : vrel m i i') (h : aIndexAddr P t x i = some v) : DoneV P B wm m H w v H (Instr.indexAt t x' i') := by
 unfold aIndexAddr at h
 split at h
 case h_3 => simp at h
 case h_1 elem b o len cap k n hu =>
  obtain rfl := hi.int_inv
  obtain ⟨a', cap', rfl, ⟨k1, k2, k3, k4, k5, g, hg, k6, k7, k8, k9, k10⟩ | ⟨k1, rfl, rfl, _, rfl⟩⟩ := hx.slice_inv
  rotate_left
  ·split at h
   ·split at h
    ·omega
    ·simp at h
   ·simp at h
  obtain ⟨ab, ao, as⟩ := a'
  simp only at hg k2 k6 k9
  subst k2 k6
  split at h
  case h_2 => simp at h
  case h_1 size hs =>
   split at h
   case isFalse => simp at h
   rename_i hb
   simp at h; subst h
   have k11 := k9 (by omega)
   refine DoneV.pure hr (v' := .pointer (some ⟨g.c, ao + n.toNat * size, none⟩)) ?_ (.base ⟨rfl, rfl, g, hg, rfl, by simp; omega⟩)
   simp [Instr.indexAt, asIntOf, rUnd hu, hb, rSize hs, add_addr]
 case h_2 len elem b o k n hu =>
  obtain rfl := hi.int_inv
  obtain ⟨y, rfl, hx1, hx2, g, hg, hx3, hx4⟩ := hx.pointer_inv
  obtain ⟨yb, yo, ys⟩ := y
  simp only at hg hx2 hx3 hx4
  subst hx2 hx3 hx4
  split at h
  case h_2 => simp at h
  case h_1 size hs =>
   split at h
   case isFalse => simp at h
   rename_i hb
   simp at h; subst h
   refine DoneV.pure hr (v' := .pointer (some ⟨g.c, g.dl + o + n.toNat * size, none⟩)) ?_ (.base ⟨rfl, rfl, g, hg, rfl, by simp; omega⟩)
   simp [Instr.indexAt, asIntOf, rUnd hu, hb, rSize hs, add_addr, Instr.sureAddr]

theorem index_sim (hr : HR B m H w) {t : TypeId} {x x' i i' v : Value} (hx : vrel m x x') (hi : vrel m i i') (h : aIndex P t x i = some v) : DoneV P B wm m H w v H (Instr.index t x' i') := by
 unfold aIndex at h
 split at h
 case h_3 => simp at h
 case h_1 len elem cs k n hu =>
  obtain rfl := hi.int_inv
  obtain ⟨cs', rfl, hc⟩ := hx.agg_inv
  split at h
  case h_2 => simp at h
  case h_1 size hs =>
   split at h
   case isFalse => simp at h
   rename_i hb
   obtain ⟨v', w', m', h1, h2, h3⟩ := part_sim (P := P) (wm := wm) hr hc h
   refine ⟨v', w', m', ?_, h2, h3⟩
   simp [Instr.index, asIntOf, rUnd hu, hb, rSize hs, h1]
 case h_2 s k n hu =>
  obtain rfl := hi.int_inv
  obtain rfl := hx.string_inv
  split at h
  case isFalse => simp at h
  rename_i hb
  split at h
  case h_2 => simp at h
  case h_1 c hc =>
   simp at h; subst h
   refine DoneV.pure hr (v' := .int .u8 c.toNat) ?_ (.base ⟨rfl, rfl⟩)
   simp [Instr.index, asIntOf, rUnd hu, hb, hc]
end ops
end Go.Am
