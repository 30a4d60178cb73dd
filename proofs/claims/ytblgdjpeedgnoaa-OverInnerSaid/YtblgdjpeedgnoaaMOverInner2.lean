/- OverInner: what the code that the law reaches computes, as plain functions; and that the law comes to true. -/
import Derived.Test.YtblgdjpeedgnoaaMOverInner
set_option maxHeartbeats 4000000
set_option linter.unusedVariables false
set_option linter.unusedSimpArgs false
set_option maxRecDepth 100000
open Go Go.Am
namespace Go.Proofs.Ytblgdjpeedgnoaa.overInner
theorem wu8i {n : Int} (h : (Lit.int .u8 n).wf = true) : 0 ≤ n ∧ n ≤ 255 := by
 have h2 : (decide (IntKind.u8.min ≤ n) && decide (n ≤ IntKind.u8.max)) = true := h
 rw [show IntKind.u8.min = 0 by decide, show IntKind.u8.max = 255 by decide] at h2
 simpa using h2
theorem mat_right {r k : Nat} {D : List Int} (hr : r ≤ 100) (hk : k ≤ 100) (hD : D.length = r * k) : vRight ⟨false, [(r : Int), (k : Int)], D⟩ = true := by
 have hm := mul_small 100 100 hr hk
 refine vRight_iff.mpr ⟨⟨by simp, ?_, ?_⟩, ?_, by simp⟩
 ·intro x hx
  simp only [List.mem_cons, List.not_mem_nil, or_false] at hx
  rcases hx with rfl | rfl <;> omega
 ·simp only [prod]
  have : (r : Int) * ((k : Int) * 1) = ((r * k : Nat) : Int) := by simp
  rw [this]; omega
 ·simp only [prod]
  rw [hD]; simp
def plS (i : Int) : Am.Place := ⟨false, ⟨false, [], [i]⟩⟩
def plA : Am.Place := ⟨true, ⟨false, [], []⟩⟩
theorem plS_idx {i r : Nat} (h : i < r) : plIdx (plS ((i : Int) + 1)) (r : Int) = ([(i : Int)], 0) := by
 unfold plIdx plS
 simp only [Bool.false_eq_true, if_false, Bool.false_and, List.any_cons, List.any_nil, Bool.or_false, List.map_cons, List.map_nil]
 rw [if_neg (by simp; omega)]
 congr 2
 omega
theorem plA_idx (k : Nat) : plIdx plA (k : Int) = (up k, 0) := by
 unfold plIdx plA; simp
theorem plS_good (i : Int) : plBad (plS i) = false := by
 unfold plBad plS
 rw [sca_right]; rfl
theorem pl2_ok (p q : Am.Place) (hp : p.V.Data.length ≤ 1000 ∧ p.V.Shape.length ≤ 10) (hq : q.V.Data.length ≤ 1000 ∧ q.V.Shape.length ≤ 10) : plOk [p, q] := by
 refine ⟨by simp, fun x hx => ?_⟩
 simp only [List.mem_cons, List.not_mem_nil, or_false] at hx
 rcases hx with rfl | rfl
 ·exact hp
 ·exact hq
theorem row_get {r k i : Nat} {D : List Int} (hr : r ≤ 100) (hk : k ≤ 100) (hD : D.length = r * k) (hi : i < r) :
  M.index_Get ⟨false, [(r : Int), (k : Int)], D⟩ [plS ((i : Int) + 1), plA] = some (⟨false, [(k : Int)], vls (fun x => (D[i * k + x]?).getD 0) k⟩, 0) := by
 have hm := mul_small 100 100 hr hk
 rw [get_eq (by show D.length ≤ _; omega) (pl2_ok _ _ (by simp [plS]) (by simp [plA]))]
 have hl : allLens [plS ((i : Int) + 1), plA] [(r : Int), (k : Int)] = [(k : Int)] := rfl
 have hs : shOk [(k : Int)] := vec_ok (by omega)
 have hf : ixFinds ⟨false, [(r : Int), (k : Int)], D⟩ [plS ((i : Int) + 1), plA] = (⟨[(k : Int)], offs [(r : Int), (k : Int)] [[(i : Int)], up k] (if prod [(k : Int)] = 0 then [] else [0])⟩, 0) := by
  have h1 : ixShaped ⟨false, [(r : Int), (k : Int)], D⟩ [plS ((i : Int) + 1), plA] = ([(k : Int)], 0) := by
   unfold ixShaped
   rw [if_neg (by rw [mat_right hr hk hD]; simp only [List.any_cons, List.any_nil, plS_good]; decide), if_neg (by simp), hl, if_neg (by simp)]
  unfold ixFinds
  rw [h1, if_neg (by simp)]
  have h2 : ixErr [plS ((i : Int) + 1), plA] [(r : Int), (k : Int)] = 0 := by
   simp only [ixErr, plS_idx hi, plA_idx]; rfl
  have h3 : ixAll [plS ((i : Int) + 1), plA] [(r : Int), (k : Int)] = [[(i : Int)], up k] := by
   simp only [ixAll, plS_idx hi, plA_idx]
  simp only []
  rw [h2, if_neg (nn rfl), hl, if_neg (nn hs), h3]
 unfold ixGet
 rw [hf, if_neg (nn rfl)]
 congr 3
 by_cases h0 : k = 0
 ·subst h0; rfl
 rw [if_neg (by simp [prod]; omega)]
 simp only [offs, cross, List.flatMap_cons, List.flatMap_nil, List.map_cons, List.map_nil, List.append_nil]
 unfold vls up
 rw [List.map_map, List.map_map]
 refine List.map_congr_left fun x _ => ?_
 show (D[((0 * (r : Int) + (i : Int)) * (k : Int) + (x : Int)).toNat]?).getD 0 = _
 have e : ((0 * (r : Int) + (i : Int)) * (k : Int) + (x : Int)).toNat = i * k + x := by
  rw [Int.zero_mul, Int.zero_add]
  have : (i : Int) * (k : Int) + (x : Int) = ((i * k + x : Nat) : Int) := by simp
  rw [this]; exact Int.toNat_natCast _
 rw [e]
theorem col_get {k c j : Nat} {D : List Int} (hk : k ≤ 100) (hc : c ≤ 100) (hD : D.length = k * c) (hj : j < c) :
  M.index_Get ⟨false, [(k : Int), (c : Int)], D⟩ [plA, plS ((j : Int) + 1)] = some (⟨false, [(k : Int)], vls (fun x => (D[x * c + j]?).getD 0) k⟩, 0) := by
 have hm := mul_small 100 100 hk hc
 rw [get_eq (by show D.length ≤ _; omega) (pl2_ok _ _ (by simp [plA]) (by simp [plS]))]
 have hl : allLens [plA, plS ((j : Int) + 1)] [(k : Int), (c : Int)] = [(k : Int)] := rfl
 have hs : shOk [(k : Int)] := vec_ok (by omega)
 have hf : ixFinds ⟨false, [(k : Int), (c : Int)], D⟩ [plA, plS ((j : Int) + 1)] = (⟨[(k : Int)], offs [(k : Int), (c : Int)] [up k, [(j : Int)]] (if prod [(k : Int)] = 0 then [] else [0])⟩, 0) := by
  have h1 : ixShaped ⟨false, [(k : Int), (c : Int)], D⟩ [plA, plS ((j : Int) + 1)] = ([(k : Int)], 0) := by
   unfold ixShaped
   rw [if_neg (by rw [mat_right hk hc hD]; simp only [List.any_cons, List.any_nil, plS_good]; decide), if_neg (by simp), hl, if_neg (by simp)]
  unfold ixFinds
  rw [h1, if_neg (by simp)]
  have h2 : ixErr [plA, plS ((j : Int) + 1)] [(k : Int), (c : Int)] = 0 := by
   simp only [ixErr, plS_idx hj, plA_idx]; rfl
  have h3 : ixAll [plA, plS ((j : Int) + 1)] [(k : Int), (c : Int)] = [up k, [(j : Int)]] := by
   simp only [ixAll, plS_idx hj, plA_idx]
  simp only []
  rw [h2, if_neg (nn rfl), hl, if_neg (nn hs), h3]
 unfold ixGet
 rw [hf, if_neg (nn rfl)]
 congr 3
 by_cases h0 : k = 0
 ·subst h0; rfl
 rw [if_neg (by simp [prod]; omega)]
 simp only [offs, cross, List.flatMap_cons, List.flatMap_nil, List.map_cons, List.map_nil, List.append_nil]
 unfold vls up
 rw [List.map_map, ← List.map_eq_flatMap, List.map_map, List.map_map]
 refine List.map_congr_left fun x _ => ?_
 show (D[((0 * (k : Int) + (x : Int)) * (c : Int) + (j : Int)).toNat]?).getD 0 = _
 have e : ((0 * (k : Int) + (x : Int)) * (c : Int) + (j : Int)).toNat = x * c + j := by
  rw [Int.zero_mul, Int.zero_add]
  have : (x : Int) * (c : Int) + (j : Int) = ((x * c + j : Nat) : Int) := by simp
  rw [this]; exact Int.toNat_natCast _
 rw [e]
def cyc (l : List Int) (n : Nat) : List Int := vls (fun i => (l[i % l.length]?).getD 0) n
theorem cyc_rng {l : List Int} {n : Nat} (h0 : 0 < l.length) (h : ∀ x ∈ l, rng x) : ∀ x ∈ cyc l n, rng x := by
 intro x hx
 obtain ⟨i, _, rfl⟩ := List.mem_map.mp hx
 rw [List.getElem?_eq_getElem (Nat.mod_lt i h0)]
 exact h _ (List.getElem_mem _)
theorem inner_L1 {rows n : Int} {x : List Int} {r k : Nat} (h0 : 0 < x.length) (hx : x.length ≤ maxLen) (hr : r ≤ 5) (hk : k ≤ 5) (er : IntKind.i64.wrap (Int.tmod rows 6) = (r : Int)) (ek : IntKind.i64.wrap (Int.tmod n 6) = (k : Int)) :
  wloop (M.anamnesislaw12_OverInner_L1 rows n x) (0, []) = some (.next (cyc x (r * k))) := by
 have hm := mul_small 5 5 hr hk
 have e1 : IntKind.i64.wrap ((r : Int) * (k : Int)) = ((r * k : Nat) : Int) := by
  have : (r : Int) * (k : Int) = ((r * k : Nat) : Int) := by simp
  rw [this, w64_id (by omega) (by omega)]
 exact go_loop (F := M.anamnesislaw12_OverInner_L1 rows n x) (fun i => ((i : Int), cyc x i)) (.next (cyc x (r * k))) (r * k) (fun i hi => by
  unfold M.anamnesislaw12_OverInner_L1
  simp only []
  rw [er, ek, e1, if_pos (by simp only [decide_eq_true_eq]; omega)]
  unfold remI
  rw [if_neg (by omega), Int.tmod_eq_emod_of_nonneg (by omega), ← Int.natCast_emod, Option.bind_some, idx_get (Nat.mod_lt i h0), Option.bind_some, app_ok (by unfold cyc; rw [vls_len]; simp; omega), Option.bind_some, w64_id (by omega) (by omega)]
  unfold cyc
  rw [vls_succ, List.getElem?_eq_getElem (Nat.mod_lt i h0)]
  rfl) (by
  unfold M.anamnesislaw12_OverInner_L1
  simp only []
  rw [er, ek, e1, if_neg (by simp)])
theorem inner_L2 {cols n : Int} {y : List Int} {k c : Nat} (h0 : 0 < y.length) (hy : y.length ≤ maxLen) (hk : k ≤ 5) (hc : c ≤ 5) (ek : IntKind.i64.wrap (Int.tmod n 6) = (k : Int)) (ec : IntKind.i64.wrap (Int.tmod cols 6) = (c : Int)) :
  wloop (M.anamnesislaw12_OverInner_L2 cols n y) (0, []) = some (.next (cyc y (k * c))) := by
 have hm := mul_small 5 5 hk hc
 have e1 : IntKind.i64.wrap ((k : Int) * (c : Int)) = ((k * c : Nat) : Int) := by
  have : (k : Int) * (c : Int) = ((k * c : Nat) : Int) := by simp
  rw [this, w64_id (by omega) (by omega)]
 exact go_loop (F := M.anamnesislaw12_OverInner_L2 cols n y) (fun i => ((i : Int), cyc y i)) (.next (cyc y (k * c))) (k * c) (fun i hi => by
  unfold M.anamnesislaw12_OverInner_L2
  simp only []
  rw [ek, ec, e1, if_pos (by simp only [decide_eq_true_eq]; omega)]
  unfold remI
  rw [if_neg (by omega), Int.tmod_eq_emod_of_nonneg (by omega), ← Int.natCast_emod, Option.bind_some, idx_get (Nat.mod_lt i h0), Option.bind_some, app_ok (by unfold cyc; rw [vls_len]; simp; omega), Option.bind_some, w64_id (by omega) (by omega)]
  unfold cyc
  rw [vls_succ, List.getElem?_eq_getElem (Nat.mod_lt i h0)]
  rfl) (by
  unfold M.anamnesislaw12_OverInner_L2
  simp only []
  rw [ek, ec, e1, if_neg (by simp)])
theorem redV_last {fn : ByteArray} {l : List Int} (h4 : (idF fn).2 ≠ 4) (h : l.length ≤ 10000) (he : (red fn (l.map fun x => (⟨x, false⟩ : Am.Item))).2 = 0) :
  redV fn ⟨false, [(l.length : Int)], l⟩ (-1) = (⟨false, [], [(red fn (l.map fun x => (⟨x, false⟩ : Am.Item))).1.n]⟩, 0) := by
 have hv := vec_right h
 have hax : axK [(l.length : Int)] (-1) = ((0 : Nat) : Int) := rfl
 have hwo : wo [(l.length : Int)] ((0 : Nat) : Int) = [] := rfl
 have hsh : shOk (wo [(l.length : Int)] ((0 : Nat) : Int)) := by
  rw [hwo]; exact ⟨by simp, by simp, by simp [prod]⟩
 have hb : bef [(l.length : Int)] 0 = 1 := rfl
 have hB : bhd [(l.length : Int)] 0 = 1 := rfl
 have hn : len [(l.length : Int)] 0 = l.length := by
  show ((l.length : Int)).toNat = _; simp
 have hG : redG fn ⟨false, [(l.length : Int)], l⟩ 0 0 = red fn (l.map fun x => (⟨x, false⟩ : Am.Item)) := by
  unfold redG
  simp only []
  rw [hB, hn]
  congr 1
  unfold rowF
  apply List.ext_getElem?
  intro i
  by_cases hi : i < l.length
  ·rw [List.getElem?_map, List.getElem?_range hi, List.getElem?_map, List.getElem?_eq_getElem hi]
   simp only [Option.map_some, rowG]
   rw [show (0 / 1 * l.length + i) * 1 + 0 % 1 = i by simp, List.getElem?_eq_getElem hi]; rfl
  ·rw [List.getElem?_eq_none (by simp; omega), List.getElem?_eq_none (by simp; omega)]
 have hfe : fe (fun q => (redG fn ⟨false, [(l.length : Int)], l⟩ 0 q).2) (1 * 1) = 0 := fe_zero.mpr fun q hq => by
  obtain rfl : q = 0 := by omega
  show (redG fn ⟨false, [(l.length : Int)], l⟩ 0 0).2 = 0
  rw [hG]; exact he
 unfold redV
 rw [if_neg (by rw [hv]; simp), if_neg h4, if_neg (by simp)]
 simp only []
 rw [hax, if_neg (nn ⟨by omega, by simp⟩), if_neg (nn hsh), Int.toNat_natCast]
 unfold redD
 simp only []
 rw [hb, hB, hfe, if_neg (nn rfl)]
 show ((⟨false, [], [(redG fn ⟨false, [(l.length : Int)], l⟩ 0 0).1.n]⟩ : Val), (0 : Int)) = _
 rw [hG]
theorem innV_err {f g : ByteArray} {a b : Val} (h : (innV f g a b).2 ≠ 0) : (innV f g a b).1 = ⟨false, [], []⟩ := by
 unfold innV at h ⊢
 by_cases h1 : vRight a = false ∨ vRight b = false
 ·rw [if_pos h1]
 rw [if_neg h1] at h ⊢
 by_cases h2 : (idF f).2 = 4 ∨ (idF g).2 = 4
 ·rw [if_pos h2]
 rw [if_neg h2] at h ⊢
 by_cases h3 : inBad a b
 ·rw [if_pos h3]
 rw [if_neg h3] at h ⊢
 by_cases h4 : 4 < (lShp a ++ rShp b).length
 ·rw [if_pos h4]
 rw [if_neg h4] at h ⊢
 by_cases h5 : ¬ shOk (lShp a ++ rShp b) ∨ 1000000 < lZ a * rZ b * inN a b
 ·rw [if_pos h5]
 rw [if_neg h5] at h ⊢
 by_cases h6 : fe (fun q => (inQ f g a b q).2) (lZ a * rZ b) = 0
 ·rw [if_neg (nn h6)] at h
  exact absurd rfl h
 ·rw [if_pos h6]
theorem overInner_true (f g : ByteArray) (rows cols n : Int) (x y : List Int) (gf : f.size ≤ maxLen) (gg : g.size ≤ maxLen) (gr : (Lit.int .u8 rows).wf = true) (gc : (Lit.int .u8 cols).wf = true) (gn : (Lit.int .u8 n).wf = true)
  (gx : ∀ z ∈ x, (Lit.int .i64 z).wf = true) (lx : x.length ≤ maxLen) (gy : ∀ z ∈ y, (Lit.int .i64 z).wf = true) (ly : y.length ≤ maxLen) : M.anamnesislaw12_OverInner f g rows cols n x y = some true := by
 have hmax : maxLen = 9223372036854775807 := rfl
 unfold M.anamnesislaw12_OverInner
 by_cases hsz : ((10 < f.size ∨ 10 < g.size) ∨ x.length = 0) ∨ y.length = 0
 ·rw [if_pos (by simp only [Bool.or_eq_true, decide_eq_true_eq, beq_iff_eq]; omega)]
 rw [if_neg (by simp only [Bool.or_eq_true, decide_eq_true_eq, beq_iff_eq]; omega)]
 have mod6 : ∀ {z : Int}, (Lit.int .u8 z).wf = true → ∃ m : Nat, m ≤ 5 ∧ IntKind.i64.wrap (Int.tmod z 6) = (m : Int) := by
  intro z hz
  obtain ⟨h0, h1⟩ := wu8i hz
  rw [Int.tmod_eq_emod_of_nonneg h0]
  exact ⟨(z % 6).toNat, by omega, by rw [w64_id (by omega) (by omega)]; omega⟩
 obtain ⟨r, hr, er⟩ := mod6 gr
 obtain ⟨c, hc, ec⟩ := mod6 gc
 obtain ⟨k, hk, ek⟩ := mod6 gn
 unfold M.anamnesislaw07_Of
 simp only [Option.bind_some]
 rw [inner_L1 (by omega) lx hr hk er ek]
 simp only [Option.bind_some, joinK]
 rw [inner_L2 (by omega) ly hk hc ek ec]
 simp only [Option.bind_some, joinK]
 rw [er, ec, ek]
 have rx := cyc_rng (l := x) (n := r * k) (by omega) (fun z hz => wf64 (gx z hz))
 have ry := cyc_rng (l := y) (n := k * c) (by omega) (fun z hz => wf64 (gy z hz))
 have m1 := mul_small 5 5 hr hk
 have m2 := mul_small 5 5 hk hc
 have m3 := mul_small 5 5 hr hc
 have lX : (cyc x (r * k)).length = r * k := vls_len _ _
 have lY : (cyc y (k * c)).length = k * c := vls_len _ _
 rw [Inner_eq (by show (cyc x (r * k)).length ≤ _; omega) (by show (cyc y (k * c)).length ≤ _; omega) rx ry]
 generalize hX : cyc x (r * k) = X at rx lX
 generalize hY : cyc y (k * c) = Y at ry lY
 have hva := mat_right (r := r) (k := k) (D := X) (by omega) (by omega) lX
 have hvb := mat_right (r := k) (k := c) (D := Y) (by omega) (by omega) lY
 by_cases he : (innV f g ⟨false, [(r : Int), (k : Int)], X⟩ ⟨false, [(k : Int), (c : Int)], Y⟩).2 = 0
 case neg =>
  have h1 := innV_err he
  generalize innV f g ⟨false, [(r : Int), (k : Int)], X⟩ ⟨false, [(k : Int), (c : Int)], Y⟩ = p at he h1
  obtain ⟨v, e⟩ := p
  simp only [] at he h1
  subst h1
  simp only [Option.bind_some]
  rw [if_pos (by simpa using he)]
  unfold M.anamnesislaw07_None
  rw [if_pos (by simp), ref02_Same_eq (by simp) (by simp), vSame_refl]
  rfl
 have z1 : lZ ⟨false, [(r : Int), (k : Int)], X⟩ = r := by
  show (prod [(r : Int)]).toNat = r; simp [prod]
 have z2 : rZ ⟨false, [(k : Int), (c : Int)], Y⟩ = c := by
  show (prod [(c : Int)]).toNat = c; simp [prod]
 have n1 : lN ⟨false, [(r : Int), (k : Int)], X⟩ = k := by
  show ((k : Int)).toNat = k; simp
 have n2 : rN ⟨false, [(k : Int), (c : Int)], Y⟩ = k := by
  show ((k : Int)).toNat = k; simp
 have s0 : lShp ⟨false, [(r : Int), (k : Int)], X⟩ ++ rShp ⟨false, [(k : Int), (c : Int)], Y⟩ = [(r : Int), (c : Int)] := rfl
 have hn : inN ⟨false, [(r : Int), (k : Int)], X⟩ ⟨false, [(k : Int), (c : Int)], Y⟩ = k := by
  unfold inN; rw [n1, n2]; simp
 obtain ⟨h4, hfe, hV⟩ : ((idF f).2 ≠ 4 ∧ (idF g).2 ≠ 4) ∧ fe (fun q => (inQ f g ⟨false, [(r : Int), (k : Int)], X⟩ ⟨false, [(k : Int), (c : Int)], Y⟩ q).2) (r * c) = 0 ∧ innV f g ⟨false, [(r : Int), (k : Int)], X⟩ ⟨false, [(k : Int), (c : Int)], Y⟩ = (⟨false, [(r : Int), (c : Int)], vls (fun q => (inQ f g ⟨false, [(r : Int), (k : Int)], X⟩ ⟨false, [(k : Int), (c : Int)], Y⟩ q).1.n) (r * c)⟩, 0) := by
  unfold innV at he ⊢
  rw [if_neg (by rw [hva, hvb]; simp)] at he ⊢
  by_cases h4 : (idF f).2 = 4 ∨ (idF g).2 = 4
  ·rw [if_pos h4] at he; simp at he
  rw [if_neg h4, if_neg (by unfold inBad; rw [hn, n1, n2]; simp), s0, if_neg (by simp)] at he ⊢
  rw [z1, z2, hn] at he ⊢
  by_cases hw : ¬ shOk [(r : Int), (c : Int)] ∨ 1000000 < r * c * k
  ·rw [if_pos hw] at he; simp at he
  rw [if_neg hw] at he ⊢
  by_cases hfe : fe (fun q => (inQ f g ⟨false, [(r : Int), (k : Int)], X⟩ ⟨false, [(k : Int), (c : Int)], Y⟩ q).2) (r * c) = 0
  ·rw [if_neg (nn hfe)]
   exact ⟨⟨fun h => h4 (.inl h), fun h => h4 (.inr h)⟩, hfe, rfl⟩
  ·rw [if_pos hfe] at he
   exact absurd he hfe
 rw [hV]
 simp only [Option.bind_some]
 have e3 : IntKind.i64.wrap ((r : Int) * (c : Int)) = ((r * c : Nat) : Int) := by
  have : (r : Int) * (c : Int) = ((r * c : Nat) : Int) := by simp
  rw [this, w64_id (by omega) (by omega)]
 rw [if_neg (by simp), if_neg (by simp)]
 rw [show (idx [(r : Int), (c : Int)] 0) = some (r : Int) from rfl, Option.bind_some]
 simp only [bne_self_eq_false, Option.bind_some]
 rw [if_neg (by simp), show (idx [(r : Int), (c : Int)] 1) = some (c : Int) from rfl, Option.bind_some]
 simp only [bne_self_eq_false, Option.bind_some, Bool.false_or]
 rw [e3, vls_len, if_neg (by simp)]
 have cellv : ∀ i j, i < r → j < c → (inC f g ⟨false, [(r : Int), (k : Int)], X⟩ ⟨false, [(k : Int), (c : Int)], Y⟩ i j).2 = 0 := by
  intro i j hi hj
  have := fe_zero.mp hfe (i * c + j) (grid_lt hi hj)
  unfold inQ at this
  rw [z2, (grid_div hj).1, (grid_div hj).2] at this
  exact this
 have inn : ∀ i, i < r → wloop (M.anamnesislaw12_OverInner_L4 f g cols ⟨false, [(k : Int), (c : Int)], []⟩ Y ⟨false, [(r : Int), (c : Int)], vls (fun q => (inQ f g ⟨false, [(r : Int), (k : Int)], X⟩ ⟨false, [(k : Int), (c : Int)], Y⟩ q).1.n) (r * c)⟩ (i : Int) ⟨false, [(k : Int)], vls (fun z => (X[i * k + z]?).getD 0) k⟩) 0 = some (.next ()) := by
  intro i hi
  refine go_loop (F := M.anamnesislaw12_OverInner_L4 f g cols ⟨false, [(k : Int), (c : Int)], []⟩ Y ⟨false, [(r : Int), (c : Int)], vls (fun q => (inQ f g ⟨false, [(r : Int), (k : Int)], X⟩ ⟨false, [(k : Int), (c : Int)], Y⟩ q).1.n) (r * c)⟩ (i : Int) ⟨false, [(k : Int)], vls (fun z => (X[i * k + z]?).getD 0) k⟩) (fun j => (j : Int)) (.next ()) c (fun j hj => ?_) ?_
  ·unfold M.anamnesislaw12_OverInner_L4 M.value_Scalar
   simp only []
   rw [ec, if_pos (by simp only [decide_eq_true_eq]; omega), w64_id (x := (j : Int) + 1) (by omega) (by omega), Option.bind_some]
   have hcg := col_get (k := k) (c := c) (j := j) (D := Y) (by omega) (by omega) lY hj
   unfold plA plS at hcg
   rw [hcg]
   simp only [Option.bind_some]
   have hcv := cellv i j hi hj
   have hgrid := grid_lt hi hj
   have pairA : ∀ z, z < k → (vls (fun z => (X[i * k + z]?).getD 0) k)[z]? = some ((X[i * k + z]?).getD 0) := fun z hz => vls_get _ hz
   have pairB : ∀ z, z < k → (vls (fun z => (Y[z * c + j]?).getD 0) k)[z]? = some ((Y[z * c + j]?).getD 0) := fun z hz => vls_get _ hz
   have rA : ∀ w ∈ vls (fun z => (X[i * k + z]?).getD 0) k, rng w := fun w hw => by
    obtain ⟨z, _, rfl⟩ := List.mem_map.mp hw
    exact itA_rng (v := ⟨false, [], X⟩) rx (i * k + z)
   have rB : ∀ w ∈ vls (fun z => (Y[z * c + j]?).getD 0) k, rng w := fun w hw => by
    obtain ⟨z, _, rfl⟩ := List.mem_map.mp hw
    exact itA_rng (v := ⟨false, [], Y⟩) ry (z * c + j)
   have hG : ∀ z, z < k → inG g ⟨false, [(r : Int), (k : Int)], X⟩ ⟨false, [(k : Int), (c : Int)], Y⟩ i j z = (⟨(dyD g ((X[i * k + z]?).getD 0) ((Y[z * c + j]?).getD 0)).1, false⟩, (dyD g ((X[i * k + z]?).getD 0) ((Y[z * c + j]?).getD 0)).2) := by
    intro z hz
    unfold inG
    rw [n1, n2, z2]
    have e1 : i * k + z * stp k 1 = i * k + z := by
     unfold stp
     by_cases h : k = 1
     ·rw [if_pos h]; omega
     ·rw [if_neg h]; omega
    have e2 : j + z * stp k c = z * c + j := by
     unfold stp
     by_cases h : k = 1
     ·obtain rfl : z = 0 := by omega
      simp
     ·rw [if_neg h]; omega
    rw [e1, e2, f2_num (itA_rng rx _) (itA_rng ry _) rfl]
    rfl
   unfold inC at hcv
   rw [hn] at hcv
   have hfj : fe (fun z => (inG g ⟨false, [(r : Int), (k : Int)], X⟩ ⟨false, [(k : Int), (c : Int)], Y⟩ i j z).2) k = 0 := by
    by_cases h : fe (fun z => (inG g ⟨false, [(r : Int), (k : Int)], X⟩ ⟨false, [(k : Int), (c : Int)], Y⟩ i j z).2) k = 0
    ·exact h
    ·rw [if_pos h] at hcv; exact absurd hcv h
   rw [hfj, if_neg (nn rfl)] at hcv
   have hok : ∀ z, z < k → (dyD g (((vls (fun z => (X[i * k + z]?).getD 0) k)[z]?).getD 0) (((vls (fun z => (Y[z * c + j]?).getD 0) k)[z]?).getD 0)).2 = 0 := by
    intro z hz
    have := fe_zero.mp hfj z hz
    rw [hG z hz] at this
    rw [pairA z hz, pairB z hz]
    exact this
   rw [Dyad_vec h4.2 (vls_len _ _) (vls_len _ _) (by omega) rA rB hok]
   simp only [Option.bind_some]
   have hrow : (vls (fun z => (dyD g (((vls (fun z => (X[i * k + z]?).getD 0) k)[z]?).getD 0) (((vls (fun z => (Y[z * c + j]?).getD 0) k)[z]?).getD 0)).1) k).map (fun w => (⟨w, false⟩ : Am.Item)) = inL (inG g ⟨false, [(r : Int), (k : Int)], X⟩ ⟨false, [(k : Int), (c : Int)], Y⟩ i j) k := by
    unfold inL
    conv => lhs; unfold vls
    rw [List.map_map]
    refine List.map_congr_left fun z hz => ?_
    have hz := List.mem_range.mp hz
    rw [hG z hz]
    show (⟨(dyD g (((vls (fun z => (X[i * k + z]?).getD 0) k)[z]?).getD 0) (((vls (fun z => (Y[z * c + j]?).getD 0) k)[z]?).getD 0)).1, false⟩ : Am.Item) = _
    rw [pairA z hz, pairB z hz]
    rfl
   have rL : ∀ w ∈ vls (fun z => (dyD g (((vls (fun z => (X[i * k + z]?).getD 0) k)[z]?).getD 0) (((vls (fun z => (Y[z * c + j]?).getD 0) k)[z]?).getD 0)).1) k, rng w := fun w hw => by
    obtain ⟨z, hz, rfl⟩ := List.mem_map.mp hw
    have hz := List.mem_range.mp hz
    rw [pairA z hz, pairB z hz]
    exact dyD_rng (itA_rng (v := ⟨false, [], X⟩) rx _) (itA_rng (v := ⟨false, [], Y⟩) ry _)
   have lL : (vls (fun z => (dyD g (((vls (fun z => (X[i * k + z]?).getD 0) k)[z]?).getD 0) (((vls (fun z => (Y[z * c + j]?).getD 0) k)[z]?).getD 0)).1) k).length = k := vls_len _ _
   generalize vls (fun z => (dyD g (((vls (fun z => (X[i * k + z]?).getD 0) k)[z]?).getD 0) (((vls (fun z => (Y[z * c + j]?).getD 0) k)[z]?).getD 0)).1) k = L at hrow rL lL
   have hR := redV_last (fn := f) (l := L) h4.1 (by omega) (by rw [hrow]; exact hcv)
   rw [lL] at hR
   rw [Reduce_eq (by simp) (by show L.length ≤ _; omega) rL ⟨by decide, by decide⟩, hR, Option.bind_some]
   simp only []
   have e5 : (i : Int) * (c : Int) = ((i * c : Nat) : Int) := by simp
   have hlt := grid_lt hi hj
   rw [if_neg (by simp), show (idx [(red f (L.map fun x => (⟨x, false⟩ : Am.Item))).1.n] 0) = some _ from rfl, Option.bind_some, e5, w64_id (x := ((i * c : Nat) : Int)) (by omega) (by omega), show ((i * c : Nat) : Int) + (j : Int) = ((i * c + j : Nat) : Int) by omega, w64_id (x := ((i * c + j : Nat) : Int)) (by omega) (by omega), idx_nat, vls_get _ hlt, Option.bind_some, Option.bind_some]
   have eq : (inQ f g ⟨false, [(r : Int), (k : Int)], X⟩ ⟨false, [(k : Int), (c : Int)], Y⟩ (i * c + j)).1.n = (red f (L.map fun x => (⟨x, false⟩ : Am.Item))).1.n := by
    unfold inQ
    rw [z2, (grid_div hj).1, (grid_div hj).2]
    unfold inC
    rw [hn, hfj, if_neg (nn rfl), hrow]
   rw [eq, if_neg (by simp)]
   rfl
  ·unfold M.anamnesislaw12_OverInner_L4
   simp only []
   rw [ec, if_neg (by simp)]
 have outr : wloop (M.anamnesislaw12_OverInner_L3 f g rows cols ⟨false, [(r : Int), (k : Int)], []⟩ ⟨false, [(k : Int), (c : Int)], []⟩ X Y ⟨false, [(r : Int), (c : Int)], vls (fun q => (inQ f g ⟨false, [(r : Int), (k : Int)], X⟩ ⟨false, [(k : Int), (c : Int)], Y⟩ q).1.n) (r * c)⟩) 0 = some (.next ()) := by
  refine go_loop (F := M.anamnesislaw12_OverInner_L3 f g rows cols ⟨false, [(r : Int), (k : Int)], []⟩ ⟨false, [(k : Int), (c : Int)], []⟩ X Y ⟨false, [(r : Int), (c : Int)], vls (fun q => (inQ f g ⟨false, [(r : Int), (k : Int)], X⟩ ⟨false, [(k : Int), (c : Int)], Y⟩ q).1.n) (r * c)⟩) (fun i => (i : Int)) (.next ()) r (fun i hi => ?_) ?_
  ·unfold M.anamnesislaw12_OverInner_L3 M.value_Scalar
   simp only []
   rw [er, if_pos (by simp only [decide_eq_true_eq]; omega), w64_id (x := (i : Int) + 1) (by omega) (by omega), Option.bind_some]
   have hrg := row_get (r := r) (k := k) (i := i) (D := X) (by omega) (by omega) lX hi
   unfold plA plS at hrg
   rw [hrg]
   simp only [Option.bind_some]
   rw [inn i hi]
   rfl
  ·unfold M.anamnesislaw12_OverInner_L3
   simp only []
   rw [er, if_neg (by simp)]
 rw [outr]
 rfl
end Go.Proofs.Ytblgdjpeedgnoaa.overInner
