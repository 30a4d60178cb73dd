/- OverTwo: what the code that the law reaches computes, as plain functions; and that the law comes to true. -/
import Derived.Test.YtblgdjpeedgnoaaMOverTwo
set_option maxHeartbeats 4000000
set_option linter.unusedVariables false
set_option linter.unusedSimpArgs false
set_option maxRecDepth 100000
open Go Go.Am
namespace Go.Proofs.Ytblgdjpeedgnoaa.overTwo
theorem size_in {s : List Int} (h : s.length ≤ 100) : M.anamnesisref07_Size s = some (if shOk s then prod s else -1) := ref07_Size_eq (by omega)
theorem rOuter_eq {fn : ByteArray} {a b : Val} (hda : a.Data.length ≤ 1000000000) (hdb : b.Data.length ≤ 1000000000) (hra : ∀ x ∈ a.Data, rng x) (hrb : ∀ x ∈ b.Data, rng x) : M.anamnesisref12_Outer fn a b = some (outV fn a b) := by
 unfold M.anamnesisref12_Outer outV
 rw [ref02_Right_eq (by omega), ref02_Right_eq (by omega)]
 simp only [Option.bind_some]
 by_cases hv : vRight a = false ∨ vRight b = false
 ·rw [if_pos hv]
  rcases hv with h | h
  ·rw [h]; rfl
  ·rw [h]; cases vRight a <;> rfl
 have hva : vRight a = true := by
  cases h : vRight a with
  | true => rfl
  | false => exact absurd (.inl h) hv
 have hvb : vRight b = true := by
  cases h : vRight b with
  | true => rfl
  | false => exact absurd (.inr h) hv
 rw [if_neg hv, hva, hvb, known_eq]
 simp only [Bool.not_true, Bool.false_eq_true, if_false, Option.bind_some]
 by_cases h4 : (idF fn).2 = 4
 ·rw [if_pos h4, if_pos (by rw [decide_eq_false (fun h => (gl_iff fn).mp h h4)]; rfl)]
 have hg : fn ∈ gl19 := (gl_iff fn).mpr h4
 rw [if_neg h4, if_neg (by rw [decide_eq_true hg]; simp)]
 obtain ⟨hoka, hla, _⟩ := vRight_iff.mp hva
 obtain ⟨hokb, hlb, _⟩ := vRight_iff.mp hvb
 have ha4 := hoka.1
 have hb4 := hokb.1
 rw [app_ok (by simp; omega), Option.bind_some, app_ok (by simp; omega), Option.bind_some, List.nil_append]
 by_cases hl : 4 < (a.Shape ++ b.Shape).length
 ·rw [if_pos (by simp only [decide_eq_true_eq]; omega), if_pos hl]
 rw [if_neg (by simp only [decide_eq_true_eq]; omega), if_neg hl, size_in (by omega)]
 simp only [Option.bind_some]
 by_cases hw : shOk (a.Shape ++ b.Shape)
 case neg => rw [if_neg hw, if_pos hw, if_pos (by simp)]
 have hpr : prod (a.Shape ++ b.Shape) = ((a.Data.length * b.Data.length : Nat) : Int) := by
  rw [prod_append, hla, hlb]; simp
 have hws := hw.2.2
 rw [hpr] at hws
 rw [if_pos hw, hpr, if_neg (by simp only [decide_eq_true_eq]; omega), if_neg (nn hw)]
 have key := err_loop (F := M.anamnesisref12_Outer_L1 fn a b (a.Shape ++ b.Shape)) (fun q => ((q : Int), vls (fun q => (outG fn a b q).1.n) q)) (fun q => (outG fn a b q).2) (fun e => .done (⟨false, [], []⟩, e)) (.next (vls (fun q => (outG fn a b q).1.n) (a.Data.length * b.Data.length))) (a.Data.length * b.Data.length) (fun q hq => by
  have hbp : 0 < b.Data.length := by
   rcases Nat.eq_zero_or_pos b.Data.length with h | h
   ·rw [h] at hq; simp at hq
   ·exact h
  have hd : q / b.Data.length < a.Data.length := Nat.div_lt_of_lt_mul (by rw [Nat.mul_comm]; exact hq)
  have hm : q % b.Data.length < b.Data.length := Nat.mod_lt _ hbp
  unfold M.anamnesisref12_Outer_L1
  simp only []
  rw [size_in (by omega), Option.bind_some, if_pos hw, hpr, if_pos (by simp only [decide_eq_true_eq]; omega)]
  have e1 : quoI .i64 (q : Int) (b.Data.length : Int) = some ((q / b.Data.length : Nat) : Int) := by
   unfold quoI
   have h1 := Nat.div_le_self q b.Data.length
   rw [if_neg (by omega), Int.tdiv_eq_ediv_of_nonneg (by omega), ← Int.natCast_ediv]
   generalize q / b.Data.length = z at *
   rw [w64_id (by omega) (by omega)]
  have e2 : remI (q : Int) (b.Data.length : Int) = some ((q % b.Data.length : Nat) : Int) := by
   unfold remI
   rw [if_neg (by omega), Int.tmod_eq_emod_of_nonneg (by omega), ← Int.natCast_emod]
  have i1 : itA a (q / b.Data.length) = ⟨a.Data[q / b.Data.length], a.Char⟩ := by unfold itA; rw [List.getElem?_eq_getElem hd]; rfl
  have i2 : itA b (q % b.Data.length) = ⟨b.Data[q % b.Data.length], b.Char⟩ := by unfold itA; rw [List.getElem?_eq_getElem hm]; rfl
  have t := Two_eq (a := itA a (q / b.Data.length)) (b := itA b (q % b.Data.length)) hg (itA_rng hra _) (itA_rng hrb _)
  rw [e1, Option.bind_some, idx_get hd, Option.bind_some, e2, Option.bind_some, idx_get hm, Option.bind_some, ← i1, ← i2, t]
  have eG : f2 fn (itA a (q / b.Data.length)) (itA b (q % b.Data.length)) = outG fn a b q := rfl
  rw [eG]
  simp only [Option.bind_some]
  by_cases hE : (outG fn a b q).2 = 0
  ·rw [if_neg (by simpa using hE), if_neg (nn hE), app_ok (by rw [vls_len]; simp; omega), Option.bind_some, w64_id (by omega) (by omega), ← vls_succ]
   rfl
  ·rw [if_pos (by simpa using hE), if_pos hE]) (by
  unfold M.anamnesisref12_Outer_L1
  simp only []
  rw [size_in (by omega), Option.bind_some, if_pos hw, hpr, if_neg (by simp)])
 have ev : vls (fun q => (outG fn a b q).1.n) 0 = [] := rfl
 simp only [Int.natCast_zero, ev] at key
 rw [key]
 simp only [Option.bind_some]
 by_cases hE : fe (fun q => (outG fn a b q).2) (a.Data.length * b.Data.length) = 0
 ·rw [if_neg (nn hE), if_neg (nn hE)]; rfl
 ·rw [if_pos hE, if_pos hE]; rfl
theorem inShape_split : ∀ {a b p : List Int}, inShape (a ++ b) p → inShape a (p.take a.length) ∧ inShape b (p.drop a.length)
 | [], b, p, h => ⟨by simp [inShape], by simpa using h⟩
 | x :: a, b, i :: p, ⟨h1, h2, h3⟩ => by
  obtain ⟨g1, g2⟩ := inShape_split h3
  exact ⟨⟨h1, h2, g1⟩, g2⟩
 | x :: a, b, [], h => h.elim
theorem rwith_eq {s : List Int} {x : Nat} {n : Int} (hl : s.length ≤ 100) (hx : x ≤ s.length) : M.anamnesisref12_with s (x : Int) n = some (s.take x ++ n :: s.drop x) := by
 unfold M.anamnesisref12_with
 have key := go_loop (F := M.anamnesisref12_with_L1 s (x : Int) n) (fun k => (if k ≤ x then s.take k else s.take x ++ n :: (s.drop x).take (k - x), (k : Int))) (.next (s.take x ++ n :: s.drop x)) (s.length + 1) (fun k hk => by
  unfold M.anamnesisref12_with_L1
  simp only []
  rw [if_pos (by simp only [decide_eq_true_eq]; omega)]
  rcases Nat.lt_trichotomy k x with h | h | h
  ·rw [if_neg (by simp; omega), Option.bind_some, if_pos (show k ≤ x by omega), if_pos (by simp only [decide_eq_true_eq]; omega), idx_get (show k < s.length by omega), Option.bind_some, app_ok (by simp; omega), Option.bind_some, if_pos (show k + 1 ≤ x by omega), List.take_succ_eq_append_getElem (by omega), w64_id (by omega) (by omega)]
   rfl
  ·subst h
   rw [if_pos (by simp), if_pos (Nat.le_refl k), app_ok (by simp; omega), Option.bind_some, Option.bind_some, if_neg (show ¬ k + 1 ≤ k by omega), w64_id (by omega) (by omega), show k + 1 - k = 1 by omega]
   by_cases hkl : k < s.length
   ·rw [if_pos (by simp only [decide_eq_true_eq]; omega), idx_get hkl, Option.bind_some, app_ok (by simp; omega), Option.bind_some, drop_cons hkl]
    simp only [List.take_succ_cons, List.take_zero, List.append_assoc]
    rfl
   ·rw [if_neg (by simp only [decide_eq_true_eq]; omega), List.drop_of_length_le (by omega)]
    rfl
  ·rw [if_neg (by simp; omega), Option.bind_some, if_neg (show ¬ k ≤ x by omega), if_neg (show ¬ k + 1 ≤ x by omega), w64_id (by omega) (by omega)]
   by_cases hkl : k < s.length
   ·rw [if_pos (by simp only [decide_eq_true_eq]; omega), idx_get hkl, Option.bind_some, app_ok (by simp; omega), Option.bind_some, show k + 1 - x = (k - x) + 1 by omega, List.take_succ_eq_append_getElem (l := s.drop x) (by simp; omega)]
    have e : (s.drop x)[k - x]'(by simp; omega) = s[k] := by simp only [List.getElem_drop, show x + (k - x) = k by omega]
    rw [e, List.append_assoc]
    rfl
   ·rw [if_neg (by simp only [decide_eq_true_eq]; omega), List.take_of_length_le (l := s.drop x) (i := k - x) (by simp; omega), List.take_of_length_le (l := s.drop x) (i := k + 1 - x) (by simp; omega)]
    rfl) (by
  unfold M.anamnesisref12_with_L1
  simp only []
  rw [if_neg (by simp only [decide_eq_true_eq]; omega), if_neg (by omega), List.take_of_length_le (l := s.drop x) (i := s.length + 1 - x) (by simp; omega)])
 have e0 : (if 0 ≤ x then s.take 0 else s.take x ++ n :: (s.drop x).take (0 - x)) = [] := by rw [if_pos (Nat.zero_le x)]; rfl
 simp only [e0, Int.natCast_zero] at key
 rw [key]; rfl
theorem elA_eq {a : Val} (hva : vRight a = true) {p : List Int} {i : Nat} (hp : inShape (lShp a) p) (hi : lN a = 1 ∨ i < lN a) :
  M.anamnesisref12_element a (IntKind.i64.wrap ((a.Shape.length : Int) - 1)) (i : Int) p = some (itA a ((off (lShp a) p).toNat * lN a + i * stp (lN a) 1)) := by
 obtain ⟨h1, h2, h3, h4⟩ := left_len hva
 obtain ⟨hok, hpr, _⟩ := vRight_iff.mp hva
 have h44 := hok.1
 have hr := off_range hp
 have hpl := hp.len
 rw [w64_id (by omega) (by omega)]
 unfold M.anamnesisref12_element
 by_cases h0 : a.Shape.length = 0
 ·have e1 : lN a = 1 := by unfold lN; rw [if_pos h0]
  have e2 : lZ a = 1 := by unfold lZ; rw [if_pos h0]
  rw [e1, e2] at h1
  rw [e2] at h4
  have e3 : (off (lShp a) p).toNat = 0 := by omega
  rw [if_pos (by simp only [beq_iff_eq]; omega), e1, e3]
  have e4 : 0 * 1 + i * stp 1 1 = 0 := by unfold stp; simp
  have e5 : idx a.Data 0 = some a.Data[0] := idx_get (k := 0) (by omega)
  rw [e4, e5]
  unfold itA
  rw [List.getElem?_eq_getElem (by omega)]; rfl
 rw [if_neg (by simp only [beq_iff_eq]; omega), show (a.Shape.length : Int) - 1 = ((a.Shape.length - 1 : Nat) : Int) by omega, idx_get (show a.Shape.length - 1 < a.Shape.length by omega)]
 simp only [Option.bind_some]
 have hge := (hok.2.1 _ (List.getElem_mem (show a.Shape.length - 1 < a.Shape.length by omega))).1
 have eN : a.Shape[a.Shape.length - 1]'(by omega) = (lN a : Int) := by
  unfold lN
  rw [if_neg h0]
  unfold len
  rw [List.getElem?_eq_getElem (by omega)]
  simp; omega
 have eS : a.Shape = lShp a ++ [(lN a : Int)] := by
  unfold lShp
  rw [← eN, ← List.take_succ_eq_append_getElem, show a.Shape.length - 1 + 1 = a.Shape.length by omega, List.take_length]
 have hsl : (lShp a).length = a.Shape.length - 1 := by unfold lShp; simp
 rw [eN]
 have ei : (if ((lN a : Int) == 1) = true then some (0 : Int) else some (i : Int)) = some ((i * stp (lN a) 1 : Nat) : Int) := by
  unfold stp
  by_cases h : lN a = 1
  ·rw [if_pos (by simp [h]), if_pos h]; simp
  ·rw [if_neg (by simp; omega), if_neg h]; simp
 rw [ei, Option.bind_some, rwith_eq (by omega) (by omega), Option.bind_some, List.take_of_length_le (by omega), List.drop_of_length_le (by omega)]
 have hlt : i * stp (lN a) 1 < lN a := by
  unfold stp
  by_cases h : lN a = 1
  ·rw [if_pos h]; omega
  ·rw [if_neg h]; omega
 generalize i * stp (lN a) 1 = j at *
 have hin : inShape a.Shape (p ++ [(j : Int)]) := by
  rw [eS]
  exact (inShape_snoc2 hpl).mpr ⟨hp, by omega, by omega⟩
 have hoff : off a.Shape (p ++ [(j : Int)]) = (((off (lShp a) p).toNat * lN a + j : Nat) : Int) := by
  conv => lhs; rw [eS]
  rw [off_snoc hpl]
  obtain ⟨o, ho⟩ : ∃ o : Nat, off (lShp a) p = o := ⟨(off (lShp a) p).toNat, by omega⟩
  rw [ho]; simp
 have hrr := off_range hin
 rw [ref07_Offset_eq hok hin, hoff]
 rw [hoff, hpr] at hrr
 have hlt2 : (off (lShp a) p).toNat * lN a + j < a.Data.length := by omega
 rw [Option.bind_some, idx_get hlt2]
 unfold itA
 rw [List.getElem?_eq_getElem hlt2]; rfl
theorem elB_eq {b : Val} (hvb : vRight b = true) {p : List Int} {i : Nat} (hp : inShape (rShp b) p) (hi : rN b = 1 ∨ i < rN b) :
  M.anamnesisref12_element b 0 (i : Int) p = some (itA b ((off (rShp b) p).toNat + i * stp (rN b) (rZ b))) := by
 obtain ⟨h1, h2, h3, h4⟩ := right_len hvb
 obtain ⟨hok, hpr, _⟩ := vRight_iff.mp hvb
 have h44 := hok.1
 have hr := off_range hp
 have hpl := hp.len
 unfold M.anamnesisref12_element
 by_cases h0 : b.Shape.length = 0
 ·have e1 : rN b = 1 := by unfold rN; rw [if_pos h0]
  have e2 : rZ b = 1 := by unfold rZ; rw [if_pos h0]
  rw [e1, e2] at h1
  rw [e2] at h4
  have e3 : (off (rShp b) p).toNat = 0 := by omega
  rw [if_pos (by simp only [beq_iff_eq]; omega), e1, e3]
  have e4 : 0 + i * stp 1 (rZ b) = 0 := by unfold stp; simp
  have e5 : idx b.Data 0 = some b.Data[0] := idx_get (k := 0) (by omega)
  rw [e4, e5]
  unfold itA
  rw [List.getElem?_eq_getElem (by omega)]; rfl
 have e5 : idx b.Shape 0 = some b.Shape[0] := idx_get (k := 0) (by omega)
 rw [if_neg (by simp only [beq_iff_eq]; omega), e5]
 simp only [Option.bind_some]
 have hge := (hok.2.1 _ (List.getElem_mem (show 0 < b.Shape.length by omega))).1
 have eN : b.Shape[0]'(by omega) = (rN b : Int) := by
  unfold rN
  rw [if_neg h0]
  unfold len
  rw [List.getElem?_eq_getElem (by omega)]
  simp; omega
 have eS : b.Shape = (rN b : Int) :: rShp b := by
  unfold rShp
  rw [← eN, ← drop_cons (k := 0) (by omega)]; rfl
 have hsl : (rShp b).length = b.Shape.length - 1 := by unfold rShp; simp
 rw [eN]
 obtain ⟨j, hj⟩ : ∃ j : Nat, j = if rN b = 1 then 0 else i := ⟨_, rfl⟩
 have ei : (if ((rN b : Int) == 1) = true then some (0 : Int) else some (i : Int)) = some (j : Int) := by
  rw [hj]
  by_cases h : rN b = 1
  ·rw [if_pos (by simp [h]), if_pos h]; simp
  ·rw [if_neg (by simp; omega), if_neg h]
 have est : i * stp (rN b) (rZ b) = j * rZ b := by
  rw [hj]; unfold stp
  by_cases h : rN b = 1
  ·rw [if_pos h, if_pos h]; simp
  ·rw [if_neg h, if_neg h]
 have hlt : j < rN b := by
  rw [hj]
  by_cases h : rN b = 1
  ·rw [if_pos h]; omega
  ·rw [if_neg h]; omega
 have ew := rwith_eq (s := p) (x := 0) (n := (j : Int)) (by omega) (by omega)
 rw [List.take_zero, List.nil_append, List.drop_zero, Int.natCast_zero] at ew
 rw [ei, Option.bind_some, ew, Option.bind_some, est]
 have hin : inShape b.Shape ((j : Int) :: p) := by
  rw [eS]
  exact ⟨by omega, by omega, hp⟩
 have hoff : off b.Shape ((j : Int) :: p) = (((off (rShp b) p).toNat + j * rZ b : Nat) : Int) := by
  conv => lhs; rw [eS]
  show (j : Int) * prod (rShp b) + off (rShp b) p = _
  obtain ⟨o, ho⟩ : ∃ o : Nat, off (rShp b) p = o := ⟨(off (rShp b) p).toNat, by omega⟩
  rw [ho, h4]
  simp; omega
 have hrr := off_range hin
 rw [ref07_Offset_eq hok hin, hoff]
 rw [hoff, hpr] at hrr
 have hlt2 : (off (rShp b) p).toNat + j * rZ b < b.Data.length := by omega
 rw [Option.bind_some, idx_get hlt2]
 unfold itA
 rw [List.getElem?_eq_getElem hlt2]; rfl
theorem long_eq {v : Val} (h : vRight v = true) : M.anamnesisref12_long v (IntKind.i64.wrap ((v.Shape.length : Int) - 1)) = some (lN v : Int) ∧ M.anamnesisref12_long v 0 = some (rN v : Int) := by
 obtain ⟨hok, hpr, _⟩ := vRight_iff.mp h
 have h44 := hok.1
 rw [w64_id (by omega) (by omega)]
 unfold M.anamnesisref12_long lN rN
 by_cases h0 : v.Shape.length = 0
 ·have hb : ((v.Shape.length : Int) == 0) = true := by simp only [beq_iff_eq]; omega
  rw [hb, if_pos rfl, if_pos rfl, if_pos h0, if_pos h0]
  exact ⟨rfl, rfl⟩
 have e5 : idx v.Shape 0 = some v.Shape[0] := idx_get (k := 0) (by omega)
 have g1 := (hok.2.1 _ (List.getElem_mem (show v.Shape.length - 1 < v.Shape.length by omega))).1
 have g2 := (hok.2.1 _ (List.getElem_mem (show 0 < v.Shape.length by omega))).1
 have hb : ¬ ((v.Shape.length : Int) == 0) = true := by simp only [beq_iff_eq]; omega
 rw [if_neg hb, if_neg hb, if_neg h0, if_neg h0, e5, show (v.Shape.length : Int) - 1 = ((v.Shape.length - 1 : Nat) : Int) by omega, idx_get (show v.Shape.length - 1 < v.Shape.length by omega)]
 unfold len
 rw [List.getElem?_eq_getElem (by omega), List.getElem?_eq_getElem (by omega)]
 simp only [Option.bind_some, Option.getD_some]
 exact ⟨by congr 1; omega, by congr 1; omega⟩
theorem rInner_L2 {g : ByteArray} {a b : Val} {p : List Int} (hg : g ∈ gl19) (hva : vRight a = true) (hvb : vRight b = true) (hra : ∀ x ∈ a.Data, rng x) (hrb : ∀ x ∈ b.Data, rng x) (hbad : ¬ inBad a b) {i k : Nat}
  (hp1 : inShape (lShp a) (p.take (lShp a).length)) (hp2 : inShape (rShp b) (p.drop (lShp a).length)) (hi : (off (lShp a) (p.take (lShp a).length)).toNat = i) (hk : (off (rShp b) (p.drop (lShp a).length)).toNat = k) (hl : p.length = (lShp a).length + (rShp b).length) :
  wloop (M.anamnesisref12_Inner_L2 g a b ((inN a b : Nat) : Int) (lShp a) p) ([], 0) =
   some (if fe (fun j => (inG g a b i k j).2) (inN a b) ≠ 0 then .done (.done (.done (⟨false, [], []⟩, fe (fun j => (inG g a b i k j).2) (inN a b)))) else .next (inL (inG g a b i k) (inN a b))) := by
 obtain ⟨_, _, l3, _⟩ := left_len hva
 obtain ⟨_, _, r3, _⟩ := right_len hvb
 have hnn : inN a b ≤ 10000 := by unfold inN; split <;> omega
 have key := err_loop (F := M.anamnesisref12_Inner_L2 g a b ((inN a b : Nat) : Int) (lShp a) p) (fun j => (inL (inG g a b i k) j, (j : Int))) (fun j => (inG g a b i k j).2) (fun e => .done (.done (.done (⟨false, [], []⟩, e)))) (.next (inL (inG g a b i k) (inN a b))) (inN a b) (fun j hj => by
  have ja : lN a = 1 ∨ j < lN a := by
   unfold inN at hj
   by_cases h : lN a = 1
   ·exact .inl h
   ·rw [if_neg h] at hj; exact .inr hj
  have jb : rN b = 1 ∨ j < rN b := by
   unfold inN at hj
   unfold inBad inN at hbad
   by_cases h : lN a = 1
   ·rw [if_pos h] at hj; exact .inr hj
   ·rw [if_neg h] at hj hbad
    by_cases h2 : rN b = 1
    ·exact .inl h2
    ·refine .inr ?_
     by_cases h3 : rN b = lN a
     ·omega
     ·exact absurd ⟨.inr h3, h, h2⟩ hbad
  unfold M.anamnesisref12_Inner_L2
  simp only []
  rw [if_pos (by simp only [decide_eq_true_eq]; omega), sub_take (by omega), Option.bind_some, elA_eq hva hp1 ja, Option.bind_some, sub_drop (by omega), Option.bind_some, elB_eq hvb hp2 jb, Option.bind_some, Two_eq hg (itA_rng hra _) (itA_rng hrb _), hi, hk]
  have eG : f2 g (itA a (i * lN a + j * stp (lN a) 1)) (itA b (k + j * stp (rN b) (rZ b))) = inG g a b i k j := rfl
  rw [eG]
  simp only [Option.bind_some]
  by_cases hE : (inG g a b i k j).2 = 0
  ·rw [if_neg (by simpa using hE), if_neg (nn hE), app_ok (by simp [inL]; omega), Option.bind_some, w64_id (by omega) (by omega)]
   unfold inL
   rw [List.range_succ, List.map_append]
   rfl
  ·rw [if_pos (by simpa using hE), if_pos hE]) (by
  unfold M.anamnesisref12_Inner_L2
  simp)
 have e : inL (inG g a b i k) 0 = [] := rfl
 simp only [Int.natCast_zero, e] at key
 exact key
theorem rInner_eq {f g : ByteArray} {a b : Val} (hda : a.Data.length ≤ 1000000000) (hdb : b.Data.length ≤ 1000000000) (hra : ∀ x ∈ a.Data, rng x) (hrb : ∀ x ∈ b.Data, rng x) : M.anamnesisref12_Inner f g a b = some (innV f g a b) := by
 unfold M.anamnesisref12_Inner innV
 rw [ref02_Right_eq (by omega), ref02_Right_eq (by omega)]
 simp only [Option.bind_some]
 by_cases hv : vRight a = false ∨ vRight b = false
 ·rw [if_pos hv]
  rcases hv with h | h
  ·rw [h]; rfl
  ·rw [h]; cases vRight a <;> rfl
 have hva : vRight a = true := by
  cases h : vRight a with
  | true => rfl
  | false => exact absurd (.inl h) hv
 have hvb : vRight b = true := by
  cases h : vRight b with
  | true => rfl
  | false => exact absurd (.inr h) hv
 rw [if_neg hv, hva, hvb, known_eq, known_eq]
 simp only [Bool.not_true, Bool.false_eq_true, if_false, Option.bind_some]
 by_cases hf4 : (idF f).2 = 4
 ·rw [decide_eq_false (fun h => (gl_iff f).mp h hf4), if_pos (show (idF f).2 = 4 ∨ (idF g).2 = 4 from .inl hf4)]; rfl
 have hf : f ∈ gl19 := (gl_iff f).mpr hf4
 rw [decide_eq_true hf]
 simp only [Bool.not_true, Bool.false_eq_true, if_false, Option.bind_some]
 by_cases hg4 : (idF g).2 = 4
 ·rw [decide_eq_false (fun h => (gl_iff g).mp h hg4), if_pos (show (idF f).2 = 4 ∨ (idF g).2 = 4 from .inr hg4)]; rfl
 have hg : g ∈ gl19 := (gl_iff g).mpr hg4
 rw [decide_eq_true hg, if_neg (show ¬ ((idF f).2 = 4 ∨ (idF g).2 = 4) by rintro (h | h) <;> contradiction), if_neg (show ¬ (!true) = true by simp)]
 rw [(long_eq hva).1, (long_eq hvb).2]
 simp only [Option.bind_some]
 obtain ⟨l1, l2, l3, l4⟩ := left_len hva
 obtain ⟨r1, r2, r3, r4⟩ := right_len hvb
 obtain ⟨hoka, _, _⟩ := vRight_iff.mp hva
 obtain ⟨hokb, _, _⟩ := vRight_iff.mp hvb
 have ha4 := hoka.1
 have hb4 := hokb.1
 by_cases hbad : inBad a b
 ·rw [if_pos hbad]
  unfold inBad inN at hbad
  rw [if_pos (by
   simp only [Bool.and_eq_true, bne_iff_ne, ne_eq]
   by_cases h1 : lN a = 1
   ·rw [if_pos h1] at hbad; omega
   ·rw [if_neg h1] at hbad; omega)]
 have hnb : ¬ ((((lN a : Int) != (rN b : Int)) && ((lN a : Int) != 1)) && ((rN b : Int) != 1)) = true := by
  simp only [Bool.and_eq_true, bne_iff_ne, ne_eq]
  intro h
  apply hbad
  unfold inBad inN
  rw [if_neg (by omega)]
  omega
 rw [if_neg hnb, if_neg hbad]
 have hm : (if ((lN a : Int) == 1) = true then some (rN b : Int) else some (lN a : Int)) = some ((inN a b : Nat) : Int) := by
  unfold inN
  by_cases h : lN a = 1
  ·rw [if_pos (by simp; omega), if_pos h]
  ·rw [if_neg (by simp; omega), if_neg h]
 rw [hm]
 simp only [Option.bind_some]
 have e1 : (if decide (IntKind.i64.wrap ((a.Shape.length : Int) - 1) ≥ 0) = true then (sub a.Shape 0 (IntKind.i64.wrap ((a.Shape.length : Int) - 1))).bind fun l1 => (app 8 [] l1).bind fun l2 => some l2 else some []) = some (lShp a) := by
  rw [w64_id (by omega) (by omega)]
  by_cases h0 : a.Shape.length = 0
  ·rw [if_neg (by simp only [decide_eq_true_eq]; omega)]
   unfold lShp
   rw [h0]; rfl
  ·rw [if_pos (by simp only [decide_eq_true_eq]; omega), show (a.Shape.length : Int) - 1 = ((a.Shape.length - 1 : Nat) : Int) by omega, sub_take (by omega), Option.bind_some, app_ok (by simp; omega)]
   rfl
 rw [e1]
 simp only [Option.bind_some]
 have hsl : (lShp a ++ rShp b).length ≤ 100 := by unfold lShp rShp; simp; omega
 have e2 : (if decide ((b.Shape.length : Int) > 0) = true then (sub b.Shape 1 (b.Shape.length : Int)).bind fun l3 => (app 8 (lShp a) l3).bind fun l4 => some l4 else some (lShp a)) = some (lShp a ++ rShp b) := by
  unfold rShp at hsl ⊢
  by_cases h0 : b.Shape.length = 0
  ·rw [if_neg (by simp only [decide_eq_true_eq]; omega), List.drop_of_length_le (by omega), List.append_nil]
  ·have e3 : sub b.Shape 1 (b.Shape.length : Int) = some (b.Shape.drop 1) := sub_drop (k := 1) (by omega)
   rw [if_pos (by simp only [decide_eq_true_eq]; omega), e3, Option.bind_some, app_ok (by rw [List.length_append] at hsl; omega)]
   rfl
 rw [e2]
 simp only [Option.bind_some]
 by_cases hl : 4 < (lShp a ++ rShp b).length
 ·rw [if_pos (by simp only [decide_eq_true_eq]; omega), if_pos hl]
 rw [if_neg (by simp only [decide_eq_true_eq]; omega), if_neg hl, size_in (by omega)]
 simp only [Option.bind_some]
 have hpr : prod (lShp a ++ rShp b) = ((lZ a * rZ b : Nat) : Int) := by
  rw [prod_append, l4, r4]; simp
 have hnn : inN a b ≤ 10000 := by unfold inN; split <;> omega
 by_cases hw : shOk (lShp a ++ rShp b)
 case neg => rw [if_neg hw, if_pos (show (decide ((-1 : Int) < 0) || decide (IntKind.i64.wrap (-1 * ((inN a b : Nat) : Int)) > 1000000)) = true from rfl), if_pos (show ¬ shOk (lShp a ++ rShp b) ∨ 1000000 < lZ a * rZ b * inN a b from .inl hw)]
 have hws := hw.2.2
 rw [hpr] at hws
 have hsz : lZ a * rZ b ≤ 10000 := by omega
 have hszn := Nat.mul_le_mul hsz hnn
 have c1 : ((lZ a * rZ b : Nat) : Int) * ((inN a b : Nat) : Int) = ((lZ a * rZ b * inN a b : Nat) : Int) := by simp
 rw [if_pos hw, hpr, c1, w64_id (by omega) (by omega)]
 by_cases hbig : 1000000 < lZ a * rZ b * inN a b
 ·rw [if_pos (by simp only [Bool.or_eq_true, decide_eq_true_eq]; right; omega), if_pos (.inr hbig)]
 rw [if_neg (by simp only [Bool.or_eq_true, decide_eq_true_eq]; omega), if_neg (by rintro (h | h); exact h hw; exact hbig h)]
 have key := err_loop (F := M.anamnesisref12_Inner_L1 f g a b ((inN a b : Nat) : Int) (lShp a) (lShp a ++ rShp b) ((lZ a * rZ b : Nat) : Int)) (fun q => ((q : Int), vls (fun q => (inQ f g a b q).1.n) q)) (fun q => (inQ f g a b q).2) (fun e => .done (⟨false, [], []⟩, e)) (.next (vls (fun q => (inQ f g a b q).1.n) (lZ a * rZ b))) (lZ a * rZ b) (fun q hq => by
  have hpos : allPos (lShp a ++ rShp b) := allPos_of (fun x hx => (hw.2.1 x hx).1) (by omega)
  have hin := dig_in (s := lShp a ++ rShp b) (k := (q : Int)) hpos (by omega) (by omega)
  have ho := off_dig (s := lShp a ++ rShp b) (k := (q : Int)) hpos (by omega) (by omega)
  have hdl := dig_len (lShp a ++ rShp b) (q : Int)
  unfold M.anamnesisref12_Inner_L1
  simp only []
  rw [if_pos (by simp only [decide_eq_true_eq]; omega), ref07_At_eq hw (by omega), Option.bind_some]
  generalize dig (lShp a ++ rShp b) (q : Int) = p at *
  obtain ⟨hp1, hp2⟩ := inShape_split hin
  have o1 := off_range hp1
  have o2 := off_range hp2
  rw [r4] at o2
  have e3 : off (lShp a) (p.take (lShp a).length) * prod (rShp b) + off (rShp b) (p.drop (lShp a).length) = q := by
   have := off_app (a := lShp a) (p := p.take (lShp a).length) (b := rShp b) (q := p.drop (lShp a).length) (by simp; rw [hdl]; simp)
   rw [List.take_append_drop, ho] at this
   exact this.symm
  obtain ⟨i, hi⟩ : ∃ i : Nat, off (lShp a) (p.take (lShp a).length) = i := ⟨(off (lShp a) (p.take (lShp a).length)).toNat, by omega⟩
  obtain ⟨k, hk⟩ : ∃ k : Nat, off (rShp b) (p.drop (lShp a).length) = k := ⟨(off (rShp b) (p.drop (lShp a).length)).toNat, by omega⟩
  rw [hi, hk, r4] at e3
  rw [hk] at o2
  have hkz : k < rZ b := by omega
  have e4 : i * rZ b + k = q := by
   have : ((i * rZ b + k : Nat) : Int) = q := by rw [← e3]; simp
   omega
  rw [rInner_L2 hg hva hvb hra hrb hbad hp1 hp2 (i := i) (k := k) (by rw [hi]; simp) (by rw [hk]; simp) (by rw [hdl]; simp)]
  have eq : inQ f g a b q = inC f g a b i k := by
   rw [← e4]; unfold inQ
   rw [(grid_div hkz).1, (grid_div hkz).2]
  rw [eq]
  unfold inC
  by_cases hC : fe (fun j => (inG g a b i k j).2) (inN a b) = 0
  ·simp only [Option.bind_some]
   rw [if_neg (nn hC), if_neg (nn hC)]
   simp only [joinK]
   rw [Row_eq hf (by simp [inL]; omega) (fun x hx => by
    obtain ⟨j, _, rfl⟩ := List.mem_map.mp hx
    exact inG_rng hra hrb i k j)]
   simp only [Option.bind_some]
   by_cases hE : (red f (inL (inG g a b i k) (inN a b))).2 = 0
   ·rw [if_neg (by simpa using hE), if_neg (nn hE), app_ok (by rw [vls_len]; simp; omega), Option.bind_some, w64_id (by omega) (by omega), vls_succ, eq]
    unfold inC
    rw [if_neg (nn hC)]
    rfl
   ·rw [if_pos (by simpa using hE), if_pos hE]
  ·simp only [Option.bind_some]
   rw [if_pos hC, if_pos hC, if_pos hC]
   rfl) (by
  unfold M.anamnesisref12_Inner_L1
  simp)
 have ev : vls (fun q => (inQ f g a b q).1.n) 0 = [] := rfl
 simp only [Int.natCast_zero, ev] at key
 rw [key]
 simp only [Option.bind_some]
 by_cases hE : fe (fun q => (inQ f g a b q).2) (lZ a * rZ b) = 0
 ·rw [if_neg (nn hE), if_neg (nn hE)]; rfl
 ·rw [if_pos hE, if_pos hE]; rfl
theorem outV_bd (fn : ByteArray) (a b : Val) : (outV fn a b).1.Shape.length ≤ maxLen ∧ (outV fn a b).1.Data.length ≤ maxLen := by
 have hmax : maxLen = 9223372036854775807 := rfl
 have z : ((⟨false, [], []⟩ : Val).Shape.length ≤ maxLen ∧ (⟨false, [], []⟩ : Val).Data.length ≤ maxLen) := by simp
 unfold outV
 split
 ·exact z
 split
 ·exact z
 split
 ·exact z
 split
 ·exact z
 split
 ·exact z
 ·rename_i hv _ h4 hw _
  have hw' : shOk (a.Shape ++ b.Shape) := Classical.byContradiction hw
  have hva : vRight a = true := by
   cases h : vRight a with
   | true => rfl
   | false => exact absurd (.inl h) hv
  have hvb : vRight b = true := by
   cases h : vRight b with
   | true => rfl
   | false => exact absurd (.inr h) hv
  obtain ⟨_, hla, _⟩ := vRight_iff.mp hva
  obtain ⟨_, hlb, _⟩ := vRight_iff.mp hvb
  have hpr : prod (a.Shape ++ b.Shape) = ((a.Data.length * b.Data.length : Nat) : Int) := by
   rw [prod_append, hla, hlb]; simp
  have h1 := hw'.1
  have h2 := hw'.2.2
  rw [hpr] at h2
  simp only [vls_len]
  exact ⟨by omega, by omega⟩
theorem innV_bd (f g : ByteArray) (a b : Val) : (innV f g a b).1.Shape.length ≤ maxLen ∧ (innV f g a b).1.Data.length ≤ maxLen := by
 have hmax : maxLen = 9223372036854775807 := rfl
 have z : ((⟨false, [], []⟩ : Val).Shape.length ≤ maxLen ∧ (⟨false, [], []⟩ : Val).Data.length ≤ maxLen) := by simp
 unfold innV
 split
 ·exact z
 split
 ·exact z
 split
 ·exact z
 split
 ·exact z
 split
 ·exact z
 split
 ·exact z
 ·rename_i hv _ _ h4 hw _
  have hw' : shOk (lShp a ++ rShp b) := Classical.byContradiction fun h => hw (.inl h)
  have hva : vRight a = true := by
   cases h : vRight a with
   | true => rfl
   | false => exact absurd (.inl h) hv
  have hvb : vRight b = true := by
   cases h : vRight b with
   | true => rfl
   | false => exact absurd (.inr h) hv
  obtain ⟨_, _, _, l4⟩ := left_len hva
  obtain ⟨_, _, _, r4⟩ := right_len hvb
  have hpr : prod (lShp a ++ rShp b) = ((lZ a * rZ b : Nat) : Int) := by
   rw [prod_append, l4, r4]; simp
  have h1 := hw'.1
  have h2 := hw'.2.2
  rw [hpr] at h2
  simp only [vls_len]
  exact ⟨by omega, by omega⟩
theorem told_same {v : Val} {e : Int} (hb : v.Shape.length ≤ maxLen ∧ v.Data.length ≤ maxLen) : M.anamnesislaw12_told v e v e = some true := by
 unfold M.anamnesislaw12_told
 rw [if_pos (by simp), ref02_Same_eq hb.1 hb.2, vSame_refl]; rfl
theorem overTwo_true (f g : ByteArray) (v w : Val) (gf : f.size ≤ maxLen) (gg : g.size ≤ maxLen) (hv : (∀ x ∈ v.Shape, (Lit.int .i64 x).wf = true) ∧ (∀ x ∈ v.Data, (Lit.int .i64 x).wf = true) ∧ v.Shape.length ≤ maxLen ∧ v.Data.length ≤ maxLen)
  (hw : (∀ x ∈ w.Shape, (Lit.int .i64 x).wf = true) ∧ (∀ x ∈ w.Data, (Lit.int .i64 x).wf = true) ∧ w.Shape.length ≤ maxLen ∧ w.Data.length ≤ maxLen) : M.anamnesislaw12_OverTwo f g v w = some true := by
 have hmax : maxLen = 9223372036854775807 := rfl
 unfold M.anamnesislaw12_OverTwo M.anamnesislaw12_great
 simp only [Option.bind_some]
 by_cases h1 : (300 < v.Data.length ∨ 10 < v.Shape.length) ∨ 10 < f.size
 ·rw [if_pos (by simp only [Bool.or_eq_true, decide_eq_true_eq]; omega)]; rfl
 rw [if_neg (by simp only [Bool.or_eq_true, decide_eq_true_eq]; omega)]
 by_cases h2 : (300 < w.Data.length ∨ 10 < w.Shape.length) ∨ 10 < g.size
 ·simp only [Option.bind_some]
  rw [if_pos (by simp only [Bool.or_eq_true, decide_eq_true_eq]; omega)]
 simp only [Option.bind_some]
 rw [if_neg (by simp only [Bool.or_eq_true, decide_eq_true_eq]; omega)]
 have r1 : ∀ x ∈ v.Data, rng x := fun x hx => wf64 (hv.2.1 x hx)
 have r2 : ∀ x ∈ w.Data, rng x := fun x hx => wf64 (hw.2.1 x hx)
 rw [Outer_eq (by omega) (by omega) r1 r2, rOuter_eq (by omega) (by omega) r1 r2, Inner_eq (by omega) (by omega) r1 r2, rInner_eq (by omega) (by omega) r1 r2]
 simp only [Option.bind_some]
 rw [told_same (outV_bd f v w), told_same (innV_bd f g v w)]
 rfl
end Go.Proofs.Ytblgdjpeedgnoaa.overTwo
