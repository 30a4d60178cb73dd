/- TurnTells: walks of the code: the run of each function comes to what its plain function says. -/
import Derived.Test.YteoojnahehgakaaWTurnTellsa
set_option maxHeartbeats 4000000
set_option linter.unusedVariables false
set_option linter.unusedSimpArgs false
set_option maxRecDepth 100000
open Go Go.Am Go.Proofs
namespace Go.Proofs.Yteoojnahehgakaa.turnTells
variable {ora : FuncId → Bool}
theorem wk65 {wm : Nat} {H : AHeap} {Fr : List Ent} (s1 : (List Int)) (i1 j1 : Int) (v1 : Value) (hI : Kn wm H [.own (rI .i64) v1 s1] Fr) {r : (List Int)} (h0 : M.slices_Delete__int s1 i1 j1 = some r) :
  wpF Try.prog ora wm 65 [v1, .int .i64 i1, .int .i64 j1] H (fun res H => ∃ v2, res = v2 ∧ Kn wm H [.own (rI .i64) v2 r] Fr) := by
 unfold M.slices_Delete__int del at h0
 split at h0
 case isFalse => cases h0
 rename_i hij
 obtain rfl := Option.some.inj h0
 obtain ⟨i, rfl⟩ : ∃ i : Nat, i1 = i := ⟨i1.toNat, by omega⟩
 obtain ⟨j, rfl⟩ : ∃ j : Nat, j1 = j := ⟨j1.toNat, by omega⟩
 simp only [Int.toNat_natCast]
 have hi : i ≤ j := by omega
 have hj : j ≤ s1.length := by omega
 obtain ⟨Z, hK⟩ := hI
 have hsh := hK.slAt (k := 0) (r := (rI .i64)) (v := v1) (l := s1) rfl (.inr (.inl rfl))
 refine f_enter (n := 33) Try.func65 rfl (by simp) ⟨Z, hK⟩ rfl rfl rfl fun tm hS => ?_
 refine c_reg fun R hR => ?_
 refine o_pure hS (.inl rfl) rfl rfl fun tm hS => ?_
 refine o_nil (hR _ _ ?_)
 refine c_reg fun R hR => ?_
 refine o_pure hS (.inl rfl) rfl rfl fun tm hS => ?_
 refine o_pure hS (.inl rfl) rfl rfl fun tm hS => ?_
 refine o_pure hS (.inl rfl) rfl rfl fun tm hS => ?_
 refine o_pure hS (.inl rfl) rfl rfl fun tm hS => ?_
 refine o_len (k := 0) (r := (rI .i64)) hS (.inl rfl) rfl rfl rfl (.inr (.inl rfl)) Fu22 rfl fun tm hS => ?_
 have hsl : ∃ v, aSlice Try.prog H 22 v1 (some (.int .i64 (i : Int))) (some (.int .i64 (j : Int))) (some (.int .i64 (s1.length : Int))) = some v := by
  rcases hsh with ⟨rfl, rfl⟩ | ⟨b, o, cap, own, gr, cells, cs, rfl, q1, q2, q3, q4⟩
  ·obtain rfl : i = 0 := by simp at hj; omega
   obtain rfl : j = 0 := by simp at hj; omega
   have e : bnd 0 (some (.int .i64 ((0 : Nat) : Int))) = some (some 0) := bnd_some (Nat.le_refl 0)
   have e' : bnd 0 (some (.int .i64 (([] : (List Int)).length : Int))) = some (some 0) := bnd_some (Nat.le_refl 0)
   refine ⟨.slice none 0 0, ?_⟩
   unfold aSlice
   simp only [Fu22, Fs3, e, e', Option.isSome_some, Option.isNone_some, Bool.and_false, Bool.false_eq_true, if_false, Option.getD_some]
  ·exact ⟨_, aSlice_row Fu22 Fs3 q2 (bnd_some q1) rfl (bnd_some hj) (bnd_some hi)⟩
 obtain ⟨sv, hsv⟩ := hsl
 refine o_sliceV hS (.inl rfl) rfl rfl (vlo := [.int .i64 (i : Int)]) (vhi := [.int .i64 (j : Int)]) (vmx := [.int .i64 (s1.length : Int)]) rfl rfl rfl hsv fun tm hS => ?_
 refine o_nil (hR _ _ ?_)
 refine c_seqS ?_
 refine c_reg fun R hR => ?_
 refine o_pure hS (.inl rfl) rfl rfl fun tm hS => ?_
 refine o_pure hS (.inl rfl) rfl rfl fun tm hS => ?_
 refine o_pure hS (.inl rfl) rfl rfl fun tm hS => ?_
 refine o_nil (hR _ _ ?_)
 refine c_cond hS rfl (fun hc => ?_) (fun hc => ?_)
 ·refine c_reg fun R hR => ?_
  refine o_pure hS (.inl rfl) rfl rfl fun tm hS => ?_
  refine o_pure hS (.inl rfl) rfl rfl fun tm hS => ?_
  refine o_nil (hR _ _ ?_)
  refine wpC.ret ?_
  have hij2 : i = j := by
   have : (i : Int) = (j : Int) := by simpa using hc
   omega
  subst hij2
  rw [List.take_append_drop]
  refine Exists.intro _ (And.intro (rs_tmp hS rfl rs_nil) ?_)
  exact ⟨_, rfl, hS.inv⟩
 ·have hlt : i < j := by
   have : ¬ ((i : Int) = (j : Int)) := by simpa using hc
   omega
  refine wpC.skip ?_
  refine c_reg fun R hR => ?_
  refine o_pure hS (.inl rfl) rfl rfl fun tm hS => ?_
  refine o_len (k := 0) (r := (rI .i64)) hS (.inl rfl) rfl rfl rfl (.inr (.inl rfl)) Fu22 rfl fun tm hS => ?_
  refine o_pure hS (.inl rfl) rfl rfl fun tm hS => ?_
  refine o_nil (hR _ _ ?_)
  rcases hsh with ⟨rfl, rfl⟩ | ⟨b, o, cap, own0, gr0, cells0, cs0, rfl, q1, _, _, _⟩
  ·simp at hj; omega
  obtain ⟨_, hwm, hbn, gr, cells, cs, g1, g2, g3, g4, g5⟩ := hK.ownAt (k := 0) rfl
  have hsz1 : ((rI .i64)).sz = 1 := rfl
  rw [hsz1] at g1 g2 g4
  simp only [Nat.mul_one] at g2 g4
  have hcl : cs.length = s1.length := by have := g5.len; rw [hsz1] at this; omega
  refine c_reg fun R hR => ?_
  refine o_pure hS (.inl rfl) rfl rfl fun tm hS => ?_
  refine o_pure hS (.inl rfl) rfl rfl fun tm hS => ?_
  refine o_sliceV hS (.inl rfl) rfl rfl (vlo := []) (vhi := [.int .i64 (i : Int)]) (vmx := []) rfl rfl rfl (aSlice_row Fu22 Fs3 g1 (m := none) (h := some i) (l := none) rfl rfl (bnd_some (by simp; omega)) rfl) fun tm hS => ?_
  refine o_pure hS (.inl rfl) rfl rfl fun tm hS => ?_
  refine o_pure hS (.inl rfl) rfl rfl fun tm hS => ?_
  refine o_sliceV hS (.inl rfl) rfl rfl (vlo := [.int .i64 (j : Int)]) (vhi := []) (vmx := []) rfl rfl rfl (aSlice_row Fu22 Fs3 g1 (m := none) (h := none) (l := some j) rfl rfl rfl (bnd_some hj)) fun tm hS => ?_
  simp only [Option.getD_none, Option.getD_some, Nat.sub_zero, Nat.zero_mul, Nat.add_zero, Nat.mul_one] at hS ⊢
  have hcut2 : cut cells (o + j) (s1.length - j) = some ((cs.drop j).take (s1.length - j)) := cut_part g4 (by omega)
  have hdr : (cs.drop j).take (s1.length - j) = cs.drop j := List.take_of_length_le (by simp; omega)
  rw [hdr] at hcut2
  have hrow1 : rowOf (rI .i64) Z (cs.take i) (s1.take i) := by have := g5.take i; rw [hsz1, Nat.mul_one] at this; exact this
  have hrow2 : rowOf (rI .i64) Z (cs.drop j) (s1.drop j) := by have := g5.drop j; rw [hsz1, Nat.mul_one] at this; exact this
  have hcut1 : cut cells o i = some (cs.take i) := by have := cut_part (i := 0) (k := i) g4 (by omega); simpa using this
  have ha : ∃ cells2 gr2, ∃ H2, aAppend Try.prog wm H 22 22 (.slice (some ⟨b, o, none⟩) i cap) (.slice (some ⟨b, o + j, none⟩) (s1.length - j) (cap - j)) = some (.slice (some ⟨b, o, none⟩) (i + (s1.length - j)) cap, H2) ∧
    H2.get b = some (.row true gr2 1 cells2) ∧ cells2.length = cells.length ∧ Kn0 Z wm H2 [.own (rI .i64) (.slice (some ⟨b, o, none⟩) (s1.take i ++ s1.drop j).length cap) (s1.take i ++ s1.drop j)] Fr := by
   have hlen2 : (s1.take i ++ s1.drop j).length = i + (s1.length - j) := by simp; omega
   have hac : aCells H ((rI .i64)).sz (.slice (some ⟨b, o + j, none⟩) (s1.length - j) (cap - j)) = some ((s1.drop j).length, cs.drop j) := by
    simp only [aCells, g1, hsz1, Nat.mul_one, hcut2, Option.map_some]
    simp
   by_cases hz : s1.drop j = []
   ·have hjl : j = s1.length := by
     have := congrArg List.length hz; simp at this; omega
    subst hjl
    refine ⟨cells, gr, H, ?_, g1, rfl, ?_⟩
    ·have hac0 : aCells H 1 (.slice (some ⟨b, o + s1.length, none⟩) (s1.length - s1.length) (cap - s1.length)) = some (0, []) := by
      simp only [aCells, g1, Nat.sub_self, Nat.zero_mul]
      unfold cut
      rw [if_pos (by omega)]; simp
     have := append_none (P := Try.prog) (wm := wm) (a := some ⟨b, o, none⟩) (x := i) (y := cap) Fe22_22 hac0
     simpa using this
    ·have := hK.ownSet (k := 0) (o' := o) (cap' := cap) (gr := gr) (l' := s1.take i ++ s1.drop s1.length) (cells := cells) (cs' := cs.take i) rfl (by rw [hsz1]; omega) (by rw [hlen2]; omega) (by rw [hlen2, hsz1]; simpa using hcut1) (by simpa using hrow1)
     have hsame : (H.set b (.row true gr ((rI .i64)).sz cells)).n = H.n := rfl
     refine this.heq ?_ rfl
     intro x
     by_cases hx : x = b
     ·subst hx; rw [AHeap.get_set_same]; exact g1.symm
     ·rw [AHeap.get_set_ne _ _ hx]
   ·have hne := hz
    have hdl : (cs.drop j).length = s1.length - j := by simp; omega
    obtain ⟨cells2, hl2, hl3⟩ := lay_ok (cells := cells) (vs := cs.drop j) (o := o + i) (by rw [hdl]; omega)
    obtain ⟨c1, _⟩ := lay_cut2 hcut1 hl2
    refine ⟨cells2, gr, H.set b (.row true gr 1 cells2), ?_, AHeap.get_set_same _ _ _, hl3, ?_⟩
    ·have := append_in (P := Try.prog) (wm := wm) (st := 22) (xt := 22) Fe22_22 hac hne hwm (by rw [hsz1]; exact g1) (len := i) (cap := cap) (o := o) (by simp; omega) (by rw [hsz1, Nat.mul_one]; exact hl2)
     simpa [hsz1] using this
    ·have := hK.ownSet (k := 0) (o' := o) (cap' := cap) (gr := gr) (l' := s1.take i ++ s1.drop j) (cells := cells2) (cs' := cs.take i ++ cs.drop j) rfl (by rw [hsz1]; omega) (by rw [hlen2]; omega) (by rw [hlen2, hsz1, Nat.mul_one]; rw [hdl] at c1; exact c1) (hrow1.app hrow2)
     exact this
  obtain ⟨cells2, gr2, H2, hap, hg2, hcl2, hK2⟩ := ha
  have hlen2 : (s1.take i ++ s1.drop j).length = i + (s1.length - j) := by simp; omega
  refine o_appV hS (.inl rfl) rfl rfl rfl rfl Fu22 rfl hap ⟨Z, hK2⟩ fun tm hS => ?_
  refine o_pure hS (.inl rfl) rfl rfl fun tm hS => ?_
  refine o_nil (hR _ _ ?_)
  rw [← hlen2] at hS
  refine c_reg fun R hR => ?_
  refine o_pure hS (.inl rfl) rfl rfl fun tm hS => ?_
  refine o_pure hS (.inl rfl) rfl rfl fun tm hS => ?_
  refine o_len (k := 0) (r := (rI .i64)) hS (.inl rfl) rfl rfl rfl (.inr (.inl rfl)) Fu22 rfl fun tm hS => ?_
  refine o_pure hS (.inl rfl) rfl rfl fun tm hS => ?_
  refine o_sliceV hS (.inl rfl) rfl rfl (vlo := [.int .i64 ((s1.take i ++ s1.drop j).length : Int)]) (vhi := [.int .i64 (s1.length : Int)]) (vmx := []) rfl rfl rfl (aSlice_row Fu22 Fs3 hg2 (m := none) (h := some s1.length) (l := some (s1.take i ++ s1.drop j).length) rfl rfl (bnd_some (by simp; omega)) (bnd_some (by simp; omega))) fun tm hS => ?_
  simp only [Option.getD_none, Option.getD_some, Nat.mul_one] at hS ⊢
  obtain ⟨q, hq⟩ : ∃ q, s1.length - (s1.take i ++ s1.drop j).length = q + 1 := ⟨s1.length - (s1.take i ++ s1.drop j).length - 1, by rw [hlen2]; omega⟩
  obtain ⟨cells3, hl4, hl5⟩ := lay_ok (cells := cells2) (vs := (zeros (((Try.prog.info? 3).getD default).zero.getD undef) (q + 1)).toList) (o := o + (s1.take i ++ s1.drop j).length) (by
   have : (zeros (((Try.prog.info? 3).getD default).zero.getD undef) (q + 1)).toList.length = q + 1 := by simp [zeros]
   rw [this, hcl2]; omega)
  obtain ⟨_, _, _, gr3, cells4, cs4, k1, k2, k3, k4, k5⟩ := hK2.ownAt (k := 0) rfl
  rw [hg2] at k1
  obtain ⟨rfl, rfl⟩ : gr2 = gr3 ∧ cells2 = cells4 := by simpa [hsz1] using k1
  refine o_clrV (H' := H2.set b (.row true gr2 1 cells3)) (L' := [.own (rI .i64) (.slice (some ⟨b, o, none⟩) (s1.take i ++ s1.drop j).length cap) (s1.take i ++ s1.drop j)]) hS (.inl rfl) rfl rfl ?_ ⟨Z, ?_⟩ fun tm hS => ?_
  ·rw [hq]
   exact clear_in Fm22 hwm hg2 hl4
  ·have := hK2.ownSet (k := 0) (o' := o) (cap' := cap) (gr := gr2) (l' := s1.take i ++ s1.drop j) (cells := cells3) (cs' := cs4) rfl (by rw [hsz1] at k2 ⊢; omega) k3 (by
    rw [hsz1, Nat.mul_one] at k4 ⊢
    rw [lay_after hl4]; exact k4) k5
   exact this
  refine o_nil (hR _ _ ?_)
  refine c_reg fun R hR => ?_
  refine o_pure hS (.inl rfl) rfl rfl fun tm hS => ?_
  refine o_pure hS (.inl rfl) rfl rfl fun tm hS => ?_
  refine o_nil (hR _ _ ?_)
  refine wpC.ret ?_
  refine Exists.intro _ (And.intro (rs_tmp hS rfl rs_nil) ?_)
  exact ⟨_, rfl, hS.inv⟩
theorem wk40 {wm : Nat} {H : AHeap} {Fr : List Ent}  (s1 : (List Int)) (axis1 : Int)  (v1 : Value) (hI : Kn wm H [.fz (rI .i64) v1 s1] Fr) {r : (List Int)} (h0 : M.shape_Without s1 axis1 = some r) :
  wpF Try.prog ora wm 40 [v1, .int .i64 axis1] H (fun res H => ∃ v4, res = v4 ∧ Kn wm H [.own (rI .i64) v4 r] Fr) := by
 unfold M.shape_Without at h0
 refine f_enter (n := 22) Try.func40 rfl (by simp) hI rfl rfl rfl fun tm hS => ?_
 clear hI
 refine c_reg fun R hR => ?_
 refine o_pure hS (.inl rfl) rfl rfl ?_; clear hS; try clear tm
 intro tm hS
 refine o_nil (hR _ _ ?_)
 clear hR R
 refine c_reg fun R hR => ?_
 refine o_pure hS (.inl rfl) rfl rfl ?_; clear hS; try clear tm
 intro tm hS
 obtain ⟨r1, hx1, h0⟩ := bindS h0
 refine o_call hS (.inl rfl) rfl (fun wm' hw1 hw2 => wk54  s1  v1 ((hS.sel hw2).ad 0 rfl) hx1) (fun wm' res H hw' hp => ?_)
 obtain ⟨v2, hres, hI⟩ := hp
 replace hres := hres.symm; subst hres
 replace hS : S wm 22 _ H ((7, v2) :: _) ([.own (rI .i64) v2 r1] ++ _) Fr := hS.after rfl hw' hI
 clear hI hw'
 refine o_pure hS (.inl rfl) rfl rfl ?_; clear hS; try clear tm
 intro tm hS
 refine o_nil (hR _ _ ?_)
 clear hR R
 refine c_seqS ?_
 refine c_reg fun R hR => ?_
 refine o_pure hS (.inl rfl) rfl rfl ?_; clear hS; try clear tm
 intro tm hS
 refine o_pure hS (.inl rfl) rfl rfl ?_; clear hS; try clear tm
 intro tm hS
 refine o_pure hS (.inl rfl) rfl rfl ?_; clear hS; try clear tm
 intro tm hS
 obtain ⟨c1, hc1⟩ : ∃ x : Bool, x = ((decide (axis1 < 0)) || (decide (axis1 ≥ (s1.length : Int)))) := ⟨_, rfl⟩
 refine o_cutN 5 (J := fun tm H => S wm 22 tm H [(15, .bool c1), (1, .int .i64 axis1), (5, v2)] [.own (rI .i64) v2 r1] Fr) ?_ ?_
 ·rcases Bool.eq_false_or_eq_true (decide (axis1 < 0)) with hg1 | hg1
  ·refine o_skip hS rfl rfl rfl hg1 ?_; clear hS; try clear tm
   intro tm hS
   refine o_skip hS rfl rfl rfl hg1 ?_; clear hS; try clear tm
   intro tm hS
   refine o_skip hS rfl rfl rfl hg1 ?_; clear hS; try clear tm
   intro tm hS
   refine o_skip hS rfl rfl rfl hg1 ?_; clear hS; try clear tm
   intro tm hS
   refine o_pickT hS (.inl rfl) rfl rfl hg1 rfl ?_; clear hS; try clear tm
   intro tm hS
   have hc1 : c1 = true := hc1.trans (by rw [hg1]; first | rfl | simp)
   subst hc1
   exact o_nil (hS.keep (ka_cons rfl (ka_cons rfl (ka_cons rfl ka_nil))) (fun hI => (hI.sub (sc sn))))
  ·refine o_pure hS (.inr ⟨_, _, _, _, rfl, rfl, rfl, hg1⟩) rfl rfl ?_; clear hS; try clear tm
   intro tm hS
   refine o_pure hS (.inr ⟨_, _, _, _, rfl, rfl, rfl, hg1⟩) rfl rfl ?_; clear hS; try clear tm
   intro tm hS
   refine o_len (k := 1) (r := (rI .i64)) hS (.inr ⟨_, _, _, _, rfl, rfl, rfl, hg1⟩) rfl rfl rfl (.inl rfl) Fu22 rfl ?_; clear hS; try clear tm
   intro tm hS
   refine o_pure hS (.inr ⟨_, _, _, _, rfl, rfl, rfl, hg1⟩) rfl rfl ?_; clear hS; try clear tm
   intro tm hS
   refine o_pickF hS (.inl rfl) rfl rfl hg1 rfl ?_; clear hS; try clear tm
   intro tm hS
   have hc1 : c1 = (decide (axis1 ≥ (s1.length : Int))) := hc1.trans (by rw [hg1]; first | rfl | simp)
   subst hc1
   exact o_nil (hS.keep (ka_cons rfl (ka_cons rfl (ka_cons rfl ka_nil))) (fun hI => (hI.sub (sc sn))))
 intro tm H hS
 subst hc1
 refine o_nil (hR _ _ ?_)
 clear hR R
 refine c_cond hS rfl (fun hc => ?_) (fun hc => ?_)
 ·replace h0 := iteT hc h0
  refine c_reg fun R hR => ?_
  refine o_pure hS (.inl rfl) rfl rfl ?_; clear hS; try clear tm
  intro tm hS
  refine o_pure hS (.inl rfl) rfl rfl ?_; clear hS; try clear tm
  intro tm hS
  refine o_nil (hR _ _ ?_)
  clear hR R
  refine wpC.ret ?_
  obtain rfl := Option.some.inj h0
  refine Exists.intro _ (And.intro (rs_tmp hS rfl rs_nil) ?_)
  have hI := hS.inv
  exact ⟨v2, rfl, (hI.sub (sc sn))⟩
 ·replace h0 := iteF hc h0
  refine wpC.skip ?_
  refine c_reg fun R hR => ?_
  refine o_pure hS (.inl rfl) rfl rfl ?_; clear hS; try clear tm
  intro tm hS
  refine o_pure hS (.inl rfl) rfl rfl ?_; clear hS; try clear tm
  intro tm hS
  refine o_pure hS (.inl rfl) rfl rfl ?_; clear hS; try clear tm
  intro tm hS
  refine o_pure hS (.inl rfl) rfl rfl ?_; clear hS; try clear tm
  intro tm hS
  replace hS := hS.front 0 rfl
  obtain ⟨r2, hx2, h0⟩ := bindS h0
  refine o_callO hS (.inl rfl) rfl rfl (wk65  r1 axis1 (IntKind.i64.wrap (axis1 + 1))  v2 (hS.selN 1) hx2) (fun res H hp => ?_)
  obtain ⟨v3, hres, hI⟩ := hp
  replace hres := hres.symm; subst hres
  replace hS : S wm 22 _ H ((21, v3) :: _) ([.own (rI .i64) v3 r2] ++ _) Fr := hS.afterN rfl hI
  clear hI
  refine o_pure hS (.inl rfl) rfl rfl ?_; clear hS; try clear tm
  intro tm hS
  refine o_nil (hR _ _ ?_)
  clear hR R
  refine wpC.ret ?_
  obtain rfl := Option.some.inj h0
  refine Exists.intro _ (And.intro (rs_tmp hS rfl rs_nil) ?_)
  have hI := hS.inv
  exact ⟨v3, rfl, (hI.sub (sc sn))⟩
theorem wk41 {wm : Nat} {H : AHeap} {Fr : List Ent}  (row1 : Int) (x1 : Val)  (v1 : Value) (v2 : Value) (b1 : Nat) (hI : Kn wm H [.fz (rI .i64) v1 x1.Shape, .fz (rI .i64) v2 x1.Data, .fbox b1 [.bool x1.Char, v1, v2]] Fr) {r : Int} (h0 : M.turn_Rotate_1 row1 x1 = some r) :
  wpF Try.prog ora wm 41 [.int .i64 row1, .pointer (some ⟨b1, 0, none⟩)] H (fun res H => res = .int .i64 r ∧ Kn wm H [] Fr) := by
 unfold M.turn_Rotate_1 at h0
 refine f_enter (n := 9) Try.func41 rfl (by simp) hI rfl rfl rfl fun tm hS => ?_
 clear hI
 refine c_reg fun R hR => ?_
 refine o_pure hS (.inl rfl) rfl rfl ?_; clear hS; try clear tm
 intro tm hS
 refine o_nil (hR _ _ ?_)
 clear hR R
 refine c_reg fun R hR => ?_
 refine o_pure hS (.inl rfl) rfl rfl ?_; clear hS; try clear tm
 intro tm hS
 refine o_ld1 (k := 2) hS (.inl rfl) rfl rfl rfl (.inr rfl) Fu23 rfl rfl ?_; clear hS; try clear tm
 intro tm hS
 refine o_pure hS (.inl rfl) rfl rfl ?_; clear hS; try clear tm
 intro tm hS
 obtain ⟨y1, hx1, h0⟩ := bindS h0
 refine o_ixA (k := 1) (r := (rI .i64)) hS (.inl rfl) rfl rfl rfl rfl (.inl rfl) Fu23 Fs2 hx1 ?_; clear hS; try clear tm
 intro tm hS
 refine o_ldF (r := (rI .i64)) (k := 1) hS (.inl rfl) rfl rfl rfl (.inl rfl) hx1 Fu2 rfl (flat_I _) rfl ?_; clear hS; try clear tm
 intro tm hS
 refine o_pure hS (.inl rfl) rfl rfl ?_; clear hS; try clear tm
 intro tm hS
 refine o_nil (hR _ _ ?_)
 clear hR R
 refine wpC.ret ?_
 obtain rfl := Option.some.inj h0
 refine Exists.intro _ (And.intro (rs_tmp hS rfl rs_nil) ?_)
 have hI := hS.inv
 exact ⟨rfl, (hI.sub sn)⟩
theorem wk42 {wm : Nat} {H : AHeap} {Fr : List Ent}  (x1 : Int) (x2 : Val)  (v1 : Value) (v2 : Value) (b1 : Nat) (hI : Kn wm H [.fz (rI .i64) v1 x2.Shape, .fz (rI .i64) v2 x2.Data, .fbox b1 [.bool x2.Char, v1, v2]] Fr) {r : Int} (h0 : M.turn_Rotate_2 x1 x2 = some r) :
  wpF Try.prog ora wm 42 [.int .i64 x1, .pointer (some ⟨b1, 0, none⟩)] H (fun res H => res = .int .i64 r ∧ Kn wm H [] Fr) := by
 unfold M.turn_Rotate_2 at h0
 refine f_enter (n := 8) Try.func42 rfl (by simp) hI rfl rfl rfl fun tm hS => ?_
 clear hI
 refine c_reg fun R hR => ?_
 refine o_pure hS (.inl rfl) rfl rfl ?_; clear hS; try clear tm
 intro tm hS
 refine o_nil (hR _ _ ?_)
 clear hR R
 refine c_reg fun R hR => ?_
 refine o_pure hS (.inl rfl) rfl rfl ?_; clear hS; try clear tm
 intro tm hS
 refine o_ld1 (k := 2) hS (.inl rfl) rfl rfl rfl (.inr rfl) Fu23 rfl rfl ?_; clear hS; try clear tm
 intro tm hS
 obtain ⟨y1, hx1, h0⟩ := bindS h0
 refine o_ixA (k := 1) (r := (rI .i64)) hS (.inl rfl) rfl rfl rfl rfl (.inl rfl) Fu23 Fs2 hx1 ?_; clear hS; try clear tm
 intro tm hS
 refine o_ldF (r := (rI .i64)) (k := 1) hS (.inl rfl) rfl rfl rfl (.inl rfl) hx1 Fu2 rfl (flat_I _) rfl ?_; clear hS; try clear tm
 intro tm hS
 refine o_pure hS (.inl rfl) rfl rfl ?_; clear hS; try clear tm
 intro tm hS
 refine o_nil (hR _ _ ?_)
 clear hR R
 refine wpC.ret ?_
 obtain rfl := Option.some.inj h0
 refine Exists.intro _ (And.intro (rs_tmp hS rfl rs_nil) ?_)
 have hI := hS.inv
 exact ⟨rfl, (hI.sub sn)⟩
theorem wk43 {wm : Nat} {H : AHeap} {Fr : List Ent}  (s1 : (List Int)) (s2 : (List Int))  (v1 : Value) (v2 : Value) (hI : Kn wm H [.fz (rI .i64) v1 s1, .fz (rI .i64) v2 s2] Fr) {r : Bool} (h0 : M.slices_Equal__int s1 s2 = some r) :
  wpF Try.prog ora wm 43 [v1, v2] H (fun res H => res = .bool r ∧ Kn wm H [] Fr) := by
 unfold M.slices_Equal__int at h0
 refine f_enter (n := 26) Try.func43 rfl (by simp) hI rfl rfl rfl fun tm hS => ?_
 clear hI
 refine c_reg fun R hR => ?_
 refine o_pure hS (.inl rfl) rfl rfl ?_; clear hS; try clear tm
 intro tm hS
 refine o_nil (hR _ _ ?_)
 clear hR R
 refine c_seqS ?_
 refine c_reg fun R hR => ?_
 refine o_pure hS (.inl rfl) rfl rfl ?_; clear hS; try clear tm
 intro tm hS
 refine o_len (k := 0) (r := (rI .i64)) hS (.inl rfl) rfl rfl rfl (.inl rfl) Fu22 rfl ?_; clear hS; try clear tm
 intro tm hS
 refine o_pure hS (.inl rfl) rfl rfl ?_; clear hS; try clear tm
 intro tm hS
 refine o_len (k := 1) (r := (rI .i64)) hS (.inl rfl) rfl rfl rfl (.inl rfl) Fu22 rfl ?_; clear hS; try clear tm
 intro tm hS
 refine o_pure hS (.inl rfl) rfl rfl ?_; clear hS; try clear tm
 intro tm hS
 refine o_nil (hR _ _ ?_)
 clear hR R
 refine c_cond hS rfl (fun hc => ?_) (fun hc => ?_)
 ·replace h0 := iteT hc h0
  refine c_reg fun R hR => ?_
  refine o_pure hS (.inl rfl) rfl rfl ?_; clear hS; try clear tm
  intro tm hS
  refine o_nil (hR _ _ ?_)
  clear hR R
  refine wpC.ret ?_
  obtain rfl := Option.some.inj h0
  refine Exists.intro _ (And.intro (rs_tmp hS rfl rs_nil) ?_)
  have hI := hS.inv
  exact ⟨rfl, (hI.sub sn)⟩
 ·replace h0 := iteF hc h0
  refine wpC.skip ?_
  refine c_seqS ?_
  refine c_reg fun R hR => ?_
  refine o_pure hS (.inl rfl) rfl rfl ?_; clear hS; try clear tm
  intro tm hS
  refine o_len (k := 0) (r := (rI .i64)) hS (.inl rfl) rfl rfl rfl (.inl rfl) Fu22 rfl ?_; clear hS; try clear tm
  intro tm hS
  refine o_pure hS (.inl rfl) rfl rfl ?_; clear hS; try clear tm
  intro tm hS
  refine o_nil (hR _ _ ?_)
  clear hR R
  obtain ⟨k1, hw1, h0⟩ := bindS h0
  refine wpC.block ?_
  refine c_loop (I := fun (s : Int) tm H => match (generalizing := false) s with | t1 => S wm 26 tm H [(0, v1), (1, v2), (12, .int .i64 (s1.length : Int)), (13, .int .i64 t1)] [.fz (rI .i64) v1 s1, .fz (rI .i64) v2 s2] Fr) hw1 (by change S wm 26 _ _ _ _ Fr; exact hS.keep (ka_cons rfl (ka_cons rfl (ka_cons rfl (ka_cons rfl ka_nil)))) (fun hI => (hI.sub (sc (sc sn))))) ?_
  clear hS
  intro t1 tm H c1 hS h1 hq1
  change S wm 26 tm H [(0, v1), (1, v2), (12, .int .i64 (s1.length : Int)), (13, .int .i64 t1)] [.fz (rI .i64) v1 s1, .fz (rI .i64) v2 s2] Fr at hS
  refine c_reg fun R hR => ?_
  refine o_pure hS (.inl rfl) rfl rfl ?_; clear hS; try clear tm
  intro tm hS
  refine o_nil (hR _ _ ?_)
  clear hR R
  refine c_seqS ?_
  refine c_cond hS rfl (fun hc => ?_) (fun hc => ?_)
  ·replace h1 := iteT hc h1
   refine wpC.skip ?_
   refine c_seqS ?_
   refine wpC.block ?_
   refine c_reg fun R hR => ?_
   refine o_pure hS (.inl rfl) rfl rfl ?_; clear hS; try clear tm
   intro tm hS
   refine o_pure hS (.inl rfl) rfl rfl ?_; clear hS; try clear tm
   intro tm hS
   refine o_nil (hR _ _ ?_)
   clear hR R
   refine c_reg fun R hR => ?_
   refine o_pure hS (.inl rfl) rfl rfl ?_; clear hS; try clear tm
   intro tm hS
   refine o_pure hS (.inl rfl) rfl rfl ?_; clear hS; try clear tm
   intro tm hS
   obtain ⟨y1, hx1, h1⟩ := bindS h1
   refine o_ixA (k := 0) (r := (rI .i64)) hS (.inl rfl) rfl rfl rfl rfl (.inl rfl) Fu22 Fs3 hx1 ?_; clear hS; try clear tm
   intro tm hS
   refine o_ldF (r := (rI .i64)) (k := 0) hS (.inl rfl) rfl rfl rfl (.inl rfl) hx1 Fu3 rfl (flat_I _) rfl ?_; clear hS; try clear tm
   intro tm hS
   refine o_pure hS (.inl rfl) rfl rfl ?_; clear hS; try clear tm
   intro tm hS
   refine o_pure hS (.inl rfl) rfl rfl ?_; clear hS; try clear tm
   intro tm hS
   obtain ⟨y2, hx2, h1⟩ := bindS h1
   refine o_ixA (k := 1) (r := (rI .i64)) hS (.inl rfl) rfl rfl rfl rfl (.inl rfl) Fu22 Fs3 hx2 ?_; clear hS; try clear tm
   intro tm hS
   refine o_ldF (r := (rI .i64)) (k := 1) hS (.inl rfl) rfl rfl rfl (.inl rfl) hx2 Fu3 rfl (flat_I _) rfl ?_; clear hS; try clear tm
   intro tm hS
   refine o_pure hS (.inl rfl) rfl rfl ?_; clear hS; try clear tm
   intro tm hS
   refine o_nil (hR _ _ ?_)
   clear hR R
   refine c_cond hS rfl (fun hc => ?_) (fun hc => ?_)
   ·replace h1 := iteT hc h1
    refine c_reg fun R hR => ?_
    refine o_pure hS (.inl rfl) rfl rfl ?_; clear hS; try clear tm
    intro tm hS
    refine o_nil (hR _ _ ?_)
    clear hR R
    refine wpC.ret ?_
    obtain rfl := Option.some.inj h1
    obtain rfl := hq1 _ rfl
    refine And.intro rfl ?_
    obtain rfl := leave h0
    refine Exists.intro _ (And.intro (rs_tmp hS rfl rs_nil) ?_)
    have hI := hS.inv
    exact ⟨rfl, (hI.sub sn)⟩
   ·replace h1 := iteF hc h1
    refine wpC.skip ?_
    refine c_reg1 fun R hR => ?_
    refine o_pure hS (.inl rfl) rfl rfl ?_; clear hS; try clear tm
    intro tm hS
    refine o_pure hS (.inl rfl) rfl rfl ?_; clear hS; try clear tm
    intro tm hS
    refine o_nil (hR _ _ ?_)
    clear hR R
    obtain rfl := Option.some.inj h1
    refine ⟨_, rfl, ?_⟩
    change S wm 26 _ _ _ _ Fr; exact hS.keep (ka_cons rfl (ka_cons rfl (ka_cons rfl (ka_cons rfl ka_nil)))) (fun hI => (hI.sub (sc (sc sn))))
  ·replace h1 := iteF hc h1
   refine wpC.exit ?_
   refine seqX ?_
   obtain rfl := Option.some.inj h1
   obtain rfl := hq1 _ rfl
   refine And.intro rfl (blk_eq ?_)
   replace h0 := joinN h0
   refine c_reg fun R hR => ?_
   refine o_pure hS (.inl rfl) rfl rfl ?_; clear hS; try clear tm
   intro tm hS
   refine o_nil (hR _ _ ?_)
   clear hR R
   refine wpC.ret ?_
   obtain rfl := Option.some.inj h0
   refine Exists.intro _ (And.intro (rs_tmp hS rfl rs_nil) ?_)
   have hI := hS.inv
   exact ⟨rfl, (hI.sub sn)⟩
theorem wk66 {wm : Nat} {H : AHeap} {Fr : List Ent}  (k1 : Int) (x1 : Int) (x2 : Int) (x3 : (Int → Option (Int))) (gfn3 : FuncId) (gcap3 : Array Value) (E : List Ent) (hE : ∀ e ∈ E, e.blk = none) (hf : ∀ {wm : Nat} {H : AHeap} {Fr : List Ent} (y0 : Int) , Kn wm H (E) Fr → ∀ {r : Int}, x3 y0 = some r → wpF Try.prog ora wm gfn3 ([.int .i64 y0] ++ gcap3.toList) H (fun res H => res = .int .i64 r ∧ Kn wm H [] Fr)) (b1 : Nat) (b2 : Nat) (b3 : Nat) (hI : Kn wm H (.fbox b1 [.int .i64 x1] :: .fbox b2 [.int .i64 x2] :: .fbox b3 [.func (.func gfn3) #[] gcap3] :: E) Fr) {r : Int} (h0 : M.turn_rolled_1 k1 x1 x2 x3 = some r) :
  wpF Try.prog ora wm 66 [.int .i64 k1, .pointer (some ⟨b1, 0, none⟩), .pointer (some ⟨b2, 0, none⟩), .pointer (some ⟨b3, 0, none⟩)] H (fun res H => res = .int .i64 r ∧ Kn wm H [] Fr) := by
 unfold M.turn_rolled_1 at h0
 refine f_enter (n := 43) Try.func66 rfl (by simp) hI rfl rfl rfl fun tm hS => ?_
 clear hI
 refine c_reg fun R hR => ?_
 refine o_pure hS (.inl rfl) rfl rfl ?_; clear hS; try clear tm
 intro tm hS
 refine o_nil (hR _ _ ?_)
 clear hR R
 refine c_reg fun R hR => ?_
 refine o_pure hS (.inl rfl) rfl rfl ?_; clear hS; try clear tm
 intro tm hS
 refine o_ld1 (k := 0) hS (.inl rfl) rfl rfl rfl (.inr rfl) Fu3 rfl rfl ?_; clear hS; try clear tm
 intro tm hS
 refine o_ld1 (k := 1) hS (.inl rfl) rfl rfl rfl (.inr rfl) Fu3 rfl rfl ?_; clear hS; try clear tm
 intro tm hS
 refine o_pure hS (.inl rfl) rfl rfl ?_; clear hS; try clear tm
 intro tm hS
 obtain ⟨q1, hx1, h0⟩ := bindS h0
 refine o_quo hS (.inl rfl) rfl rfl rfl hx1 ?_; clear hS; try clear tm
 intro tm hS
 refine o_ld1 (k := 1) hS (.inl rfl) rfl rfl rfl (.inr rfl) Fu3 rfl rfl ?_; clear hS; try clear tm
 intro tm hS
 refine o_pure hS (.inl rfl) rfl rfl ?_; clear hS; try clear tm
 intro tm hS
 refine o_pure hS (.inl rfl) rfl rfl ?_; clear hS; try clear tm
 intro tm hS
 refine o_ld1 (k := 1) hS (.inl rfl) rfl rfl rfl (.inr rfl) Fu3 rfl rfl ?_; clear hS; try clear tm
 intro tm hS
 obtain ⟨q2, hx2, h0⟩ := bindS h0
 refine o_rem hS (.inl rfl) rfl rfl rfl hx2 ?_; clear hS; try clear tm
 intro tm hS
 refine o_pure hS (.inl rfl) rfl rfl ?_; clear hS; try clear tm
 intro tm hS
 refine o_pure hS (.inl rfl) rfl rfl ?_; clear hS; try clear tm
 intro tm hS
 refine o_ld1 (k := 1) hS (.inl rfl) rfl rfl rfl (.inr rfl) Fu3 rfl rfl ?_; clear hS; try clear tm
 intro tm hS
 obtain ⟨q3, hx3, h0⟩ := bindS h0
 refine o_quo hS (.inl rfl) rfl rfl rfl hx3 ?_; clear hS; try clear tm
 intro tm hS
 refine o_ld1 (k := 0) hS (.inl rfl) rfl rfl rfl (.inr rfl) Fu3 rfl rfl ?_; clear hS; try clear tm
 intro tm hS
 obtain ⟨q4, hx4, h0⟩ := bindS h0
 refine o_rem hS (.inl rfl) rfl rfl rfl hx4 ?_; clear hS; try clear tm
 intro tm hS
 refine o_pure hS (.inl rfl) rfl rfl ?_; clear hS; try clear tm
 intro tm hS
 refine o_pure hS (.inl rfl) rfl rfl ?_; clear hS; try clear tm
 intro tm hS
 refine o_nil (hR _ _ ?_)
 clear hR R
 refine c_reg fun R hR => ?_
 refine o_pure hS (.inl rfl) rfl rfl ?_; clear hS; try clear tm
 intro tm hS
 refine o_ld1 (k := 2) hS (.inl rfl) rfl rfl rfl (.inr rfl) Fu71 rfl rfl ?_; clear hS; try clear tm
 intro tm hS
 refine o_pure hS (.inl rfl) rfl rfl ?_; clear hS; try clear tm
 intro tm hS
 obtain ⟨r1, hx5, h0⟩ := bindS h0
 refine o_call hS (.inl rfl) rfl (fun wm' hw1 hw2 => hf (IntKind.i64.wrap ((IntKind.i64.wrap (q1 * x2)) + q2))  ((hS.sel hw2).adAll hE (fun e he => List.mem_cons_of_mem _ (List.mem_cons_of_mem _ (List.mem_cons_of_mem _ (he))))) hx5) (fun wm' res H hw' hp => ?_)
 obtain ⟨hres, hI⟩ := hp
 replace hres := hres.symm; subst hres
 replace hS : S wm 43 _ H ((28, .int .i64 r1) :: _) ([] ++ _) Fr := hS.after rfl hw' hI
 clear hI hw'
 refine o_ld1 (k := 0) hS (.inl rfl) rfl rfl rfl (.inr rfl) Fu3 rfl rfl ?_; clear hS; try clear tm
 intro tm hS
 obtain ⟨q5, hx6, h0⟩ := bindS h0
 refine o_rem hS (.inl rfl) rfl rfl rfl hx6 ?_; clear hS; try clear tm
 intro tm hS
 refine o_pure hS (.inl rfl) rfl rfl ?_; clear hS; try clear tm
 intro tm hS
 refine o_ld1 (k := 0) hS (.inl rfl) rfl rfl rfl (.inr rfl) Fu3 rfl rfl ?_; clear hS; try clear tm
 intro tm hS
 refine o_pure hS (.inl rfl) rfl rfl ?_; clear hS; try clear tm
 intro tm hS
 refine o_ld1 (k := 0) hS (.inl rfl) rfl rfl rfl (.inr rfl) Fu3 rfl rfl ?_; clear hS; try clear tm
 intro tm hS
 obtain ⟨q6, hx7, h0⟩ := bindS h0
 refine o_rem hS (.inl rfl) rfl rfl rfl hx7 ?_; clear hS; try clear tm
 intro tm hS
 refine o_pure hS (.inl rfl) rfl rfl ?_; clear hS; try clear tm
 intro tm hS
 refine o_nil (hR _ _ ?_)
 clear hR R
 refine c_reg fun R hR => ?_
 refine o_pure hS (.inl rfl) rfl rfl ?_; clear hS; try clear tm
 intro tm hS
 refine o_pure hS (.inl rfl) rfl rfl ?_; clear hS; try clear tm
 intro tm hS
 refine o_pure hS (.inl rfl) rfl rfl ?_; clear hS; try clear tm
 intro tm hS
 refine o_pure hS (.inl rfl) rfl rfl ?_; clear hS; try clear tm
 intro tm hS
 refine o_ld1 (k := 1) hS (.inl rfl) rfl rfl rfl (.inr rfl) Fu3 rfl rfl ?_; clear hS; try clear tm
 intro tm hS
 refine o_pure hS (.inl rfl) rfl rfl ?_; clear hS; try clear tm
 intro tm hS
 refine o_pure hS (.inl rfl) rfl rfl ?_; clear hS; try clear tm
 intro tm hS
 refine o_pure hS (.inl rfl) rfl rfl ?_; clear hS; try clear tm
 intro tm hS
 refine o_nil (hR _ _ ?_)
 clear hR R
 refine wpC.ret ?_
 obtain rfl := Option.some.inj h0
 refine Exists.intro _ (And.intro (rs_tmp hS rfl rs_nil) ?_)
 have hI := hS.inv
 exact ⟨rfl, (hI.sub sn)⟩
theorem wk44 {wm : Nat} {H : AHeap} {Fr : List Ent}  (b1 : Val) (axis1 : Int) (by1 : (Int → Option (Int))) (gfn2 : FuncId) (gcap2 : Array Value) (E : List Ent) (hE : ∀ e ∈ E, e.blk = none) (hf : ∀ {wm : Nat} {H : AHeap} {Fr : List Ent} (y0 : Int) , Kn wm H (E) Fr → ∀ {r : Int}, by1 y0 = some r → wpF Try.prog ora wm gfn2 ([.int .i64 y0] ++ gcap2.toList) H (fun res H => res = .int .i64 r ∧ Kn wm H [] Fr)) (v1 : Value) (v2 : Value) (hI : Kn wm H (.fz (rI .i64) v1 b1.Shape :: .fz (rI .i64) v2 b1.Data :: E) Fr) {r : Val} (h0 : M.turn_rolled b1 axis1 by1 = some r) :
  wpF Try.prog ora wm 44 [.agg #[.bool b1.Char, v1, v2], .int .i64 axis1, .func (.func gfn2) #[] gcap2] H (fun res H => ∃ v5 v6, res = .agg #[.bool r.Char, v5, v6] ∧ Kn wm H [.own (rI .i64) v5 r.Shape, .own (rI .i64) v6 r.Data] Fr) := by
 unfold M.turn_rolled at h0
 refine f_enter (n := 25) Try.func44 rfl (by simp) hI rfl rfl rfl fun tm hS => ?_
 clear hI
 refine c_reg fun R hR => ?_
 refine o_box hS (.inl rfl) rfl rfl rfl (all_cons rfl (all_cons (hS.one (k := 0) rfl (.inl rfl)) (all_cons (hS.one (k := 1) rfl (.inl rfl)) all_nil))) ?_; clear hS; try clear tm H
 intro b2 tm H hS
 refine o_box hS (.inl rfl) rfl rfl rfl (all_cons rfl all_nil) ?_; clear hS; try clear tm H
 intro b3 tm H hS
 refine o_alloc hS (.inl rfl) rfl Fz25 (by decide) ?_; clear hS; try clear tm H
 intro b4 tm H hS
 refine o_nil (hR _ _ ?_)
 clear hR R
 refine c_reg fun R hR => ?_
 refine o_pure hS (.inl rfl) rfl rfl ?_; clear hS; try clear tm
 intro tm hS
 refine o_ld1 (k := 2) hS (.inl rfl) rfl rfl rfl (.inl rfl) Fu22 rfl rfl ?_; clear hS; try clear tm
 intro tm hS
 refine o_pure hS (.inl rfl) rfl rfl ?_; clear hS; try clear tm
 intro tm hS
 obtain ⟨⟨r1, r2, r3, r4⟩, hx1, h0⟩ := bindS h0
 refine o_call hS (.inl rfl) rfl (fun wm' hw1 hw2 => wk56  b1.Shape axis1  v1 ((hS.sel hw2).ad 3 rfl) hx1) (fun wm' res H hw' hp => ?_)
 obtain ⟨hres, hI⟩ := hp
 replace hres := hres.symm; subst hres
 replace hS : S wm 25 _ H ((15, .tuple #[.int .i64 r1, .int .i64 r2, .int .i64 r3, .bool r4]) :: _) ([] ++ _) Fr := hS.after rfl hw' hI
 clear hI hw'
 refine o_pure hS (.inl rfl) rfl rfl ?_; clear hS; try clear tm
 intro tm hS
 refine o_pure hS (.inl rfl) rfl rfl ?_; clear hS; try clear tm
 intro tm hS
 refine o_pure hS (.inl rfl) rfl rfl ?_; clear hS; try clear tm
 intro tm hS
 refine o_pure hS (.inl rfl) rfl rfl ?_; clear hS; try clear tm
 intro tm hS
 refine o_pure hS (.inl rfl) rfl rfl ?_; clear hS; try clear tm
 intro tm hS
 refine o_alloc hS (.inl rfl) rfl Fz3 (by decide) ?_; clear hS; try clear tm H
 intro b5 tm H hS
 refine o_alloc hS (.inl rfl) rfl Fz3 (by decide) ?_; clear hS; try clear tm H
 intro b6 tm H hS
 refine o_pure hS (.inl rfl) rfl rfl ?_; clear hS; try clear tm
 intro tm hS
 refine o_st (k := 1) hS (.inl rfl) rfl rfl rfl Fs3 rfl rfl (all_cons rfl all_nil) rfl ?_; clear hS; try clear H
 intro H hS
 refine o_st (k := 0) hS (.inl rfl) rfl rfl rfl Fs3 rfl rfl (all_cons rfl all_nil) rfl ?_; clear hS; try clear H
 intro H hS
 refine o_pure hS (.inl rfl) rfl rfl ?_; clear hS; try clear tm
 intro tm hS
 refine o_nil (hR _ _ ?_)
 clear hR R
 refine c_reg fun R hR => ?_
 refine o_ldA (k := 4) hS (.inl rfl) rfl rfl rfl (.inl rfl) Fu25 rfl Fs25 rfl ?_; clear hS; try clear tm
 intro tm hS
 refine o_pure hS (.inl rfl) rfl rfl ?_; clear hS; try clear tm
 intro tm hS
 refine o_ld1 (k := 4) hS (.inl rfl) rfl rfl rfl (.inl rfl) Fu22 rfl rfl ?_; clear hS; try clear tm
 intro tm hS
 refine o_pure hS (.inl rfl) rfl rfl ?_; clear hS; try clear tm
 intro tm hS
 replace hS := hS.frzBox (k := 1) rfl
 replace hS := hS.frzBox (k := 0) rfl
 replace hS := hS.frzBox (k := 3) rfl
 obtain ⟨r5, hx2, h0⟩ := bindS h0
 refine o_call hS (.inl rfl) rfl (fun wm' hw1 hw2 => wk57  b1 b1.Shape (fun x0 => M.turn_rolled_1 x0 r2 r3 by1) 66 #[.pointer (some ⟨b5, 0, none⟩), .pointer (some ⟨b6, 0, none⟩), .pointer (some ⟨b3, 0, none⟩)] (.fbox b5 [.int .i64 r2] :: .fbox b6 [.int .i64 r3] :: .fbox b3 [.func (.func gfn2) #[] gcap2] :: E) (List.forall_mem_cons.mpr ⟨rfl, (List.forall_mem_cons.mpr ⟨rfl, (List.forall_mem_cons.mpr ⟨rfl, hE⟩)⟩)⟩) (fun x0 hI _ h0 => wk66  x0 r2 r3 by1 gfn2 gcap2 E hE hf b5 b6 b3 hI h0) v1 v2 v1 ((((((((hS.sel hw2).adAll hE (fun e he => List.mem_cons_of_mem _ (List.mem_cons_of_mem _ (List.mem_cons_of_mem _ (List.mem_cons_of_mem _ (List.mem_cons_of_mem _ (List.mem_cons_of_mem _ (List.mem_cons_of_mem _ (he))))))))).adB 3 rfl).adB 0 rfl).adB 1 rfl).ad 5 rfl).ad 6 rfl).ad 5 rfl) hx2) (fun wm' res H hw' hp => ?_)
 obtain ⟨v3, v4, hres, hI⟩ := hp
 replace hres := hres.symm; subst hres
 replace hS : S wm 25 _ H ((24, .agg #[.bool r5.Char, v3, v4]) :: _) ([.own (rI .i64) v3 r5.Shape, .own (rI .i64) v4 r5.Data] ++ _) Fr := hS.after rfl hw' hI
 clear hI hw'
 refine o_st (k := 4) hS (.inl rfl) rfl rfl rfl Fs25 rfl rfl (all_cons rfl (all_cons (hS.one (k := 0) rfl (.inr (.inl rfl))) (all_cons (hS.one (k := 1) rfl (.inr (.inl rfl))) all_nil))) rfl ?_; clear hS; try clear H
 intro H hS
 refine o_nil (hR _ _ ?_)
 clear hR R
 refine wpC.ret ?_
 obtain rfl := Option.some.inj h0
 refine Exists.intro _ (And.intro (rs_cellA (k := 4) hS rfl rfl (.inl rfl) Fu25 rfl Fs25 rfl rs_nil) ?_)
 have hI := hS.inv
 exact ⟨v3, v4, rfl, (hI.sub (sc (sc sn)))⟩
theorem wk20 {wm : Nat} {H : AHeap} {Fr : List Ent}  (a1 : Val) (b1 : Val) (axis1 : Int)  (v1 : Value) (v2 : Value) (v3 : Value) (v4 : Value) (hI : Kn wm H [.fz (rI .i64) v1 a1.Shape, .fz (rI .i64) v2 a1.Data, .fz (rI .i64) v3 b1.Shape, .fz (rI .i64) v4 b1.Data] Fr) {r : Val × Int} (h0 : M.turn_Rotate a1 b1 axis1 = some r) :
  wpF Try.prog ora wm 20 [.agg #[.bool a1.Char, v1, v2], .agg #[.bool b1.Char, v3, v4], .int .i64 axis1] H (fun res H => ∃ v14 v15, res = .tuple #[.agg #[.bool r.1.Char, v14, v15], .int .i64 r.2] ∧ Kn wm H [.own (rI .i64) v14 r.1.Shape, .own (rI .i64) v15 r.1.Data] Fr) := by
 unfold M.turn_Rotate at h0
 refine f_enter (n := 83) Try.func20 rfl (by simp) hI rfl rfl rfl fun tm hS => ?_
 clear hI
 refine c_reg fun R hR => ?_
 refine o_box hS (.inl rfl) rfl rfl rfl (all_cons rfl (all_cons (hS.one (k := 0) rfl (.inl rfl)) (all_cons (hS.one (k := 1) rfl (.inl rfl)) all_nil))) ?_; clear hS; try clear tm H
 intro b2 tm H hS
 refine o_box hS (.inl rfl) rfl rfl rfl (all_cons rfl (all_cons (hS.one (k := 3) rfl (.inl rfl)) (all_cons (hS.one (k := 4) rfl (.inl rfl)) all_nil))) ?_; clear hS; try clear tm H
 intro b3 tm H hS
 refine o_alloc hS (.inl rfl) rfl Fz25 (by decide) ?_; clear hS; try clear tm H
 intro b4 tm H hS
 refine o_pure hS (.inl rfl) rfl rfl ?_; clear hS; try clear tm
 intro tm hS
 refine o_nil (hR _ _ ?_)
 clear hR R
 refine c_seqS ?_
 refine c_reg fun R hR => ?_
 refine o_ldA (k := 2) hS (.inl rfl) rfl rfl rfl (.inl rfl) Fu25 rfl Fs25 rfl ?_; clear hS; try clear tm
 intro tm hS
 obtain ⟨r1, hx1, h0⟩ := bindS h0
 refine o_call hS (.inl rfl) rfl (fun wm' hw1 hw2 => wk25  a1  v1 v2 (((hS.sel hw2).ad 4 rfl).ad 3 rfl) hx1) (fun wm' res H hw' hp => ?_)
 obtain ⟨hres, hI⟩ := hp
 replace hres := hres.symm; subst hres
 replace hS : S wm 83 _ H ((12, .bool r1) :: _) ([] ++ _) Fr := hS.after rfl hw' hI
 clear hI hw'
 refine o_pure hS (.inl rfl) rfl rfl ?_; clear hS; try clear tm
 intro tm hS
 refine o_pure hS (.inl rfl) rfl rfl ?_; clear hS; try clear tm
 intro tm hS
 obtain ⟨c1, hc1, h0⟩ := bindS h0
 refine o_cutN 4 (J := fun tm H => S wm 83 tm H [(18, .bool c1), (2, .int .i64 axis1), (3, .pointer (some ⟨b2, 0, none⟩)), (4, .pointer (some ⟨b3, 0, none⟩)), (6, .pointer (some ⟨b4, 0, none⟩))] [.box b4 [.bool false, (.slice none 0 0), (.slice none 0 0)], .box b3 [.bool b1.Char, v3, v4], .box b2 [.bool a1.Char, v1, v2], .fz (rI .i64) v1 a1.Shape, .fz (rI .i64) v2 a1.Data, .fz (rI .i64) v3 b1.Shape, .fz (rI .i64) v4 b1.Data] Fr) ?_ ?_
 ·rcases Bool.eq_false_or_eq_true (!r1) with hg1 | hg1
  ·replace hc1 := iteT hg1 hc1
   refine o_skip hS rfl rfl rfl hg1 ?_; clear hS; try clear tm
   intro tm hS
   refine o_skip hS rfl rfl rfl hg1 ?_; clear hS; try clear tm
   intro tm hS
   refine o_skip hS rfl rfl rfl hg1 ?_; clear hS; try clear tm
   intro tm hS
   refine o_pickT hS (.inl rfl) rfl rfl hg1 rfl ?_; clear hS; try clear tm
   intro tm hS
   obtain rfl := Option.some.inj hc1
   exact o_nil (hS.keep (ka_cons rfl (ka_cons rfl (ka_cons rfl (ka_cons rfl (ka_cons rfl ka_nil))))) (fun hI => (hI.sub (sc (sc (sc (sc (sc (sc (sc sn))))))))))
  ·replace hc1 := iteF hg1 hc1
   refine o_ldA (k := 1) hS (.inr ⟨_, _, _, _, rfl, rfl, rfl, hg1⟩) rfl rfl rfl (.inl rfl) Fu25 rfl Fs25 rfl ?_; clear hS; try clear tm
   intro tm hS
   obtain ⟨r2, hx2, hc1⟩ := bindS hc1
   refine o_call hS (.inr ⟨_, _, _, _, rfl, rfl, rfl, hg1⟩) rfl (fun wm' hw1 hw2 => wk25  b1  v3 v4 (((hS.sel hw2).ad 6 rfl).ad 5 rfl) hx2) (fun wm' res H hw' hp => ?_)
   obtain ⟨hres, hI⟩ := hp
   replace hres := hres.symm; subst hres
   replace hS : S wm 83 _ H ((16, .bool r2) :: _) ([] ++ _) Fr := hS.after rfl hw' hI
   clear hI hw'
   refine o_pure hS (.inr ⟨_, _, _, _, rfl, rfl, rfl, hg1⟩) rfl rfl ?_; clear hS; try clear tm
   intro tm hS
   refine o_pickF hS (.inl rfl) rfl rfl hg1 rfl ?_; clear hS; try clear tm
   intro tm hS
   obtain rfl := Option.some.inj hc1
   exact o_nil (hS.keep (ka_cons rfl (ka_cons rfl (ka_cons rfl (ka_cons rfl (ka_cons rfl ka_nil))))) (fun hI => (hI.sub (sc (sc (sc (sc (sc (sc (sc sn))))))))))
 intro tm H hS
 refine o_nil (hR _ _ ?_)
 clear hR R
 refine c_cond hS rfl (fun hc => ?_) (fun hc => ?_)
 ·replace h0 := iteT hc h0
  refine c_reg fun R hR => ?_
  refine o_build hS (.inl rfl) rfl Fb25 rfl .nil rfl ?_; clear hS; try clear tm
  intro tm hS
  refine o_st (k := 0) hS (.inl rfl) rfl rfl rfl Fs25 rfl rfl (all_cons rfl (all_cons rfl (all_cons rfl all_nil))) rfl ?_; clear hS; try clear H
  intro H hS
  refine o_pure hS (.inl rfl) rfl rfl ?_; clear hS; try clear tm
  intro tm hS
  refine o_nil (hR _ _ ?_)
  clear hR R
  refine wpC.ret ?_
  obtain rfl := Option.some.inj h0
  replace hS := hS.nilOwn (rI .i64)
  replace hS := hS.nilOwn (rI .i64)
  refine Exists.intro _ (And.intro (rs_cellA (k := 2) hS rfl rfl (.inl rfl) Fu25 rfl Fs25 rfl (rs_tmp hS rfl rs_nil)) ?_)
  have hI := hS.inv
  exact ⟨(.slice none 0 0), (.slice none 0 0), rfl, (((hI.pull 0 rfl).pull 1 rfl).take 2)⟩
 ·replace h0 := iteF hc h0
  refine wpC.skip ?_
  refine c_reg fun R hR => ?_
  refine o_pure hS (.inl rfl) rfl rfl ?_; clear hS; try clear tm
  intro tm hS
  refine o_ld1 (k := 1) hS (.inl rfl) rfl rfl rfl (.inl rfl) Fu22 rfl rfl ?_; clear hS; try clear tm
  intro tm hS
  refine o_pure hS (.inl rfl) rfl rfl ?_; clear hS; try clear tm
  intro tm hS
  obtain ⟨⟨r3, r4⟩, hx3, h0⟩ := bindS h0
  refine o_call hS (.inl rfl) rfl (fun wm' hw1 hw2 => wk29  b1.Shape axis1  v3 ((hS.sel hw2).ad 5 rfl) hx3) (fun wm' res H hw' hp => ?_)
  obtain ⟨hres, hI⟩ := hp
  replace hres := hres.symm; subst hres
  replace hS : S wm 83 _ H ((24, .tuple #[.int .i64 r3, .bool r4]) :: _) ([] ++ _) Fr := hS.after rfl hw' hI
  clear hI hw'
  refine o_pure hS (.inl rfl) rfl rfl ?_; clear hS; try clear tm
  intro tm hS
  refine o_pure hS (.inl rfl) rfl rfl ?_; clear hS; try clear tm
  intro tm hS
  refine o_pure hS (.inl rfl) rfl rfl ?_; clear hS; try clear tm
  intro tm hS
  refine o_pure hS (.inl rfl) rfl rfl ?_; clear hS; try clear tm
  intro tm hS
  refine o_pure hS (.inl rfl) rfl rfl ?_; clear hS; try clear tm
  intro tm hS
  refine o_nil (hR _ _ ?_)
  clear hR R
  refine c_reg fun R hR => ?_
  refine o_pure hS (.inl rfl) rfl rfl ?_; clear hS; try clear tm
  intro tm hS
  refine o_ld1 (k := 1) hS (.inl rfl) rfl rfl rfl (.inl rfl) Fu22 rfl rfl ?_; clear hS; try clear tm
  intro tm hS
  refine o_pure hS (.inl rfl) rfl rfl ?_; clear hS; try clear tm
  intro tm hS
  obtain ⟨r5, hx4, h0⟩ := bindS h0
  refine o_call hS (.inl rfl) rfl (fun wm' hw1 hw2 => wk40  b1.Shape r3  v3 ((hS.sel hw2).ad 5 rfl) hx4) (fun wm' res H hw' hp => ?_)
  obtain ⟨v5, hres, hI⟩ := hp
  replace hres := hres.symm; subst hres
  replace hS : S wm 83 _ H ((30, v5) :: _) ([.own (rI .i64) v5 r5] ++ _) Fr := hS.after rfl hw' hI
  clear hI hw'
  refine o_pure hS (.inl rfl) rfl rfl ?_; clear hS; try clear tm
  intro tm hS
  refine o_nil (hR _ _ ?_)
  clear hR R
  refine c_reg fun R hR => ?_
  refine o_pure hS (.inl rfl) rfl rfl ?_; clear hS; try clear tm
  intro tm hS
  refine o_pure hS (.inl rfl) rfl rfl ?_; clear hS; try clear tm
  intro tm hS
  refine o_nil (hR _ _ ?_)
  clear hR R
  refine c_seqS ?_
  refine c_reg fun R hR => ?_
  refine o_pure hS (.inl rfl) rfl rfl ?_; clear hS; try clear tm
  intro tm hS
  refine o_ld1 (k := 3) hS (.inl rfl) rfl rfl rfl (.inl rfl) Fu23 rfl rfl ?_; clear hS; try clear tm
  intro tm hS
  refine o_len (k := 5) (r := (rI .i64)) hS (.inl rfl) rfl rfl rfl (.inl rfl) Fu23 rfl ?_; clear hS; try clear tm
  intro tm hS
  refine o_pure hS (.inl rfl) rfl rfl ?_; clear hS; try clear tm
  intro tm hS
  refine o_nil (hR _ _ ?_)
  clear hR R
  refine c_cond hS rfl (fun hc => ?_) (fun hc => ?_)
  ·replace h0 := iteT hc h0
   refine c_reg1 fun R hR => ?_
   refine o_pure hS (.inl rfl) rfl rfl ?_; clear hS; try clear tm
   intro tm hS
   refine o_pure hS (.inl rfl) rfl rfl ?_; clear hS; try clear tm
   intro tm hS
   refine o_nil (hR _ _ ?_)
   clear hR R
   refine c_seqS ?_
   refine wpC.block ?_
   refine c_reg fun R hR => ?_
   refine o_pure hS (.inl rfl) rfl rfl ?_; clear hS; try clear tm
   intro tm hS
   refine o_pure hS (.inl rfl) rfl rfl ?_; clear hS; try clear tm
   intro tm hS
   refine o_pure hS (.inl rfl) rfl rfl ?_; clear hS; try clear tm
   intro tm hS
   refine o_nil (hR _ _ ?_)
   clear hR R
   refine c_cond hS rfl (fun hc => ?_) (fun hc => ?_)
   ·replace h0 := iteT hc h0
    refine c_reg fun R hR => ?_
    refine o_build hS (.inl rfl) rfl Fb25 rfl .nil rfl ?_; clear hS; try clear tm
    intro tm hS
    refine o_st (k := 1) hS (.inl rfl) rfl rfl rfl Fs25 rfl rfl (all_cons rfl (all_cons rfl (all_cons rfl all_nil))) rfl ?_; clear hS; try clear H
    intro H hS
    refine o_pure hS (.inl rfl) rfl rfl ?_; clear hS; try clear tm
    intro tm hS
    refine o_nil (hR _ _ ?_)
    clear hR R
    refine wpC.ret ?_
    obtain rfl := Option.some.inj h0
    replace hS := hS.nilOwn (rI .i64)
    replace hS := hS.nilOwn (rI .i64)
    refine Exists.intro _ (And.intro (rs_cellA (k := 3) hS rfl rfl (.inl rfl) Fu25 rfl Fs25 rfl (rs_tmp hS rfl rs_nil)) ?_)
    have hI := hS.inv
    exact ⟨(.slice none 0 0), (.slice none 0 0), rfl, (((hI.pull 0 rfl).pull 1 rfl).take 2)⟩
   ·replace h0 := iteF hc h0
    refine c_reg fun R hR => ?_
    refine o_pure hS (.inl rfl) rfl rfl ?_; clear hS; try clear tm
    intro tm hS
    refine o_ld1 (k := 3) hS (.inl rfl) rfl rfl rfl (.inl rfl) Fu4 rfl rfl ?_; clear hS; try clear tm
    intro tm hS
    refine o_pure hS (.inl rfl) rfl rfl ?_; clear hS; try clear tm
    intro tm hS
    refine o_nil (hR _ _ ?_)
    clear hR R
    refine c_cond hS rfl (fun hc => ?_) (fun hc => ?_)
    ·replace h0 := iteT hc h0
     refine c_reg fun R hR => ?_
     refine o_build hS (.inl rfl) rfl Fb25 rfl .nil rfl ?_; clear hS; try clear tm
     intro tm hS
     refine o_st (k := 1) hS (.inl rfl) rfl rfl rfl Fs25 rfl rfl (all_cons rfl (all_cons rfl (all_cons rfl all_nil))) rfl ?_; clear hS; try clear H
     intro H hS
     refine o_pure hS (.inl rfl) rfl rfl ?_; clear hS; try clear tm
     intro tm hS
     refine o_nil (hR _ _ ?_)
     clear hR R
     refine wpC.ret ?_
     obtain rfl := Option.some.inj h0
     replace hS := hS.nilOwn (rI .i64)
     replace hS := hS.nilOwn (rI .i64)
     refine Exists.intro _ (And.intro (rs_cellA (k := 3) hS rfl rfl (.inl rfl) Fu25 rfl Fs25 rfl (rs_tmp hS rfl rs_nil)) ?_)
     have hI := hS.inv
     exact ⟨(.slice none 0 0), (.slice none 0 0), rfl, (((hI.pull 0 rfl).pull 1 rfl).take 2)⟩
    ·replace h0 := iteF hc h0
     refine c_reg fun R hR => ?_
     refine o_pure hS (.inl rfl) rfl rfl ?_; clear hS; try clear tm
     intro tm hS
     refine o_ld1 (k := 3) hS (.inl rfl) rfl rfl rfl (.inl rfl) Fu23 rfl rfl ?_; clear hS; try clear tm
     intro tm hS
     refine o_len (k := 5) (r := (rI .i64)) hS (.inl rfl) rfl rfl rfl (.inl rfl) Fu23 rfl ?_; clear hS; try clear tm
     intro tm hS
     refine o_pure hS (.inl rfl) rfl rfl ?_; clear hS; try clear tm
     intro tm hS
     refine o_pure hS (.inl rfl) rfl rfl ?_; clear hS; try clear tm
     intro tm hS
     obtain ⟨c2, hc2⟩ : ∃ x : Bool, x = (((a1.Data.length : Int) != 1) && ((a1.Shape.length : Int) != (r5.length : Int))) := ⟨_, rfl⟩
     refine o_cutN 7 (J := fun tm H => S wm 83 tm H [(57, .bool c2), (2, .int .i64 r3), (3, .pointer (some ⟨b2, 0, none⟩)), (4, .pointer (some ⟨b3, 0, none⟩)), (6, .pointer (some ⟨b4, 0, none⟩)), (9, v5), (10, .func (.func 42) #[] #[.pointer (some ⟨b2, 0, none⟩)])] [.own (rI .i64) v5 r5, .box b4 [.bool false, (.slice none 0 0), (.slice none 0 0)], .box b3 [.bool b1.Char, v3, v4], .box b2 [.bool a1.Char, v1, v2], .fz (rI .i64) v1 a1.Shape, .fz (rI .i64) v2 a1.Data, .fz (rI .i64) v3 b1.Shape, .fz (rI .i64) v4 b1.Data] Fr) ?_ ?_
     ·rcases Bool.eq_false_or_eq_true ((a1.Data.length : Int) != 1) with hg2 | hg2
      ·refine o_pure hS (.inr ⟨_, _, _, _, rfl, rfl, rfl, hg2⟩) rfl rfl ?_; clear hS; try clear tm
       intro tm hS
       refine o_ld1 (k := 3) hS (.inr ⟨_, _, _, _, rfl, rfl, rfl, hg2⟩) rfl rfl rfl (.inl rfl) Fu22 rfl rfl ?_; clear hS; try clear tm
       intro tm hS
       refine o_len (k := 4) (r := (rI .i64)) hS (.inr ⟨_, _, _, _, rfl, rfl, rfl, hg2⟩) rfl rfl rfl (.inl rfl) Fu22 rfl ?_; clear hS; try clear tm
       intro tm hS
       refine o_pure hS (.inr ⟨_, _, _, _, rfl, rfl, rfl, hg2⟩) rfl rfl ?_; clear hS; try clear tm
       intro tm hS
       refine o_len (k := 0) (r := (rI .i64)) hS (.inr ⟨_, _, _, _, rfl, rfl, rfl, hg2⟩) rfl rfl rfl (.inr (.inl rfl)) Fu22 rfl ?_; clear hS; try clear tm
       intro tm hS
       refine o_pure hS (.inr ⟨_, _, _, _, rfl, rfl, rfl, hg2⟩) rfl rfl ?_; clear hS; try clear tm
       intro tm hS
       refine o_pickT hS (.inl rfl) rfl rfl hg2 rfl ?_; clear hS; try clear tm
       intro tm hS
       have hc2 : c2 = ((a1.Shape.length : Int) != (r5.length : Int)) := hc2.trans (by rw [hg2]; first | rfl | simp)
       subst hc2
       exact o_nil (hS.keep (ka_cons rfl (ka_cons rfl (ka_cons rfl (ka_cons rfl (ka_cons rfl (ka_cons rfl (ka_cons rfl ka_nil))))))) (fun hI => (hI.sub (sc (sc (sc (sc (sc (sc (sc (sc sn)))))))))))
      ·refine o_skip hS rfl rfl rfl hg2 ?_; clear hS; try clear tm
       intro tm hS
       refine o_skip hS rfl rfl rfl hg2 ?_; clear hS; try clear tm
       intro tm hS
       refine o_skip hS rfl rfl rfl hg2 ?_; clear hS; try clear tm
       intro tm hS
       refine o_skip hS rfl rfl rfl hg2 ?_; clear hS; try clear tm
       intro tm hS
       refine o_skip hS rfl rfl rfl hg2 ?_; clear hS; try clear tm
       intro tm hS
       refine o_skip hS rfl rfl rfl hg2 ?_; clear hS; try clear tm
       intro tm hS
       refine o_pickF hS (.inl rfl) rfl rfl hg2 rfl ?_; clear hS; try clear tm
       intro tm hS
       have hc2 : c2 = false := hc2.trans (by rw [hg2]; first | rfl | simp)
       subst hc2
       exact o_nil (hS.keep (ka_cons rfl (ka_cons rfl (ka_cons rfl (ka_cons rfl (ka_cons rfl (ka_cons rfl (ka_cons rfl ka_nil))))))) (fun hI => (hI.sub (sc (sc (sc (sc (sc (sc (sc (sc sn)))))))))))
     intro tm H hS
     subst hc2
     refine o_pure hS (.inl rfl) rfl rfl ?_; clear hS; try clear tm
     intro tm hS
     refine o_nil (hR _ _ ?_)
     clear hR R
     refine c_cond hS rfl (fun hc => ?_) (fun hc => ?_)
     ·replace h0 := iteT hc h0
      refine c_reg fun R hR => ?_
      refine o_build hS (.inl rfl) rfl Fb25 rfl .nil rfl ?_; clear hS; try clear tm
      intro tm hS
      refine o_st (k := 1) hS (.inl rfl) rfl rfl rfl Fs25 rfl rfl (all_cons rfl (all_cons rfl (all_cons rfl all_nil))) rfl ?_; clear hS; try clear H
      intro H hS
      refine o_pure hS (.inl rfl) rfl rfl ?_; clear hS; try clear tm
      intro tm hS
      refine o_nil (hR _ _ ?_)
      clear hR R
      refine wpC.ret ?_
      obtain rfl := Option.some.inj h0
      replace hS := hS.nilOwn (rI .i64)
      replace hS := hS.nilOwn (rI .i64)
      refine Exists.intro _ (And.intro (rs_cellA (k := 3) hS rfl rfl (.inl rfl) Fu25 rfl Fs25 rfl (rs_tmp hS rfl rs_nil)) ?_)
      have hI := hS.inv
      exact ⟨(.slice none 0 0), (.slice none 0 0), rfl, (((hI.pull 0 rfl).pull 1 rfl).take 2)⟩
     ·replace h0 := iteF hc h0
      refine c_reg fun R hR => ?_
      refine o_pure hS (.inl rfl) rfl rfl ?_; clear hS; try clear tm
      intro tm hS
      refine o_ld1 (k := 3) hS (.inl rfl) rfl rfl rfl (.inl rfl) Fu23 rfl rfl ?_; clear hS; try clear tm
      intro tm hS
      refine o_len (k := 5) (r := (rI .i64)) hS (.inl rfl) rfl rfl rfl (.inl rfl) Fu23 rfl ?_; clear hS; try clear tm
      intro tm hS
      refine o_pure hS (.inl rfl) rfl rfl ?_; clear hS; try clear tm
      intro tm hS
      refine o_pure hS (.inl rfl) rfl rfl ?_; clear hS; try clear tm
      intro tm hS
      obtain ⟨c3, hc3, h0⟩ := bindS h0
      refine o_cutN 6 (J := fun tm H => S wm 83 tm H [(70, .bool c3), (2, .int .i64 r3), (4, .pointer (some ⟨b3, 0, none⟩)), (6, .pointer (some ⟨b4, 0, none⟩)), (10, .func (.func 42) #[] #[.pointer (some ⟨b2, 0, none⟩)])] [.box b4 [.bool false, (.slice none 0 0), (.slice none 0 0)], .box b3 [.bool b1.Char, v3, v4], .box b2 [.bool a1.Char, v1, v2], .fz (rI .i64) v1 a1.Shape, .fz (rI .i64) v2 a1.Data, .fz (rI .i64) v3 b1.Shape, .fz (rI .i64) v4 b1.Data] Fr) ?_ ?_
      ·rcases Bool.eq_false_or_eq_true ((a1.Data.length : Int) != 1) with hg3 | hg3
       ·replace hc3 := iteT hg3 hc3
        refine o_pure hS (.inr ⟨_, _, _, _, rfl, rfl, rfl, hg3⟩) rfl rfl ?_; clear hS; try clear tm
        intro tm hS
        refine o_ld1 (k := 3) hS (.inr ⟨_, _, _, _, rfl, rfl, rfl, hg3⟩) rfl rfl rfl (.inl rfl) Fu22 rfl rfl ?_; clear hS; try clear tm
        intro tm hS
        refine o_pure hS (.inr ⟨_, _, _, _, rfl, rfl, rfl, hg3⟩) rfl rfl ?_; clear hS; try clear tm
        intro tm hS
        obtain ⟨r6, hx5, hc3⟩ := bindS hc3
        refine o_call (Pc := fun _ res H => res = .bool r6 ∧ Kn wm H ([.own (rI .i64) v5 r5, .box b4 [.bool false, (.slice none 0 0), (.slice none 0 0)], .box b3 [.bool b1.Char, v3, v4], .box b2 [.bool a1.Char, v1, v2], .fz (rI .i64) v1 a1.Shape, .fz (rI .i64) v2 a1.Data, .fz (rI .i64) v3 b1.Shape, .fz (rI .i64) v4 b1.Data]) Fr) hS (.inr ⟨_, _, _, _, rfl, rfl, rfl, hg3⟩) rfl (fun wm' hw1 hw2 => by
         obtain ⟨F2, k1, k2⟩ := hS.inv.lend (La := [.fz (rI .i64) v1 a1.Shape, .fz (rI .i64) v5 r5]) (List.forall_mem_cons.mpr ⟨(.inl ⟨rfl, List.mem_of_getElem? (i := 4) rfl⟩), (List.forall_mem_cons.mpr ⟨(.inr ⟨_, _, _, _, rfl, .inl (List.mem_of_getElem? (i := 0) rfl)⟩), (fun _ h => by cases h)⟩)⟩) hw1 hw2
         exact (wk43  a1.Shape r5  v1 v5 k1 hx5).mono fun res H2 ⟨q1, q2⟩ => ⟨q1, k2 _ q2⟩) (fun wm' res H hw' hp => ?_)
        obtain ⟨hres, hI⟩ := hp
        replace hres := hres.symm; subst hres
        replace hS : S wm 83 _ H ((68, .bool r6) :: _) ([.own (rI .i64) v5 r5, .box b4 [.bool false, (.slice none 0 0), (.slice none 0 0)], .box b3 [.bool b1.Char, v3, v4], .box b2 [.bool a1.Char, v1, v2], .fz (rI .i64) v1 a1.Shape, .fz (rI .i64) v2 a1.Data, .fz (rI .i64) v3 b1.Shape, .fz (rI .i64) v4 b1.Data]) Fr := (hS.put rfl _).withK hI
        clear hI hw'
        refine o_pure hS (.inr ⟨_, _, _, _, rfl, rfl, rfl, hg3⟩) rfl rfl ?_; clear hS; try clear tm
        intro tm hS
        refine o_pickT hS (.inl rfl) rfl rfl hg3 rfl ?_; clear hS; try clear tm
        intro tm hS
        obtain rfl := Option.some.inj hc3
        exact o_nil (hS.keep (ka_cons rfl (ka_cons rfl (ka_cons rfl (ka_cons rfl (ka_cons rfl ka_nil))))) (fun hI => (hI.sub (sd (sc (sc (sc (sc (sc (sc (sc sn)))))))))))
       ·replace hc3 := iteF hg3 hc3
        refine o_skip hS rfl rfl rfl hg3 ?_; clear hS; try clear tm
        intro tm hS
        refine o_skip hS rfl rfl rfl hg3 ?_; clear hS; try clear tm
        intro tm hS
        refine o_skip hS rfl rfl rfl hg3 ?_; clear hS; try clear tm
        intro tm hS
        refine o_skip hS rfl rfl rfl hg3 ?_; clear hS; try clear tm
        intro tm hS
        refine o_skip hS rfl rfl rfl hg3 ?_; clear hS; try clear tm
        intro tm hS
        refine o_pickF hS (.inl rfl) rfl rfl hg3 rfl ?_; clear hS; try clear tm
        intro tm hS
        obtain rfl := Option.some.inj hc3
        exact o_nil (hS.keep (ka_cons rfl (ka_cons rfl (ka_cons rfl (ka_cons rfl (ka_cons rfl ka_nil))))) (fun hI => (hI.sub (sd (sc (sc (sc (sc (sc (sc (sc sn)))))))))))
      intro tm H hS
      refine o_pure hS (.inl rfl) rfl rfl ?_; clear hS; try clear tm
      intro tm hS
      refine o_nil (hR _ _ ?_)
      clear hR R
      refine c_cond hS rfl (fun hc => ?_) (fun hc => ?_)
      ·replace h0 := iteT hc h0
       refine c_reg fun R hR => ?_
       refine o_build hS (.inl rfl) rfl Fb25 rfl .nil rfl ?_; clear hS; try clear tm
       intro tm hS
       refine o_st (k := 0) hS (.inl rfl) rfl rfl rfl Fs25 rfl rfl (all_cons rfl (all_cons rfl (all_cons rfl all_nil))) rfl ?_; clear hS; try clear H
       intro H hS
       refine o_pure hS (.inl rfl) rfl rfl ?_; clear hS; try clear tm
       intro tm hS
       refine o_nil (hR _ _ ?_)
       clear hR R
       refine wpC.ret ?_
       obtain rfl := Option.some.inj h0
       replace hS := hS.nilOwn (rI .i64)
       replace hS := hS.nilOwn (rI .i64)
       refine Exists.intro _ (And.intro (rs_cellA (k := 2) hS rfl rfl (.inl rfl) Fu25 rfl Fs25 rfl (rs_tmp hS rfl rs_nil)) ?_)
       have hI := hS.inv
       exact ⟨(.slice none 0 0), (.slice none 0 0), rfl, (((hI.pull 0 rfl).pull 1 rfl).take 2)⟩
      ·replace h0 := iteF hc h0
       refine c_reg fun R hR => ?_
       refine o_pure hS (.inl rfl) rfl rfl ?_; clear hS; try clear tm
       intro tm hS
       refine o_ld1 (k := 1) hS (.inl rfl) rfl rfl rfl (.inl rfl) Fu22 rfl rfl ?_; clear hS; try clear tm
       intro tm hS
       refine o_len (k := 5) (r := (rI .i64)) hS (.inl rfl) rfl rfl rfl (.inl rfl) Fu22 rfl ?_; clear hS; try clear tm
       intro tm hS
       refine o_pure hS (.inl rfl) rfl rfl ?_; clear hS; try clear tm
       intro tm hS
       refine o_pure hS (.inl rfl) rfl rfl ?_; clear hS; try clear tm
       intro tm hS
       refine o_nil (hR _ _ ?_)
       clear hR R
       refine c_cond hS rfl (fun hc => ?_) (fun hc => ?_)
       ·replace h0 := iteT hc h0
        refine c_reg fun R hR => ?_
        refine o_ldA (k := 1) hS (.inl rfl) rfl rfl rfl (.inl rfl) Fu25 rfl Fs25 rfl ?_; clear hS; try clear tm
        intro tm hS
        obtain ⟨r7, hx6, h0⟩ := bindS h0
        refine o_call hS (.inl rfl) rfl (fun wm' hw1 hw2 => wk30  b1  v3 v4 (((hS.sel hw2).ad 6 rfl).ad 5 rfl) hx6) (fun wm' res H hw' hp => ?_)
        obtain ⟨v6, v7, hres, hI⟩ := hp
        replace hres := hres.symm; subst hres
        replace hS : S wm 83 _ H ((78, .agg #[.bool r7.Char, v6, v7]) :: _) ([.own (rI .i64) v6 r7.Shape, .own (rI .i64) v7 r7.Data] ++ _) Fr := hS.after rfl hw' hI
        clear hI hw'
        refine o_st (k := 2) hS (.inl rfl) rfl rfl rfl Fs25 rfl rfl (all_cons rfl (all_cons (hS.one (k := 0) rfl (.inr (.inl rfl))) (all_cons (hS.one (k := 1) rfl (.inr (.inl rfl))) all_nil))) rfl ?_; clear hS; try clear H
        intro H hS
        refine o_pure hS (.inl rfl) rfl rfl ?_; clear hS; try clear tm
        intro tm hS
        refine o_nil (hR _ _ ?_)
        clear hR R
        refine wpC.ret ?_
        obtain rfl := Option.some.inj h0
        refine Exists.intro _ (And.intro (rs_cellA (k := 2) hS rfl rfl (.inl rfl) Fu25 rfl Fs25 rfl (rs_tmp hS rfl rs_nil)) ?_)
        have hI := hS.inv
        exact ⟨v6, v7, rfl, (hI.sub (sc (sc sn)))⟩
       ·replace h0 := iteF hc h0
        refine wpC.skip ?_
        refine c_reg fun R hR => ?_
        refine o_ldA (k := 1) hS (.inl rfl) rfl rfl rfl (.inl rfl) Fu25 rfl Fs25 rfl ?_; clear hS; try clear tm
        intro tm hS
        refine o_pure hS (.inl rfl) rfl rfl ?_; clear hS; try clear tm
        intro tm hS
        refine o_pure hS (.inl rfl) rfl rfl ?_; clear hS; try clear tm
        intro tm hS
        replace hS := hS.frzBox (k := 2) rfl
        obtain ⟨r8, hx7, h0⟩ := bindS h0
        refine o_call hS (.inl rfl) rfl (fun wm' hw1 hw2 => wk44  b1 r3 (fun x0 => M.turn_Rotate_2 x0 a1) 42 #[.pointer (some ⟨b2, 0, none⟩)] [.fz (rI .i64) v1 a1.Shape, .fz (rI .i64) v2 a1.Data, .fbox b2 [.bool a1.Char, v1, v2]] (by simp [Ent.blk]) (fun x0 hI _ h0 => wk42  x0 a1  v1 v2 b2 hI h0) v3 v4 ((((((hS.sel hw2).adB 2 rfl).ad 4 rfl).ad 3 rfl).ad 6 rfl).ad 5 rfl) hx7) (fun wm' res H hw' hp => ?_)
        obtain ⟨v8, v9, hres, hI⟩ := hp
        replace hres := hres.symm; subst hres
        replace hS : S wm 83 _ H ((82, .agg #[.bool r8.Char, v8, v9]) :: _) ([.own (rI .i64) v8 r8.Shape, .own (rI .i64) v9 r8.Data] ++ _) Fr := hS.after rfl hw' hI
        clear hI hw'
        refine o_st (k := 2) hS (.inl rfl) rfl rfl rfl Fs25 rfl rfl (all_cons rfl (all_cons (hS.one (k := 0) rfl (.inr (.inl rfl))) (all_cons (hS.one (k := 1) rfl (.inr (.inl rfl))) all_nil))) rfl ?_; clear hS; try clear H
        intro H hS
        refine o_pure hS (.inl rfl) rfl rfl ?_; clear hS; try clear tm
        intro tm hS
        refine o_nil (hR _ _ ?_)
        clear hR R
        refine wpC.ret ?_
        obtain rfl := Option.some.inj h0
        refine Exists.intro _ (And.intro (rs_cellA (k := 2) hS rfl rfl (.inl rfl) Fu25 rfl Fs25 rfl (rs_tmp hS rfl rs_nil)) ?_)
        have hI := hS.inv
        exact ⟨v8, v9, rfl, (hI.sub (sc (sc sn)))⟩
  ·replace h0 := iteF hc h0
   refine wpC.skip ?_
   refine c_seqS ?_
   refine wpC.block ?_
   refine c_reg fun R hR => ?_
   refine o_pure hS (.inl rfl) rfl rfl ?_; clear hS; try clear tm
   intro tm hS
   refine o_pure hS (.inl rfl) rfl rfl ?_; clear hS; try clear tm
   intro tm hS
   refine o_pure hS (.inl rfl) rfl rfl ?_; clear hS; try clear tm
   intro tm hS
   refine o_nil (hR _ _ ?_)
   clear hR R
   refine c_cond hS rfl (fun hc => ?_) (fun hc => ?_)
   ·replace h0 := iteT hc h0
    refine c_reg fun R hR => ?_
    refine o_build hS (.inl rfl) rfl Fb25 rfl .nil rfl ?_; clear hS; try clear tm
    intro tm hS
    refine o_st (k := 1) hS (.inl rfl) rfl rfl rfl Fs25 rfl rfl (all_cons rfl (all_cons rfl (all_cons rfl all_nil))) rfl ?_; clear hS; try clear H
    intro H hS
    refine o_pure hS (.inl rfl) rfl rfl ?_; clear hS; try clear tm
    intro tm hS
    refine o_nil (hR _ _ ?_)
    clear hR R
    refine wpC.ret ?_
    obtain rfl := Option.some.inj h0
    replace hS := hS.nilOwn (rI .i64)
    replace hS := hS.nilOwn (rI .i64)
    refine Exists.intro _ (And.intro (rs_cellA (k := 3) hS rfl rfl (.inl rfl) Fu25 rfl Fs25 rfl (rs_tmp hS rfl rs_nil)) ?_)
    have hI := hS.inv
    exact ⟨(.slice none 0 0), (.slice none 0 0), rfl, (((hI.pull 0 rfl).pull 1 rfl).take 2)⟩
   ·replace h0 := iteF hc h0
    refine c_reg fun R hR => ?_
    refine o_pure hS (.inl rfl) rfl rfl ?_; clear hS; try clear tm
    intro tm hS
    refine o_ld1 (k := 3) hS (.inl rfl) rfl rfl rfl (.inl rfl) Fu4 rfl rfl ?_; clear hS; try clear tm
    intro tm hS
    refine o_pure hS (.inl rfl) rfl rfl ?_; clear hS; try clear tm
    intro tm hS
    refine o_nil (hR _ _ ?_)
    clear hR R
    refine c_cond hS rfl (fun hc => ?_) (fun hc => ?_)
    ·replace h0 := iteT hc h0
     refine c_reg fun R hR => ?_
     refine o_build hS (.inl rfl) rfl Fb25 rfl .nil rfl ?_; clear hS; try clear tm
     intro tm hS
     refine o_st (k := 1) hS (.inl rfl) rfl rfl rfl Fs25 rfl rfl (all_cons rfl (all_cons rfl (all_cons rfl all_nil))) rfl ?_; clear hS; try clear H
     intro H hS
     refine o_pure hS (.inl rfl) rfl rfl ?_; clear hS; try clear tm
     intro tm hS
     refine o_nil (hR _ _ ?_)
     clear hR R
     refine wpC.ret ?_
     obtain rfl := Option.some.inj h0
     replace hS := hS.nilOwn (rI .i64)
     replace hS := hS.nilOwn (rI .i64)
     refine Exists.intro _ (And.intro (rs_cellA (k := 3) hS rfl rfl (.inl rfl) Fu25 rfl Fs25 rfl (rs_tmp hS rfl rs_nil)) ?_)
     have hI := hS.inv
     exact ⟨(.slice none 0 0), (.slice none 0 0), rfl, (((hI.pull 0 rfl).pull 1 rfl).take 2)⟩
    ·replace h0 := iteF hc h0
     refine c_reg fun R hR => ?_
     refine o_pure hS (.inl rfl) rfl rfl ?_; clear hS; try clear tm
     intro tm hS
     refine o_ld1 (k := 3) hS (.inl rfl) rfl rfl rfl (.inl rfl) Fu23 rfl rfl ?_; clear hS; try clear tm
     intro tm hS
     refine o_len (k := 5) (r := (rI .i64)) hS (.inl rfl) rfl rfl rfl (.inl rfl) Fu23 rfl ?_; clear hS; try clear tm
     intro tm hS
     refine o_pure hS (.inl rfl) rfl rfl ?_; clear hS; try clear tm
     intro tm hS
     refine o_pure hS (.inl rfl) rfl rfl ?_; clear hS; try clear tm
     intro tm hS
     obtain ⟨c4, hc4⟩ : ∃ x : Bool, x = (((a1.Data.length : Int) != 1) && ((a1.Shape.length : Int) != (r5.length : Int))) := ⟨_, rfl⟩
     refine o_cutN 7 (J := fun tm H => S wm 83 tm H [(57, .bool c4), (2, .int .i64 r3), (3, .pointer (some ⟨b2, 0, none⟩)), (4, .pointer (some ⟨b3, 0, none⟩)), (6, .pointer (some ⟨b4, 0, none⟩)), (9, v5), (10, .func (.func 41) #[] #[.pointer (some ⟨b2, 0, none⟩)])] [.own (rI .i64) v5 r5, .box b4 [.bool false, (.slice none 0 0), (.slice none 0 0)], .box b3 [.bool b1.Char, v3, v4], .box b2 [.bool a1.Char, v1, v2], .fz (rI .i64) v1 a1.Shape, .fz (rI .i64) v2 a1.Data, .fz (rI .i64) v3 b1.Shape, .fz (rI .i64) v4 b1.Data] Fr) ?_ ?_
     ·rcases Bool.eq_false_or_eq_true ((a1.Data.length : Int) != 1) with hg4 | hg4
      ·refine o_pure hS (.inr ⟨_, _, _, _, rfl, rfl, rfl, hg4⟩) rfl rfl ?_; clear hS; try clear tm
       intro tm hS
       refine o_ld1 (k := 3) hS (.inr ⟨_, _, _, _, rfl, rfl, rfl, hg4⟩) rfl rfl rfl (.inl rfl) Fu22 rfl rfl ?_; clear hS; try clear tm
       intro tm hS
       refine o_len (k := 4) (r := (rI .i64)) hS (.inr ⟨_, _, _, _, rfl, rfl, rfl, hg4⟩) rfl rfl rfl (.inl rfl) Fu22 rfl ?_; clear hS; try clear tm
       intro tm hS
       refine o_pure hS (.inr ⟨_, _, _, _, rfl, rfl, rfl, hg4⟩) rfl rfl ?_; clear hS; try clear tm
       intro tm hS
       refine o_len (k := 0) (r := (rI .i64)) hS (.inr ⟨_, _, _, _, rfl, rfl, rfl, hg4⟩) rfl rfl rfl (.inr (.inl rfl)) Fu22 rfl ?_; clear hS; try clear tm
       intro tm hS
       refine o_pure hS (.inr ⟨_, _, _, _, rfl, rfl, rfl, hg4⟩) rfl rfl ?_; clear hS; try clear tm
       intro tm hS
       refine o_pickT hS (.inl rfl) rfl rfl hg4 rfl ?_; clear hS; try clear tm
       intro tm hS
       have hc4 : c4 = ((a1.Shape.length : Int) != (r5.length : Int)) := hc4.trans (by rw [hg4]; first | rfl | simp)
       subst hc4
       exact o_nil (hS.keep (ka_cons rfl (ka_cons rfl (ka_cons rfl (ka_cons rfl (ka_cons rfl (ka_cons rfl (ka_cons rfl ka_nil))))))) (fun hI => (hI.sub (sc (sc (sc (sc (sc (sc (sc (sc sn)))))))))))
      ·refine o_skip hS rfl rfl rfl hg4 ?_; clear hS; try clear tm
       intro tm hS
       refine o_skip hS rfl rfl rfl hg4 ?_; clear hS; try clear tm
       intro tm hS
       refine o_skip hS rfl rfl rfl hg4 ?_; clear hS; try clear tm
       intro tm hS
       refine o_skip hS rfl rfl rfl hg4 ?_; clear hS; try clear tm
       intro tm hS
       refine o_skip hS rfl rfl rfl hg4 ?_; clear hS; try clear tm
       intro tm hS
       refine o_skip hS rfl rfl rfl hg4 ?_; clear hS; try clear tm
       intro tm hS
       refine o_pickF hS (.inl rfl) rfl rfl hg4 rfl ?_; clear hS; try clear tm
       intro tm hS
       have hc4 : c4 = false := hc4.trans (by rw [hg4]; first | rfl | simp)
       subst hc4
       exact o_nil (hS.keep (ka_cons rfl (ka_cons rfl (ka_cons rfl (ka_cons rfl (ka_cons rfl (ka_cons rfl (ka_cons rfl ka_nil))))))) (fun hI => (hI.sub (sc (sc (sc (sc (sc (sc (sc (sc sn)))))))))))
     intro tm H hS
     subst hc4
     refine o_pure hS (.inl rfl) rfl rfl ?_; clear hS; try clear tm
     intro tm hS
     refine o_nil (hR _ _ ?_)
     clear hR R
     refine c_cond hS rfl (fun hc => ?_) (fun hc => ?_)
     ·replace h0 := iteT hc h0
      refine c_reg fun R hR => ?_
      refine o_build hS (.inl rfl) rfl Fb25 rfl .nil rfl ?_; clear hS; try clear tm
      intro tm hS
      refine o_st (k := 1) hS (.inl rfl) rfl rfl rfl Fs25 rfl rfl (all_cons rfl (all_cons rfl (all_cons rfl all_nil))) rfl ?_; clear hS; try clear H
      intro H hS
      refine o_pure hS (.inl rfl) rfl rfl ?_; clear hS; try clear tm
      intro tm hS
      refine o_nil (hR _ _ ?_)
      clear hR R
      refine wpC.ret ?_
      obtain rfl := Option.some.inj h0
      replace hS := hS.nilOwn (rI .i64)
      replace hS := hS.nilOwn (rI .i64)
      refine Exists.intro _ (And.intro (rs_cellA (k := 3) hS rfl rfl (.inl rfl) Fu25 rfl Fs25 rfl (rs_tmp hS rfl rs_nil)) ?_)
      have hI := hS.inv
      exact ⟨(.slice none 0 0), (.slice none 0 0), rfl, (((hI.pull 0 rfl).pull 1 rfl).take 2)⟩
     ·replace h0 := iteF hc h0
      refine c_reg fun R hR => ?_
      refine o_pure hS (.inl rfl) rfl rfl ?_; clear hS; try clear tm
      intro tm hS
      refine o_ld1 (k := 3) hS (.inl rfl) rfl rfl rfl (.inl rfl) Fu23 rfl rfl ?_; clear hS; try clear tm
      intro tm hS
      refine o_len (k := 5) (r := (rI .i64)) hS (.inl rfl) rfl rfl rfl (.inl rfl) Fu23 rfl ?_; clear hS; try clear tm
      intro tm hS
      refine o_pure hS (.inl rfl) rfl rfl ?_; clear hS; try clear tm
      intro tm hS
      refine o_pure hS (.inl rfl) rfl rfl ?_; clear hS; try clear tm
      intro tm hS
      obtain ⟨c5, hc5, h0⟩ := bindS h0
      refine o_cutN 6 (J := fun tm H => S wm 83 tm H [(70, .bool c5), (2, .int .i64 r3), (4, .pointer (some ⟨b3, 0, none⟩)), (6, .pointer (some ⟨b4, 0, none⟩)), (10, .func (.func 41) #[] #[.pointer (some ⟨b2, 0, none⟩)])] [.box b4 [.bool false, (.slice none 0 0), (.slice none 0 0)], .box b3 [.bool b1.Char, v3, v4], .box b2 [.bool a1.Char, v1, v2], .fz (rI .i64) v1 a1.Shape, .fz (rI .i64) v2 a1.Data, .fz (rI .i64) v3 b1.Shape, .fz (rI .i64) v4 b1.Data] Fr) ?_ ?_
      ·rcases Bool.eq_false_or_eq_true ((a1.Data.length : Int) != 1) with hg5 | hg5
       ·replace hc5 := iteT hg5 hc5
        refine o_pure hS (.inr ⟨_, _, _, _, rfl, rfl, rfl, hg5⟩) rfl rfl ?_; clear hS; try clear tm
        intro tm hS
        refine o_ld1 (k := 3) hS (.inr ⟨_, _, _, _, rfl, rfl, rfl, hg5⟩) rfl rfl rfl (.inl rfl) Fu22 rfl rfl ?_; clear hS; try clear tm
        intro tm hS
        refine o_pure hS (.inr ⟨_, _, _, _, rfl, rfl, rfl, hg5⟩) rfl rfl ?_; clear hS; try clear tm
        intro tm hS
        obtain ⟨r9, hx8, hc5⟩ := bindS hc5
        refine o_call (Pc := fun _ res H => res = .bool r9 ∧ Kn wm H ([.own (rI .i64) v5 r5, .box b4 [.bool false, (.slice none 0 0), (.slice none 0 0)], .box b3 [.bool b1.Char, v3, v4], .box b2 [.bool a1.Char, v1, v2], .fz (rI .i64) v1 a1.Shape, .fz (rI .i64) v2 a1.Data, .fz (rI .i64) v3 b1.Shape, .fz (rI .i64) v4 b1.Data]) Fr) hS (.inr ⟨_, _, _, _, rfl, rfl, rfl, hg5⟩) rfl (fun wm' hw1 hw2 => by
         obtain ⟨F2, k1, k2⟩ := hS.inv.lend (La := [.fz (rI .i64) v1 a1.Shape, .fz (rI .i64) v5 r5]) (List.forall_mem_cons.mpr ⟨(.inl ⟨rfl, List.mem_of_getElem? (i := 4) rfl⟩), (List.forall_mem_cons.mpr ⟨(.inr ⟨_, _, _, _, rfl, .inl (List.mem_of_getElem? (i := 0) rfl)⟩), (fun _ h => by cases h)⟩)⟩) hw1 hw2
         exact (wk43  a1.Shape r5  v1 v5 k1 hx8).mono fun res H2 ⟨q1, q2⟩ => ⟨q1, k2 _ q2⟩) (fun wm' res H hw' hp => ?_)
        obtain ⟨hres, hI⟩ := hp
        replace hres := hres.symm; subst hres
        replace hS : S wm 83 _ H ((68, .bool r9) :: _) ([.own (rI .i64) v5 r5, .box b4 [.bool false, (.slice none 0 0), (.slice none 0 0)], .box b3 [.bool b1.Char, v3, v4], .box b2 [.bool a1.Char, v1, v2], .fz (rI .i64) v1 a1.Shape, .fz (rI .i64) v2 a1.Data, .fz (rI .i64) v3 b1.Shape, .fz (rI .i64) v4 b1.Data]) Fr := (hS.put rfl _).withK hI
        clear hI hw'
        refine o_pure hS (.inr ⟨_, _, _, _, rfl, rfl, rfl, hg5⟩) rfl rfl ?_; clear hS; try clear tm
        intro tm hS
        refine o_pickT hS (.inl rfl) rfl rfl hg5 rfl ?_; clear hS; try clear tm
        intro tm hS
        obtain rfl := Option.some.inj hc5
        exact o_nil (hS.keep (ka_cons rfl (ka_cons rfl (ka_cons rfl (ka_cons rfl (ka_cons rfl ka_nil))))) (fun hI => (hI.sub (sd (sc (sc (sc (sc (sc (sc (sc sn)))))))))))
       ·replace hc5 := iteF hg5 hc5
        refine o_skip hS rfl rfl rfl hg5 ?_; clear hS; try clear tm
        intro tm hS
        refine o_skip hS rfl rfl rfl hg5 ?_; clear hS; try clear tm
        intro tm hS
        refine o_skip hS rfl rfl rfl hg5 ?_; clear hS; try clear tm
        intro tm hS
        refine o_skip hS rfl rfl rfl hg5 ?_; clear hS; try clear tm
        intro tm hS
        refine o_skip hS rfl rfl rfl hg5 ?_; clear hS; try clear tm
        intro tm hS
        refine o_pickF hS (.inl rfl) rfl rfl hg5 rfl ?_; clear hS; try clear tm
        intro tm hS
        obtain rfl := Option.some.inj hc5
        exact o_nil (hS.keep (ka_cons rfl (ka_cons rfl (ka_cons rfl (ka_cons rfl (ka_cons rfl ka_nil))))) (fun hI => (hI.sub (sd (sc (sc (sc (sc (sc (sc (sc sn)))))))))))
      intro tm H hS
      refine o_pure hS (.inl rfl) rfl rfl ?_; clear hS; try clear tm
      intro tm hS
      refine o_nil (hR _ _ ?_)
      clear hR R
      refine c_cond hS rfl (fun hc => ?_) (fun hc => ?_)
      ·replace h0 := iteT hc h0
       refine c_reg fun R hR => ?_
       refine o_build hS (.inl rfl) rfl Fb25 rfl .nil rfl ?_; clear hS; try clear tm
       intro tm hS
       refine o_st (k := 0) hS (.inl rfl) rfl rfl rfl Fs25 rfl rfl (all_cons rfl (all_cons rfl (all_cons rfl all_nil))) rfl ?_; clear hS; try clear H
       intro H hS
       refine o_pure hS (.inl rfl) rfl rfl ?_; clear hS; try clear tm
       intro tm hS
       refine o_nil (hR _ _ ?_)
       clear hR R
       refine wpC.ret ?_
       obtain rfl := Option.some.inj h0
       replace hS := hS.nilOwn (rI .i64)
       replace hS := hS.nilOwn (rI .i64)
       refine Exists.intro _ (And.intro (rs_cellA (k := 2) hS rfl rfl (.inl rfl) Fu25 rfl Fs25 rfl (rs_tmp hS rfl rs_nil)) ?_)
       have hI := hS.inv
       exact ⟨(.slice none 0 0), (.slice none 0 0), rfl, (((hI.pull 0 rfl).pull 1 rfl).take 2)⟩
      ·replace h0 := iteF hc h0
       refine c_reg fun R hR => ?_
       refine o_pure hS (.inl rfl) rfl rfl ?_; clear hS; try clear tm
       intro tm hS
       refine o_ld1 (k := 1) hS (.inl rfl) rfl rfl rfl (.inl rfl) Fu22 rfl rfl ?_; clear hS; try clear tm
       intro tm hS
       refine o_len (k := 5) (r := (rI .i64)) hS (.inl rfl) rfl rfl rfl (.inl rfl) Fu22 rfl ?_; clear hS; try clear tm
       intro tm hS
       refine o_pure hS (.inl rfl) rfl rfl ?_; clear hS; try clear tm
       intro tm hS
       refine o_pure hS (.inl rfl) rfl rfl ?_; clear hS; try clear tm
       intro tm hS
       refine o_nil (hR _ _ ?_)
       clear hR R
       refine c_cond hS rfl (fun hc => ?_) (fun hc => ?_)
       ·replace h0 := iteT hc h0
        refine c_reg fun R hR => ?_
        refine o_ldA (k := 1) hS (.inl rfl) rfl rfl rfl (.inl rfl) Fu25 rfl Fs25 rfl ?_; clear hS; try clear tm
        intro tm hS
        obtain ⟨r10, hx9, h0⟩ := bindS h0
        refine o_call hS (.inl rfl) rfl (fun wm' hw1 hw2 => wk30  b1  v3 v4 (((hS.sel hw2).ad 6 rfl).ad 5 rfl) hx9) (fun wm' res H hw' hp => ?_)
        obtain ⟨v10, v11, hres, hI⟩ := hp
        replace hres := hres.symm; subst hres
        replace hS : S wm 83 _ H ((78, .agg #[.bool r10.Char, v10, v11]) :: _) ([.own (rI .i64) v10 r10.Shape, .own (rI .i64) v11 r10.Data] ++ _) Fr := hS.after rfl hw' hI
        clear hI hw'
        refine o_st (k := 2) hS (.inl rfl) rfl rfl rfl Fs25 rfl rfl (all_cons rfl (all_cons (hS.one (k := 0) rfl (.inr (.inl rfl))) (all_cons (hS.one (k := 1) rfl (.inr (.inl rfl))) all_nil))) rfl ?_; clear hS; try clear H
        intro H hS
        refine o_pure hS (.inl rfl) rfl rfl ?_; clear hS; try clear tm
        intro tm hS
        refine o_nil (hR _ _ ?_)
        clear hR R
        refine wpC.ret ?_
        obtain rfl := Option.some.inj h0
        refine Exists.intro _ (And.intro (rs_cellA (k := 2) hS rfl rfl (.inl rfl) Fu25 rfl Fs25 rfl (rs_tmp hS rfl rs_nil)) ?_)
        have hI := hS.inv
        exact ⟨v10, v11, rfl, (hI.sub (sc (sc sn)))⟩
       ·replace h0 := iteF hc h0
        refine wpC.skip ?_
        refine c_reg fun R hR => ?_
        refine o_ldA (k := 1) hS (.inl rfl) rfl rfl rfl (.inl rfl) Fu25 rfl Fs25 rfl ?_; clear hS; try clear tm
        intro tm hS
        refine o_pure hS (.inl rfl) rfl rfl ?_; clear hS; try clear tm
        intro tm hS
        refine o_pure hS (.inl rfl) rfl rfl ?_; clear hS; try clear tm
        intro tm hS
        replace hS := hS.frzBox (k := 2) rfl
        obtain ⟨r11, hx10, h0⟩ := bindS h0
        refine o_call hS (.inl rfl) rfl (fun wm' hw1 hw2 => wk44  b1 r3 (fun x0 => M.turn_Rotate_1 x0 a1) 41 #[.pointer (some ⟨b2, 0, none⟩)] [.fz (rI .i64) v1 a1.Shape, .fz (rI .i64) v2 a1.Data, .fbox b2 [.bool a1.Char, v1, v2]] (by simp [Ent.blk]) (fun x0 hI _ h0 => wk41  x0 a1  v1 v2 b2 hI h0) v3 v4 ((((((hS.sel hw2).adB 2 rfl).ad 4 rfl).ad 3 rfl).ad 6 rfl).ad 5 rfl) hx10) (fun wm' res H hw' hp => ?_)
        obtain ⟨v12, v13, hres, hI⟩ := hp
        replace hres := hres.symm; subst hres
        replace hS : S wm 83 _ H ((82, .agg #[.bool r11.Char, v12, v13]) :: _) ([.own (rI .i64) v12 r11.Shape, .own (rI .i64) v13 r11.Data] ++ _) Fr := hS.after rfl hw' hI
        clear hI hw'
        refine o_st (k := 2) hS (.inl rfl) rfl rfl rfl Fs25 rfl rfl (all_cons rfl (all_cons (hS.one (k := 0) rfl (.inr (.inl rfl))) (all_cons (hS.one (k := 1) rfl (.inr (.inl rfl))) all_nil))) rfl ?_; clear hS; try clear H
        intro H hS
        refine o_pure hS (.inl rfl) rfl rfl ?_; clear hS; try clear tm
        intro tm hS
        refine o_nil (hR _ _ ?_)
        clear hR R
        refine wpC.ret ?_
        obtain rfl := Option.some.inj h0
        refine Exists.intro _ (And.intro (rs_cellA (k := 2) hS rfl rfl (.inl rfl) Fu25 rfl Fs25 rfl (rs_tmp hS rfl rs_nil)) ?_)
        have hI := hS.inv
        exact ⟨v12, v13, rfl, (hI.sub (sc (sc sn)))⟩
theorem wk45 {wm : Nat} {H : AHeap} {Fr : List Ent}  (l1 : (List Int)) (k1 : Int)  (v1 : Value) (hI : Kn wm H [.fz (rI .i64) v1 l1] Fr) {r : (List Int)} (h0 : M.anamnesisref08_without l1 k1 = some r) :
  wpF Try.prog ora wm 45 [v1, .int .i64 k1] H (fun res H => ∃ v7, res = v7 ∧ Kn wm H [.own (rI .i64) v7 r] Fr) := by
 unfold M.anamnesisref08_without at h0
 refine f_enter (n := 17) Try.func45 rfl (by simp) hI rfl rfl rfl fun tm hS => ?_
 clear hI
 refine c_reg fun R hR => ?_
 refine o_pure hS (.inl rfl) rfl rfl ?_; clear hS; try clear tm
 intro tm hS
 refine o_nil (hR _ _ ?_)
 clear hR R
 refine c_reg fun R hR => ?_
 refine o_lit (r := (rI .i64)) (l := ([] : List Int)) hS (.inl rfl) rfl Fl22 rfl rfl rfl .nil rfl rfl ri_nil rfl ?_; clear hS; try clear tm H
 intro v2 tm H hS
 refine o_pure hS (.inl rfl) rfl rfl ?_; clear hS; try clear tm
 intro tm hS
 refine o_pure hS (.inl rfl) rfl rfl ?_; clear hS; try clear tm
 intro tm hS
 obtain ⟨l2, hx1, h0⟩ := bindS h0
 refine o_sl (k := 1) (r := (rI .i64)) hS (.inl rfl) rfl rfl rfl Fu22 Fs3 rfl rfl hx1 ?_; clear hS; try clear tm
 intro v3 tm hS
 obtain ⟨l3, hx2, h0⟩ := bindS h0
 refine o_appL (k1 := 1) (k2 := 0) (r := (rI .i64)) hS (.inl rfl) rfl rfl rfl rfl rfl (.inl rfl) rfl Fe22_22 hx2 ?_; clear hS; try clear tm H
 intro v4 tm H hS
 refine o_pure hS (.inl rfl) rfl rfl ?_; clear hS; try clear tm
 intro tm hS
 refine o_nil (hR _ _ ?_)
 clear hR R
 refine c_reg fun R hR => ?_
 refine o_pure hS (.inl rfl) rfl rfl ?_; clear hS; try clear tm
 intro tm hS
 refine o_pure hS (.inl rfl) rfl rfl ?_; clear hS; try clear tm
 intro tm hS
 refine o_pure hS (.inl rfl) rfl rfl ?_; clear hS; try clear tm
 intro tm hS
 refine o_pure hS (.inl rfl) rfl rfl ?_; clear hS; try clear tm
 intro tm hS
 obtain ⟨l4, hx3, h0⟩ := bindS h0
 refine o_sl (k := 2) (r := (rI .i64)) hS (.inl rfl) rfl rfl rfl Fu22 Fs3 rfl rfl hx3 ?_; clear hS; try clear tm
 intro v5 tm hS
 obtain ⟨l5, hx4, h0⟩ := bindS h0
 refine o_app (k1 := 2) (k2 := 0) (r := (rI .i64)) hS (.inl rfl) rfl rfl rfl rfl rfl (.inl rfl) rfl Fe22_22 rfl hx4 ?_; clear hS; try clear tm H
 intro v6 tm H hS
 refine o_pure hS (.inl rfl) rfl rfl ?_; clear hS; try clear tm
 intro tm hS
 refine o_nil (hR _ _ ?_)
 clear hR R
 refine wpC.ret ?_
 obtain rfl := Option.some.inj h0
 refine Exists.intro _ (And.intro (rs_tmp hS rfl rs_nil) ?_)
 have hI := hS.inv
 exact ⟨v6, rfl, (hI.sub (sd (sd (sc sn))))⟩
theorem wk46 {wm : Nat} {H : AHeap} {Fr : List Ent}  (a1 : Int) (n1 : Int)   (hI : Kn wm H [] Fr) {r : Int} (h0 : M.anamnesisref08_modulo a1 n1 = some r) :
  wpF Try.prog ora wm 46 [.int .i64 a1, .int .i64 n1] H (fun res H => res = .int .i64 r ∧ Kn wm H [] Fr) := by
 unfold M.anamnesisref08_modulo at h0
 refine f_enter (n := 15) Try.func46 rfl (by simp) hI rfl rfl rfl fun tm hS => ?_
 clear hI
 refine c_reg fun R hR => ?_
 refine o_pure hS (.inl rfl) rfl rfl ?_; clear hS; try clear tm
 intro tm hS
 refine o_nil (hR _ _ ?_)
 clear hR R
 refine c_reg fun R hR => ?_
 refine o_pure hS (.inl rfl) rfl rfl ?_; clear hS; try clear tm
 intro tm hS
 refine o_pure hS (.inl rfl) rfl rfl ?_; clear hS; try clear tm
 intro tm hS
 obtain ⟨q1, hx1, h0⟩ := bindS h0
 refine o_rem hS (.inl rfl) rfl rfl rfl hx1 ?_; clear hS; try clear tm
 intro tm hS
 refine o_pure hS (.inl rfl) rfl rfl ?_; clear hS; try clear tm
 intro tm hS
 refine o_nil (hR _ _ ?_)
 clear hR R
 refine c_seqS ?_
 refine c_reg fun R hR => ?_
 refine o_pure hS (.inl rfl) rfl rfl ?_; clear hS; try clear tm
 intro tm hS
 refine o_pure hS (.inl rfl) rfl rfl ?_; clear hS; try clear tm
 intro tm hS
 refine o_nil (hR _ _ ?_)
 clear hR R
 refine c_cond hS rfl (fun hc => ?_) (fun hc => ?_)
 ·replace h0 := iteT hc h0
  refine c_reg fun R hR => ?_
  refine o_pure hS (.inl rfl) rfl rfl ?_; clear hS; try clear tm
  intro tm hS
  refine o_pure hS (.inl rfl) rfl rfl ?_; clear hS; try clear tm
  intro tm hS
  refine o_pure hS (.inl rfl) rfl rfl ?_; clear hS; try clear tm
  intro tm hS
  refine o_pure hS (.inl rfl) rfl rfl ?_; clear hS; try clear tm
  intro tm hS
  refine o_nil (hR _ _ ?_)
  clear hR R
  refine wpC.ret ?_
  obtain rfl := Option.some.inj h0
  refine Exists.intro _ (And.intro (rs_tmp hS rfl rs_nil) ?_)
  have hI := hS.inv
  exact ⟨rfl, (hI.sub sn)⟩
 ·replace h0 := iteF hc h0
  refine wpC.skip ?_
  refine c_reg fun R hR => ?_
  refine o_pure hS (.inl rfl) rfl rfl ?_; clear hS; try clear tm
  intro tm hS
  refine o_pure hS (.inl rfl) rfl rfl ?_; clear hS; try clear tm
  intro tm hS
  refine o_nil (hR _ _ ?_)
  clear hR R
  refine wpC.ret ?_
  obtain rfl := Option.some.inj h0
  refine Exists.intro _ (And.intro (rs_tmp hS rfl rs_nil) ?_)
  have hI := hS.inv
  exact ⟨rfl, (hI.sub sn)⟩
theorem wk21 {wm : Nat} {H : AHeap} {Fr : List Ent}  (a1 : Val) (b1 : Val) (n1 : Int)  (v1 : Value) (v2 : Value) (v3 : Value) (v4 : Value) (hI : Kn wm H [.fz (rI .i64) v1 a1.Shape, .fz (rI .i64) v2 a1.Data, .fz (rI .i64) v3 b1.Shape, .fz (rI .i64) v4 b1.Data] Fr) {r : Val × Int} (h0 : M.anamnesisref08_Rotate a1 b1 n1 = some r) :
  wpF Try.prog ora wm 21 [.agg #[.bool a1.Char, v1, v2], .agg #[.bool b1.Char, v3, v4], .int .i64 n1] H (fun res H => ∃ v17 v18, res = .tuple #[.agg #[.bool r.1.Char, v17, v18], .int .i64 r.2] ∧ Kn wm H [.own (rI .i64) v17 r.1.Shape, .own (rI .i64) v18 r.1.Data] Fr) := by
 unfold M.anamnesisref08_Rotate at h0
 refine f_enter (n := 146) Try.func21 rfl (by simp) hI rfl rfl rfl fun tm hS => ?_
 clear hI
 refine c_reg fun R hR => ?_
 refine o_box hS (.inl rfl) rfl rfl rfl (all_cons rfl (all_cons (hS.one (k := 0) rfl (.inl rfl)) (all_cons (hS.one (k := 1) rfl (.inl rfl)) all_nil))) ?_; clear hS; try clear tm H
 intro b2 tm H hS
 refine o_box hS (.inl rfl) rfl rfl rfl (all_cons rfl (all_cons (hS.one (k := 3) rfl (.inl rfl)) (all_cons (hS.one (k := 4) rfl (.inl rfl)) all_nil))) ?_; clear hS; try clear tm H
 intro b3 tm H hS
 refine o_alloc hS (.inl rfl) rfl Fz25 (by decide) ?_; clear hS; try clear tm H
 intro b4 tm H hS
 refine o_pure hS (.inl rfl) rfl rfl ?_; clear hS; try clear tm
 intro tm hS
 refine o_nil (hR _ _ ?_)
 clear hR R
 refine c_seqS ?_
 refine c_reg fun R hR => ?_
 refine o_ldA (k := 2) hS (.inl rfl) rfl rfl rfl (.inl rfl) Fu25 rfl Fs25 rfl ?_; clear hS; try clear tm
 intro tm hS
 obtain ⟨r1, hx1, h0⟩ := bindS h0
 refine o_call hS (.inl rfl) rfl (fun wm' hw1 hw2 => wk36  a1  v1 v2 (((hS.sel hw2).ad 4 rfl).ad 3 rfl) hx1) (fun wm' res H hw' hp => ?_)
 obtain ⟨hres, hI⟩ := hp
 replace hres := hres.symm; subst hres
 replace hS : S wm 146 _ H ((17, .bool r1) :: _) ([] ++ _) Fr := hS.after rfl hw' hI
 clear hI hw'
 refine o_pure hS (.inl rfl) rfl rfl ?_; clear hS; try clear tm
 intro tm hS
 refine o_pure hS (.inl rfl) rfl rfl ?_; clear hS; try clear tm
 intro tm hS
 obtain ⟨c1, hc1, h0⟩ := bindS h0
 refine o_cutN 4 (J := fun tm H => S wm 146 tm H [(23, .bool c1), (2, .int .i64 n1), (3, .pointer (some ⟨b2, 0, none⟩)), (4, .pointer (some ⟨b3, 0, none⟩)), (6, .pointer (some ⟨b4, 0, none⟩))] [.box b4 [.bool false, (.slice none 0 0), (.slice none 0 0)], .box b3 [.bool b1.Char, v3, v4], .box b2 [.bool a1.Char, v1, v2], .fz (rI .i64) v1 a1.Shape, .fz (rI .i64) v2 a1.Data, .fz (rI .i64) v3 b1.Shape, .fz (rI .i64) v4 b1.Data] Fr) ?_ ?_
 ·rcases Bool.eq_false_or_eq_true (!r1) with hg1 | hg1
  ·replace hc1 := iteT hg1 hc1
   refine o_skip hS rfl rfl rfl hg1 ?_; clear hS; try clear tm
   intro tm hS
   refine o_skip hS rfl rfl rfl hg1 ?_; clear hS; try clear tm
   intro tm hS
   refine o_skip hS rfl rfl rfl hg1 ?_; clear hS; try clear tm
   intro tm hS
   refine o_pickT hS (.inl rfl) rfl rfl hg1 rfl ?_; clear hS; try clear tm
   intro tm hS
   obtain rfl := Option.some.inj hc1
   exact o_nil (hS.keep (ka_cons rfl (ka_cons rfl (ka_cons rfl (ka_cons rfl (ka_cons rfl ka_nil))))) (fun hI => (hI.sub (sc (sc (sc (sc (sc (sc (sc sn))))))))))
  ·replace hc1 := iteF hg1 hc1
   refine o_ldA (k := 1) hS (.inr ⟨_, _, _, _, rfl, rfl, rfl, hg1⟩) rfl rfl rfl (.inl rfl) Fu25 rfl Fs25 rfl ?_; clear hS; try clear tm
   intro tm hS
   obtain ⟨r2, hx2, hc1⟩ := bindS hc1
   refine o_call hS (.inr ⟨_, _, _, _, rfl, rfl, rfl, hg1⟩) rfl (fun wm' hw1 hw2 => wk36  b1  v3 v4 (((hS.sel hw2).ad 6 rfl).ad 5 rfl) hx2) (fun wm' res H hw' hp => ?_)
   obtain ⟨hres, hI⟩ := hp
   replace hres := hres.symm; subst hres
   replace hS : S wm 146 _ H ((21, .bool r2) :: _) ([] ++ _) Fr := hS.after rfl hw' hI
   clear hI hw'
   refine o_pure hS (.inr ⟨_, _, _, _, rfl, rfl, rfl, hg1⟩) rfl rfl ?_; clear hS; try clear tm
   intro tm hS
   refine o_pickF hS (.inl rfl) rfl rfl hg1 rfl ?_; clear hS; try clear tm
   intro tm hS
   obtain rfl := Option.some.inj hc1
   exact o_nil (hS.keep (ka_cons rfl (ka_cons rfl (ka_cons rfl (ka_cons rfl (ka_cons rfl ka_nil))))) (fun hI => (hI.sub (sc (sc (sc (sc (sc (sc (sc sn))))))))))
 intro tm H hS
 refine o_nil (hR _ _ ?_)
 clear hR R
 refine c_cond hS rfl (fun hc => ?_) (fun hc => ?_)
 ·replace h0 := iteT hc h0
  refine c_reg fun R hR => ?_
  refine o_build hS (.inl rfl) rfl Fb25 rfl .nil rfl ?_; clear hS; try clear tm
  intro tm hS
  refine o_st (k := 0) hS (.inl rfl) rfl rfl rfl Fs25 rfl rfl (all_cons rfl (all_cons rfl (all_cons rfl all_nil))) rfl ?_; clear hS; try clear H
  intro H hS
  refine o_pure hS (.inl rfl) rfl rfl ?_; clear hS; try clear tm
  intro tm hS
  refine o_nil (hR _ _ ?_)
  clear hR R
  refine wpC.ret ?_
  obtain rfl := Option.some.inj h0
  replace hS := hS.nilOwn (rI .i64)
  replace hS := hS.nilOwn (rI .i64)
  refine Exists.intro _ (And.intro (rs_cellA (k := 2) hS rfl rfl (.inl rfl) Fu25 rfl Fs25 rfl (rs_tmp hS rfl rs_nil)) ?_)
  have hI := hS.inv
  exact ⟨(.slice none 0 0), (.slice none 0 0), rfl, (((hI.pull 0 rfl).pull 1 rfl).take 2)⟩
 ·replace h0 := iteF hc h0
  refine wpC.skip ?_
  refine c_reg fun R hR => ?_
  refine o_pure hS (.inl rfl) rfl rfl ?_; clear hS; try clear tm
  intro tm hS
  refine o_ld1 (k := 1) hS (.inl rfl) rfl rfl rfl (.inl rfl) Fu22 rfl rfl ?_; clear hS; try clear tm
  intro tm hS
  refine o_pure hS (.inl rfl) rfl rfl ?_; clear hS; try clear tm
  intro tm hS
  obtain ⟨r3, hx3, h0⟩ := bindS h0
  refine o_call hS (.inl rfl) rfl (fun wm' hw1 hw2 => wk37  b1.Shape n1  v3 ((hS.sel hw2).ad 5 rfl) hx3) (fun wm' res H hw' hp => ?_)
  obtain ⟨hres, hI⟩ := hp
  replace hres := hres.symm; subst hres
  replace hS : S wm 146 _ H ((28, .int .i64 r3) :: _) ([] ++ _) Fr := hS.after rfl hw' hI
  clear hI hw'
  refine o_pure hS (.inl rfl) rfl rfl ?_; clear hS; try clear tm
  intro tm hS
  refine o_nil (hR _ _ ?_)
  clear hR R
  refine c_seqS ?_
  refine c_reg fun R hR => ?_
  refine o_pure hS (.inl rfl) rfl rfl ?_; clear hS; try clear tm
  intro tm hS
  refine o_pure hS (.inl rfl) rfl rfl ?_; clear hS; try clear tm
  intro tm hS
  refine o_pure hS (.inl rfl) rfl rfl ?_; clear hS; try clear tm
  intro tm hS
  obtain ⟨c2, hc2⟩ : ∃ x : Bool, x = ((decide (r3 < 0)) && ((n1 != (-1)) || (decide ((b1.Shape.length : Int) > 0)))) := ⟨_, rfl⟩
  refine o_cutN 9 (J := fun tm H => S wm 146 tm H [(40, .bool c2), (3, .pointer (some ⟨b2, 0, none⟩)), (4, .pointer (some ⟨b3, 0, none⟩)), (6, .pointer (some ⟨b4, 0, none⟩)), (8, .int .i64 r3)] [.box b4 [.bool false, (.slice none 0 0), (.slice none 0 0)], .box b3 [.bool b1.Char, v3, v4], .box b2 [.bool a1.Char, v1, v2], .fz (rI .i64) v1 a1.Shape, .fz (rI .i64) v2 a1.Data, .fz (rI .i64) v3 b1.Shape, .fz (rI .i64) v4 b1.Data] Fr) ?_ ?_
  ·rcases Bool.eq_false_or_eq_true (decide (r3 < 0)) with hg2 | hg2
   ·refine o_pure hS (.inr ⟨_, _, _, _, rfl, rfl, rfl, hg2⟩) rfl rfl ?_; clear hS; try clear tm
    intro tm hS
    refine o_pure hS (.inr ⟨_, _, _, _, rfl, rfl, rfl, hg2⟩) rfl rfl ?_; clear hS; try clear tm
    intro tm hS
    refine o_pure hS (.inr ⟨_, _, _, _, rfl, rfl, rfl, hg2⟩) rfl rfl ?_; clear hS; try clear tm
    intro tm hS
    obtain ⟨c3, hc3⟩ : ∃ x : Bool, x = ((n1 != (-1)) || (decide ((b1.Shape.length : Int) > 0))) := ⟨_, rfl⟩
    refine o_cutN 5 (J := fun tm H => S wm 146 tm H [(39, .bool c3), (3, .pointer (some ⟨b2, 0, none⟩)), (4, .pointer (some ⟨b3, 0, none⟩)), (6, .pointer (some ⟨b4, 0, none⟩)), (8, .int .i64 r3), (31, .bool (decide (r3 < 0)))] [.box b4 [.bool false, (.slice none 0 0), (.slice none 0 0)], .box b3 [.bool b1.Char, v3, v4], .box b2 [.bool a1.Char, v1, v2], .fz (rI .i64) v1 a1.Shape, .fz (rI .i64) v2 a1.Data, .fz (rI .i64) v3 b1.Shape, .fz (rI .i64) v4 b1.Data] Fr) ?_ ?_
    ·rcases Bool.eq_false_or_eq_true (n1 != (-1)) with hg3 | hg3
     ·refine o_skip hS rfl rfl rfl hg3 ?_; clear hS; try clear tm
      intro tm hS
      refine o_skip hS rfl rfl rfl hg3 ?_; clear hS; try clear tm
      intro tm hS
      refine o_skip hS rfl rfl rfl hg3 ?_; clear hS; try clear tm
      intro tm hS
      refine o_skip hS rfl rfl rfl hg3 ?_; clear hS; try clear tm
      intro tm hS
      refine o_pickT hS (.inr ⟨_, _, _, _, rfl, rfl, rfl, hg2⟩) rfl rfl hg3 rfl ?_; clear hS; try clear tm
      intro tm hS
      have hc3 : c3 = true := hc3.trans (by rw [hg3]; first | rfl | simp)
      subst hc3
      exact o_nil (hS.keep (ka_cons rfl (ka_cons rfl (ka_cons rfl (ka_cons rfl (ka_cons rfl (ka_cons rfl ka_nil)))))) (fun hI => (hI.sub (sc (sc (sc (sc (sc (sc (sc sn))))))))))
     ·refine o_pure hS (.inr ⟨_, _, _, _, rfl, rfl, rfl, hg3⟩) rfl rfl ?_; clear hS; try clear tm
      intro tm hS
      refine o_ld1 (k := 1) hS (.inr ⟨_, _, _, _, rfl, rfl, rfl, hg3⟩) rfl rfl rfl (.inl rfl) Fu22 rfl rfl ?_; clear hS; try clear tm
      intro tm hS
      refine o_len (k := 5) (r := (rI .i64)) hS (.inr ⟨_, _, _, _, rfl, rfl, rfl, hg3⟩) rfl rfl rfl (.inl rfl) Fu22 rfl ?_; clear hS; try clear tm
      intro tm hS
      refine o_pure hS (.inr ⟨_, _, _, _, rfl, rfl, rfl, hg3⟩) rfl rfl ?_; clear hS; try clear tm
      intro tm hS
      refine o_pickF hS (.inr ⟨_, _, _, _, rfl, rfl, rfl, hg2⟩) rfl rfl hg3 rfl ?_; clear hS; try clear tm
      intro tm hS
      have hc3 : c3 = (decide ((b1.Shape.length : Int) > 0)) := hc3.trans (by rw [hg3]; first | rfl | simp)
      subst hc3
      exact o_nil (hS.keep (ka_cons rfl (ka_cons rfl (ka_cons rfl (ka_cons rfl (ka_cons rfl (ka_cons rfl ka_nil)))))) (fun hI => (hI.sub (sc (sc (sc (sc (sc (sc (sc sn))))))))))
    intro tm H hS
    subst hc3
    refine o_pickT hS (.inl rfl) rfl rfl hg2 rfl ?_; clear hS; try clear tm
    intro tm hS
    have hc2 : c2 = ((n1 != (-1)) || (decide ((b1.Shape.length : Int) > 0))) := hc2.trans (by rw [hg2]; first | rfl | simp)
    subst hc2
    exact o_nil (hS.keep (ka_cons rfl (ka_cons rfl (ka_cons rfl (ka_cons rfl (ka_cons rfl ka_nil))))) (fun hI => (hI.sub (sc (sc (sc (sc (sc (sc (sc sn))))))))))
   ·refine o_skip hS rfl rfl rfl hg2 ?_; clear hS; try clear tm
    intro tm hS
    refine o_skip hS rfl rfl rfl hg2 ?_; clear hS; try clear tm
    intro tm hS
    refine o_skip hS rfl rfl rfl hg2 ?_; clear hS; try clear tm
    intro tm hS
    refine o_skipU hS rfl rfl rfl ?_; clear hS; try clear tm
    intro tm hS
    refine o_skipU hS rfl rfl rfl ?_; clear hS; try clear tm
    intro tm hS
    refine o_skipU hS rfl rfl rfl ?_; clear hS; try clear tm
    intro tm hS
    refine o_skipU hS rfl rfl rfl ?_; clear hS; try clear tm
    intro tm hS
    refine o_skip hS rfl rfl rfl hg2 ?_; clear hS; try clear tm
    intro tm hS
    refine o_pickF hS (.inl rfl) rfl rfl hg2 rfl ?_; clear hS; try clear tm
    intro tm hS
    have hc2 : c2 = false := hc2.trans (by rw [hg2]; first | rfl | simp)
    subst hc2
    exact o_nil (hS.keep (ka_cons rfl (ka_cons rfl (ka_cons rfl (ka_cons rfl (ka_cons rfl ka_nil))))) (fun hI => (hI.sub (sc (sc (sc (sc (sc (sc (sc sn))))))))))
  intro tm H hS
  subst hc2
  refine o_nil (hR _ _ ?_)
  clear hR R
  refine c_cond hS rfl (fun hc => ?_) (fun hc => ?_)
  ·replace h0 := iteT hc h0
   refine c_reg fun R hR => ?_
   refine o_build hS (.inl rfl) rfl Fb25 rfl .nil rfl ?_; clear hS; try clear tm
   intro tm hS
   refine o_st (k := 0) hS (.inl rfl) rfl rfl rfl Fs25 rfl rfl (all_cons rfl (all_cons rfl (all_cons rfl all_nil))) rfl ?_; clear hS; try clear H
   intro H hS
   refine o_pure hS (.inl rfl) rfl rfl ?_; clear hS; try clear tm
   intro tm hS
   refine o_nil (hR _ _ ?_)
   clear hR R
   refine wpC.ret ?_
   obtain rfl := Option.some.inj h0
   replace hS := hS.nilOwn (rI .i64)
   replace hS := hS.nilOwn (rI .i64)
   refine Exists.intro _ (And.intro (rs_cellA (k := 2) hS rfl rfl (.inl rfl) Fu25 rfl Fs25 rfl (rs_tmp hS rfl rs_nil)) ?_)
   have hI := hS.inv
   exact ⟨(.slice none 0 0), (.slice none 0 0), rfl, (((hI.pull 0 rfl).pull 1 rfl).take 2)⟩
  ·replace h0 := iteF hc h0
   refine wpC.skip ?_
   refine c_seqS ?_
   refine c_reg fun R hR => ?_
   refine o_pure hS (.inl rfl) rfl rfl ?_; clear hS; try clear tm
   intro tm hS
   refine o_ld1 (k := 2) hS (.inl rfl) rfl rfl rfl (.inl rfl) Fu4 rfl rfl ?_; clear hS; try clear tm
   intro tm hS
   refine o_nil (hR _ _ ?_)
   clear hR R
   refine c_cond hS rfl (fun hc => ?_) (fun hc => ?_)
   ·replace h0 := iteT hc h0
    refine c_reg fun R hR => ?_
    refine o_build hS (.inl rfl) rfl Fb25 rfl .nil rfl ?_; clear hS; try clear tm
    intro tm hS
    refine o_st (k := 0) hS (.inl rfl) rfl rfl rfl Fs25 rfl rfl (all_cons rfl (all_cons rfl (all_cons rfl all_nil))) rfl ?_; clear hS; try clear H
    intro H hS
    refine o_pure hS (.inl rfl) rfl rfl ?_; clear hS; try clear tm
    intro tm hS
    refine o_nil (hR _ _ ?_)
    clear hR R
    refine wpC.ret ?_
    obtain rfl := Option.some.inj h0
    replace hS := hS.nilOwn (rI .i64)
    replace hS := hS.nilOwn (rI .i64)
    refine Exists.intro _ (And.intro (rs_cellA (k := 2) hS rfl rfl (.inl rfl) Fu25 rfl Fs25 rfl (rs_tmp hS rfl rs_nil)) ?_)
    have hI := hS.inv
    exact ⟨(.slice none 0 0), (.slice none 0 0), rfl, (((hI.pull 0 rfl).pull 1 rfl).take 2)⟩
   ·replace h0 := iteF hc h0
    refine wpC.skip ?_
    refine c_reg fun R hR => ?_
    refine o_pure hS (.inl rfl) rfl rfl ?_; clear hS; try clear tm
    intro tm hS
    refine o_nil (hR _ _ ?_)
    clear hR R
    obtain ⟨rest1, h1, h0⟩ := bindS h0
    refine c_seqJ (J := fun tm H => (match (generalizing := false) rest1 with | rest1 => ∃ v5, S wm 146 tm H [(3, .pointer (some ⟨b2, 0, none⟩)), (4, .pointer (some ⟨b3, 0, none⟩)), (6, .pointer (some ⟨b4, 0, none⟩)), (8, .int .i64 r3), (9, v5)] [.box b2 [.bool a1.Char, v1, v2], .box b3 [.bool b1.Char, v3, v4], .box b4 [.bool false, (.slice none 0 0), (.slice none 0 0)], .own (rI .i64) v5 rest1, .fz (rI .i64) v1 a1.Shape, .fz (rI .i64) v2 a1.Data, .fz (rI .i64) v3 b1.Shape, .fz (rI .i64) v4 b1.Data] Fr)) ?_ ?_
    ·refine c_reg fun R hR => ?_
     refine o_pure hS (.inl rfl) rfl rfl ?_; clear hS; try clear tm
     intro tm hS
     refine o_pure hS (.inl rfl) rfl rfl ?_; clear hS; try clear tm
     intro tm hS
     refine o_nil (hR _ _ ?_)
     clear hR R
     refine c_cond hS rfl (fun hc => ?_) (fun hc => ?_)
     ·replace h1 := iteT hc h1
      refine c_reg1 fun R hR => ?_
      refine o_pure hS (.inl rfl) rfl rfl ?_; clear hS; try clear tm
      intro tm hS
      refine o_ld1 (k := 1) hS (.inl rfl) rfl rfl rfl (.inl rfl) Fu22 rfl rfl ?_; clear hS; try clear tm
      intro tm hS
      refine o_pure hS (.inl rfl) rfl rfl ?_; clear hS; try clear tm
      intro tm hS
      obtain ⟨r4, hx4, h1⟩ := bindS h1
      refine o_call hS (.inl rfl) rfl (fun wm' hw1 hw2 => wk45  b1.Shape r3  v3 ((hS.sel hw2).ad 5 rfl) hx4) (fun wm' res H hw' hp => ?_)
      obtain ⟨v6, hres, hI⟩ := hp
      replace hres := hres.symm; subst hres
      replace hS : S wm 146 _ H ((50, v6) :: _) ([.own (rI .i64) v6 r4] ++ _) Fr := hS.after rfl hw' hI
      clear hI hw'
      refine o_pure hS (.inl rfl) rfl rfl ?_; clear hS; try clear tm
      intro tm hS
      refine o_nil (hR _ _ ?_)
      clear hR R
      obtain rfl := Option.some.inj h1
      refine Exists.intro v6 ?_; change S wm 146 _ _ _ _ Fr; exact hS.keep (ka_cons rfl (ka_cons rfl (ka_cons rfl (ka_cons rfl (ka_cons rfl ka_nil))))) (fun hI => (((((((((hI.pull 7 rfl).pull 7 rfl).pull 7 rfl).pull 7 rfl).pull 4 rfl).pull 5 rfl).pull 6 rfl).pull 7 rfl).take 8))
     ·replace h1 := iteF hc h1
      refine wpC.skip ?_
      obtain rfl := Option.some.inj h1
      replace hS := hS.nilOwn (rI .i64)
      refine Exists.intro (.slice none 0 0) ?_; change S wm 146 _ _ _ _ Fr; exact hS.keep (ka_cons rfl (ka_cons rfl (ka_cons rfl (ka_cons rfl (ka_cons rfl ka_nil))))) (fun hI => (((((((((hI.pull 7 rfl).pull 7 rfl).pull 7 rfl).pull 7 rfl).pull 4 rfl).pull 5 rfl).pull 6 rfl).pull 7 rfl).take 8))
    intro tm H hS
    obtain ⟨v5, hS⟩ := hS
    change S wm 146 tm H [(3, .pointer (some ⟨b2, 0, none⟩)), (4, .pointer (some ⟨b3, 0, none⟩)), (6, .pointer (some ⟨b4, 0, none⟩)), (8, .int .i64 r3), (9, v5)] [.box b2 [.bool a1.Char, v1, v2], .box b3 [.bool b1.Char, v3, v4], .box b4 [.bool false, (.slice none 0 0), (.slice none 0 0)], .own (rI .i64) v5 rest1, .fz (rI .i64) v1 a1.Shape, .fz (rI .i64) v2 a1.Data, .fz (rI .i64) v3 b1.Shape, .fz (rI .i64) v4 b1.Data] Fr at hS
    obtain ⟨k1, h3, h0⟩ := bindS h0
    refine c_seqJ (J := fun tm H => ∃ st, k1 = .next st ∧ (match (generalizing := false) st with | _ => S wm 146 tm H [(3, .pointer (some ⟨b2, 0, none⟩)), (4, .pointer (some ⟨b3, 0, none⟩)), (6, .pointer (some ⟨b4, 0, none⟩)), (8, .int .i64 r3)] [.box b2 [.bool a1.Char, v1, v2], .box b3 [.bool b1.Char, v3, v4], .box b4 [.bool false, (.slice none 0 0), (.slice none 0 0)], .fz (rI .i64) v1 a1.Shape, .fz (rI .i64) v2 a1.Data, .fz (rI .i64) v3 b1.Shape, .fz (rI .i64) v4 b1.Data] Fr)) ?_ ?_
    ·refine c_reg fun R hR => ?_
     refine o_pure hS (.inl rfl) rfl rfl ?_; clear hS; try clear tm
     intro tm hS
     refine o_ld1 (k := 0) hS (.inl rfl) rfl rfl rfl (.inl rfl) Fu23 rfl rfl ?_; clear hS; try clear tm
     intro tm hS
     refine o_len (k := 5) (r := (rI .i64)) hS (.inl rfl) rfl rfl rfl (.inl rfl) Fu23 rfl ?_; clear hS; try clear tm
     intro tm hS
     refine o_pure hS (.inl rfl) rfl rfl ?_; clear hS; try clear tm
     intro tm hS
     refine o_nil (hR _ _ ?_)
     clear hR R
     refine c_cond hS rfl (fun hc => ?_) (fun hc => ?_)
     ·replace h3 := iteT hc h3
      refine c_seqS ?_
      refine c_reg fun R hR => ?_
      refine o_pure hS (.inl rfl) rfl rfl ?_; clear hS; try clear tm
      intro tm hS
      refine o_ld1 (k := 0) hS (.inl rfl) rfl rfl rfl (.inl rfl) Fu22 rfl rfl ?_; clear hS; try clear tm
      intro tm hS
      refine o_len (k := 4) (r := (rI .i64)) hS (.inl rfl) rfl rfl rfl (.inl rfl) Fu22 rfl ?_; clear hS; try clear tm
      intro tm hS
      refine o_pure hS (.inl rfl) rfl rfl ?_; clear hS; try clear tm
      intro tm hS
      refine o_len (k := 3) (r := (rI .i64)) hS (.inl rfl) rfl rfl rfl (.inr (.inl rfl)) Fu22 rfl ?_; clear hS; try clear tm
      intro tm hS
      refine o_pure hS (.inl rfl) rfl rfl ?_; clear hS; try clear tm
      intro tm hS
      refine o_nil (hR _ _ ?_)
      clear hR R
      refine c_cond hS rfl (fun hc => ?_) (fun hc => ?_)
      ·replace h3 := iteT hc h3
       refine c_reg fun R hR => ?_
       refine o_build hS (.inl rfl) rfl Fb25 rfl .nil rfl ?_; clear hS; try clear tm
       intro tm hS
       refine o_st (k := 2) hS (.inl rfl) rfl rfl rfl Fs25 rfl rfl (all_cons rfl (all_cons rfl (all_cons rfl all_nil))) rfl ?_; clear hS; try clear H
       intro H hS
       refine o_pure hS (.inl rfl) rfl rfl ?_; clear hS; try clear tm
       intro tm hS
       refine o_nil (hR _ _ ?_)
       clear hR R
       refine wpC.ret ?_
       obtain rfl := Option.some.inj h3
       obtain rfl := leave h0
       replace hS := hS.nilOwn (rI .i64)
       replace hS := hS.nilOwn (rI .i64)
       refine Exists.intro _ (And.intro (rs_cellA (k := 4) hS rfl rfl (.inl rfl) Fu25 rfl Fs25 rfl (rs_tmp hS rfl rs_nil)) ?_)
       have hI := hS.inv
       exact ⟨(.slice none 0 0), (.slice none 0 0), rfl, (((hI.pull 0 rfl).pull 1 rfl).take 2)⟩
      ·replace h3 := iteF hc h3
       refine wpC.skip ?_
       refine c_reg fun R hR => ?_
       refine o_pure hS (.inl rfl) rfl rfl ?_; clear hS; try clear tm
       intro tm hS
       refine o_nil (hR _ _ ?_)
       clear hR R
       obtain ⟨k2, hw1, h3⟩ := bindS h3
       refine wpC.block ?_
       refine c_loop (I := fun (s : Int) tm H => match (generalizing := false) s with | i1 => S wm 146 tm H [(3, .pointer (some ⟨b2, 0, none⟩)), (4, .pointer (some ⟨b3, 0, none⟩)), (6, .pointer (some ⟨b4, 0, none⟩)), (8, .int .i64 r3), (9, v5), (10, .int .i64 i1)] [.box b2 [.bool a1.Char, v1, v2], .box b3 [.bool b1.Char, v3, v4], .box b4 [.bool false, (.slice none 0 0), (.slice none 0 0)], .fz (rI .i64) v1 a1.Shape, .fz (rI .i64) v2 a1.Data, .fz (rI .i64) v3 b1.Shape, .fz (rI .i64) v4 b1.Data, .own (rI .i64) v5 rest1] Fr) hw1 (by change S wm 146 _ _ _ _ Fr; exact hS.keep (ka_cons rfl (ka_cons rfl (ka_cons rfl (ka_cons rfl (ka_cons rfl (ka_cons rfl ka_nil)))))) (fun hI => (((((((((hI.pull 3 rfl).pull 7 rfl).pull 7 rfl).pull 7 rfl).pull 7 rfl).pull 7 rfl).pull 7 rfl).pull 7 rfl).take 8))) ?_
       clear hS
       intro i1 tm H c4 hS h4 hq4
       change S wm 146 tm H [(3, .pointer (some ⟨b2, 0, none⟩)), (4, .pointer (some ⟨b3, 0, none⟩)), (6, .pointer (some ⟨b4, 0, none⟩)), (8, .int .i64 r3), (9, v5), (10, .int .i64 i1)] [.box b2 [.bool a1.Char, v1, v2], .box b3 [.bool b1.Char, v3, v4], .box b4 [.bool false, (.slice none 0 0), (.slice none 0 0)], .fz (rI .i64) v1 a1.Shape, .fz (rI .i64) v2 a1.Data, .fz (rI .i64) v3 b1.Shape, .fz (rI .i64) v4 b1.Data, .own (rI .i64) v5 rest1] Fr at hS
       refine c_seqS ?_
       refine c_reg fun R hR => ?_
       refine o_pure hS (.inl rfl) rfl rfl ?_; clear hS; try clear tm
       intro tm hS
       refine o_pure hS (.inl rfl) rfl rfl ?_; clear hS; try clear tm
       intro tm hS
       refine o_len (k := 7) (r := (rI .i64)) hS (.inl rfl) rfl rfl rfl (.inr (.inl rfl)) Fu22 rfl ?_; clear hS; try clear tm
       intro tm hS
       refine o_pure hS (.inl rfl) rfl rfl ?_; clear hS; try clear tm
       intro tm hS
       refine o_nil (hR _ _ ?_)
       clear hR R
       refine c_cond hS rfl (fun hc => ?_) (fun hc => ?_)
       ·replace h4 := iteT hc h4
        refine wpC.skip ?_
        refine c_seqS ?_
        refine wpC.block ?_
        refine c_reg fun R hR => ?_
        refine o_pure hS (.inl rfl) rfl rfl ?_; clear hS; try clear tm
        intro tm hS
        refine o_ld1 (k := 0) hS (.inl rfl) rfl rfl rfl (.inl rfl) Fu22 rfl rfl ?_; clear hS; try clear tm
        intro tm hS
        refine o_pure hS (.inl rfl) rfl rfl ?_; clear hS; try clear tm
        intro tm hS
        obtain ⟨y1, hx5, h4⟩ := bindS h4
        refine o_ixA (k := 3) (r := (rI .i64)) hS (.inl rfl) rfl rfl rfl rfl (.inl rfl) Fu22 Fs3 hx5 ?_; clear hS; try clear tm
        intro tm hS
        refine o_ldF (r := (rI .i64)) (k := 3) hS (.inl rfl) rfl rfl rfl (.inl rfl) hx5 Fu3 rfl (flat_I _) rfl ?_; clear hS; try clear tm
        intro tm hS
        refine o_pure hS (.inl rfl) rfl rfl ?_; clear hS; try clear tm
        intro tm hS
        refine o_pure hS (.inl rfl) rfl rfl ?_; clear hS; try clear tm
        intro tm hS
        obtain ⟨y2, hx6, h4⟩ := bindS h4
        refine o_ixA (k := 7) (r := (rI .i64)) hS (.inl rfl) rfl rfl rfl rfl (.inr (.inl rfl)) Fu22 Fs3 hx6 ?_; clear hS; try clear tm
        intro tm hS
        refine o_ldF (r := (rI .i64)) (k := 7) hS (.inl rfl) rfl rfl rfl (.inr (.inl rfl)) hx6 Fu3 rfl (flat_I _) rfl ?_; clear hS; try clear tm
        intro tm hS
        refine o_pure hS (.inl rfl) rfl rfl ?_; clear hS; try clear tm
        intro tm hS
        refine o_nil (hR _ _ ?_)
        clear hR R
        refine c_cond hS rfl (fun hc => ?_) (fun hc => ?_)
        ·replace h4 := iteT hc h4
         refine c_reg fun R hR => ?_
         refine o_build hS (.inl rfl) rfl Fb25 rfl .nil rfl ?_; clear hS; try clear tm
         intro tm hS
         refine o_st (k := 2) hS (.inl rfl) rfl rfl rfl Fs25 rfl rfl (all_cons rfl (all_cons rfl (all_cons rfl all_nil))) rfl ?_; clear hS; try clear H
         intro H hS
         refine o_pure hS (.inl rfl) rfl rfl ?_; clear hS; try clear tm
         intro tm hS
         refine o_nil (hR _ _ ?_)
         clear hR R
         refine wpC.ret ?_
         obtain rfl := Option.some.inj h4
         obtain rfl := hq4 _ rfl
         refine And.intro rfl ?_
         obtain rfl := leave h3
         obtain rfl := leave h0
         replace hS := hS.nilOwn (rI .i64)
         replace hS := hS.nilOwn (rI .i64)
         refine Exists.intro _ (And.intro (rs_cellA (k := 4) hS rfl rfl (.inl rfl) Fu25 rfl Fs25 rfl (rs_tmp hS rfl rs_nil)) ?_)
         have hI := hS.inv
         exact ⟨(.slice none 0 0), (.slice none 0 0), rfl, (((hI.pull 0 rfl).pull 1 rfl).take 2)⟩
        ·replace h4 := iteF hc h4
         refine wpC.skip ?_
         refine c_reg1 fun R hR => ?_
         refine o_pure hS (.inl rfl) rfl rfl ?_; clear hS; try clear tm
         intro tm hS
         refine o_pure hS (.inl rfl) rfl rfl ?_; clear hS; try clear tm
         intro tm hS
         refine o_pure hS (.inl rfl) rfl rfl ?_; clear hS; try clear tm
         intro tm hS
         refine o_nil (hR _ _ ?_)
         clear hR R
         obtain rfl := Option.some.inj h4
         refine ⟨_, rfl, ?_⟩
         change S wm 146 _ _ _ _ Fr; exact hS.keep (ka_cons rfl (ka_cons rfl (ka_cons rfl (ka_cons rfl (ka_cons rfl (ka_cons rfl ka_nil)))))) (fun hI => (hI.sub (sc (sc (sc (sc (sc (sc (sc (sc sn))))))))))
       ·replace h4 := iteF hc h4
        refine wpC.exit ?_
        refine seqX ?_
        obtain rfl := Option.some.inj h4
        obtain rfl := hq4 _ rfl
        refine And.intro rfl (blk_eq ?_)
        replace h3 := joinN h3
        obtain rfl := Option.some.inj h3
        refine ⟨_, rfl, ?_⟩
        change S wm 146 _ _ _ _ Fr; exact hS.keep (ka_cons rfl (ka_cons rfl (ka_cons rfl (ka_cons rfl ka_nil)))) (fun hI => (hI.sub (sc (sc (sc (sc (sc (sc (sc sn)))))))))
     ·replace h3 := iteF hc h3
      refine wpC.skip ?_
      obtain rfl := Option.some.inj h3
      refine ⟨_, rfl, ?_⟩
      change S wm 146 _ _ _ _ Fr; exact hS.keep (ka_cons rfl (ka_cons rfl (ka_cons rfl (ka_cons rfl ka_nil)))) (fun hI => (hI.sub (sc (sc (sc (sd (sc (sc (sc (sc sn))))))))))
    intro tm H hS
    obtain ⟨st1, rfl, hS⟩ := hS
    replace h0 := joinN h0
    change S wm 146 tm H [(3, .pointer (some ⟨b2, 0, none⟩)), (4, .pointer (some ⟨b3, 0, none⟩)), (6, .pointer (some ⟨b4, 0, none⟩)), (8, .int .i64 r3)] [.box b2 [.bool a1.Char, v1, v2], .box b3 [.bool b1.Char, v3, v4], .box b4 [.bool false, (.slice none 0 0), (.slice none 0 0)], .fz (rI .i64) v1 a1.Shape, .fz (rI .i64) v2 a1.Data, .fz (rI .i64) v3 b1.Shape, .fz (rI .i64) v4 b1.Data] Fr at hS
    refine c_reg fun R hR => ?_
    refine o_pure hS (.inl rfl) rfl rfl ?_; clear hS; try clear tm
    intro tm hS
    refine o_ld1 (k := 1) hS (.inl rfl) rfl rfl rfl (.inl rfl) Fu4 rfl rfl ?_; clear hS; try clear tm
    intro tm hS
    refine o_lit (r := (rI .i64)) (l := ([] : List Int)) hS (.inl rfl) rfl Fl22 rfl rfl rfl .nil rfl rfl ri_nil rfl ?_; clear hS; try clear tm H
    intro v7 tm H hS
    refine o_pure hS (.inl rfl) rfl rfl ?_; clear hS; try clear tm
    intro tm hS
    refine o_ld1 (k := 2) hS (.inl rfl) rfl rfl rfl (.inl rfl) Fu22 rfl rfl ?_; clear hS; try clear tm
    intro tm hS
    obtain ⟨l1, hx7, h0⟩ := bindS h0
    refine o_appL (k1 := 0) (k2 := 6) (r := (rI .i64)) hS (.inl rfl) rfl rfl rfl rfl rfl (.inl rfl) rfl Fe22_22 hx7 ?_; clear hS; try clear tm H
    intro v8 tm H hS
    refine o_build hS (.inl rfl) rfl Fb25 rfl (.cons rfl (.cons (cells_one (hS.one (k := 0) rfl (.inr (.inl rfl)))) .nil)) rfl ?_; clear hS; try clear tm
    intro tm hS
    refine o_alloc hS (.inl rfl) rfl Fz25 (by decide) ?_; clear hS; try clear tm H
    intro b5 tm H hS
    refine o_st (k := 0) hS (.inl rfl) rfl rfl rfl Fs25 rfl rfl (all_cons rfl (all_cons (hS.one (k := 1) rfl (.inr (.inl rfl))) (all_cons rfl all_nil))) rfl ?_; clear hS; try clear H
    intro H hS
    refine o_nil (hR _ _ ?_)
    clear hR R
    refine c_reg fun R hR => ?_
    refine o_pure hS (.inl rfl) rfl rfl ?_; clear hS; try clear tm
    intro tm hS
    refine o_ld1 (k := 3) hS (.inl rfl) rfl rfl rfl (.inl rfl) Fu22 rfl rfl ?_; clear hS; try clear tm
    intro tm hS
    obtain ⟨r5, hx8, h0⟩ := bindS h0
    refine o_call hS (.inl rfl) rfl (fun wm' hw1 hw2 => wk38  b1.Shape  v3 ((hS.sel hw2).ad 7 rfl) hx8) (fun wm' res H hw' hp => ?_)
    obtain ⟨v9, hres, hI⟩ := hp
    replace hres := hres.symm; subst hres
    replace hS : S wm 146 _ H ((88, v9) :: _) ([.own (rL (rI .i64)) v9 r5] ++ _) Fr := hS.after rfl hw' hI
    clear hI hw'
    refine o_pure hS (.inl rfl) rfl rfl ?_; clear hS; try clear tm
    intro tm hS
    refine o_nil (hR _ _ ?_)
    clear hR R
    refine c_seqS ?_
    refine c_reg fun R hR => ?_
    refine o_pure hS (.inl rfl) rfl rfl ?_; clear hS; try clear tm
    intro tm hS
    refine o_nil (hR _ _ ?_)
    clear hR R
    obtain ⟨k3, hw2, h0⟩ := bindS h0
    refine wpC.block ?_
    replace hS := hS.nilOwn (rI .i64)
    refine c_loop (I := fun (s : Int × (List Int)) tm H => match (generalizing := false) s with | (i2, Data1) => ∃ v10, S wm 146 tm H [(3, .pointer (some ⟨b2, 0, none⟩)), (4, .pointer (some ⟨b3, 0, none⟩)), (6, .pointer (some ⟨b4, 0, none⟩)), (8, .int .i64 r3), (11, .pointer (some ⟨b5, 0, none⟩)), (12, v9), (13, .int .i64 i2)] [.box b2 [.bool a1.Char, v1, v2], .box b3 [.bool b1.Char, v3, v4], .box b4 [.bool false, (.slice none 0 0), (.slice none 0 0)], .box b5 [.bool b1.Char, v8, v10], .own (rI .i64) v10 Data1, .fz (rI .i64) v1 a1.Shape, .fz (rI .i64) v2 a1.Data, .fz (rI .i64) v3 b1.Shape, .fz (rI .i64) v4 b1.Data, .own (rI .i64) v8 l1, .own (rL (rI .i64)) v9 r5] Fr) hw2 (by refine Exists.intro (.slice none 0 0) ?_; change S wm 146 _ _ _ _ Fr; exact hS.keep (ka_cons rfl (ka_cons rfl (ka_cons rfl (ka_cons rfl (ka_cons rfl (ka_cons rfl (ka_cons rfl ka_nil))))))) (fun hI => ((((((((((((hI.pull 1 rfl).pull 3 rfl).pull 10 rfl).pull 10 rfl).pull 10 rfl).pull 10 rfl).pull 6 rfl).pull 7 rfl).pull 10 rfl).pull 10 rfl).pull 10 rfl).take 11))) ?_
    clear hS
    intro s1 tm H c5 hS h11 hq11
    obtain ⟨i2, Data1⟩ := s1
    obtain ⟨v10, hS⟩ := hS
    change S wm 146 tm H [(3, .pointer (some ⟨b2, 0, none⟩)), (4, .pointer (some ⟨b3, 0, none⟩)), (6, .pointer (some ⟨b4, 0, none⟩)), (8, .int .i64 r3), (11, .pointer (some ⟨b5, 0, none⟩)), (12, v9), (13, .int .i64 i2)] [.box b2 [.bool a1.Char, v1, v2], .box b3 [.bool b1.Char, v3, v4], .box b4 [.bool false, (.slice none 0 0), (.slice none 0 0)], .box b5 [.bool b1.Char, v8, v10], .own (rI .i64) v10 Data1, .fz (rI .i64) v1 a1.Shape, .fz (rI .i64) v2 a1.Data, .fz (rI .i64) v3 b1.Shape, .fz (rI .i64) v4 b1.Data, .own (rI .i64) v8 l1, .own (rL (rI .i64)) v9 r5] Fr at hS
    refine c_seqS ?_
    refine c_reg fun R hR => ?_
    refine o_pure hS (.inl rfl) rfl rfl ?_; clear hS; try clear tm
    intro tm hS
    refine o_pure hS (.inl rfl) rfl rfl ?_; clear hS; try clear tm
    intro tm hS
    refine o_len (k := 10) (r := (rL (rI .i64))) hS (.inl rfl) rfl rfl rfl (.inr (.inl rfl)) Fu67 rfl ?_; clear hS; try clear tm
    intro tm hS
    refine o_pure hS (.inl rfl) rfl rfl ?_; clear hS; try clear tm
    intro tm hS
    refine o_nil (hR _ _ ?_)
    clear hR R
    refine c_cond hS rfl (fun hc => ?_) (fun hc => ?_)
    ·replace h11 := iteT hc h11
     refine wpC.skip ?_
     refine c_seqS ?_
     refine wpC.block ?_
     refine c_reg fun R hR => ?_
     refine o_lit (r := (rI .i64)) (l := ([] : List Int)) hS (.inl rfl) rfl Fl22 rfl rfl rfl .nil rfl rfl ri_nil rfl ?_; clear hS; try clear tm H
     intro v11 tm H hS
     refine o_pure hS (.inl rfl) rfl rfl ?_; clear hS; try clear tm
     intro tm hS
     refine o_pure hS (.inl rfl) rfl rfl ?_; clear hS; try clear tm
     intro tm hS
     obtain ⟨y3, hx9, h11⟩ := bindS h11
     refine o_ixA (k := 11) (r := (rL (rI .i64))) hS (.inl rfl) rfl rfl rfl rfl (.inr (.inl rfl)) Fu67 Fs22 hx9 ?_; clear hS; try clear tm
     intro tm hS
     refine o_ldS (k := 11) hS (.inl rfl) rfl rfl rfl (.inr (.inl rfl)) hx9 Fu22 rfl ?_; clear hS; try clear tm
     intro v12 tm hS
     obtain ⟨l2, hx10, h11⟩ := bindS h11
     refine o_appL (k1 := 1) (k2 := 0) (r := (rI .i64)) hS (.inl rfl) rfl rfl rfl rfl rfl (.inl rfl) rfl Fe22_22 hx10 ?_; clear hS; try clear tm H
     intro v13 tm H hS
     refine o_pure hS (.inl rfl) rfl rfl ?_; clear hS; try clear tm
     intro tm hS
     refine o_nil (hR _ _ ?_)
     clear hR R
     obtain ⟨l3, h16, h11⟩ := bindS h11
     refine c_seqJ (J := fun tm H => (match (generalizing := false) l3 with | l3 => S wm 146 tm H [(3, .pointer (some ⟨b2, 0, none⟩)), (4, .pointer (some ⟨b3, 0, none⟩)), (6, .pointer (some ⟨b4, 0, none⟩)), (8, .int .i64 r3), (11, .pointer (some ⟨b5, 0, none⟩)), (12, v9), (13, .int .i64 i2), (14, v13)] [.box b2 [.bool a1.Char, v1, v2], .box b3 [.bool b1.Char, v3, v4], .box b4 [.bool false, (.slice none 0 0), (.slice none 0 0)], .box b5 [.bool b1.Char, v8, v10], .fz (rI .i64) v1 a1.Shape, .fz (rI .i64) v2 a1.Data, .fz (rI .i64) v3 b1.Shape, .fz (rI .i64) v4 b1.Data, .own (rI .i64) v8 l1, .own (rI .i64) v10 Data1, .own (rL (rI .i64)) v9 r5, .own (rI .i64) v13 l3] Fr)) ?_ ?_
     ·refine c_reg fun R hR => ?_
      refine o_pure hS (.inl rfl) rfl rfl ?_; clear hS; try clear tm
      intro tm hS
      refine o_pure hS (.inl rfl) rfl rfl ?_; clear hS; try clear tm
      intro tm hS
      refine o_nil (hR _ _ ?_)
      clear hR R
      refine c_cond hS rfl (fun hc => ?_) (fun hc => ?_)
      ·replace h16 := iteT hc h16
       refine c_reg fun R hR => ?_
       refine o_pure hS (.inl rfl) rfl rfl ?_; clear hS; try clear tm
       intro tm hS
       refine o_ld1 (k := 2) hS (.inl rfl) rfl rfl rfl (.inl rfl) Fu23 rfl rfl ?_; clear hS; try clear tm
       intro tm hS
       obtain ⟨y4, hx11, h16⟩ := bindS h16
       refine o_ixA (k := 8) (r := (rI .i64)) hS (.inl rfl) rfl rfl rfl rfl (.inl rfl) Fu23 Fs2 hx11 ?_; clear hS; try clear tm
       intro tm hS
       refine o_ldF (r := (rI .i64)) (k := 8) hS (.inl rfl) rfl rfl rfl (.inl rfl) hx11 Fu2 rfl (flat_I _) rfl ?_; clear hS; try clear tm
       intro tm hS
       refine o_pure hS (.inl rfl) rfl rfl ?_; clear hS; try clear tm
       intro tm hS
       refine o_nil (hR _ _ ?_)
       clear hR R
       obtain ⟨by1, h17, h16⟩ := bindS h16
       refine c_seqJ (J := fun tm H => (match (generalizing := false) by1 with | by1 => S wm 146 tm H [(3, .pointer (some ⟨b2, 0, none⟩)), (4, .pointer (some ⟨b3, 0, none⟩)), (6, .pointer (some ⟨b4, 0, none⟩)), (8, .int .i64 r3), (11, .pointer (some ⟨b5, 0, none⟩)), (12, v9), (13, .int .i64 i2), (14, v13), (15, .int .i64 by1)] [.box b2 [.bool a1.Char, v1, v2], .box b3 [.bool b1.Char, v3, v4], .box b4 [.bool false, (.slice none 0 0), (.slice none 0 0)], .box b5 [.bool b1.Char, v8, v10], .fz (rI .i64) v1 a1.Shape, .fz (rI .i64) v2 a1.Data, .fz (rI .i64) v3 b1.Shape, .fz (rI .i64) v4 b1.Data, .own (rI .i64) v8 l1, .own (rI .i64) v10 Data1, .own (rL (rI .i64)) v9 r5, .own (rI .i64) v13 l2] Fr)) ?_ ?_
       ·refine c_reg fun R hR => ?_
        refine o_pure hS (.inl rfl) rfl rfl ?_; clear hS; try clear tm
        intro tm hS
        refine o_ld1 (k := 2) hS (.inl rfl) rfl rfl rfl (.inl rfl) Fu23 rfl rfl ?_; clear hS; try clear tm
        intro tm hS
        refine o_len (k := 8) (r := (rI .i64)) hS (.inl rfl) rfl rfl rfl (.inl rfl) Fu23 rfl ?_; clear hS; try clear tm
        intro tm hS
        refine o_pure hS (.inl rfl) rfl rfl ?_; clear hS; try clear tm
        intro tm hS
        refine o_nil (hR _ _ ?_)
        clear hR R
        refine c_cond hS rfl (fun hc => ?_) (fun hc => ?_)
        ·replace h17 := iteT hc h17
         refine c_reg1 fun R hR => ?_
         refine o_ldA (k := 2) hS (.inl rfl) rfl rfl rfl (.inl rfl) Fu25 rfl Fs25 rfl ?_; clear hS; try clear tm
         intro tm hS
         refine o_pure hS (.inl rfl) rfl rfl ?_; clear hS; try clear tm
         intro tm hS
         refine o_pure hS (.inl rfl) rfl rfl ?_; clear hS; try clear tm
         intro tm hS
         obtain ⟨r6, hx12, h17⟩ := bindS h17
         refine o_call (Pc := fun _ res H => ∃ v14, res = v14 ∧ Kn wm H ([.own (rI .i64) v14 r6] ++ [.fz (rI .i64) v12 y3, .own (rI .i64) v13 l2, .box b2 [.bool a1.Char, v1, v2], .box b3 [.bool b1.Char, v3, v4], .box b4 [.bool false, (.slice none 0 0), (.slice none 0 0)], .box b5 [.bool b1.Char, v8, v10], .own (rI .i64) v10 Data1, .fz (rI .i64) v1 a1.Shape, .fz (rI .i64) v2 a1.Data, .fz (rI .i64) v3 b1.Shape, .fz (rI .i64) v4 b1.Data, .own (rI .i64) v8 l1, .own (rL (rI .i64)) v9 r5]) Fr) hS (.inl rfl) rfl (fun wm' hw1 hw2 => by
          obtain ⟨F2, k1, k2⟩ := hS.inv.lendR (La := [.fz (rI .i64) v13 l2]) (List.forall_mem_cons.mpr ⟨(.inr ⟨_, _, _, _, rfl, .inl (List.mem_of_getElem? (i := 1) rfl)⟩), (fun _ h => by cases h)⟩) hw1 hw2
          exact (wk45  l2 r3  v13 k1 hx12).mono fun res H2 ⟨v14, q1, q2⟩ => ⟨v14, q1, k2 _ _ (List.forall_mem_cons.mpr ⟨⟨_, _, _, _, rfl, fun _ _ _ _ h => h⟩, (fun _ h => by cases h)⟩) q2⟩) (fun wm' res H hw' hp => ?_)
         obtain ⟨v14, hres, hI⟩ := hp
         replace hres := hres.symm; subst hres
         replace hS : S wm 146 _ H ((114, v14) :: _) ([.own (rI .i64) v14 r6] ++ [.fz (rI .i64) v12 y3, .own (rI .i64) v13 l2, .box b2 [.bool a1.Char, v1, v2], .box b3 [.bool b1.Char, v3, v4], .box b4 [.bool false, (.slice none 0 0), (.slice none 0 0)], .box b5 [.bool b1.Char, v8, v10], .own (rI .i64) v10 Data1, .fz (rI .i64) v1 a1.Shape, .fz (rI .i64) v2 a1.Data, .fz (rI .i64) v3 b1.Shape, .fz (rI .i64) v4 b1.Data, .own (rI .i64) v8 l1, .own (rL (rI .i64)) v9 r5]) Fr := (hS.put rfl _).withK hI
         clear hI hw'
         obtain ⟨r7, hx13, h17⟩ := bindS h17
         refine o_call (Pc := fun _ res H => res = .int .i64 r7 ∧ Kn wm H ([.own (rI .i64) v14 r6, .fz (rI .i64) v12 y3, .own (rI .i64) v13 l2, .box b2 [.bool a1.Char, v1, v2], .box b3 [.bool b1.Char, v3, v4], .box b4 [.bool false, (.slice none 0 0), (.slice none 0 0)], .box b5 [.bool b1.Char, v8, v10], .own (rI .i64) v10 Data1, .fz (rI .i64) v1 a1.Shape, .fz (rI .i64) v2 a1.Data, .fz (rI .i64) v3 b1.Shape, .fz (rI .i64) v4 b1.Data, .own (rI .i64) v8 l1, .own (rL (rI .i64)) v9 r5]) Fr) hS (.inl rfl) rfl (fun wm' hw1 hw2 => by
          obtain ⟨F2, k1, k2⟩ := hS.inv.lend (La := [.fz (rI .i64) v1 a1.Shape, .fz (rI .i64) v2 a1.Data, .fz (rI .i64) v14 r6]) (List.forall_mem_cons.mpr ⟨(.inl ⟨rfl, List.mem_of_getElem? (i := 8) rfl⟩), (List.forall_mem_cons.mpr ⟨(.inl ⟨rfl, List.mem_of_getElem? (i := 9) rfl⟩), (List.forall_mem_cons.mpr ⟨(.inr ⟨_, _, _, _, rfl, .inl (List.mem_of_getElem? (i := 0) rfl)⟩), (fun _ h => by cases h)⟩)⟩)⟩) hw1 hw2
          exact (wk39  a1 r6  v1 v2 v14 k1 hx13).mono fun res H2 ⟨q1, q2⟩ => ⟨q1, k2 _ q2⟩) (fun wm' res H hw' hp => ?_)
         obtain ⟨hres, hI⟩ := hp
         replace hres := hres.symm; subst hres
         replace hS : S wm 146 _ H ((115, .int .i64 r7) :: _) ([.own (rI .i64) v14 r6, .fz (rI .i64) v12 y3, .own (rI .i64) v13 l2, .box b2 [.bool a1.Char, v1, v2], .box b3 [.bool b1.Char, v3, v4], .box b4 [.bool false, (.slice none 0 0), (.slice none 0 0)], .box b5 [.bool b1.Char, v8, v10], .own (rI .i64) v10 Data1, .fz (rI .i64) v1 a1.Shape, .fz (rI .i64) v2 a1.Data, .fz (rI .i64) v3 b1.Shape, .fz (rI .i64) v4 b1.Data, .own (rI .i64) v8 l1, .own (rL (rI .i64)) v9 r5]) Fr := (hS.put rfl _).withK hI
         clear hI hw'
         refine o_pure hS (.inl rfl) rfl rfl ?_; clear hS; try clear tm
         intro tm hS
         refine o_nil (hR _ _ ?_)
         clear hR R
         obtain rfl := Option.some.inj h17
         change S wm 146 _ _ _ _ Fr; exact hS.keep (ka_cons rfl (ka_cons rfl (ka_cons rfl (ka_cons rfl (ka_cons rfl (ka_cons rfl (ka_cons rfl (ka_cons rfl (ka_cons rfl ka_nil))))))))) (fun hI => (((((((((((((hI.pull 2 rfl).pull 13 rfl).pull 8 rfl).pull 13 rfl).pull 13 rfl).pull 13 rfl).pull 13 rfl).pull 13 rfl).pull 13 rfl).pull 13 rfl).pull 13 rfl).pull 13 rfl).take 12))
        ·replace h17 := iteF hc h17
         refine wpC.skip ?_
         obtain rfl := Option.some.inj h17
         change S wm 146 _ _ _ _ Fr; exact hS.keep (ka_cons rfl (ka_cons rfl (ka_cons rfl (ka_cons rfl (ka_cons rfl (ka_cons rfl (ka_cons rfl (ka_cons rfl (ka_cons rfl ka_nil))))))))) (fun hI => (((((((((((((hI.pull 1 rfl).pull 12 rfl).pull 7 rfl).pull 12 rfl).pull 12 rfl).pull 12 rfl).pull 12 rfl).pull 12 rfl).pull 12 rfl).pull 12 rfl).pull 12 rfl).pull 12 rfl).take 12))
       intro tm H hS
       change S wm 146 tm H [(3, .pointer (some ⟨b2, 0, none⟩)), (4, .pointer (some ⟨b3, 0, none⟩)), (6, .pointer (some ⟨b4, 0, none⟩)), (8, .int .i64 r3), (11, .pointer (some ⟨b5, 0, none⟩)), (12, v9), (13, .int .i64 i2), (14, v13), (15, .int .i64 by1)] [.box b2 [.bool a1.Char, v1, v2], .box b3 [.bool b1.Char, v3, v4], .box b4 [.bool false, (.slice none 0 0), (.slice none 0 0)], .box b5 [.bool b1.Char, v8, v10], .fz (rI .i64) v1 a1.Shape, .fz (rI .i64) v2 a1.Data, .fz (rI .i64) v3 b1.Shape, .fz (rI .i64) v4 b1.Data, .own (rI .i64) v8 l1, .own (rI .i64) v10 Data1, .own (rL (rI .i64)) v9 r5, .own (rI .i64) v13 l2] Fr at hS
       refine c_reg1 fun R hR => ?_
       refine o_pure hS (.inl rfl) rfl rfl ?_; clear hS; try clear tm
       intro tm hS
       refine o_pure hS (.inl rfl) rfl rfl ?_; clear hS; try clear tm
       intro tm hS
       refine o_pure hS (.inl rfl) rfl rfl ?_; clear hS; try clear tm
       intro tm hS
       refine o_pure hS (.inl rfl) rfl rfl ?_; clear hS; try clear tm
       intro tm hS
       obtain ⟨y5, hx14, h16⟩ := bindS h16
       refine o_ixA (k := 11) (r := (rI .i64)) hS (.inl rfl) rfl rfl rfl rfl (.inr (.inl rfl)) Fu22 Fs3 hx14 ?_; clear hS; try clear tm
       intro tm hS
       refine o_ldF (r := (rI .i64)) (k := 11) hS (.inl rfl) rfl rfl rfl (.inr (.inl rfl)) hx14 Fu3 rfl (flat_I _) rfl ?_; clear hS; try clear tm
       intro tm hS
       refine o_pure hS (.inl rfl) rfl rfl ?_; clear hS; try clear tm
       intro tm hS
       refine o_pure hS (.inl rfl) rfl rfl ?_; clear hS; try clear tm
       intro tm hS
       refine o_ld1 (k := 1) hS (.inl rfl) rfl rfl rfl (.inl rfl) Fu22 rfl rfl ?_; clear hS; try clear tm
       intro tm hS
       refine o_pure hS (.inl rfl) rfl rfl ?_; clear hS; try clear tm
       intro tm hS
       obtain ⟨y6, hx15, h16⟩ := bindS h16
       refine o_ixA (k := 6) (r := (rI .i64)) hS (.inl rfl) rfl rfl rfl rfl (.inl rfl) Fu22 Fs3 hx15 ?_; clear hS; try clear tm
       intro tm hS
       refine o_ldF (r := (rI .i64)) (k := 6) hS (.inl rfl) rfl rfl rfl (.inl rfl) hx15 Fu3 rfl (flat_I _) rfl ?_; clear hS; try clear tm
       intro tm hS
       obtain ⟨r8, hx16, h16⟩ := bindS h16
       refine o_call hS (.inl rfl) rfl (fun wm' hw1 hw2 => wk46  by1 y6   (hS.sel hw2) hx16) (fun wm' res H hw' hp => ?_)
       obtain ⟨hres, hI⟩ := hp
       replace hres := hres.symm; subst hres
       replace hS : S wm 146 _ H ((128, .int .i64 r8) :: _) ([] ++ _) Fr := hS.after rfl hw' hI
       clear hI hw'
       refine o_pure hS (.inl rfl) rfl rfl ?_; clear hS; try clear tm
       intro tm hS
       refine o_pure hS (.inl rfl) rfl rfl ?_; clear hS; try clear tm
       intro tm hS
       refine o_ld1 (k := 1) hS (.inl rfl) rfl rfl rfl (.inl rfl) Fu22 rfl rfl ?_; clear hS; try clear tm
       intro tm hS
       refine o_pure hS (.inl rfl) rfl rfl ?_; clear hS; try clear tm
       intro tm hS
       obtain ⟨y7, hx17, h16⟩ := bindS h16
       refine o_ixA (k := 6) (r := (rI .i64)) hS (.inl rfl) rfl rfl rfl rfl (.inl rfl) Fu22 Fs3 hx17 ?_; clear hS; try clear tm
       intro tm hS
       refine o_ldF (r := (rI .i64)) (k := 6) hS (.inl rfl) rfl rfl rfl (.inl rfl) hx17 Fu3 rfl (flat_I _) rfl ?_; clear hS; try clear tm
       intro tm hS
       obtain ⟨r9, hx18, h16⟩ := bindS h16
       refine o_call hS (.inl rfl) rfl (fun wm' hw1 hw2 => wk46  (IntKind.i64.wrap (y5 + r8)) y7   (hS.sel hw2) hx18) (fun wm' res H hw' hp => ?_)
       obtain ⟨hres, hI⟩ := hp
       replace hres := hres.symm; subst hres
       replace hS : S wm 146 _ H ((135, .int .i64 r9) :: _) ([] ++ _) Fr := hS.after rfl hw' hI
       clear hI hw'
       obtain ⟨y8, hx19, h16⟩ := bindS h16
       refine o_ixA (k := 11) (r := (rI .i64)) hS (.inl rfl) rfl rfl rfl rfl (.inr (.inl rfl)) Fu22 Fs3 hx19 ?_; clear hS; try clear tm
       intro tm hS
       obtain ⟨l4, hx20, h16⟩ := bindS h16
       refine o_stE (k := 11) (r := (rI .i64)) hS (.inl rfl) rfl rfl rfl Fs3 rfl rfl (rd_flat fun _ => rfl) hx20 ?_; clear hS; try clear H
       intro H hS
       refine o_nil (hR _ _ ?_)
       clear hR R
       obtain rfl := Option.some.inj h16
       change S wm 146 _ _ _ _ Fr; exact hS.keep (ka_cons rfl (ka_cons rfl (ka_cons rfl (ka_cons rfl (ka_cons rfl (ka_cons rfl (ka_cons rfl (ka_cons rfl ka_nil)))))))) (fun hI => (hI.sub (sc (sc (sc (sc (sc (sc (sc (sc (sc (sc (sc (sc sn))))))))))))))
      ·replace h16 := iteF hc h16
       refine wpC.skip ?_
       obtain rfl := Option.some.inj h16
       change S wm 146 _ _ _ _ Fr; exact hS.keep (ka_cons rfl (ka_cons rfl (ka_cons rfl (ka_cons rfl (ka_cons rfl (ka_cons rfl (ka_cons rfl (ka_cons rfl ka_nil)))))))) (fun hI => (((((((((((((hI.pull 1 rfl).pull 12 rfl).pull 7 rfl).pull 12 rfl).pull 12 rfl).pull 12 rfl).pull 12 rfl).pull 12 rfl).pull 12 rfl).pull 12 rfl).pull 12 rfl).pull 12 rfl).take 12))
     intro tm H hS
     change S wm 146 tm H [(3, .pointer (some ⟨b2, 0, none⟩)), (4, .pointer (some ⟨b3, 0, none⟩)), (6, .pointer (some ⟨b4, 0, none⟩)), (8, .int .i64 r3), (11, .pointer (some ⟨b5, 0, none⟩)), (12, v9), (13, .int .i64 i2), (14, v13)] [.box b2 [.bool a1.Char, v1, v2], .box b3 [.bool b1.Char, v3, v4], .box b4 [.bool false, (.slice none 0 0), (.slice none 0 0)], .box b5 [.bool b1.Char, v8, v10], .fz (rI .i64) v1 a1.Shape, .fz (rI .i64) v2 a1.Data, .fz (rI .i64) v3 b1.Shape, .fz (rI .i64) v4 b1.Data, .own (rI .i64) v8 l1, .own (rI .i64) v10 Data1, .own (rL (rI .i64)) v9 r5, .own (rI .i64) v13 l3] Fr at hS
     refine c_reg1 fun R hR => ?_
     refine o_pure hS (.inl rfl) rfl rfl ?_; clear hS; try clear tm
     intro tm hS
     refine o_ld1 (k := 3) hS (.inl rfl) rfl rfl rfl (.inl rfl) Fu23 rfl rfl ?_; clear hS; try clear tm
     intro tm hS
     refine o_ldA (k := 1) hS (.inl rfl) rfl rfl rfl (.inl rfl) Fu25 rfl Fs25 rfl ?_; clear hS; try clear tm
     intro tm hS
     refine o_pure hS (.inl rfl) rfl rfl ?_; clear hS; try clear tm
     intro tm hS
     obtain ⟨r10, hx21, h11⟩ := bindS h11
     refine o_call (Pc := fun _ res H => res = .int .i64 r10 ∧ Kn wm H ([.box b2 [.bool a1.Char, v1, v2], .box b3 [.bool b1.Char, v3, v4], .box b4 [.bool false, (.slice none 0 0), (.slice none 0 0)], .box b5 [.bool b1.Char, v8, v10], .fz (rI .i64) v1 a1.Shape, .fz (rI .i64) v2 a1.Data, .fz (rI .i64) v3 b1.Shape, .fz (rI .i64) v4 b1.Data, .own (rI .i64) v8 l1, .own (rI .i64) v10 Data1, .own (rL (rI .i64)) v9 r5, .own (rI .i64) v13 l3]) Fr) hS (.inl rfl) rfl (fun wm' hw1 hw2 => by
      obtain ⟨F2, k1, k2⟩ := hS.inv.lend (La := [.fz (rI .i64) v3 b1.Shape, .fz (rI .i64) v4 b1.Data, .fz (rI .i64) v13 l3]) (List.forall_mem_cons.mpr ⟨(.inl ⟨rfl, List.mem_of_getElem? (i := 6) rfl⟩), (List.forall_mem_cons.mpr ⟨(.inl ⟨rfl, List.mem_of_getElem? (i := 7) rfl⟩), (List.forall_mem_cons.mpr ⟨(.inr ⟨_, _, _, _, rfl, .inl (List.mem_of_getElem? (i := 11) rfl)⟩), (fun _ h => by cases h)⟩)⟩)⟩) hw1 hw2
      exact (wk39  b1 l3  v3 v4 v13 k1 hx21).mono fun res H2 ⟨q1, q2⟩ => ⟨q1, k2 _ q2⟩) (fun wm' res H hw' hp => ?_)
     obtain ⟨hres, hI⟩ := hp
     replace hres := hres.symm; subst hres
     replace hS : S wm 146 _ H ((141, .int .i64 r10) :: _) ([.box b2 [.bool a1.Char, v1, v2], .box b3 [.bool b1.Char, v3, v4], .box b4 [.bool false, (.slice none 0 0), (.slice none 0 0)], .box b5 [.bool b1.Char, v8, v10], .fz (rI .i64) v1 a1.Shape, .fz (rI .i64) v2 a1.Data, .fz (rI .i64) v3 b1.Shape, .fz (rI .i64) v4 b1.Data, .own (rI .i64) v8 l1, .own (rI .i64) v10 Data1, .own (rL (rI .i64)) v9 r5, .own (rI .i64) v13 l3]) Fr := (hS.put rfl _).withK hI
     clear hI hw'
     refine o_lit (r := (rI .i64)) (l := [r10]) hS (.inl rfl) rfl Fl23 rfl rfl rfl (.cons rfl .nil) rfl rfl (ri_1 (rd_flat fun _ => rfl) ri_nil) rfl ?_; clear hS; try clear tm H
     intro v15 tm H hS
     obtain ⟨l5, hx22, h11⟩ := bindS h11
     refine o_app (k1 := 10) (k2 := 0) (r := (rI .i64)) hS (.inl rfl) rfl rfl rfl rfl rfl (.inr (.inr rfl)) rfl Fe23_23 rfl hx22 ?_; clear hS; try clear tm H
     intro v16 tm H hS
     refine o_pure hS (.inl rfl) rfl rfl ?_; clear hS; try clear tm
     intro tm hS
     refine o_st (k := 4) hS (.inl rfl) rfl rfl rfl Fs23 (cells_one (hS.one (k := 10) rfl (.inr (.inl rfl)))) rfl (all_cons (hS.one (k := 10) rfl (.inr (.inl rfl))) all_nil) rfl ?_; clear hS; try clear H
     intro H hS
     refine o_nil (hR _ _ ?_)
     clear hR R
     refine c_reg1 fun R hR => ?_
     refine o_pure hS (.inl rfl) rfl rfl ?_; clear hS; try clear tm
     intro tm hS
     refine o_pure hS (.inl rfl) rfl rfl ?_; clear hS; try clear tm
     intro tm hS
     refine o_pure hS (.inl rfl) rfl rfl ?_; clear hS; try clear tm
     intro tm hS
     refine o_nil (hR _ _ ?_)
     clear hR R
     obtain rfl := Option.some.inj h11
     refine ⟨_, rfl, ?_⟩
     refine Exists.intro v16 ?_; change S wm 146 _ _ _ _ Fr; exact hS.keep (ka_cons rfl (ka_cons rfl (ka_cons rfl (ka_cons rfl (ka_cons rfl (ka_cons rfl (ka_cons rfl ka_nil))))))) (fun hI => ((((((((((((hI.pull 11 rfl).pull 10 rfl).pull 10 rfl).pull 10 rfl).pull 10 rfl).pull 10 rfl).pull 11 rfl).pull 11 rfl).pull 11 rfl).pull 11 rfl).pull 11 rfl).take 11))
    ·replace h11 := iteF hc h11
     refine wpC.exit ?_
     refine seqX ?_
     obtain rfl := Option.some.inj h11
     obtain rfl := hq11 _ rfl
     refine And.intro rfl (blk_eq ?_)
     replace h0 := joinN h0
     refine c_reg fun R hR => ?_
     refine o_ldA (k := 3) hS (.inl rfl) rfl rfl rfl (.inl rfl) Fu25 rfl Fs25 rfl ?_; clear hS; try clear tm
     intro tm hS
     refine o_st (k := 2) hS (.inl rfl) rfl rfl rfl Fs25 rfl rfl (all_cons rfl (all_cons (hS.one (k := 9) rfl (.inr (.inl rfl))) (all_cons (hS.one (k := 4) rfl (.inr (.inl rfl))) all_nil))) rfl ?_; clear hS; try clear H
     intro H hS
     refine o_pure hS (.inl rfl) rfl rfl ?_; clear hS; try clear tm
     intro tm hS
     refine o_nil (hR _ _ ?_)
     clear hR R
     refine wpC.ret ?_
     obtain rfl := Option.some.inj h0
     refine Exists.intro _ (And.intro (rs_cellA (k := 2) hS rfl rfl (.inl rfl) Fu25 rfl Fs25 rfl (rs_tmp hS rfl rs_nil)) ?_)
     have hI := hS.inv
     exact ⟨v8, v10, rfl, (((hI.pull 4 rfl).pull 9 rfl).take 2)⟩
theorem wk61 {wm : Nat} {H : AHeap} {Fr : List Ent}  (s1 : (List Int)) (k1 : Int)  (v1 : Value) (hI : Kn wm H [.fz (rI .i64) v1 s1] Fr) {r : (List Int) × Bool} (h0 : M.shape_At s1 k1 = some r) :
  wpF Try.prog ora wm 61 [v1, .int .i64 k1] H (fun res H => ∃ v3, res = .tuple #[v3, .bool r.2] ∧ Kn wm H [.own (rI .i64) v3 r.1] Fr) := by
 unfold M.shape_At at h0
 refine f_enter (n := 52) Try.func61 rfl (by simp) hI rfl rfl rfl fun tm hS => ?_
 clear hI
 refine c_reg fun R hR => ?_
 refine o_pure hS (.inl rfl) rfl rfl ?_; clear hS; try clear tm
 intro tm hS
 refine o_pure hS (.inl rfl) rfl rfl ?_; clear hS; try clear tm
 intro tm hS
 refine o_nil (hR _ _ ?_)
 clear hR R
 refine c_reg fun R hR => ?_
 refine o_pure hS (.inl rfl) rfl rfl ?_; clear hS; try clear tm
 intro tm hS
 obtain ⟨⟨r1, r2⟩, hx1, h0⟩ := bindS h0
 refine o_call hS (.inl rfl) rfl (fun wm' hw1 hw2 => wk73  s1  v1 ((hS.sel hw2).ad 0 rfl) hx1) (fun wm' res H hw' hp => ?_)
 obtain ⟨hres, hI⟩ := hp
 replace hres := hres.symm; subst hres
 replace hS : S wm 52 _ H ((12, .tuple #[.int .i64 r1, .int .i64 r2]) :: _) ([] ++ _) Fr := hS.after rfl hw' hI
 clear hI hw'
 refine o_pure hS (.inl rfl) rfl rfl ?_; clear hS; try clear tm
 intro tm hS
 refine o_pure hS (.inl rfl) rfl rfl ?_; clear hS; try clear tm
 intro tm hS
 refine o_pure hS (.inl rfl) rfl rfl ?_; clear hS; try clear tm
 intro tm hS
 refine o_pure hS (.inl rfl) rfl rfl ?_; clear hS; try clear tm
 intro tm hS
 refine o_pure hS (.inl rfl) rfl rfl ?_; clear hS; try clear tm
 intro tm hS
 refine o_nil (hR _ _ ?_)
 clear hR R
 refine c_seqS ?_
 refine c_reg fun R hR => ?_
 refine o_pure hS (.inl rfl) rfl rfl ?_; clear hS; try clear tm
 intro tm hS
 refine o_pure hS (.inl rfl) rfl rfl ?_; clear hS; try clear tm
 intro tm hS
 refine o_pure hS (.inl rfl) rfl rfl ?_; clear hS; try clear tm
 intro tm hS
 obtain ⟨c1, hc1⟩ : ∃ x : Bool, x = ((r2 != 0) || (decide (k1 < 0))) := ⟨_, rfl⟩
 refine o_cutN 3 (J := fun tm H => S wm 52 tm H [(20, .bool c1), (0, v1), (1, .int .i64 k1), (6, .int .i64 r1)] [.fz (rI .i64) v1 s1] Fr) ?_ ?_
 ·rcases Bool.eq_false_or_eq_true (r2 != 0) with hg1 | hg1
  ·refine o_skip hS rfl rfl rfl hg1 ?_; clear hS; try clear tm
   intro tm hS
   refine o_skip hS rfl rfl rfl hg1 ?_; clear hS; try clear tm
   intro tm hS
   refine o_pickT hS (.inl rfl) rfl rfl hg1 rfl ?_; clear hS; try clear tm
   intro tm hS
   have hc1 : c1 = true := hc1.trans (by rw [hg1]; first | rfl | simp)
   subst hc1
   exact o_nil (hS.keep (ka_cons rfl (ka_cons rfl (ka_cons rfl (ka_cons rfl ka_nil)))) (fun hI => (hI.sub (sc sn))))
  ·refine o_pure hS (.inr ⟨_, _, _, _, rfl, rfl, rfl, hg1⟩) rfl rfl ?_; clear hS; try clear tm
   intro tm hS
   refine o_pure hS (.inr ⟨_, _, _, _, rfl, rfl, rfl, hg1⟩) rfl rfl ?_; clear hS; try clear tm
   intro tm hS
   refine o_pickF hS (.inl rfl) rfl rfl hg1 rfl ?_; clear hS; try clear tm
   intro tm hS
   have hc1 : c1 = (decide (k1 < 0)) := hc1.trans (by rw [hg1]; first | rfl | simp)
   subst hc1
   exact o_nil (hS.keep (ka_cons rfl (ka_cons rfl (ka_cons rfl (ka_cons rfl ka_nil)))) (fun hI => (hI.sub (sc sn))))
 intro tm H hS
 subst hc1
 refine o_pure hS (.inl rfl) rfl rfl ?_; clear hS; try clear tm
 intro tm hS
 obtain ⟨c2, hc2⟩ : ∃ x : Bool, x = (((r2 != 0) || (decide (k1 < 0))) || (decide (k1 ≥ r1))) := ⟨_, rfl⟩
 refine o_cutN 4 (J := fun tm H => S wm 52 tm H [(25, .bool c2), (0, v1), (1, .int .i64 k1)] [.fz (rI .i64) v1 s1] Fr) ?_ ?_
 ·rcases Bool.eq_false_or_eq_true ((r2 != 0) || (decide (k1 < 0))) with hg2 | hg2
  ·refine o_skip hS rfl rfl rfl hg2 ?_; clear hS; try clear tm
   intro tm hS
   refine o_skip hS rfl rfl rfl hg2 ?_; clear hS; try clear tm
   intro tm hS
   refine o_skip hS rfl rfl rfl hg2 ?_; clear hS; try clear tm
   intro tm hS
   refine o_pickT hS (.inl rfl) rfl rfl hg2 rfl ?_; clear hS; try clear tm
   intro tm hS
   have hc2 : c2 = true := hc2.trans (by rw [hg2]; first | rfl | simp)
   subst hc2
   exact o_nil (hS.keep (ka_cons rfl (ka_cons rfl (ka_cons rfl ka_nil))) (fun hI => (hI.sub (sc sn))))
  ·refine o_pure hS (.inr ⟨_, _, _, _, rfl, rfl, rfl, hg2⟩) rfl rfl ?_; clear hS; try clear tm
   intro tm hS
   refine o_pure hS (.inr ⟨_, _, _, _, rfl, rfl, rfl, hg2⟩) rfl rfl ?_; clear hS; try clear tm
   intro tm hS
   refine o_pure hS (.inr ⟨_, _, _, _, rfl, rfl, rfl, hg2⟩) rfl rfl ?_; clear hS; try clear tm
   intro tm hS
   refine o_pickF hS (.inl rfl) rfl rfl hg2 rfl ?_; clear hS; try clear tm
   intro tm hS
   have hc2 : c2 = (decide (k1 ≥ r1)) := hc2.trans (by rw [hg2]; first | rfl | simp)
   subst hc2
   exact o_nil (hS.keep (ka_cons rfl (ka_cons rfl (ka_cons rfl ka_nil))) (fun hI => (hI.sub (sc sn))))
 intro tm H hS
 subst hc2
 refine o_nil (hR _ _ ?_)
 clear hR R
 refine c_cond hS rfl (fun hc => ?_) (fun hc => ?_)
 ·replace h0 := iteT hc h0
  refine c_reg fun R hR => ?_
  refine o_pure hS (.inl rfl) rfl rfl ?_; clear hS; try clear tm
  intro tm hS
  refine o_pure hS (.inl rfl) rfl rfl ?_; clear hS; try clear tm
  intro tm hS
  refine o_nil (hR _ _ ?_)
  clear hR R
  refine wpC.ret ?_
  obtain rfl := Option.some.inj h0
  replace hS := hS.nilOwn (rI .i64)
  refine Exists.intro _ (And.intro (rs_tmp hS rfl (rs_tmp hS rfl rs_nil)) ?_)
  have hI := hS.inv
  exact ⟨(.slice none 0 0), rfl, (hI.sub (sc sn))⟩
 ·replace h0 := iteF hc h0
  refine wpC.skip ?_
  refine c_reg fun R hR => ?_
  refine o_pure hS (.inl rfl) rfl rfl ?_; clear hS; try clear tm
  intro tm hS
  refine o_len (k := 0) (r := (rI .i64)) hS (.inl rfl) rfl rfl rfl (.inl rfl) Fu22 rfl ?_; clear hS; try clear tm
  intro tm hS
  obtain ⟨l1, hx2, h0⟩ := bindS h0
  refine o_mk (r := (rI .i64)) hS (.inl rfl) rfl rfl rfl Fm22 rfl (fun _ => rfl) hx2 ?_; clear hS; try clear tm H
  intro v2 tm H hS
  refine o_pure hS (.inl rfl) rfl rfl ?_; clear hS; try clear tm
  intro tm hS
  refine o_nil (hR _ _ ?_)
  clear hR R
  refine c_seqS ?_
  refine c_reg fun R hR => ?_
  refine o_pure hS (.inl rfl) rfl rfl ?_; clear hS; try clear tm
  intro tm hS
  refine o_len (k := 1) (r := (rI .i64)) hS (.inl rfl) rfl rfl rfl (.inl rfl) Fu22 rfl ?_; clear hS; try clear tm
  intro tm hS
  refine o_pure hS (.inl rfl) rfl rfl ?_; clear hS; try clear tm
  intro tm hS
  refine o_pure hS (.inl rfl) rfl rfl ?_; clear hS; try clear tm
  intro tm hS
  refine o_nil (hR _ _ ?_)
  clear hR R
  obtain ⟨k3, hw1, h0⟩ := bindS h0
  refine wpC.block ?_
  refine c_loop (I := fun (s : Int × Int × (List Int)) tm H => match (generalizing := false) s with | (k2, i1, l2) => S wm 52 tm H [(0, v1), (1, .int .i64 k2), (8, v2), (9, .int .i64 i1)] [.fz (rI .i64) v1 s1, .own (rI .i64) v2 l2] Fr) hw1 (by change S wm 52 _ _ _ _ Fr; exact hS.keep (ka_cons rfl (ka_cons rfl (ka_cons rfl (ka_cons rfl ka_nil)))) (fun hI => (((hI.pull 0 rfl).pull 1 rfl).take 2))) ?_
  clear hS
  intro s2 tm H c3 hS h1 hq1
  obtain ⟨k2, i1, l2⟩ := s2
  change S wm 52 tm H [(0, v1), (1, .int .i64 k2), (8, v2), (9, .int .i64 i1)] [.fz (rI .i64) v1 s1, .own (rI .i64) v2 l2] Fr at hS
  refine c_seqS ?_
  refine c_reg fun R hR => ?_
  refine o_pure hS (.inl rfl) rfl rfl ?_; clear hS; try clear tm
  intro tm hS
  refine o_pure hS (.inl rfl) rfl rfl ?_; clear hS; try clear tm
  intro tm hS
  refine o_nil (hR _ _ ?_)
  clear hR R
  refine c_cond hS rfl (fun hc => ?_) (fun hc => ?_)
  ·replace h1 := iteT hc h1
   refine wpC.skip ?_
   refine c_seqS ?_
   refine wpC.block ?_
   refine c_reg1 fun R hR => ?_
   refine o_pure hS (.inl rfl) rfl rfl ?_; clear hS; try clear tm
   intro tm hS
   refine o_pure hS (.inl rfl) rfl rfl ?_; clear hS; try clear tm
   intro tm hS
   refine o_pure hS (.inl rfl) rfl rfl ?_; clear hS; try clear tm
   intro tm hS
   refine o_pure hS (.inl rfl) rfl rfl ?_; clear hS; try clear tm
   intro tm hS
   refine o_pure hS (.inl rfl) rfl rfl ?_; clear hS; try clear tm
   intro tm hS
   obtain ⟨y1, hx3, h1⟩ := bindS h1
   refine o_ixA (k := 0) (r := (rI .i64)) hS (.inl rfl) rfl rfl rfl rfl (.inl rfl) Fu22 Fs3 hx3 ?_; clear hS; try clear tm
   intro tm hS
   refine o_ldF (r := (rI .i64)) (k := 0) hS (.inl rfl) rfl rfl rfl (.inl rfl) hx3 Fu3 rfl (flat_I _) rfl ?_; clear hS; try clear tm
   intro tm hS
   obtain ⟨q1, hx4, h1⟩ := bindS h1
   refine o_rem hS (.inl rfl) rfl rfl rfl hx4 ?_; clear hS; try clear tm
   intro tm hS
   refine o_pure hS (.inl rfl) rfl rfl ?_; clear hS; try clear tm
   intro tm hS
   refine o_pure hS (.inl rfl) rfl rfl ?_; clear hS; try clear tm
   intro tm hS
   refine o_pure hS (.inl rfl) rfl rfl ?_; clear hS; try clear tm
   intro tm hS
   obtain ⟨y2, hx5, h1⟩ := bindS h1
   refine o_ixA (k := 0) (r := (rI .i64)) hS (.inl rfl) rfl rfl rfl rfl (.inl rfl) Fu22 Fs3 hx5 ?_; clear hS; try clear tm
   intro tm hS
   refine o_ldF (r := (rI .i64)) (k := 0) hS (.inl rfl) rfl rfl rfl (.inl rfl) hx5 Fu3 rfl (flat_I _) rfl ?_; clear hS; try clear tm
   intro tm hS
   obtain ⟨q2, hx6, h1⟩ := bindS h1
   refine o_quo hS (.inl rfl) rfl rfl rfl hx6 ?_; clear hS; try clear tm
   intro tm hS
   obtain ⟨y3, hx7, h1⟩ := bindS h1
   refine o_ixA (k := 1) (r := (rI .i64)) hS (.inl rfl) rfl rfl rfl rfl (.inr (.inl rfl)) Fu22 Fs3 hx7 ?_; clear hS; try clear tm
   intro tm hS
   obtain ⟨l3, hx8, h1⟩ := bindS h1
   refine o_stE (k := 1) (r := (rI .i64)) hS (.inl rfl) rfl rfl rfl Fs3 rfl rfl (rd_flat fun _ => rfl) hx8 ?_; clear hS; try clear H
   intro H hS
   refine o_pure hS (.inl rfl) rfl rfl ?_; clear hS; try clear tm
   intro tm hS
   refine o_nil (hR _ _ ?_)
   clear hR R
   refine c_reg1 fun R hR => ?_
   refine o_pure hS (.inl rfl) rfl rfl ?_; clear hS; try clear tm
   intro tm hS
   refine o_pure hS (.inl rfl) rfl rfl ?_; clear hS; try clear tm
   intro tm hS
   refine o_pure hS (.inl rfl) rfl rfl ?_; clear hS; try clear tm
   intro tm hS
   refine o_nil (hR _ _ ?_)
   clear hR R
   obtain rfl := Option.some.inj h1
   refine ⟨_, rfl, ?_⟩
   change S wm 52 _ _ _ _ Fr; exact hS.keep (ka_cons rfl (ka_cons rfl (ka_cons rfl (ka_cons rfl ka_nil)))) (fun hI => (hI.sub (sc (sc sn))))
  ·replace h1 := iteF hc h1
   refine wpC.exit ?_
   refine seqX ?_
   obtain rfl := Option.some.inj h1
   obtain rfl := hq1 _ rfl
   refine And.intro rfl (blk_eq ?_)
   replace h0 := joinN h0
   refine c_reg fun R hR => ?_
   refine o_pure hS (.inl rfl) rfl rfl ?_; clear hS; try clear tm
   intro tm hS
   refine o_pure hS (.inl rfl) rfl rfl ?_; clear hS; try clear tm
   intro tm hS
   refine o_pure hS (.inl rfl) rfl rfl ?_; clear hS; try clear tm
   intro tm hS
   refine o_nil (hR _ _ ?_)
   clear hR R
   refine wpC.ret ?_
   obtain rfl := Option.some.inj h0
   refine Exists.intro _ (And.intro (rs_tmp hS rfl (rs_tmp hS rfl rs_nil)) ?_)
   have hI := hS.inv
   exact ⟨v2, rfl, (hI.sub (sd (sc sn)))⟩
theorem wk62 {wm : Nat} {H : AHeap} {Fr : List Ent}  (s1 : (List Int)) (at1 : (List Int))  (v1 : Value) (v2 : Value) (hI : Kn wm H [.fz (rI .i64) v1 s1, .fz (rI .i64) v2 at1] Fr) {r : Int × Bool} (h0 : M.shape_Offset s1 at1 = some r) :
  wpF Try.prog ora wm 62 [v1, v2] H (fun res H => res = .tuple #[.int .i64 r.1, .bool r.2] ∧ Kn wm H [] Fr) := by
 unfold M.shape_Offset at h0
 refine f_enter (n := 46) Try.func62 rfl (by simp) hI rfl rfl rfl fun tm hS => ?_
 clear hI
 refine c_reg fun R hR => ?_
 refine o_pure hS (.inl rfl) rfl rfl ?_; clear hS; try clear tm
 intro tm hS
 refine o_pure hS (.inl rfl) rfl rfl ?_; clear hS; try clear tm
 intro tm hS
 refine o_nil (hR _ _ ?_)
 clear hR R
 refine c_seqS ?_
 refine c_reg fun R hR => ?_
 refine o_pure hS (.inl rfl) rfl rfl ?_; clear hS; try clear tm
 intro tm hS
 refine o_len (k := 1) (r := (rI .i64)) hS (.inl rfl) rfl rfl rfl (.inl rfl) Fu22 rfl ?_; clear hS; try clear tm
 intro tm hS
 refine o_pure hS (.inl rfl) rfl rfl ?_; clear hS; try clear tm
 intro tm hS
 refine o_len (k := 0) (r := (rI .i64)) hS (.inl rfl) rfl rfl rfl (.inl rfl) Fu22 rfl ?_; clear hS; try clear tm
 intro tm hS
 refine o_pure hS (.inl rfl) rfl rfl ?_; clear hS; try clear tm
 intro tm hS
 refine o_pure hS (.inl rfl) rfl rfl ?_; clear hS; try clear tm
 intro tm hS
 obtain ⟨c1, hc1, h0⟩ := bindS h0
 refine o_cutN 4 (J := fun tm H => S wm 46 tm H [(18, .bool c1), (0, v1), (1, v2)] [.fz (rI .i64) v1 s1, .fz (rI .i64) v2 at1] Fr) ?_ ?_
 ·rcases Bool.eq_false_or_eq_true ((at1.length : Int) != (s1.length : Int)) with hg1 | hg1
  ·replace hc1 := iteT hg1 hc1
   refine o_skip hS rfl rfl rfl hg1 ?_; clear hS; try clear tm
   intro tm hS
   refine o_skip hS rfl rfl rfl hg1 ?_; clear hS; try clear tm
   intro tm hS
   refine o_skip hS rfl rfl rfl hg1 ?_; clear hS; try clear tm
   intro tm hS
   refine o_pickT hS (.inl rfl) rfl rfl hg1 rfl ?_; clear hS; try clear tm
   intro tm hS
   obtain rfl := Option.some.inj hc1
   exact o_nil (hS.keep (ka_cons rfl (ka_cons rfl (ka_cons rfl ka_nil))) (fun hI => (hI.sub (sc (sc sn)))))
  ·replace hc1 := iteF hg1 hc1
   refine o_pure hS (.inr ⟨_, _, _, _, rfl, rfl, rfl, hg1⟩) rfl rfl ?_; clear hS; try clear tm
   intro tm hS
   obtain ⟨r1, hx1, hc1⟩ := bindS hc1
   refine o_call hS (.inr ⟨_, _, _, _, rfl, rfl, rfl, hg1⟩) rfl (fun wm' hw1 hw2 => wk71  s1  v1 ((hS.sel hw2).ad 0 rfl) hx1) (fun wm' res H hw' hp => ?_)
   obtain ⟨hres, hI⟩ := hp
   replace hres := hres.symm; subst hres
   replace hS : S wm 46 _ H ((16, .bool r1) :: _) ([] ++ _) Fr := hS.after rfl hw' hI
   clear hI hw'
   refine o_pure hS (.inr ⟨_, _, _, _, rfl, rfl, rfl, hg1⟩) rfl rfl ?_; clear hS; try clear tm
   intro tm hS
   refine o_pickF hS (.inl rfl) rfl rfl hg1 rfl ?_; clear hS; try clear tm
   intro tm hS
   obtain rfl := Option.some.inj hc1
   exact o_nil (hS.keep (ka_cons rfl (ka_cons rfl (ka_cons rfl ka_nil))) (fun hI => (hI.sub (sc (sc sn)))))
 intro tm H hS
 refine o_nil (hR _ _ ?_)
 clear hR R
 refine c_cond hS rfl (fun hc => ?_) (fun hc => ?_)
 ·replace h0 := iteT hc h0
  refine c_reg fun R hR => ?_
  refine o_pure hS (.inl rfl) rfl rfl ?_; clear hS; try clear tm
  intro tm hS
  refine o_pure hS (.inl rfl) rfl rfl ?_; clear hS; try clear tm
  intro tm hS
  refine o_nil (hR _ _ ?_)
  clear hR R
  refine wpC.ret ?_
  obtain rfl := Option.some.inj h0
  refine Exists.intro _ (And.intro (rs_tmp hS rfl (rs_tmp hS rfl rs_nil)) ?_)
  have hI := hS.inv
  exact ⟨rfl, (hI.sub sn)⟩
 ·replace h0 := iteF hc h0
  refine wpC.skip ?_
  refine c_reg fun R hR => ?_
  refine o_pure hS (.inl rfl) rfl rfl ?_; clear hS; try clear tm
  intro tm hS
  refine o_nil (hR _ _ ?_)
  clear hR R
  refine c_seqS ?_
  refine c_reg fun R hR => ?_
  refine o_pure hS (.inl rfl) rfl rfl ?_; clear hS; try clear tm
  intro tm hS
  refine o_len (k := 1) (r := (rI .i64)) hS (.inl rfl) rfl rfl rfl (.inl rfl) Fu22 rfl ?_; clear hS; try clear tm
  intro tm hS
  refine o_pure hS (.inl rfl) rfl rfl ?_; clear hS; try clear tm
  intro tm hS
  refine o_nil (hR _ _ ?_)
  clear hR R
  obtain ⟨k2, hw1, h0⟩ := bindS h0
  refine wpC.block ?_
  refine c_loop (I := fun (s : Int × Int) tm H => match (generalizing := false) s with | (k1, t1) => S wm 46 tm H [(0, v1), (6, .int .i64 k1), (19, v2), (20, .int .i64 (at1.length : Int)), (21, .int .i64 t1)] [.fz (rI .i64) v1 s1, .fz (rI .i64) v2 at1] Fr) hw1 (by change S wm 46 _ _ _ _ Fr; exact hS.keep (ka_cons rfl (ka_cons rfl (ka_cons rfl (ka_cons rfl (ka_cons rfl ka_nil))))) (fun hI => (hI.sub (sc (sc sn))))) ?_
  clear hS
  intro s2 tm H c2 hS h1 hq1
  obtain ⟨k1, t1⟩ := s2
  change S wm 46 tm H [(0, v1), (6, .int .i64 k1), (19, v2), (20, .int .i64 (at1.length : Int)), (21, .int .i64 t1)] [.fz (rI .i64) v1 s1, .fz (rI .i64) v2 at1] Fr at hS
  refine c_reg fun R hR => ?_
  refine o_pure hS (.inl rfl) rfl rfl ?_; clear hS; try clear tm
  intro tm hS
  refine o_nil (hR _ _ ?_)
  clear hR R
  refine c_seqS ?_
  refine c_cond hS rfl (fun hc => ?_) (fun hc => ?_)
  ·replace h1 := iteT hc h1
   refine wpC.skip ?_
   refine c_seqS ?_
   refine wpC.block ?_
   refine c_reg fun R hR => ?_
   refine o_pure hS (.inl rfl) rfl rfl ?_; clear hS; try clear tm
   intro tm hS
   obtain ⟨y1, hx2, h1⟩ := bindS h1
   refine o_ixA (k := 1) (r := (rI .i64)) hS (.inl rfl) rfl rfl rfl rfl (.inl rfl) Fu22 Fs3 hx2 ?_; clear hS; try clear tm
   intro tm hS
   refine o_ldF (r := (rI .i64)) (k := 1) hS (.inl rfl) rfl rfl rfl (.inl rfl) hx2 Fu3 rfl (flat_I _) rfl ?_; clear hS; try clear tm
   intro tm hS
   refine o_pure hS (.inl rfl) rfl rfl ?_; clear hS; try clear tm
   intro tm hS
   refine o_pure hS (.inl rfl) rfl rfl ?_; clear hS; try clear tm
   intro tm hS
   refine o_nil (hR _ _ ?_)
   clear hR R
   refine c_seqS ?_
   refine c_reg fun R hR => ?_
   refine o_pure hS (.inl rfl) rfl rfl ?_; clear hS; try clear tm
   intro tm hS
   refine o_pure hS (.inl rfl) rfl rfl ?_; clear hS; try clear tm
   intro tm hS
   refine o_pure hS (.inl rfl) rfl rfl ?_; clear hS; try clear tm
   intro tm hS
   obtain ⟨c3, hc2, h1⟩ := bindS h1
   refine o_cutN 7 (J := fun tm H => S wm 46 tm H [(35, .bool c3), (0, v1), (6, .int .i64 k1), (19, v2), (20, .int .i64 (at1.length : Int)), (21, .int .i64 t1), (7, .int .i64 t1), (8, .int .i64 y1)] [.fz (rI .i64) v1 s1, .fz (rI .i64) v2 at1] Fr) ?_ ?_
   ·rcases Bool.eq_false_or_eq_true (decide (y1 < 0)) with hg2 | hg2
    ·replace hc2 := iteT hg2 hc2
     refine o_skip hS rfl rfl rfl hg2 ?_; clear hS; try clear tm
     intro tm hS
     refine o_skip hS rfl rfl rfl hg2 ?_; clear hS; try clear tm
     intro tm hS
     refine o_skip hS rfl rfl rfl hg2 ?_; clear hS; try clear tm
     intro tm hS
     refine o_skip hS rfl rfl rfl hg2 ?_; clear hS; try clear tm
     intro tm hS
     refine o_skip hS rfl rfl rfl hg2 ?_; clear hS; try clear tm
     intro tm hS
     refine o_skip hS rfl rfl rfl hg2 ?_; clear hS; try clear tm
     intro tm hS
     refine o_pickT hS (.inl rfl) rfl rfl hg2 rfl ?_; clear hS; try clear tm
     intro tm hS
     obtain rfl := Option.some.inj hc2
     exact o_nil (hS.keep (ka_cons rfl (ka_cons rfl (ka_cons rfl (ka_cons rfl (ka_cons rfl (ka_cons rfl (ka_cons rfl (ka_cons rfl ka_nil)))))))) (fun hI => (hI.sub (sc (sc sn)))))
    ·replace hc2 := iteF hg2 hc2
     refine o_pure hS (.inr ⟨_, _, _, _, rfl, rfl, rfl, hg2⟩) rfl rfl ?_; clear hS; try clear tm
     intro tm hS
     refine o_pure hS (.inr ⟨_, _, _, _, rfl, rfl, rfl, hg2⟩) rfl rfl ?_; clear hS; try clear tm
     intro tm hS
     refine o_pure hS (.inr ⟨_, _, _, _, rfl, rfl, rfl, hg2⟩) rfl rfl ?_; clear hS; try clear tm
     intro tm hS
     obtain ⟨y2, hx3, hc2⟩ := bindS hc2
     refine o_ixA (k := 0) (r := (rI .i64)) hS (.inr ⟨_, _, _, _, rfl, rfl, rfl, hg2⟩) rfl rfl rfl rfl (.inl rfl) Fu22 Fs3 hx3 ?_; clear hS; try clear tm
     intro tm hS
     refine o_ldF (r := (rI .i64)) (k := 0) hS (.inr ⟨_, _, _, _, rfl, rfl, rfl, hg2⟩) rfl rfl rfl (.inl rfl) hx3 Fu3 rfl (flat_I _) rfl ?_; clear hS; try clear tm
     intro tm hS
     refine o_pure hS (.inr ⟨_, _, _, _, rfl, rfl, rfl, hg2⟩) rfl rfl ?_; clear hS; try clear tm
     intro tm hS
     refine o_pickF hS (.inl rfl) rfl rfl hg2 rfl ?_; clear hS; try clear tm
     intro tm hS
     obtain rfl := Option.some.inj hc2
     exact o_nil (hS.keep (ka_cons rfl (ka_cons rfl (ka_cons rfl (ka_cons rfl (ka_cons rfl (ka_cons rfl (ka_cons rfl (ka_cons rfl ka_nil)))))))) (fun hI => (hI.sub (sc (sc sn)))))
   intro tm H hS
   refine o_nil (hR _ _ ?_)
   clear hR R
   refine c_cond hS rfl (fun hc => ?_) (fun hc => ?_)
   ·replace h1 := iteT hc h1
    refine c_reg fun R hR => ?_
    refine o_pure hS (.inl rfl) rfl rfl ?_; clear hS; try clear tm
    intro tm hS
    refine o_pure hS (.inl rfl) rfl rfl ?_; clear hS; try clear tm
    intro tm hS
    refine o_nil (hR _ _ ?_)
    clear hR R
    refine wpC.ret ?_
    obtain rfl := Option.some.inj h1
    obtain rfl := hq1 _ rfl
    refine And.intro rfl ?_
    obtain rfl := leave h0
    refine Exists.intro _ (And.intro (rs_tmp hS rfl (rs_tmp hS rfl rs_nil)) ?_)
    have hI := hS.inv
    exact ⟨rfl, (hI.sub sn)⟩
   ·replace h1 := iteF hc h1
    refine wpC.skip ?_
    refine c_reg1 fun R hR => ?_
    refine o_pure hS (.inl rfl) rfl rfl ?_; clear hS; try clear tm
    intro tm hS
    refine o_pure hS (.inl rfl) rfl rfl ?_; clear hS; try clear tm
    intro tm hS
    refine o_pure hS (.inl rfl) rfl rfl ?_; clear hS; try clear tm
    intro tm hS
    obtain ⟨y3, hx4, h1⟩ := bindS h1
    refine o_ixA (k := 0) (r := (rI .i64)) hS (.inl rfl) rfl rfl rfl rfl (.inl rfl) Fu22 Fs3 hx4 ?_; clear hS; try clear tm
    intro tm hS
    refine o_ldF (r := (rI .i64)) (k := 0) hS (.inl rfl) rfl rfl rfl (.inl rfl) hx4 Fu3 rfl (flat_I _) rfl ?_; clear hS; try clear tm
    intro tm hS
    refine o_pure hS (.inl rfl) rfl rfl ?_; clear hS; try clear tm
    intro tm hS
    refine o_pure hS (.inl rfl) rfl rfl ?_; clear hS; try clear tm
    intro tm hS
    refine o_pure hS (.inl rfl) rfl rfl ?_; clear hS; try clear tm
    intro tm hS
    refine o_pure hS (.inl rfl) rfl rfl ?_; clear hS; try clear tm
    intro tm hS
    refine o_nil (hR _ _ ?_)
    clear hR R
    refine c_reg1 fun R hR => ?_
    refine o_pure hS (.inl rfl) rfl rfl ?_; clear hS; try clear tm
    intro tm hS
    refine o_pure hS (.inl rfl) rfl rfl ?_; clear hS; try clear tm
    intro tm hS
    refine o_nil (hR _ _ ?_)
    clear hR R
    obtain rfl := Option.some.inj h1
    refine ⟨_, rfl, ?_⟩
    change S wm 46 _ _ _ _ Fr; exact hS.keep (ka_cons rfl (ka_cons rfl (ka_cons rfl (ka_cons rfl (ka_cons rfl ka_nil))))) (fun hI => (hI.sub (sc (sc sn))))
  ·replace h1 := iteF hc h1
   refine wpC.exit ?_
   refine seqX ?_
   obtain rfl := Option.some.inj h1
   obtain rfl := hq1 _ rfl
   refine And.intro rfl (blk_eq ?_)
   replace h0 := joinN h0
   refine c_reg fun R hR => ?_
   refine o_pure hS (.inl rfl) rfl rfl ?_; clear hS; try clear tm
   intro tm hS
   refine o_pure hS (.inl rfl) rfl rfl ?_; clear hS; try clear tm
   intro tm hS
   refine o_pure hS (.inl rfl) rfl rfl ?_; clear hS; try clear tm
   intro tm hS
   refine o_nil (hR _ _ ?_)
   clear hR R
   refine wpC.ret ?_
   obtain rfl := Option.some.inj h0
   refine Exists.intro _ (And.intro (rs_tmp hS rfl (rs_tmp hS rfl rs_nil)) ?_)
   have hI := hS.inv
   exact ⟨rfl, (hI.sub sn)⟩
theorem wk60 {wm : Nat} {H : AHeap} {Fr : List Ent}  (k1 : Int) (x1 : (List Int)) (x2 : (List Int)) (x3 : Val)  (v1 : Value) (b1 : Nat) (v2 : Value) (b2 : Nat) (v3 : Value) (v4 : Value) (b3 : Nat) (hI : Kn wm H [.fz (rI .i64) v1 x1, .fbox b1 [v1], .fz (rI .i64) v2 x2, .fbox b2 [v2], .fz (rI .i64) v3 x3.Shape, .fz (rI .i64) v4 x3.Data, .fbox b3 [.bool x3.Char, v3, v4]] Fr) {r : Int} (h0 : M.turn_permuted_1 k1 x1 x2 x3 = some r) :
  wpF Try.prog ora wm 60 [.int .i64 k1, .pointer (some ⟨b1, 0, none⟩), .pointer (some ⟨b2, 0, none⟩), .pointer (some ⟨b3, 0, none⟩)] H (fun res H => res = .int .i64 r ∧ Kn wm H [] Fr) := by
 unfold M.turn_permuted_1 at h0
 refine f_enter (n := 45) Try.func60 rfl (by simp) hI rfl rfl rfl fun tm hS => ?_
 clear hI
 refine c_reg fun R hR => ?_
 refine o_pure hS (.inl rfl) rfl rfl ?_; clear hS; try clear tm
 intro tm hS
 refine o_nil (hR _ _ ?_)
 clear hR R
 refine c_reg fun R hR => ?_
 refine o_ld1 (k := 1) hS (.inl rfl) rfl rfl rfl (.inr rfl) Fu22 rfl rfl ?_; clear hS; try clear tm
 intro tm hS
 refine o_pure hS (.inl rfl) rfl rfl ?_; clear hS; try clear tm
 intro tm hS
 obtain ⟨⟨r1, r2⟩, hx1, h0⟩ := bindS h0
 refine o_call hS (.inl rfl) rfl (fun wm' hw1 hw2 => wk61  x1 k1  v1 ((hS.sel hw2).ad 0 rfl) hx1) (fun wm' res H hw' hp => ?_)
 obtain ⟨v5, hres, hI⟩ := hp
 replace hres := hres.symm; subst hres
 replace hS : S wm 45 _ H ((16, .tuple #[v5, .bool r2]) :: _) ([.own (rI .i64) v5 r1] ++ _) Fr := hS.after rfl hw' hI
 clear hI hw'
 refine o_pure hS (.inl rfl) rfl rfl ?_; clear hS; try clear tm
 intro tm hS
 refine o_pure hS (.inl rfl) rfl rfl ?_; clear hS; try clear tm
 intro tm hS
 refine o_pure hS (.inl rfl) rfl rfl ?_; clear hS; try clear tm
 intro tm hS
 refine o_pure hS (.inl rfl) rfl rfl ?_; clear hS; try clear tm
 intro tm hS
 refine o_pure hS (.inl rfl) rfl rfl ?_; clear hS; try clear tm
 intro tm hS
 refine o_nil (hR _ _ ?_)
 clear hR R
 refine c_reg fun R hR => ?_
 refine o_ld1 (k := 4) hS (.inl rfl) rfl rfl rfl (.inr rfl) Fu22 rfl rfl ?_; clear hS; try clear tm
 intro tm hS
 refine o_len (k := 3) (r := (rI .i64)) hS (.inl rfl) rfl rfl rfl (.inl rfl) Fu22 rfl ?_; clear hS; try clear tm
 intro tm hS
 obtain ⟨l1, hx2, h0⟩ := bindS h0
 refine o_mk (r := (rI .i64)) hS (.inl rfl) rfl rfl rfl Fm22 rfl (fun _ => rfl) hx2 ?_; clear hS; try clear tm H
 intro v6 tm H hS
 refine o_pure hS (.inl rfl) rfl rfl ?_; clear hS; try clear tm
 intro tm hS
 refine o_nil (hR _ _ ?_)
 clear hR R
 refine c_seqS ?_
 refine c_reg fun R hR => ?_
 refine o_ld1 (k := 5) hS (.inl rfl) rfl rfl rfl (.inr rfl) Fu22 rfl rfl ?_; clear hS; try clear tm
 intro tm hS
 refine o_len (k := 4) (r := (rI .i64)) hS (.inl rfl) rfl rfl rfl (.inl rfl) Fu22 rfl ?_; clear hS; try clear tm
 intro tm hS
 refine o_pure hS (.inl rfl) rfl rfl ?_; clear hS; try clear tm
 intro tm hS
 refine o_nil (hR _ _ ?_)
 clear hR R
 obtain ⟨k2, hw1, h0⟩ := bindS h0
 refine wpC.block ?_
 refine c_loop (I := fun (s : Int × (List Int)) tm H => match (generalizing := false) s with | (t1, l2) => S wm 45 tm H [(3, .pointer (some ⟨b3, 0, none⟩)), (6, v5), (8, v6), (22, v2), (23, .int .i64 (x2.length : Int)), (24, .int .i64 t1)] [.fbox b3 [.bool x3.Char, v3, v4], .fz (rI .i64) v3 x3.Shape, .fz (rI .i64) v4 x3.Data, .own (rI .i64) v5 r1, .own (rI .i64) v6 l2, .fz (rI .i64) v2 x2] Fr) hw1 (by change S wm 45 _ _ _ _ Fr; exact hS.keep (ka_cons rfl (ka_cons rfl (ka_cons rfl (ka_cons rfl (ka_cons rfl (ka_cons rfl ka_nil)))))) (fun hI => (((((((hI.pull 4 rfl).pull 1 rfl).pull 2 rfl).pull 7 rfl).pull 7 rfl).pull 8 rfl).take 6))) ?_
 clear hS
 intro s1 tm H c1 hS h1 hq1
 obtain ⟨t1, l2⟩ := s1
 change S wm 45 tm H [(3, .pointer (some ⟨b3, 0, none⟩)), (6, v5), (8, v6), (22, v2), (23, .int .i64 (x2.length : Int)), (24, .int .i64 t1)] [.fbox b3 [.bool x3.Char, v3, v4], .fz (rI .i64) v3 x3.Shape, .fz (rI .i64) v4 x3.Data, .own (rI .i64) v5 r1, .own (rI .i64) v6 l2, .fz (rI .i64) v2 x2] Fr at hS
 refine c_reg fun R hR => ?_
 refine o_pure hS (.inl rfl) rfl rfl ?_; clear hS; try clear tm
 intro tm hS
 refine o_nil (hR _ _ ?_)
 clear hR R
 refine c_seqS ?_
 refine c_cond hS rfl (fun hc => ?_) (fun hc => ?_)
 ·replace h1 := iteT hc h1
  refine wpC.skip ?_
  refine c_seqS ?_
  refine wpC.block ?_
  refine c_reg fun R hR => ?_
  refine o_pure hS (.inl rfl) rfl rfl ?_; clear hS; try clear tm
  intro tm hS
  obtain ⟨y1, hx3, h1⟩ := bindS h1
  refine o_ixA (k := 5) (r := (rI .i64)) hS (.inl rfl) rfl rfl rfl rfl (.inl rfl) Fu22 Fs3 hx3 ?_; clear hS; try clear tm
  intro tm hS
  refine o_ldF (r := (rI .i64)) (k := 5) hS (.inl rfl) rfl rfl rfl (.inl rfl) hx3 Fu3 rfl (flat_I _) rfl ?_; clear hS; try clear tm
  intro tm hS
  refine o_pure hS (.inl rfl) rfl rfl ?_; clear hS; try clear tm
  intro tm hS
  refine o_pure hS (.inl rfl) rfl rfl ?_; clear hS; try clear tm
  intro tm hS
  refine o_nil (hR _ _ ?_)
  clear hR R
  refine c_reg1 fun R hR => ?_
  refine o_pure hS (.inl rfl) rfl rfl ?_; clear hS; try clear tm
  intro tm hS
  refine o_pure hS (.inl rfl) rfl rfl ?_; clear hS; try clear tm
  intro tm hS
  refine o_pure hS (.inl rfl) rfl rfl ?_; clear hS; try clear tm
  intro tm hS
  refine o_pure hS (.inl rfl) rfl rfl ?_; clear hS; try clear tm
  intro tm hS
  obtain ⟨y2, hx4, h1⟩ := bindS h1
  refine o_ixA (k := 3) (r := (rI .i64)) hS (.inl rfl) rfl rfl rfl rfl (.inr (.inl rfl)) Fu22 Fs3 hx4 ?_; clear hS; try clear tm
  intro tm hS
  refine o_ldF (r := (rI .i64)) (k := 3) hS (.inl rfl) rfl rfl rfl (.inr (.inl rfl)) hx4 Fu3 rfl (flat_I _) rfl ?_; clear hS; try clear tm
  intro tm hS
  obtain ⟨y3, hx5, h1⟩ := bindS h1
  refine o_ixA (k := 4) (r := (rI .i64)) hS (.inl rfl) rfl rfl rfl rfl (.inr (.inl rfl)) Fu22 Fs3 hx5 ?_; clear hS; try clear tm
  intro tm hS
  obtain ⟨l3, hx6, h1⟩ := bindS h1
  refine o_stE (k := 4) (r := (rI .i64)) hS (.inl rfl) rfl rfl rfl Fs3 rfl rfl (rd_flat fun _ => rfl) hx6 ?_; clear hS; try clear H
  intro H hS
  refine o_nil (hR _ _ ?_)
  clear hR R
  refine c_reg1 fun R hR => ?_
  refine o_pure hS (.inl rfl) rfl rfl ?_; clear hS; try clear tm
  intro tm hS
  refine o_pure hS (.inl rfl) rfl rfl ?_; clear hS; try clear tm
  intro tm hS
  refine o_nil (hR _ _ ?_)
  clear hR R
  obtain rfl := Option.some.inj h1
  refine ⟨_, rfl, ?_⟩
  change S wm 45 _ _ _ _ Fr; exact hS.keep (ka_cons rfl (ka_cons rfl (ka_cons rfl (ka_cons rfl (ka_cons rfl (ka_cons rfl ka_nil)))))) (fun hI => (hI.sub (sc (sc (sc (sc (sc (sc sn))))))))
 ·replace h1 := iteF hc h1
  refine wpC.exit ?_
  refine seqX ?_
  obtain rfl := Option.some.inj h1
  obtain rfl := hq1 _ rfl
  refine And.intro rfl (blk_eq ?_)
  replace h0 := joinN h0
  refine c_reg fun R hR => ?_
  refine o_pure hS (.inl rfl) rfl rfl ?_; clear hS; try clear tm
  intro tm hS
  refine o_ld1 (k := 0) hS (.inl rfl) rfl rfl rfl (.inr rfl) Fu22 rfl rfl ?_; clear hS; try clear tm
  intro tm hS
  refine o_pure hS (.inl rfl) rfl rfl ?_; clear hS; try clear tm
  intro tm hS
  obtain ⟨⟨r3, r4⟩, hx7, h0⟩ := bindS h0
  refine o_call (Pc := fun _ res H => res = .tuple #[.int .i64 r3, .bool r4] ∧ Kn wm H ([.fbox b3 [.bool x3.Char, v3, v4], .fz (rI .i64) v3 x3.Shape, .fz (rI .i64) v4 x3.Data, .own (rI .i64) v5 r1, .own (rI .i64) v6 l2, .fz (rI .i64) v2 x2]) Fr) hS (.inl rfl) rfl (fun wm' hw1 hw2 => by
   obtain ⟨F2, k1, k2⟩ := hS.inv.lend (La := [.fz (rI .i64) v3 x3.Shape, .fz (rI .i64) v6 l2]) (List.forall_mem_cons.mpr ⟨(.inl ⟨rfl, List.mem_of_getElem? (i := 1) rfl⟩), (List.forall_mem_cons.mpr ⟨(.inr ⟨_, _, _, _, rfl, .inl (List.mem_of_getElem? (i := 4) rfl)⟩), (fun _ h => by cases h)⟩)⟩) hw1 hw2
   exact (wk62  x3.Shape l2  v3 v6 k1 hx7).mono fun res H2 ⟨q1, q2⟩ => ⟨q1, k2 _ q2⟩) (fun wm' res H hw' hp => ?_)
  obtain ⟨hres, hI⟩ := hp
  replace hres := hres.symm; subst hres
  replace hS : S wm 45 _ H ((41, .tuple #[.int .i64 r3, .bool r4]) :: _) ([.fbox b3 [.bool x3.Char, v3, v4], .fz (rI .i64) v3 x3.Shape, .fz (rI .i64) v4 x3.Data, .own (rI .i64) v5 r1, .own (rI .i64) v6 l2, .fz (rI .i64) v2 x2]) Fr := (hS.put rfl _).withK hI
  clear hI hw'
  refine o_pure hS (.inl rfl) rfl rfl ?_; clear hS; try clear tm
  intro tm hS
  refine o_pure hS (.inl rfl) rfl rfl ?_; clear hS; try clear tm
  intro tm hS
  refine o_pure hS (.inl rfl) rfl rfl ?_; clear hS; try clear tm
  intro tm hS
  refine o_pure hS (.inl rfl) rfl rfl ?_; clear hS; try clear tm
  intro tm hS
  refine o_pure hS (.inl rfl) rfl rfl ?_; clear hS; try clear tm
  intro tm hS
  refine o_nil (hR _ _ ?_)
  clear hR R
  refine c_reg fun R hR => ?_
  refine o_pure hS (.inl rfl) rfl rfl ?_; clear hS; try clear tm
  intro tm hS
  refine o_pure hS (.inl rfl) rfl rfl ?_; clear hS; try clear tm
  intro tm hS
  refine o_nil (hR _ _ ?_)
  clear hR R
  refine wpC.ret ?_
  obtain rfl := Option.some.inj h0
  refine Exists.intro _ (And.intro (rs_tmp hS rfl rs_nil) ?_)
  have hI := hS.inv
  exact ⟨rfl, (hI.sub sn)⟩
theorem wk35 {wm : Nat} {H : AHeap} {Fr : List Ent}  (b1 : Val) (to1 : (List Int))  (v1 : Value) (v2 : Value) (v3 : Value) (hI : Kn wm H [.fz (rI .i64) v1 b1.Shape, .fz (rI .i64) v2 b1.Data, .fz (rI .i64) v3 to1] Fr) {r : Val} (h0 : M.turn_permuted b1 to1 = some r) :
  wpF Try.prog ora wm 35 [.agg #[.bool b1.Char, v1, v2], v3] H (fun res H => ∃ v7 v8, res = .agg #[.bool r.Char, v7, v8] ∧ Kn wm H [.own (rI .i64) v7 r.Shape, .own (rI .i64) v8 r.Data] Fr) := by
 unfold M.turn_permuted at h0
 refine f_enter (n := 31) Try.func35 rfl (by simp) hI rfl rfl rfl fun tm hS => ?_
 clear hI
 refine c_reg fun R hR => ?_
 refine o_box hS (.inl rfl) rfl rfl rfl (all_cons rfl (all_cons (hS.one (k := 0) rfl (.inl rfl)) (all_cons (hS.one (k := 1) rfl (.inl rfl)) all_nil))) ?_; clear hS; try clear tm H
 intro b2 tm H hS
 refine o_box hS (.inl rfl) rfl rfl (cells_one (hS.one (k := 3) rfl (.inl rfl))) (all_cons (hS.one (k := 3) rfl (.inl rfl)) all_nil) ?_; clear hS; try clear tm H
 intro b3 tm H hS
 refine o_alloc hS (.inl rfl) rfl Fz25 (by decide) ?_; clear hS; try clear tm H
 intro b4 tm H hS
 refine o_nil (hR _ _ ?_)
 clear hR R
 refine c_reg fun R hR => ?_
 refine o_ld1 (k := 1) hS (.inl rfl) rfl rfl rfl (.inl rfl) Fu22 rfl rfl ?_; clear hS; try clear tm
 intro tm hS
 refine o_len (k := 5) (r := (rI .i64)) hS (.inl rfl) rfl rfl rfl (.inl rfl) Fu22 rfl ?_; clear hS; try clear tm
 intro tm hS
 obtain ⟨l1, hx1, h0⟩ := bindS h0
 refine o_mk (r := (rI .i64)) hS (.inl rfl) rfl rfl rfl Fm22 rfl (fun _ => rfl) hx1 ?_; clear hS; try clear tm H
 intro v4 tm H hS
 refine o_alloc hS (.inl rfl) rfl Fz22 (by decide) ?_; clear hS; try clear tm H
 intro b5 tm H hS
 refine o_st (k := 0) hS (.inl rfl) rfl rfl rfl Fs22 (cells_one (hS.one (k := 1) rfl (.inr (.inl rfl)))) rfl (all_cons (hS.one (k := 1) rfl (.inr (.inl rfl))) all_nil) rfl ?_; clear hS; try clear H
 intro H hS
 refine o_nil (hR _ _ ?_)
 clear hR R
 refine c_seqS ?_
 refine c_reg fun R hR => ?_
 refine o_ld1 (k := 3) hS (.inl rfl) rfl rfl rfl (.inl rfl) Fu22 rfl rfl ?_; clear hS; try clear tm
 intro tm hS
 refine o_len (k := 7) (r := (rI .i64)) hS (.inl rfl) rfl rfl rfl (.inl rfl) Fu22 rfl ?_; clear hS; try clear tm
 intro tm hS
 refine o_pure hS (.inl rfl) rfl rfl ?_; clear hS; try clear tm
 intro tm hS
 refine o_nil (hR _ _ ?_)
 clear hR R
 obtain ⟨k1, hw1, h0⟩ := bindS h0
 refine wpC.block ?_
 refine c_loop (I := fun (s : Int × (List Int)) tm H => match (generalizing := false) s with | (t1, l2) => S wm 31 tm H [(2, .pointer (some ⟨b2, 0, none⟩)), (3, .pointer (some ⟨b3, 0, none⟩)), (4, .pointer (some ⟨b4, 0, none⟩)), (5, .pointer (some ⟨b5, 0, none⟩)), (11, v3), (12, .int .i64 (to1.length : Int)), (13, .int .i64 t1)] [.box b2 [.bool b1.Char, v1, v2], .box b3 [v3], .box b4 [.bool false, (.slice none 0 0), (.slice none 0 0)], .box b5 [v4], .fz (rI .i64) v1 b1.Shape, .fz (rI .i64) v2 b1.Data, .fz (rI .i64) v3 to1, .own (rI .i64) v4 l2] Fr) hw1 (by change S wm 31 _ _ _ _ Fr; exact hS.keep (ka_cons rfl (ka_cons rfl (ka_cons rfl (ka_cons rfl (ka_cons rfl (ka_cons rfl (ka_cons rfl ka_nil))))))) (fun hI => (((((((((hI.pull 1 rfl).pull 7 rfl).pull 7 rfl).pull 7 rfl).pull 4 rfl).pull 5 rfl).pull 6 rfl).pull 7 rfl).take 8))) ?_
 clear hS
 intro s1 tm H c1 hS h1 hq1
 obtain ⟨t1, l2⟩ := s1
 change S wm 31 tm H [(2, .pointer (some ⟨b2, 0, none⟩)), (3, .pointer (some ⟨b3, 0, none⟩)), (4, .pointer (some ⟨b4, 0, none⟩)), (5, .pointer (some ⟨b5, 0, none⟩)), (11, v3), (12, .int .i64 (to1.length : Int)), (13, .int .i64 t1)] [.box b2 [.bool b1.Char, v1, v2], .box b3 [v3], .box b4 [.bool false, (.slice none 0 0), (.slice none 0 0)], .box b5 [v4], .fz (rI .i64) v1 b1.Shape, .fz (rI .i64) v2 b1.Data, .fz (rI .i64) v3 to1, .own (rI .i64) v4 l2] Fr at hS
 refine c_reg fun R hR => ?_
 refine o_pure hS (.inl rfl) rfl rfl ?_; clear hS; try clear tm
 intro tm hS
 refine o_nil (hR _ _ ?_)
 clear hR R
 refine c_seqS ?_
 refine c_cond hS rfl (fun hc => ?_) (fun hc => ?_)
 ·replace h1 := iteT hc h1
  refine wpC.skip ?_
  refine c_seqS ?_
  refine wpC.block ?_
  refine c_reg fun R hR => ?_
  refine o_pure hS (.inl rfl) rfl rfl ?_; clear hS; try clear tm
  intro tm hS
  obtain ⟨y1, hx2, h1⟩ := bindS h1
  refine o_ixA (k := 6) (r := (rI .i64)) hS (.inl rfl) rfl rfl rfl rfl (.inl rfl) Fu22 Fs3 hx2 ?_; clear hS; try clear tm
  intro tm hS
  refine o_ldF (r := (rI .i64)) (k := 6) hS (.inl rfl) rfl rfl rfl (.inl rfl) hx2 Fu3 rfl (flat_I _) rfl ?_; clear hS; try clear tm
  intro tm hS
  refine o_pure hS (.inl rfl) rfl rfl ?_; clear hS; try clear tm
  intro tm hS
  refine o_pure hS (.inl rfl) rfl rfl ?_; clear hS; try clear tm
  intro tm hS
  refine o_nil (hR _ _ ?_)
  clear hR R
  refine c_reg1 fun R hR => ?_
  refine o_ld1 (k := 3) hS (.inl rfl) rfl rfl rfl (.inl rfl) Fu22 rfl rfl ?_; clear hS; try clear tm
  intro tm hS
  refine o_pure hS (.inl rfl) rfl rfl ?_; clear hS; try clear tm
  intro tm hS
  refine o_pure hS (.inl rfl) rfl rfl ?_; clear hS; try clear tm
  intro tm hS
  refine o_ld1 (k := 0) hS (.inl rfl) rfl rfl rfl (.inl rfl) Fu22 rfl rfl ?_; clear hS; try clear tm
  intro tm hS
  refine o_pure hS (.inl rfl) rfl rfl ?_; clear hS; try clear tm
  intro tm hS
  obtain ⟨y2, hx3, h1⟩ := bindS h1
  refine o_ixA (k := 4) (r := (rI .i64)) hS (.inl rfl) rfl rfl rfl rfl (.inl rfl) Fu22 Fs3 hx3 ?_; clear hS; try clear tm
  intro tm hS
  refine o_ldF (r := (rI .i64)) (k := 4) hS (.inl rfl) rfl rfl rfl (.inl rfl) hx3 Fu3 rfl (flat_I _) rfl ?_; clear hS; try clear tm
  intro tm hS
  obtain ⟨y3, hx4, h1⟩ := bindS h1
  refine o_ixA (k := 7) (r := (rI .i64)) hS (.inl rfl) rfl rfl rfl rfl (.inr (.inl rfl)) Fu22 Fs3 hx4 ?_; clear hS; try clear tm
  intro tm hS
  obtain ⟨l3, hx5, h1⟩ := bindS h1
  refine o_stE (k := 7) (r := (rI .i64)) hS (.inl rfl) rfl rfl rfl Fs3 rfl rfl (rd_flat fun _ => rfl) hx5 ?_; clear hS; try clear H
  intro H hS
  refine o_nil (hR _ _ ?_)
  clear hR R
  refine c_reg1 fun R hR => ?_
  refine o_pure hS (.inl rfl) rfl rfl ?_; clear hS; try clear tm
  intro tm hS
  refine o_pure hS (.inl rfl) rfl rfl ?_; clear hS; try clear tm
  intro tm hS
  refine o_nil (hR _ _ ?_)
  clear hR R
  obtain rfl := Option.some.inj h1
  refine ⟨_, rfl, ?_⟩
  change S wm 31 _ _ _ _ Fr; exact hS.keep (ka_cons rfl (ka_cons rfl (ka_cons rfl (ka_cons rfl (ka_cons rfl (ka_cons rfl (ka_cons rfl ka_nil))))))) (fun hI => (hI.sub (sc (sc (sc (sc (sc (sc (sc (sc sn))))))))))
 ·replace h1 := iteF hc h1
  refine wpC.exit ?_
  refine seqX ?_
  obtain rfl := Option.some.inj h1
  obtain rfl := hq1 _ rfl
  refine And.intro rfl (blk_eq ?_)
  replace h0 := joinN h0
  refine c_reg fun R hR => ?_
  refine o_ldA (k := 0) hS (.inl rfl) rfl rfl rfl (.inl rfl) Fu25 rfl Fs25 rfl ?_; clear hS; try clear tm
  intro tm hS
  refine o_ld1 (k := 3) hS (.inl rfl) rfl rfl rfl (.inl rfl) Fu22 rfl rfl ?_; clear hS; try clear tm
  intro tm hS
  refine o_pure hS (.inl rfl) rfl rfl ?_; clear hS; try clear tm
  intro tm hS
  replace hS := hS.frzBox (k := 3) rfl
  replace hS := hS.frz (k := 7) rfl
  replace hS := hS.frzBox (k := 1) rfl
  replace hS := hS.frzBox (k := 0) rfl
  obtain ⟨r1, hx6, h0⟩ := bindS h0
  refine o_call (Pc := fun _ res H => ∃ v5 v6, res = .agg #[.bool r1.Char, v5, v6] ∧ Kn wm H ([.own (rI .i64) v5 r1.Shape, .own (rI .i64) v6 r1.Data] ++ [.fbox b2 [.bool b1.Char, v1, v2], .fbox b3 [v3], .box b4 [.bool false, (.slice none 0 0), (.slice none 0 0)], .fbox b5 [v4], .fz (rI .i64) v1 b1.Shape, .fz (rI .i64) v2 b1.Data, .fz (rI .i64) v3 to1, .fz (rI .i64) v4 l2]) Fr) hS (.inl rfl) rfl (fun wm' hw1 hw2 => by
   obtain ⟨F2, k1, k2⟩ := hS.inv.lendR (La := [.fz (rI .i64) v1 b1.Shape, .fz (rI .i64) v2 b1.Data, .fz (rI .i64) v4 l2, .fz (rI .i64) v4 l2, .fbox b5 [v4], .fz (rI .i64) v3 to1, .fbox b3 [v3], .fz (rI .i64) v1 b1.Shape, .fz (rI .i64) v2 b1.Data, .fbox b2 [.bool b1.Char, v1, v2]]) (List.forall_mem_cons.mpr ⟨(.inl ⟨rfl, List.mem_of_getElem? (i := 4) rfl⟩), (List.forall_mem_cons.mpr ⟨(.inl ⟨rfl, List.mem_of_getElem? (i := 5) rfl⟩), (List.forall_mem_cons.mpr ⟨(.inl ⟨rfl, List.mem_of_getElem? (i := 7) rfl⟩), (List.forall_mem_cons.mpr ⟨(.inl ⟨rfl, List.mem_of_getElem? (i := 7) rfl⟩), (List.forall_mem_cons.mpr ⟨(.inl ⟨rfl, List.mem_of_getElem? (i := 3) rfl⟩), (List.forall_mem_cons.mpr ⟨(.inl ⟨rfl, List.mem_of_getElem? (i := 6) rfl⟩), (List.forall_mem_cons.mpr ⟨(.inl ⟨rfl, List.mem_of_getElem? (i := 1) rfl⟩), (List.forall_mem_cons.mpr ⟨(.inl ⟨rfl, List.mem_of_getElem? (i := 4) rfl⟩), (List.forall_mem_cons.mpr ⟨(.inl ⟨rfl, List.mem_of_getElem? (i := 5) rfl⟩), (List.forall_mem_cons.mpr ⟨(.inl ⟨rfl, List.mem_of_getElem? (i := 0) rfl⟩), (fun _ h => by cases h)⟩)⟩)⟩)⟩)⟩)⟩)⟩)⟩)⟩)⟩) hw1 hw2
   exact (wk57  b1 l2 (fun x0 => M.turn_permuted_1 x0 l2 to1 b1) 60 #[.pointer (some ⟨b5, 0, none⟩), .pointer (some ⟨b3, 0, none⟩), .pointer (some ⟨b2, 0, none⟩)] [.fz (rI .i64) v4 l2, .fbox b5 [v4], .fz (rI .i64) v3 to1, .fbox b3 [v3], .fz (rI .i64) v1 b1.Shape, .fz (rI .i64) v2 b1.Data, .fbox b2 [.bool b1.Char, v1, v2]] (by simp [Ent.blk]) (fun x0 hI _ h0 => wk60  x0 l2 to1 b1  v4 b5 v3 b3 v1 v2 b2 hI h0) v1 v2 v4 k1 hx6).mono fun res H2 ⟨v5, v6, q1, q2⟩ => ⟨v5, v6, q1, k2 _ _ (List.forall_mem_cons.mpr ⟨⟨_, _, _, _, rfl, fun _ _ _ _ h => h⟩, (List.forall_mem_cons.mpr ⟨⟨_, _, _, _, rfl, fun _ _ _ _ h => h⟩, (fun _ h => by cases h)⟩)⟩) q2⟩) (fun wm' res H hw' hp => ?_)
  obtain ⟨v5, v6, hres, hI⟩ := hp
  replace hres := hres.symm; subst hres
  replace hS : S wm 31 _ H ((30, .agg #[.bool r1.Char, v5, v6]) :: _) ([.own (rI .i64) v5 r1.Shape, .own (rI .i64) v6 r1.Data] ++ [.fbox b2 [.bool b1.Char, v1, v2], .fbox b3 [v3], .box b4 [.bool false, (.slice none 0 0), (.slice none 0 0)], .fbox b5 [v4], .fz (rI .i64) v1 b1.Shape, .fz (rI .i64) v2 b1.Data, .fz (rI .i64) v3 to1, .fz (rI .i64) v4 l2]) Fr := (hS.put rfl _).withK hI
  clear hI hw'
  refine o_st (k := 4) hS (.inl rfl) rfl rfl rfl Fs25 rfl rfl (all_cons rfl (all_cons (hS.one (k := 0) rfl (.inr (.inl rfl))) (all_cons (hS.one (k := 1) rfl (.inr (.inl rfl))) all_nil))) rfl ?_; clear hS; try clear H
  intro H hS
  refine o_nil (hR _ _ ?_)
  clear hR R
  refine wpC.ret ?_
  obtain rfl := Option.some.inj h0
  refine Exists.intro _ (And.intro (rs_cellA (k := 4) hS rfl rfl (.inl rfl) Fu25 rfl Fs25 rfl rs_nil) ?_)
  have hI := hS.inv
  exact ⟨v5, v6, rfl, (hI.sub (sc (sc sn)))⟩
theorem wk14 {wm : Nat} {H : AHeap} {Fr : List Ent}  (b1 : Val)  (v1 : Value) (v2 : Value) (hI : Kn wm H [.fz (rI .i64) v1 b1.Shape, .fz (rI .i64) v2 b1.Data] Fr) {r : Val × Int} (h0 : M.turn_Transpose b1 = some r) :
  wpF Try.prog ora wm 14 [.agg #[.bool b1.Char, v1, v2]] H (fun res H => ∃ v8 v9, res = .tuple #[.agg #[.bool r.1.Char, v8, v9], .int .i64 r.2] ∧ Kn wm H [.own (rI .i64) v8 r.1.Shape, .own (rI .i64) v9 r.1.Data] Fr) := by
 unfold M.turn_Transpose at h0
 refine f_enter (n := 40) Try.func14 rfl (by simp) hI rfl rfl rfl fun tm hS => ?_
 clear hI
 refine c_reg fun R hR => ?_
 refine o_box hS (.inl rfl) rfl rfl rfl (all_cons rfl (all_cons (hS.one (k := 0) rfl (.inl rfl)) (all_cons (hS.one (k := 1) rfl (.inl rfl)) all_nil))) ?_; clear hS; try clear tm H
 intro b2 tm H hS
 refine o_alloc hS (.inl rfl) rfl Fz25 (by decide) ?_; clear hS; try clear tm H
 intro b3 tm H hS
 refine o_pure hS (.inl rfl) rfl rfl ?_; clear hS; try clear tm
 intro tm hS
 refine o_nil (hR _ _ ?_)
 clear hR R
 refine c_reg fun R hR => ?_
 refine o_pure hS (.inl rfl) rfl rfl ?_; clear hS; try clear tm
 intro tm hS
 refine o_ld1 (k := 1) hS (.inl rfl) rfl rfl rfl (.inl rfl) Fu22 rfl rfl ?_; clear hS; try clear tm
 intro tm hS
 refine o_len (k := 2) (r := (rI .i64)) hS (.inl rfl) rfl rfl rfl (.inl rfl) Fu22 rfl ?_; clear hS; try clear tm
 intro tm hS
 refine o_pure hS (.inl rfl) rfl rfl ?_; clear hS; try clear tm
 intro tm hS
 refine o_nil (hR _ _ ?_)
 clear hR R
 refine wpC.block ?_
 refine c_reg fun R hR => ?_
 refine o_ldA (k := 1) hS (.inl rfl) rfl rfl rfl (.inl rfl) Fu25 rfl Fs25 rfl ?_; clear hS; try clear tm
 intro tm hS
 obtain ⟨r1, hx1, h0⟩ := bindS h0
 refine o_call hS (.inl rfl) rfl (fun wm' hw1 hw2 => wk25  b1  v1 v2 (((hS.sel hw2).ad 3 rfl).ad 2 rfl) hx1) (fun wm' res H hw' hp => ?_)
 obtain ⟨hres, hI⟩ := hp
 replace hres := hres.symm; subst hres
 replace hS : S wm 40 _ H ((30, .bool r1) :: _) ([] ++ _) Fr := hS.after rfl hw' hI
 clear hI hw'
 refine o_pure hS (.inl rfl) rfl rfl ?_; clear hS; try clear tm
 intro tm hS
 refine o_pure hS (.inl rfl) rfl rfl ?_; clear hS; try clear tm
 intro tm hS
 refine o_nil (hR _ _ ?_)
 clear hR R
 refine c_cond hS rfl (fun hc => ?_) (fun hc => ?_)
 ·replace h0 := iteT hc h0
  refine c_reg fun R hR => ?_
  refine o_build hS (.inl rfl) rfl Fb25 rfl .nil rfl ?_; clear hS; try clear tm
  intro tm hS
  refine o_st (k := 0) hS (.inl rfl) rfl rfl rfl Fs25 rfl rfl (all_cons rfl (all_cons rfl (all_cons rfl all_nil))) rfl ?_; clear hS; try clear H
  intro H hS
  refine o_pure hS (.inl rfl) rfl rfl ?_; clear hS; try clear tm
  intro tm hS
  refine o_nil (hR _ _ ?_)
  clear hR R
  refine wpC.ret ?_
  obtain rfl := Option.some.inj h0
  replace hS := hS.nilOwn (rI .i64)
  replace hS := hS.nilOwn (rI .i64)
  refine Exists.intro _ (And.intro (rs_cellA (k := 2) hS rfl rfl (.inl rfl) Fu25 rfl Fs25 rfl (rs_tmp hS rfl rs_nil)) ?_)
  have hI := hS.inv
  exact ⟨(.slice none 0 0), (.slice none 0 0), rfl, (((hI.pull 0 rfl).pull 1 rfl).take 2)⟩
 ·replace h0 := iteF hc h0
  refine c_reg fun R hR => ?_
  refine o_pure hS (.inl rfl) rfl rfl ?_; clear hS; try clear tm
  intro tm hS
  refine o_pure hS (.inl rfl) rfl rfl ?_; clear hS; try clear tm
  intro tm hS
  refine o_pure hS (.inl rfl) rfl rfl ?_; clear hS; try clear tm
  intro tm hS
  refine o_nil (hR _ _ ?_)
  clear hR R
  refine c_cond hS rfl (fun hc => ?_) (fun hc => ?_)
  ·replace h0 := iteT hc h0
   refine c_reg fun R hR => ?_
   refine o_ldA (k := 1) hS (.inl rfl) rfl rfl rfl (.inl rfl) Fu25 rfl Fs25 rfl ?_; clear hS; try clear tm
   intro tm hS
   obtain ⟨⟨r2, r3⟩, hx2, h0⟩ := bindS h0
   refine o_call hS (.inl rfl) rfl (fun wm' hw1 hw2 => wk31  b1 str_226_141_137  v1 v2 (((hS.sel hw2).ad 3 rfl).ad 2 rfl) hx2) (fun wm' res H hw' hp => ?_)
   obtain ⟨v3, v4, hres, hI⟩ := hp
   replace hres := hres.symm; subst hres
   replace hS : S wm 40 _ H ((37, .tuple #[.agg #[.bool r2.Char, v3, v4], .int .i64 r3]) :: _) ([.own (rI .i64) v3 r2.Shape, .own (rI .i64) v4 r2.Data] ++ _) Fr := hS.after rfl hw' hI
   clear hI hw'
   refine o_pure hS (.inl rfl) rfl rfl ?_; clear hS; try clear tm
   intro tm hS
   refine o_pure hS (.inl rfl) rfl rfl ?_; clear hS; try clear tm
   intro tm hS
   refine o_st (k := 2) hS (.inl rfl) rfl rfl rfl Fs25 rfl rfl (all_cons rfl (all_cons (hS.one (k := 0) rfl (.inr (.inl rfl))) (all_cons (hS.one (k := 1) rfl (.inr (.inl rfl))) all_nil))) rfl ?_; clear hS; try clear H
   intro H hS
   refine o_pure hS (.inl rfl) rfl rfl ?_; clear hS; try clear tm
   intro tm hS
   refine o_nil (hR _ _ ?_)
   clear hR R
   refine wpC.ret ?_
   obtain rfl := Option.some.inj h0
   refine Exists.intro _ (And.intro (rs_cellA (k := 2) hS rfl rfl (.inl rfl) Fu25 rfl Fs25 rfl (rs_tmp hS rfl rs_nil)) ?_)
   have hI := hS.inv
   exact ⟨v3, v4, rfl, (hI.sub (sc (sc sn)))⟩
  ·replace h0 := iteF hc h0
   refine c_reg fun R hR => ?_
   refine o_pure hS (.inl rfl) rfl rfl ?_; clear hS; try clear tm
   intro tm hS
   obtain ⟨l1, hx3, h0⟩ := bindS h0
   refine o_mk (r := (rI .i64)) hS (.inl rfl) rfl rfl rfl Fm22 rfl (fun _ => rfl) hx3 ?_; clear hS; try clear tm H
   intro v5 tm H hS
   refine o_pure hS (.inl rfl) rfl rfl ?_; clear hS; try clear tm
   intro tm hS
   refine o_nil (hR _ _ ?_)
   clear hR R
   refine c_seqS ?_
   refine c_reg fun R hR => ?_
   refine o_pure hS (.inl rfl) rfl rfl ?_; clear hS; try clear tm
   intro tm hS
   refine o_len (k := 0) (r := (rI .i64)) hS (.inl rfl) rfl rfl rfl (.inr (.inl rfl)) Fu22 rfl ?_; clear hS; try clear tm
   intro tm hS
   refine o_pure hS (.inl rfl) rfl rfl ?_; clear hS; try clear tm
   intro tm hS
   refine o_nil (hR _ _ ?_)
   clear hR R
   obtain ⟨k1, hw1, h0⟩ := bindS h0
   refine wpC.block ?_
   refine c_loop (I := fun (s : Int × (List Int)) tm H => match (generalizing := false) s with | (t1, l2) => S wm 40 tm H [(1, .pointer (some ⟨b2, 0, none⟩)), (2, .pointer (some ⟨b3, 0, none⟩)), (4, .int .i64 (b1.Shape.length : Int)), (5, v5), (13, .int .i64 (l1.length : Int)), (14, .int .i64 t1)] [.box b2 [.bool b1.Char, v1, v2], .box b3 [.bool false, (.slice none 0 0), (.slice none 0 0)], .fz (rI .i64) v1 b1.Shape, .fz (rI .i64) v2 b1.Data, .own (rI .i64) v5 l2] Fr) hw1 (by change S wm 40 _ _ _ _ Fr; exact hS.keep (ka_cons rfl (ka_cons rfl (ka_cons rfl (ka_cons rfl (ka_cons rfl (ka_cons rfl ka_nil)))))) (fun hI => ((((((hI.pull 0 rfl).pull 4 rfl).pull 4 rfl).pull 3 rfl).pull 4 rfl).take 5))) ?_
   clear hS
   intro s1 tm H c1 hS h1 hq1
   obtain ⟨t1, l2⟩ := s1
   change S wm 40 tm H [(1, .pointer (some ⟨b2, 0, none⟩)), (2, .pointer (some ⟨b3, 0, none⟩)), (4, .int .i64 (b1.Shape.length : Int)), (5, v5), (13, .int .i64 (l1.length : Int)), (14, .int .i64 t1)] [.box b2 [.bool b1.Char, v1, v2], .box b3 [.bool false, (.slice none 0 0), (.slice none 0 0)], .fz (rI .i64) v1 b1.Shape, .fz (rI .i64) v2 b1.Data, .own (rI .i64) v5 l2] Fr at hS
   refine c_reg fun R hR => ?_
   refine o_pure hS (.inl rfl) rfl rfl ?_; clear hS; try clear tm
   intro tm hS
   refine o_nil (hR _ _ ?_)
   clear hR R
   refine c_seqS ?_
   refine c_cond hS rfl (fun hc => ?_) (fun hc => ?_)
   ·replace h1 := iteT hc h1
    refine wpC.skip ?_
    refine c_seqS ?_
    refine wpC.block ?_
    refine c_reg fun R hR => ?_
    refine o_pure hS (.inl rfl) rfl rfl ?_; clear hS; try clear tm
    intro tm hS
    refine o_pure hS (.inl rfl) rfl rfl ?_; clear hS; try clear tm
    intro tm hS
    refine o_nil (hR _ _ ?_)
    clear hR R
    refine c_reg1 fun R hR => ?_
    refine o_pure hS (.inl rfl) rfl rfl ?_; clear hS; try clear tm
    intro tm hS
    refine o_pure hS (.inl rfl) rfl rfl ?_; clear hS; try clear tm
    intro tm hS
    refine o_pure hS (.inl rfl) rfl rfl ?_; clear hS; try clear tm
    intro tm hS
    refine o_pure hS (.inl rfl) rfl rfl ?_; clear hS; try clear tm
    intro tm hS
    refine o_pure hS (.inl rfl) rfl rfl ?_; clear hS; try clear tm
    intro tm hS
    refine o_pure hS (.inl rfl) rfl rfl ?_; clear hS; try clear tm
    intro tm hS
    obtain ⟨y1, hx4, h1⟩ := bindS h1
    refine o_ixA (k := 4) (r := (rI .i64)) hS (.inl rfl) rfl rfl rfl rfl (.inr (.inl rfl)) Fu22 Fs3 hx4 ?_; clear hS; try clear tm
    intro tm hS
    obtain ⟨l3, hx5, h1⟩ := bindS h1
    refine o_stE (k := 4) (r := (rI .i64)) hS (.inl rfl) rfl rfl rfl Fs3 rfl rfl (rd_flat fun _ => rfl) hx5 ?_; clear hS; try clear H
    intro H hS
    refine o_nil (hR _ _ ?_)
    clear hR R
    refine c_reg1 fun R hR => ?_
    refine o_pure hS (.inl rfl) rfl rfl ?_; clear hS; try clear tm
    intro tm hS
    refine o_pure hS (.inl rfl) rfl rfl ?_; clear hS; try clear tm
    intro tm hS
    refine o_nil (hR _ _ ?_)
    clear hR R
    obtain rfl := Option.some.inj h1
    refine ⟨_, rfl, ?_⟩
    change S wm 40 _ _ _ _ Fr; exact hS.keep (ka_cons rfl (ka_cons rfl (ka_cons rfl (ka_cons rfl (ka_cons rfl (ka_cons rfl ka_nil)))))) (fun hI => (hI.sub (sc (sc (sc (sc (sc sn)))))))
   ·replace h1 := iteF hc h1
    refine wpC.exit ?_
    refine seqX ?_
    obtain rfl := Option.some.inj h1
    obtain rfl := hq1 _ rfl
    refine And.intro rfl (blk_eq ?_)
    replace h0 := joinN h0
    refine c_reg fun R hR => ?_
    refine o_ldA (k := 0) hS (.inl rfl) rfl rfl rfl (.inl rfl) Fu25 rfl Fs25 rfl ?_; clear hS; try clear tm
    intro tm hS
    refine o_pure hS (.inl rfl) rfl rfl ?_; clear hS; try clear tm
    intro tm hS
    obtain ⟨r4, hx6, h0⟩ := bindS h0
    refine o_call (Pc := fun _ res H => ∃ v6 v7, res = .agg #[.bool r4.Char, v6, v7] ∧ Kn wm H ([.own (rI .i64) v6 r4.Shape, .own (rI .i64) v7 r4.Data] ++ [.box b2 [.bool b1.Char, v1, v2], .box b3 [.bool false, (.slice none 0 0), (.slice none 0 0)], .fz (rI .i64) v1 b1.Shape, .fz (rI .i64) v2 b1.Data, .own (rI .i64) v5 l2]) Fr) hS (.inl rfl) rfl (fun wm' hw1 hw2 => by
     obtain ⟨F2, k1, k2⟩ := hS.inv.lendR (La := [.fz (rI .i64) v1 b1.Shape, .fz (rI .i64) v2 b1.Data, .fz (rI .i64) v5 l2]) (List.forall_mem_cons.mpr ⟨(.inl ⟨rfl, List.mem_of_getElem? (i := 2) rfl⟩), (List.forall_mem_cons.mpr ⟨(.inl ⟨rfl, List.mem_of_getElem? (i := 3) rfl⟩), (List.forall_mem_cons.mpr ⟨(.inr ⟨_, _, _, _, rfl, .inl (List.mem_of_getElem? (i := 4) rfl)⟩), (fun _ h => by cases h)⟩)⟩)⟩) hw1 hw2
     exact (wk35  b1 l2  v1 v2 v5 k1 hx6).mono fun res H2 ⟨v6, v7, q1, q2⟩ => ⟨v6, v7, q1, k2 _ _ (List.forall_mem_cons.mpr ⟨⟨_, _, _, _, rfl, fun _ _ _ _ h => h⟩, (List.forall_mem_cons.mpr ⟨⟨_, _, _, _, rfl, fun _ _ _ _ h => h⟩, (fun _ h => by cases h)⟩)⟩) q2⟩) (fun wm' res H hw' hp => ?_)
    obtain ⟨v6, v7, hres, hI⟩ := hp
    replace hres := hres.symm; subst hres
    replace hS : S wm 40 _ H ((27, .agg #[.bool r4.Char, v6, v7]) :: _) ([.own (rI .i64) v6 r4.Shape, .own (rI .i64) v7 r4.Data] ++ [.box b2 [.bool b1.Char, v1, v2], .box b3 [.bool false, (.slice none 0 0), (.slice none 0 0)], .fz (rI .i64) v1 b1.Shape, .fz (rI .i64) v2 b1.Data, .own (rI .i64) v5 l2]) Fr := (hS.put rfl _).withK hI
    clear hI hw'
    refine o_st (k := 3) hS (.inl rfl) rfl rfl rfl Fs25 rfl rfl (all_cons rfl (all_cons (hS.one (k := 0) rfl (.inr (.inl rfl))) (all_cons (hS.one (k := 1) rfl (.inr (.inl rfl))) all_nil))) rfl ?_; clear hS; try clear H
    intro H hS
    refine o_pure hS (.inl rfl) rfl rfl ?_; clear hS; try clear tm
    intro tm hS
    refine o_nil (hR _ _ ?_)
    clear hR R
    refine wpC.ret ?_
    obtain rfl := Option.some.inj h0
    refine Exists.intro _ (And.intro (rs_cellA (k := 3) hS rfl rfl (.inl rfl) Fu25 rfl Fs25 rfl (rs_tmp hS rfl rs_nil)) ?_)
    have hI := hS.inv
    exact ⟨v6, v7, rfl, (hI.sub (sc (sc sn)))⟩
theorem wk23 {wm : Nat} {H : AHeap} {Fr : List Ent}  (a1 : Val) (b1 : Val)  (v1 : Value) (v2 : Value) (v3 : Value) (v4 : Value) (hI : Kn wm H [.fz (rI .i64) v1 a1.Shape, .fz (rI .i64) v2 a1.Data, .fz (rI .i64) v3 b1.Shape, .fz (rI .i64) v4 b1.Data] Fr) {r : Val × Int} (h0 : M.anamnesisref08_Permute a1 b1 = some r) :
  wpF Try.prog ora wm 23 [.agg #[.bool a1.Char, v1, v2], .agg #[.bool b1.Char, v3, v4]] H (fun res H => ∃ v12 v13, res = .tuple #[.agg #[.bool r.1.Char, v12, v13], .int .i64 r.2] ∧ Kn wm H [.fz (rI .i64) v12 r.1.Shape, .own (rI .i64) v13 r.1.Data] Fr) := by
 unfold M.anamnesisref08_Permute at h0
 refine f_enter (n := 118) Try.func23 rfl (by simp) hI rfl rfl rfl fun tm hS => ?_
 clear hI
 refine c_reg fun R hR => ?_
 refine o_box hS (.inl rfl) rfl rfl rfl (all_cons rfl (all_cons (hS.one (k := 0) rfl (.inl rfl)) (all_cons (hS.one (k := 1) rfl (.inl rfl)) all_nil))) ?_; clear hS; try clear tm H
 intro b2 tm H hS
 refine o_box hS (.inl rfl) rfl rfl rfl (all_cons rfl (all_cons (hS.one (k := 3) rfl (.inl rfl)) (all_cons (hS.one (k := 4) rfl (.inl rfl)) all_nil))) ?_; clear hS; try clear tm H
 intro b3 tm H hS
 refine o_alloc hS (.inl rfl) rfl Fz25 (by decide) ?_; clear hS; try clear tm H
 intro b4 tm H hS
 refine o_pure hS (.inl rfl) rfl rfl ?_; clear hS; try clear tm
 intro tm hS
 refine o_nil (hR _ _ ?_)
 clear hR R
 refine c_seqS ?_
 refine c_reg fun R hR => ?_
 refine o_ldA (k := 2) hS (.inl rfl) rfl rfl rfl (.inl rfl) Fu25 rfl Fs25 rfl ?_; clear hS; try clear tm
 intro tm hS
 obtain ⟨r1, hx1, h0⟩ := bindS h0
 refine o_call hS (.inl rfl) rfl (fun wm' hw1 hw2 => wk36  a1  v1 v2 (((hS.sel hw2).ad 4 rfl).ad 3 rfl) hx1) (fun wm' res H hw' hp => ?_)
 obtain ⟨hres, hI⟩ := hp
 replace hres := hres.symm; subst hres
 replace hS : S wm 118 _ H ((17, .bool r1) :: _) ([] ++ _) Fr := hS.after rfl hw' hI
 clear hI hw'
 refine o_pure hS (.inl rfl) rfl rfl ?_; clear hS; try clear tm
 intro tm hS
 refine o_pure hS (.inl rfl) rfl rfl ?_; clear hS; try clear tm
 intro tm hS
 obtain ⟨c1, hc1, h0⟩ := bindS h0
 refine o_cutN 4 (J := fun tm H => S wm 118 tm H [(23, .bool c1), (2, .pointer (some ⟨b2, 0, none⟩)), (3, .pointer (some ⟨b3, 0, none⟩)), (4, .pointer (some ⟨b4, 0, none⟩))] [.box b4 [.bool false, (.slice none 0 0), (.slice none 0 0)], .box b3 [.bool b1.Char, v3, v4], .box b2 [.bool a1.Char, v1, v2], .fz (rI .i64) v1 a1.Shape, .fz (rI .i64) v2 a1.Data, .fz (rI .i64) v3 b1.Shape, .fz (rI .i64) v4 b1.Data] Fr) ?_ ?_
 ·rcases Bool.eq_false_or_eq_true (!r1) with hg1 | hg1
  ·replace hc1 := iteT hg1 hc1
   refine o_skip hS rfl rfl rfl hg1 ?_; clear hS; try clear tm
   intro tm hS
   refine o_skip hS rfl rfl rfl hg1 ?_; clear hS; try clear tm
   intro tm hS
   refine o_skip hS rfl rfl rfl hg1 ?_; clear hS; try clear tm
   intro tm hS
   refine o_pickT hS (.inl rfl) rfl rfl hg1 rfl ?_; clear hS; try clear tm
   intro tm hS
   obtain rfl := Option.some.inj hc1
   exact o_nil (hS.keep (ka_cons rfl (ka_cons rfl (ka_cons rfl (ka_cons rfl ka_nil)))) (fun hI => (hI.sub (sc (sc (sc (sc (sc (sc (sc sn))))))))))
  ·replace hc1 := iteF hg1 hc1
   refine o_ldA (k := 1) hS (.inr ⟨_, _, _, _, rfl, rfl, rfl, hg1⟩) rfl rfl rfl (.inl rfl) Fu25 rfl Fs25 rfl ?_; clear hS; try clear tm
   intro tm hS
   obtain ⟨r2, hx2, hc1⟩ := bindS hc1
   refine o_call hS (.inr ⟨_, _, _, _, rfl, rfl, rfl, hg1⟩) rfl (fun wm' hw1 hw2 => wk36  b1  v3 v4 (((hS.sel hw2).ad 6 rfl).ad 5 rfl) hx2) (fun wm' res H hw' hp => ?_)
   obtain ⟨hres, hI⟩ := hp
   replace hres := hres.symm; subst hres
   replace hS : S wm 118 _ H ((21, .bool r2) :: _) ([] ++ _) Fr := hS.after rfl hw' hI
   clear hI hw'
   refine o_pure hS (.inr ⟨_, _, _, _, rfl, rfl, rfl, hg1⟩) rfl rfl ?_; clear hS; try clear tm
   intro tm hS
   refine o_pickF hS (.inl rfl) rfl rfl hg1 rfl ?_; clear hS; try clear tm
   intro tm hS
   obtain rfl := Option.some.inj hc1
   exact o_nil (hS.keep (ka_cons rfl (ka_cons rfl (ka_cons rfl (ka_cons rfl ka_nil)))) (fun hI => (hI.sub (sc (sc (sc (sc (sc (sc (sc sn))))))))))
 intro tm H hS
 refine o_nil (hR _ _ ?_)
 clear hR R
 refine c_cond hS rfl (fun hc => ?_) (fun hc => ?_)
 ·replace h0 := iteT hc h0
  refine c_reg fun R hR => ?_
  refine o_build hS (.inl rfl) rfl Fb25 rfl .nil rfl ?_; clear hS; try clear tm
  intro tm hS
  refine o_st (k := 0) hS (.inl rfl) rfl rfl rfl Fs25 rfl rfl (all_cons rfl (all_cons rfl (all_cons rfl all_nil))) rfl ?_; clear hS; try clear H
  intro H hS
  refine o_pure hS (.inl rfl) rfl rfl ?_; clear hS; try clear tm
  intro tm hS
  refine o_nil (hR _ _ ?_)
  clear hR R
  refine wpC.ret ?_
  obtain rfl := Option.some.inj h0
  replace hS := hS.nilFz (rI .i64)
  replace hS := hS.nilOwn (rI .i64)
  refine Exists.intro _ (And.intro (rs_cellA (k := 2) hS rfl rfl (.inl rfl) Fu25 rfl Fs25 rfl (rs_tmp hS rfl rs_nil)) ?_)
  have hI := hS.inv
  exact ⟨(.slice none 0 0), (.slice none 0 0), rfl, (((hI.pull 0 rfl).pull 1 rfl).take 2)⟩
 ·replace h0 := iteF hc h0
  refine wpC.skip ?_
  refine c_seqS ?_
  refine c_reg fun R hR => ?_
  refine o_pure hS (.inl rfl) rfl rfl ?_; clear hS; try clear tm
  intro tm hS
  refine o_ld1 (k := 2) hS (.inl rfl) rfl rfl rfl (.inl rfl) Fu22 rfl rfl ?_; clear hS; try clear tm
  intro tm hS
  refine o_len (k := 3) (r := (rI .i64)) hS (.inl rfl) rfl rfl rfl (.inl rfl) Fu22 rfl ?_; clear hS; try clear tm
  intro tm hS
  refine o_pure hS (.inl rfl) rfl rfl ?_; clear hS; try clear tm
  intro tm hS
  refine o_nil (hR _ _ ?_)
  clear hR R
  refine c_cond hS rfl (fun hc => ?_) (fun hc => ?_)
  ·replace h0 := iteT hc h0
   refine c_reg fun R hR => ?_
   refine o_build hS (.inl rfl) rfl Fb25 rfl .nil rfl ?_; clear hS; try clear tm
   intro tm hS
   refine o_st (k := 0) hS (.inl rfl) rfl rfl rfl Fs25 rfl rfl (all_cons rfl (all_cons rfl (all_cons rfl all_nil))) rfl ?_; clear hS; try clear H
   intro H hS
   refine o_pure hS (.inl rfl) rfl rfl ?_; clear hS; try clear tm
   intro tm hS
   refine o_nil (hR _ _ ?_)
   clear hR R
   refine wpC.ret ?_
   obtain rfl := Option.some.inj h0
   replace hS := hS.nilFz (rI .i64)
   replace hS := hS.nilOwn (rI .i64)
   refine Exists.intro _ (And.intro (rs_cellA (k := 2) hS rfl rfl (.inl rfl) Fu25 rfl Fs25 rfl (rs_tmp hS rfl rs_nil)) ?_)
   have hI := hS.inv
   exact ⟨(.slice none 0 0), (.slice none 0 0), rfl, (((hI.pull 0 rfl).pull 1 rfl).take 2)⟩
  ·replace h0 := iteF hc h0
   refine wpC.skip ?_
   refine c_reg fun R hR => ?_
   refine o_pure hS (.inl rfl) rfl rfl ?_; clear hS; try clear tm
   intro tm hS
   refine o_ld1 (k := 1) hS (.inl rfl) rfl rfl rfl (.inl rfl) Fu22 rfl rfl ?_; clear hS; try clear tm
   intro tm hS
   refine o_len (k := 5) (r := (rI .i64)) hS (.inl rfl) rfl rfl rfl (.inl rfl) Fu22 rfl ?_; clear hS; try clear tm
   intro tm hS
   refine o_pure hS (.inl rfl) rfl rfl ?_; clear hS; try clear tm
   intro tm hS
   refine o_nil (hR _ _ ?_)
   clear hR R
   refine c_seqS ?_
   refine c_reg fun R hR => ?_
   refine o_pure hS (.inl rfl) rfl rfl ?_; clear hS; try clear tm
   intro tm hS
   refine o_ld1 (k := 2) hS (.inl rfl) rfl rfl rfl (.inl rfl) Fu23 rfl rfl ?_; clear hS; try clear tm
   intro tm hS
   refine o_len (k := 4) (r := (rI .i64)) hS (.inl rfl) rfl rfl rfl (.inl rfl) Fu23 rfl ?_; clear hS; try clear tm
   intro tm hS
   refine o_pure hS (.inl rfl) rfl rfl ?_; clear hS; try clear tm
   intro tm hS
   refine o_pure hS (.inl rfl) rfl rfl ?_; clear hS; try clear tm
   intro tm hS
   refine o_nil (hR _ _ ?_)
   clear hR R
   refine c_cond hS rfl (fun hc => ?_) (fun hc => ?_)
   ·replace h0 := iteT hc h0
    refine c_reg fun R hR => ?_
    refine o_build hS (.inl rfl) rfl Fb25 rfl .nil rfl ?_; clear hS; try clear tm
    intro tm hS
    refine o_st (k := 0) hS (.inl rfl) rfl rfl rfl Fs25 rfl rfl (all_cons rfl (all_cons rfl (all_cons rfl all_nil))) rfl ?_; clear hS; try clear H
    intro H hS
    refine o_pure hS (.inl rfl) rfl rfl ?_; clear hS; try clear tm
    intro tm hS
    refine o_nil (hR _ _ ?_)
    clear hR R
    refine wpC.ret ?_
    obtain rfl := Option.some.inj h0
    replace hS := hS.nilFz (rI .i64)
    replace hS := hS.nilOwn (rI .i64)
    refine Exists.intro _ (And.intro (rs_cellA (k := 2) hS rfl rfl (.inl rfl) Fu25 rfl Fs25 rfl (rs_tmp hS rfl rs_nil)) ?_)
    have hI := hS.inv
    exact ⟨(.slice none 0 0), (.slice none 0 0), rfl, (((hI.pull 0 rfl).pull 1 rfl).take 2)⟩
   ·replace h0 := iteF hc h0
    refine wpC.skip ?_
    refine c_seqS ?_
    refine c_reg fun R hR => ?_
    refine o_pure hS (.inl rfl) rfl rfl ?_; clear hS; try clear tm
    intro tm hS
    refine o_ld1 (k := 2) hS (.inl rfl) rfl rfl rfl (.inl rfl) Fu4 rfl rfl ?_; clear hS; try clear tm
    intro tm hS
    refine o_nil (hR _ _ ?_)
    clear hR R
    refine c_cond hS rfl (fun hc => ?_) (fun hc => ?_)
    ·replace h0 := iteT hc h0
     refine c_reg fun R hR => ?_
     refine o_build hS (.inl rfl) rfl Fb25 rfl .nil rfl ?_; clear hS; try clear tm
     intro tm hS
     refine o_st (k := 0) hS (.inl rfl) rfl rfl rfl Fs25 rfl rfl (all_cons rfl (all_cons rfl (all_cons rfl all_nil))) rfl ?_; clear hS; try clear H
     intro H hS
     refine o_pure hS (.inl rfl) rfl rfl ?_; clear hS; try clear tm
     intro tm hS
     refine o_nil (hR _ _ ?_)
     clear hR R
     refine wpC.ret ?_
     obtain rfl := Option.some.inj h0
     replace hS := hS.nilFz (rI .i64)
     replace hS := hS.nilOwn (rI .i64)
     refine Exists.intro _ (And.intro (rs_cellA (k := 2) hS rfl rfl (.inl rfl) Fu25 rfl Fs25 rfl (rs_tmp hS rfl rs_nil)) ?_)
     have hI := hS.inv
     exact ⟨(.slice none 0 0), (.slice none 0 0), rfl, (((hI.pull 0 rfl).pull 1 rfl).take 2)⟩
    ·replace h0 := iteF hc h0
     refine wpC.skip ?_
     refine c_reg fun R hR => ?_
     refine o_pure hS (.inl rfl) rfl rfl ?_; clear hS; try clear tm
     intro tm hS
     obtain ⟨l1, hx3, h0⟩ := bindS h0
     refine o_mk (r := (rI .i64)) hS (.inl rfl) rfl rfl rfl Fm22 rfl (fun _ => rfl) hx3 ?_; clear hS; try clear tm H
     intro v5 tm H hS
     refine o_pure hS (.inl rfl) rfl rfl ?_; clear hS; try clear tm
     intro tm hS
     refine o_nil (hR _ _ ?_)
     clear hR R
     refine c_seqS ?_
     refine c_reg fun R hR => ?_
     refine o_pure hS (.inl rfl) rfl rfl ?_; clear hS; try clear tm
     intro tm hS
     refine o_nil (hR _ _ ?_)
     clear hR R
     obtain ⟨k1, hw1, h0⟩ := bindS h0
     refine wpC.block ?_
     refine c_loop (I := fun (s : Int × (List Int)) tm H => match (generalizing := false) s with | (axis1, l2) => S wm 118 tm H [(2, .pointer (some ⟨b2, 0, none⟩)), (3, .pointer (some ⟨b3, 0, none⟩)), (4, .pointer (some ⟨b4, 0, none⟩)), (6, .int .i64 (b1.Shape.length : Int)), (7, v5), (8, .int .i64 axis1)] [.box b2 [.bool a1.Char, v1, v2], .box b3 [.bool b1.Char, v3, v4], .box b4 [.bool false, (.slice none 0 0), (.slice none 0 0)], .fz (rI .i64) v1 a1.Shape, .fz (rI .i64) v2 a1.Data, .fz (rI .i64) v3 b1.Shape, .fz (rI .i64) v4 b1.Data, .own (rI .i64) v5 l2] Fr) hw1 (by change S wm 118 _ _ _ _ Fr; exact hS.keep (ka_cons rfl (ka_cons rfl (ka_cons rfl (ka_cons rfl (ka_cons rfl (ka_cons rfl ka_nil)))))) (fun hI => (((((((((hI.pull 0 rfl).pull 7 rfl).pull 7 rfl).pull 7 rfl).pull 7 rfl).pull 5 rfl).pull 6 rfl).pull 7 rfl).take 8))) ?_
     clear hS
     intro s1 tm H c2 hS h3 hq3
     obtain ⟨axis1, l2⟩ := s1
     change S wm 118 tm H [(2, .pointer (some ⟨b2, 0, none⟩)), (3, .pointer (some ⟨b3, 0, none⟩)), (4, .pointer (some ⟨b4, 0, none⟩)), (6, .int .i64 (b1.Shape.length : Int)), (7, v5), (8, .int .i64 axis1)] [.box b2 [.bool a1.Char, v1, v2], .box b3 [.bool b1.Char, v3, v4], .box b4 [.bool false, (.slice none 0 0), (.slice none 0 0)], .fz (rI .i64) v1 a1.Shape, .fz (rI .i64) v2 a1.Data, .fz (rI .i64) v3 b1.Shape, .fz (rI .i64) v4 b1.Data, .own (rI .i64) v5 l2] Fr at hS
     refine c_seqS ?_
     refine c_reg fun R hR => ?_
     refine o_pure hS (.inl rfl) rfl rfl ?_; clear hS; try clear tm
     intro tm hS
     refine o_pure hS (.inl rfl) rfl rfl ?_; clear hS; try clear tm
     intro tm hS
     refine o_pure hS (.inl rfl) rfl rfl ?_; clear hS; try clear tm
     intro tm hS
     refine o_nil (hR _ _ ?_)
     clear hR R
     refine c_cond hS rfl (fun hc => ?_) (fun hc => ?_)
     ·replace h3 := iteT hc h3
      refine wpC.skip ?_
      refine c_seqS ?_
      refine wpC.block ?_
      refine c_reg fun R hR => ?_
      refine o_pure hS (.inl rfl) rfl rfl ?_; clear hS; try clear tm
      intro tm hS
      refine o_nil (hR _ _ ?_)
      clear hR R
      refine c_seqS ?_
      refine c_reg fun R hR => ?_
      refine o_pure hS (.inl rfl) rfl rfl ?_; clear hS; try clear tm
      intro tm hS
      refine o_nil (hR _ _ ?_)
      clear hR R
      obtain ⟨k2, hw2, h3⟩ := bindS h3
      refine wpC.block ?_
      refine c_loop (I := fun (s : Int × Int × (List Int)) tm H => match (generalizing := false) s with | (many1, m1, l3) => S wm 118 tm H [(2, .pointer (some ⟨b2, 0, none⟩)), (3, .pointer (some ⟨b3, 0, none⟩)), (4, .pointer (some ⟨b4, 0, none⟩)), (6, .int .i64 (b1.Shape.length : Int)), (7, v5), (8, .int .i64 axis1), (9, .int .i64 many1), (10, .int .i64 m1)] [.box b2 [.bool a1.Char, v1, v2], .box b3 [.bool b1.Char, v3, v4], .box b4 [.bool false, (.slice none 0 0), (.slice none 0 0)], .fz (rI .i64) v1 a1.Shape, .fz (rI .i64) v2 a1.Data, .fz (rI .i64) v3 b1.Shape, .fz (rI .i64) v4 b1.Data, .own (rI .i64) v5 l3] Fr) hw2 (by change S wm 118 _ _ _ _ Fr; exact hS.keep (ka_cons rfl (ka_cons rfl (ka_cons rfl (ka_cons rfl (ka_cons rfl (ka_cons rfl (ka_cons rfl (ka_cons rfl ka_nil)))))))) (fun hI => (hI.sub (sc (sc (sc (sc (sc (sc (sc (sc sn))))))))))) ?_
      clear hS
      intro s2 tm H c3 hS h10 hq10
      obtain ⟨many1, m1, l3⟩ := s2
      change S wm 118 tm H [(2, .pointer (some ⟨b2, 0, none⟩)), (3, .pointer (some ⟨b3, 0, none⟩)), (4, .pointer (some ⟨b4, 0, none⟩)), (6, .int .i64 (b1.Shape.length : Int)), (7, v5), (8, .int .i64 axis1), (9, .int .i64 many1), (10, .int .i64 m1)] [.box b2 [.bool a1.Char, v1, v2], .box b3 [.bool b1.Char, v3, v4], .box b4 [.bool false, (.slice none 0 0), (.slice none 0 0)], .fz (rI .i64) v1 a1.Shape, .fz (rI .i64) v2 a1.Data, .fz (rI .i64) v3 b1.Shape, .fz (rI .i64) v4 b1.Data, .own (rI .i64) v5 l3] Fr at hS
      refine c_seqS ?_
      refine c_reg fun R hR => ?_
      refine o_pure hS (.inl rfl) rfl rfl ?_; clear hS; try clear tm
      intro tm hS
      refine o_pure hS (.inl rfl) rfl rfl ?_; clear hS; try clear tm
      intro tm hS
      refine o_pure hS (.inl rfl) rfl rfl ?_; clear hS; try clear tm
      intro tm hS
      refine o_nil (hR _ _ ?_)
      clear hR R
      refine c_cond hS rfl (fun hc => ?_) (fun hc => ?_)
      ·replace h10 := iteT hc h10
       refine wpC.skip ?_
       refine c_seqS ?_
       refine wpC.block ?_
       refine c_reg fun R hR => ?_
       refine o_pure hS (.inl rfl) rfl rfl ?_; clear hS; try clear tm
       intro tm hS
       refine o_ld1 (k := 0) hS (.inl rfl) rfl rfl rfl (.inl rfl) Fu23 rfl rfl ?_; clear hS; try clear tm
       intro tm hS
       refine o_pure hS (.inl rfl) rfl rfl ?_; clear hS; try clear tm
       intro tm hS
       obtain ⟨y1, hx4, h10⟩ := bindS h10
       refine o_ixA (k := 4) (r := (rI .i64)) hS (.inl rfl) rfl rfl rfl rfl (.inl rfl) Fu23 Fs2 hx4 ?_; clear hS; try clear tm
       intro tm hS
       refine o_ldF (r := (rI .i64)) (k := 4) hS (.inl rfl) rfl rfl rfl (.inl rfl) hx4 Fu2 rfl (flat_I _) rfl ?_; clear hS; try clear tm
       intro tm hS
       refine o_pure hS (.inl rfl) rfl rfl ?_; clear hS; try clear tm
       intro tm hS
       refine o_pure hS (.inl rfl) rfl rfl ?_; clear hS; try clear tm
       intro tm hS
       refine o_nil (hR _ _ ?_)
       clear hR R
       refine c_cond hS rfl (fun hc => ?_) (fun hc => ?_)
       ·replace h10 := iteT hc h10
        refine c_reg fun R hR => ?_
        refine o_pure hS (.inl rfl) rfl rfl ?_; clear hS; try clear tm
        intro tm hS
        refine o_pure hS (.inl rfl) rfl rfl ?_; clear hS; try clear tm
        intro tm hS
        refine o_pure hS (.inl rfl) rfl rfl ?_; clear hS; try clear tm
        intro tm hS
        refine o_nil (hR _ _ ?_)
        clear hR R
        refine c_reg1 fun R hR => ?_
        refine o_pure hS (.inl rfl) rfl rfl ?_; clear hS; try clear tm
        intro tm hS
        refine o_pure hS (.inl rfl) rfl rfl ?_; clear hS; try clear tm
        intro tm hS
        refine o_pure hS (.inl rfl) rfl rfl ?_; clear hS; try clear tm
        intro tm hS
        refine o_pure hS (.inl rfl) rfl rfl ?_; clear hS; try clear tm
        intro tm hS
        refine o_ld1 (k := 1) hS (.inl rfl) rfl rfl rfl (.inl rfl) Fu22 rfl rfl ?_; clear hS; try clear tm
        intro tm hS
        refine o_pure hS (.inl rfl) rfl rfl ?_; clear hS; try clear tm
        intro tm hS
        obtain ⟨y2, hx5, h10⟩ := bindS h10
        refine o_ixA (k := 5) (r := (rI .i64)) hS (.inl rfl) rfl rfl rfl rfl (.inl rfl) Fu22 Fs3 hx5 ?_; clear hS; try clear tm
        intro tm hS
        refine o_ldF (r := (rI .i64)) (k := 5) hS (.inl rfl) rfl rfl rfl (.inl rfl) hx5 Fu3 rfl (flat_I _) rfl ?_; clear hS; try clear tm
        intro tm hS
        obtain ⟨y3, hx6, h10⟩ := bindS h10
        refine o_ixA (k := 7) (r := (rI .i64)) hS (.inl rfl) rfl rfl rfl rfl (.inr (.inl rfl)) Fu22 Fs3 hx6 ?_; clear hS; try clear tm
        intro tm hS
        obtain ⟨l4, hx7, h10⟩ := bindS h10
        refine o_stE (k := 7) (r := (rI .i64)) hS (.inl rfl) rfl rfl rfl Fs3 rfl rfl (rd_flat fun _ => rfl) hx7 ?_; clear hS; try clear H
        intro H hS
        refine o_nil (hR _ _ ?_)
        clear hR R
        refine c_reg1 fun R hR => ?_
        refine o_pure hS (.inl rfl) rfl rfl ?_; clear hS; try clear tm
        intro tm hS
        refine o_pure hS (.inl rfl) rfl rfl ?_; clear hS; try clear tm
        intro tm hS
        refine o_pure hS (.inl rfl) rfl rfl ?_; clear hS; try clear tm
        intro tm hS
        refine o_nil (hR _ _ ?_)
        clear hR R
        obtain rfl := Option.some.inj h10
        refine ⟨_, rfl, ?_⟩
        change S wm 118 _ _ _ _ Fr; exact hS.keep (ka_cons rfl (ka_cons rfl (ka_cons rfl (ka_cons rfl (ka_cons rfl (ka_cons rfl (ka_cons rfl (ka_cons rfl ka_nil)))))))) (fun hI => (hI.sub (sc (sc (sc (sc (sc (sc (sc (sc sn))))))))))
       ·replace h10 := iteF hc h10
        refine wpC.skip ?_
        refine c_reg1 fun R hR => ?_
        refine o_pure hS (.inl rfl) rfl rfl ?_; clear hS; try clear tm
        intro tm hS
        refine o_pure hS (.inl rfl) rfl rfl ?_; clear hS; try clear tm
        intro tm hS
        refine o_pure hS (.inl rfl) rfl rfl ?_; clear hS; try clear tm
        intro tm hS
        refine o_nil (hR _ _ ?_)
        clear hR R
        obtain rfl := Option.some.inj h10
        refine ⟨_, rfl, ?_⟩
        change S wm 118 _ _ _ _ Fr; exact hS.keep (ka_cons rfl (ka_cons rfl (ka_cons rfl (ka_cons rfl (ka_cons rfl (ka_cons rfl (ka_cons rfl (ka_cons rfl ka_nil)))))))) (fun hI => (hI.sub (sc (sc (sc (sc (sc (sc (sc (sc sn))))))))))
      ·replace h10 := iteF hc h10
       refine wpC.exit ?_
       refine seqX ?_
       obtain rfl := Option.some.inj h10
       obtain rfl := hq10 _ rfl
       refine And.intro rfl (blk_eq ?_)
       replace h3 := joinN h3
       refine c_reg fun R hR => ?_
       refine o_pure hS (.inl rfl) rfl rfl ?_; clear hS; try clear tm
       intro tm hS
       refine o_pure hS (.inl rfl) rfl rfl ?_; clear hS; try clear tm
       intro tm hS
       refine o_nil (hR _ _ ?_)
       clear hR R
       refine c_cond hS rfl (fun hc => ?_) (fun hc => ?_)
       ·replace h3 := iteT hc h3
        refine c_reg fun R hR => ?_
        refine o_build hS (.inl rfl) rfl Fb25 rfl .nil rfl ?_; clear hS; try clear tm
        intro tm hS
        refine o_st (k := 2) hS (.inl rfl) rfl rfl rfl Fs25 rfl rfl (all_cons rfl (all_cons rfl (all_cons rfl all_nil))) rfl ?_; clear hS; try clear H
        intro H hS
        refine o_pure hS (.inl rfl) rfl rfl ?_; clear hS; try clear tm
        intro tm hS
        refine o_nil (hR _ _ ?_)
        clear hR R
        refine wpC.ret ?_
        obtain rfl := Option.some.inj h3
        obtain rfl := hq3 _ rfl
        refine And.intro rfl ?_
        obtain rfl := leave h0
        replace hS := hS.nilFz (rI .i64)
        replace hS := hS.nilOwn (rI .i64)
        refine Exists.intro _ (And.intro (rs_cellA (k := 4) hS rfl rfl (.inl rfl) Fu25 rfl Fs25 rfl (rs_tmp hS rfl rs_nil)) ?_)
        have hI := hS.inv
        exact ⟨(.slice none 0 0), (.slice none 0 0), rfl, (((hI.pull 0 rfl).pull 1 rfl).take 2)⟩
       ·replace h3 := iteF hc h3
        refine wpC.skip ?_
        refine c_reg1 fun R hR => ?_
        refine o_pure hS (.inl rfl) rfl rfl ?_; clear hS; try clear tm
        intro tm hS
        refine o_pure hS (.inl rfl) rfl rfl ?_; clear hS; try clear tm
        intro tm hS
        refine o_pure hS (.inl rfl) rfl rfl ?_; clear hS; try clear tm
        intro tm hS
        refine o_nil (hR _ _ ?_)
        clear hR R
        obtain rfl := Option.some.inj h3
        refine ⟨_, rfl, ?_⟩
        change S wm 118 _ _ _ _ Fr; exact hS.keep (ka_cons rfl (ka_cons rfl (ka_cons rfl (ka_cons rfl (ka_cons rfl (ka_cons rfl ka_nil)))))) (fun hI => (hI.sub (sc (sc (sc (sc (sc (sc (sc (sc sn))))))))))
     ·replace h3 := iteF hc h3
      refine wpC.exit ?_
      refine seqX ?_
      obtain rfl := Option.some.inj h3
      obtain rfl := hq3 _ rfl
      refine And.intro rfl (blk_eq ?_)
      replace h0 := joinN h0
      refine c_reg fun R hR => ?_
      refine o_pure hS (.inl rfl) rfl rfl ?_; clear hS; try clear tm
      intro tm hS
      refine o_ld1 (k := 1) hS (.inl rfl) rfl rfl rfl (.inl rfl) Fu4 rfl rfl ?_; clear hS; try clear tm
      intro tm hS
      refine o_pure hS (.inl rfl) rfl rfl ?_; clear hS; try clear tm
      intro tm hS
      refine o_build hS (.inl rfl) rfl Fb25 rfl (.cons rfl (.cons (cells_one (hS.one (k := 7) rfl (.inr (.inl rfl)))) .nil)) rfl ?_; clear hS; try clear tm
      intro tm hS
      refine o_alloc hS (.inl rfl) rfl Fz25 (by decide) ?_; clear hS; try clear tm H
      intro b5 tm H hS
      refine o_st (k := 0) hS (.inl rfl) rfl rfl rfl Fs25 rfl rfl (all_cons rfl (all_cons (hS.one (k := 8) rfl (.inr (.inl rfl))) (all_cons rfl all_nil))) rfl ?_; clear hS; try clear H
      intro H hS
      refine o_nil (hR _ _ ?_)
      clear hR R
      refine c_reg fun R hR => ?_
      refine o_pure hS (.inl rfl) rfl rfl ?_; clear hS; try clear tm
      intro tm hS
      replace hS := hS.frz (k := 8) rfl
      obtain ⟨r3, hx8, h0⟩ := bindS h0
      refine o_call hS (.inl rfl) rfl (fun wm' hw1 hw2 => wk38  l2  v5 ((hS.sel hw2).ad 8 rfl) hx8) (fun wm' res H hw' hp => ?_)
      obtain ⟨v6, hres, hI⟩ := hp
      replace hres := hres.symm; subst hres
      replace hS : S wm 118 _ H ((80, v6) :: _) ([.own (rL (rI .i64)) v6 r3] ++ _) Fr := hS.after rfl hw' hI
      clear hI hw'
      refine o_pure hS (.inl rfl) rfl rfl ?_; clear hS; try clear tm
      intro tm hS
      refine o_nil (hR _ _ ?_)
      clear hR R
      refine c_seqS ?_
      refine c_reg fun R hR => ?_
      refine o_pure hS (.inl rfl) rfl rfl ?_; clear hS; try clear tm
      intro tm hS
      refine o_nil (hR _ _ ?_)
      clear hR R
      obtain ⟨k3, hw3, h0⟩ := bindS h0
      refine wpC.block ?_
      replace hS := hS.nilOwn (rI .i64)
      refine c_loop (I := fun (s : Int × (List Int)) tm H => match (generalizing := false) s with | (i1, Data1) => ∃ v7, S wm 118 tm H [(2, .pointer (some ⟨b2, 0, none⟩)), (3, .pointer (some ⟨b3, 0, none⟩)), (4, .pointer (some ⟨b4, 0, none⟩)), (6, .int .i64 (b1.Shape.length : Int)), (11, .pointer (some ⟨b5, 0, none⟩)), (12, v6), (13, .int .i64 i1)] [.box b2 [.bool a1.Char, v1, v2], .box b3 [.bool b1.Char, v3, v4], .box b4 [.bool false, (.slice none 0 0), (.slice none 0 0)], .box b5 [.bool b1.Char, v5, v7], .own (rI .i64) v7 Data1, .fz (rI .i64) v1 a1.Shape, .fz (rI .i64) v2 a1.Data, .fz (rI .i64) v3 b1.Shape, .fz (rI .i64) v4 b1.Data, .fz (rI .i64) v5 l2, .own (rL (rI .i64)) v6 r3] Fr) hw3 (by refine Exists.intro (.slice none 0 0) ?_; change S wm 118 _ _ _ _ Fr; exact hS.keep (ka_cons rfl (ka_cons rfl (ka_cons rfl (ka_cons rfl (ka_cons rfl (ka_cons rfl (ka_cons rfl ka_nil))))))) (fun hI => ((((((((((((hI.pull 1 rfl).pull 10 rfl).pull 10 rfl).pull 10 rfl).pull 10 rfl).pull 10 rfl).pull 6 rfl).pull 7 rfl).pull 10 rfl).pull 10 rfl).pull 10 rfl).take 11))) ?_
      clear hS
      intro s3 tm H c4 hS h13 hq13
      obtain ⟨i1, Data1⟩ := s3
      obtain ⟨v7, hS⟩ := hS
      change S wm 118 tm H [(2, .pointer (some ⟨b2, 0, none⟩)), (3, .pointer (some ⟨b3, 0, none⟩)), (4, .pointer (some ⟨b4, 0, none⟩)), (6, .int .i64 (b1.Shape.length : Int)), (11, .pointer (some ⟨b5, 0, none⟩)), (12, v6), (13, .int .i64 i1)] [.box b2 [.bool a1.Char, v1, v2], .box b3 [.bool b1.Char, v3, v4], .box b4 [.bool false, (.slice none 0 0), (.slice none 0 0)], .box b5 [.bool b1.Char, v5, v7], .own (rI .i64) v7 Data1, .fz (rI .i64) v1 a1.Shape, .fz (rI .i64) v2 a1.Data, .fz (rI .i64) v3 b1.Shape, .fz (rI .i64) v4 b1.Data, .fz (rI .i64) v5 l2, .own (rL (rI .i64)) v6 r3] Fr at hS
      refine c_seqS ?_
      refine c_reg fun R hR => ?_
      refine o_pure hS (.inl rfl) rfl rfl ?_; clear hS; try clear tm
      intro tm hS
      refine o_pure hS (.inl rfl) rfl rfl ?_; clear hS; try clear tm
      intro tm hS
      refine o_len (k := 10) (r := (rL (rI .i64))) hS (.inl rfl) rfl rfl rfl (.inr (.inl rfl)) Fu67 rfl ?_; clear hS; try clear tm
      intro tm hS
      refine o_pure hS (.inl rfl) rfl rfl ?_; clear hS; try clear tm
      intro tm hS
      refine o_nil (hR _ _ ?_)
      clear hR R
      refine c_cond hS rfl (fun hc => ?_) (fun hc => ?_)
      ·replace h13 := iteT hc h13
       refine wpC.skip ?_
       refine c_seqS ?_
       refine wpC.block ?_
       refine c_reg fun R hR => ?_
       refine o_pure hS (.inl rfl) rfl rfl ?_; clear hS; try clear tm
       intro tm hS
       obtain ⟨l5, hx9, h13⟩ := bindS h13
       refine o_mk (r := (rI .i64)) hS (.inl rfl) rfl rfl rfl Fm22 rfl (fun _ => rfl) hx9 ?_; clear hS; try clear tm H
       intro v8 tm H hS
       refine o_pure hS (.inl rfl) rfl rfl ?_; clear hS; try clear tm
       intro tm hS
       refine o_nil (hR _ _ ?_)
       clear hR R
       refine c_seqS ?_
       refine c_reg fun R hR => ?_
       refine o_pure hS (.inl rfl) rfl rfl ?_; clear hS; try clear tm
       intro tm hS
       refine o_nil (hR _ _ ?_)
       clear hR R
       obtain ⟨k4, hw4, h13⟩ := bindS h13
       refine wpC.block ?_
       refine c_loop (I := fun (s : Int × (List Int)) tm H => match (generalizing := false) s with | (m2, l6) => S wm 118 tm H [(2, .pointer (some ⟨b2, 0, none⟩)), (3, .pointer (some ⟨b3, 0, none⟩)), (4, .pointer (some ⟨b4, 0, none⟩)), (6, .int .i64 (b1.Shape.length : Int)), (11, .pointer (some ⟨b5, 0, none⟩)), (12, v6), (13, .int .i64 i1), (14, v8), (15, .int .i64 m2)] [.box b2 [.bool a1.Char, v1, v2], .box b3 [.bool b1.Char, v3, v4], .box b4 [.bool false, (.slice none 0 0), (.slice none 0 0)], .box b5 [.bool b1.Char, v5, v7], .fz (rI .i64) v1 a1.Shape, .fz (rI .i64) v2 a1.Data, .fz (rI .i64) v3 b1.Shape, .fz (rI .i64) v4 b1.Data, .fz (rI .i64) v5 l2, .own (rI .i64) v7 Data1, .own (rL (rI .i64)) v6 r3, .own (rI .i64) v8 l6] Fr) hw4 (by change S wm 118 _ _ _ _ Fr; exact hS.keep (ka_cons rfl (ka_cons rfl (ka_cons rfl (ka_cons rfl (ka_cons rfl (ka_cons rfl (ka_cons rfl (ka_cons rfl (ka_cons rfl ka_nil))))))))) (fun hI => (((((((((((((hI.pull 0 rfl).pull 11 rfl).pull 6 rfl).pull 11 rfl).pull 11 rfl).pull 11 rfl).pull 11 rfl).pull 11 rfl).pull 11 rfl).pull 11 rfl).pull 11 rfl).pull 11 rfl).take 12))) ?_
       clear hS
       intro s4 tm H c5 hS h15 hq15
       obtain ⟨m2, l6⟩ := s4
       change S wm 118 tm H [(2, .pointer (some ⟨b2, 0, none⟩)), (3, .pointer (some ⟨b3, 0, none⟩)), (4, .pointer (some ⟨b4, 0, none⟩)), (6, .int .i64 (b1.Shape.length : Int)), (11, .pointer (some ⟨b5, 0, none⟩)), (12, v6), (13, .int .i64 i1), (14, v8), (15, .int .i64 m2)] [.box b2 [.bool a1.Char, v1, v2], .box b3 [.bool b1.Char, v3, v4], .box b4 [.bool false, (.slice none 0 0), (.slice none 0 0)], .box b5 [.bool b1.Char, v5, v7], .fz (rI .i64) v1 a1.Shape, .fz (rI .i64) v2 a1.Data, .fz (rI .i64) v3 b1.Shape, .fz (rI .i64) v4 b1.Data, .fz (rI .i64) v5 l2, .own (rI .i64) v7 Data1, .own (rL (rI .i64)) v6 r3, .own (rI .i64) v8 l6] Fr at hS
       refine c_seqS ?_
       refine c_reg fun R hR => ?_
       refine o_pure hS (.inl rfl) rfl rfl ?_; clear hS; try clear tm
       intro tm hS
       refine o_pure hS (.inl rfl) rfl rfl ?_; clear hS; try clear tm
       intro tm hS
       refine o_pure hS (.inl rfl) rfl rfl ?_; clear hS; try clear tm
       intro tm hS
       refine o_nil (hR _ _ ?_)
       clear hR R
       refine c_cond hS rfl (fun hc => ?_) (fun hc => ?_)
       ·replace h15 := iteT hc h15
        refine wpC.skip ?_
        refine c_seqS ?_
        refine wpC.block ?_
        refine c_reg1 fun R hR => ?_
        refine o_pure hS (.inl rfl) rfl rfl ?_; clear hS; try clear tm
        intro tm hS
        refine o_pure hS (.inl rfl) rfl rfl ?_; clear hS; try clear tm
        intro tm hS
        refine o_pure hS (.inl rfl) rfl rfl ?_; clear hS; try clear tm
        intro tm hS
        refine o_pure hS (.inl rfl) rfl rfl ?_; clear hS; try clear tm
        intro tm hS
        obtain ⟨y4, hx10, h15⟩ := bindS h15
        refine o_ixA (k := 10) (r := (rL (rI .i64))) hS (.inl rfl) rfl rfl rfl rfl (.inr (.inl rfl)) Fu67 Fs22 hx10 ?_; clear hS; try clear tm
        intro tm hS
        refine o_ldS (k := 10) hS (.inl rfl) rfl rfl rfl (.inr (.inl rfl)) hx10 Fu22 rfl ?_; clear hS; try clear tm
        intro v9 tm hS
        refine o_pure hS (.inl rfl) rfl rfl ?_; clear hS; try clear tm
        intro tm hS
        refine o_ld1 (k := 1) hS (.inl rfl) rfl rfl rfl (.inl rfl) Fu23 rfl rfl ?_; clear hS; try clear tm
        intro tm hS
        refine o_pure hS (.inl rfl) rfl rfl ?_; clear hS; try clear tm
        intro tm hS
        obtain ⟨y5, hx11, h15⟩ := bindS h15
        refine o_ixA (k := 6) (r := (rI .i64)) hS (.inl rfl) rfl rfl rfl rfl (.inl rfl) Fu23 Fs2 hx11 ?_; clear hS; try clear tm
        intro tm hS
        refine o_ldF (r := (rI .i64)) (k := 6) hS (.inl rfl) rfl rfl rfl (.inl rfl) hx11 Fu2 rfl (flat_I _) rfl ?_; clear hS; try clear tm
        intro tm hS
        refine o_pure hS (.inl rfl) rfl rfl ?_; clear hS; try clear tm
        intro tm hS
        obtain ⟨y6, hx12, h15⟩ := bindS h15
        refine o_ixA (k := 0) (r := (rI .i64)) hS (.inl rfl) rfl rfl rfl rfl (.inl rfl) Fu22 Fs3 hx12 ?_; clear hS; try clear tm
        intro tm hS
        refine o_ldF (r := (rI .i64)) (k := 0) hS (.inl rfl) rfl rfl rfl (.inl rfl) hx12 Fu3 rfl (flat_I _) rfl ?_; clear hS; try clear tm
        intro tm hS
        obtain ⟨y7, hx13, h15⟩ := bindS h15
        refine o_ixA (k := 12) (r := (rI .i64)) hS (.inl rfl) rfl rfl rfl rfl (.inr (.inl rfl)) Fu22 Fs3 hx13 ?_; clear hS; try clear tm
        intro tm hS
        obtain ⟨l7, hx14, h15⟩ := bindS h15
        refine o_stE (k := 12) (r := (rI .i64)) hS (.inl rfl) rfl rfl rfl Fs3 rfl rfl (rd_flat fun _ => rfl) hx14 ?_; clear hS; try clear H
        intro H hS
        refine o_nil (hR _ _ ?_)
        clear hR R
        refine c_reg1 fun R hR => ?_
        refine o_pure hS (.inl rfl) rfl rfl ?_; clear hS; try clear tm
        intro tm hS
        refine o_pure hS (.inl rfl) rfl rfl ?_; clear hS; try clear tm
        intro tm hS
        refine o_pure hS (.inl rfl) rfl rfl ?_; clear hS; try clear tm
        intro tm hS
        refine o_nil (hR _ _ ?_)
        clear hR R
        obtain rfl := Option.some.inj h15
        refine ⟨_, rfl, ?_⟩
        change S wm 118 _ _ _ _ Fr; exact hS.keep (ka_cons rfl (ka_cons rfl (ka_cons rfl (ka_cons rfl (ka_cons rfl (ka_cons rfl (ka_cons rfl (ka_cons rfl (ka_cons rfl ka_nil))))))))) (fun hI => (hI.sub (sd (sc (sc (sc (sc (sc (sc (sc (sc (sc (sc (sc (sc sn)))))))))))))))
       ·replace h15 := iteF hc h15
        refine wpC.exit ?_
        refine seqX ?_
        obtain rfl := Option.some.inj h15
        obtain rfl := hq15 _ rfl
        refine And.intro rfl (blk_eq ?_)
        replace h13 := joinN h13
        refine c_reg1 fun R hR => ?_
        refine o_pure hS (.inl rfl) rfl rfl ?_; clear hS; try clear tm
        intro tm hS
        refine o_ld1 (k := 3) hS (.inl rfl) rfl rfl rfl (.inl rfl) Fu23 rfl rfl ?_; clear hS; try clear tm
        intro tm hS
        refine o_ldA (k := 1) hS (.inl rfl) rfl rfl rfl (.inl rfl) Fu25 rfl Fs25 rfl ?_; clear hS; try clear tm
        intro tm hS
        refine o_pure hS (.inl rfl) rfl rfl ?_; clear hS; try clear tm
        intro tm hS
        obtain ⟨r4, hx15, h13⟩ := bindS h13
        refine o_call (Pc := fun _ res H => res = .int .i64 r4 ∧ Kn wm H ([.box b2 [.bool a1.Char, v1, v2], .box b3 [.bool b1.Char, v3, v4], .box b4 [.bool false, (.slice none 0 0), (.slice none 0 0)], .box b5 [.bool b1.Char, v5, v7], .fz (rI .i64) v1 a1.Shape, .fz (rI .i64) v2 a1.Data, .fz (rI .i64) v3 b1.Shape, .fz (rI .i64) v4 b1.Data, .fz (rI .i64) v5 l2, .own (rI .i64) v7 Data1, .own (rL (rI .i64)) v6 r3, .own (rI .i64) v8 l6]) Fr) hS (.inl rfl) rfl (fun wm' hw1 hw2 => by
         obtain ⟨F2, k1, k2⟩ := hS.inv.lend (La := [.fz (rI .i64) v3 b1.Shape, .fz (rI .i64) v4 b1.Data, .fz (rI .i64) v8 l6]) (List.forall_mem_cons.mpr ⟨(.inl ⟨rfl, List.mem_of_getElem? (i := 6) rfl⟩), (List.forall_mem_cons.mpr ⟨(.inl ⟨rfl, List.mem_of_getElem? (i := 7) rfl⟩), (List.forall_mem_cons.mpr ⟨(.inr ⟨_, _, _, _, rfl, .inl (List.mem_of_getElem? (i := 11) rfl)⟩), (fun _ h => by cases h)⟩)⟩)⟩) hw1 hw2
         exact (wk39  b1 l6  v3 v4 v8 k1 hx15).mono fun res H2 ⟨q1, q2⟩ => ⟨q1, k2 _ q2⟩) (fun wm' res H hw' hp => ?_)
        obtain ⟨hres, hI⟩ := hp
        replace hres := hres.symm; subst hres
        replace hS : S wm 118 _ H ((113, .int .i64 r4) :: _) ([.box b2 [.bool a1.Char, v1, v2], .box b3 [.bool b1.Char, v3, v4], .box b4 [.bool false, (.slice none 0 0), (.slice none 0 0)], .box b5 [.bool b1.Char, v5, v7], .fz (rI .i64) v1 a1.Shape, .fz (rI .i64) v2 a1.Data, .fz (rI .i64) v3 b1.Shape, .fz (rI .i64) v4 b1.Data, .fz (rI .i64) v5 l2, .own (rI .i64) v7 Data1, .own (rL (rI .i64)) v6 r3, .own (rI .i64) v8 l6]) Fr := (hS.put rfl _).withK hI
        clear hI hw'
        refine o_lit (r := (rI .i64)) (l := [r4]) hS (.inl rfl) rfl Fl23 rfl rfl rfl (.cons rfl .nil) rfl rfl (ri_1 (rd_flat fun _ => rfl) ri_nil) rfl ?_; clear hS; try clear tm H
        intro v10 tm H hS
        obtain ⟨l8, hx16, h13⟩ := bindS h13
        refine o_app (k1 := 10) (k2 := 0) (r := (rI .i64)) hS (.inl rfl) rfl rfl rfl rfl rfl (.inr (.inr rfl)) rfl Fe23_23 rfl hx16 ?_; clear hS; try clear tm H
        intro v11 tm H hS
        refine o_pure hS (.inl rfl) rfl rfl ?_; clear hS; try clear tm
        intro tm hS
        refine o_st (k := 4) hS (.inl rfl) rfl rfl rfl Fs23 (cells_one (hS.one (k := 10) rfl (.inr (.inl rfl)))) rfl (all_cons (hS.one (k := 10) rfl (.inr (.inl rfl))) all_nil) rfl ?_; clear hS; try clear H
        intro H hS
        refine o_nil (hR _ _ ?_)
        clear hR R
        refine c_reg1 fun R hR => ?_
        refine o_pure hS (.inl rfl) rfl rfl ?_; clear hS; try clear tm
        intro tm hS
        refine o_pure hS (.inl rfl) rfl rfl ?_; clear hS; try clear tm
        intro tm hS
        refine o_pure hS (.inl rfl) rfl rfl ?_; clear hS; try clear tm
        intro tm hS
        refine o_nil (hR _ _ ?_)
        clear hR R
        obtain rfl := Option.some.inj h13
        refine ⟨_, rfl, ?_⟩
        refine Exists.intro v11 ?_; change S wm 118 _ _ _ _ Fr; exact hS.keep (ka_cons rfl (ka_cons rfl (ka_cons rfl (ka_cons rfl (ka_cons rfl (ka_cons rfl (ka_cons rfl ka_nil))))))) (fun hI => ((((((((((((hI.pull 11 rfl).pull 10 rfl).pull 10 rfl).pull 10 rfl).pull 10 rfl).pull 10 rfl).pull 11 rfl).pull 11 rfl).pull 11 rfl).pull 11 rfl).pull 11 rfl).take 11))
      ·replace h13 := iteF hc h13
       refine wpC.exit ?_
       refine seqX ?_
       obtain rfl := Option.some.inj h13
       obtain rfl := hq13 _ rfl
       refine And.intro rfl (blk_eq ?_)
       replace h0 := joinN h0
       refine c_reg fun R hR => ?_
       refine o_ldA (k := 3) hS (.inl rfl) rfl rfl rfl (.inl rfl) Fu25 rfl Fs25 rfl ?_; clear hS; try clear tm
       intro tm hS
       refine o_st (k := 2) hS (.inl rfl) rfl rfl rfl Fs25 rfl rfl (all_cons rfl (all_cons (hS.one (k := 9) rfl (.inl rfl)) (all_cons (hS.one (k := 4) rfl (.inr (.inl rfl))) all_nil))) rfl ?_; clear hS; try clear H
       intro H hS
       refine o_pure hS (.inl rfl) rfl rfl ?_; clear hS; try clear tm
       intro tm hS
       refine o_nil (hR _ _ ?_)
       clear hR R
       refine wpC.ret ?_
       obtain rfl := Option.some.inj h0
       refine Exists.intro _ (And.intro (rs_cellA (k := 2) hS rfl rfl (.inl rfl) Fu25 rfl Fs25 rfl (rs_tmp hS rfl rs_nil)) ?_)
       have hI := hS.inv
       exact ⟨v5, v7, rfl, (((hI.pull 4 rfl).pull 9 rfl).take 2)⟩
theorem wk22 {wm : Nat} {H : AHeap} {Fr : List Ent}  (b1 : Val)  (v1 : Value) (v2 : Value) (hI : Kn wm H [.fz (rI .i64) v1 b1.Shape, .fz (rI .i64) v2 b1.Data] Fr) {r : Val × Int} (h0 : M.anamnesisref08_Transpose b1 = some r) :
  wpF Try.prog ora wm 22 [.agg #[.bool b1.Char, v1, v2]] H (fun res H => ∃ v9 v10, res = .tuple #[.agg #[.bool r.1.Char, v9, v10], .int .i64 r.2] ∧ Kn wm H [.fz (rI .i64) v9 r.1.Shape, .own (rI .i64) v10 r.1.Data] Fr) := by
 unfold M.anamnesisref08_Transpose at h0
 refine f_enter (n := 34) Try.func22 rfl (by simp) hI rfl rfl rfl fun tm hS => ?_
 clear hI
 refine c_reg fun R hR => ?_
 refine o_box hS (.inl rfl) rfl rfl rfl (all_cons rfl (all_cons (hS.one (k := 0) rfl (.inl rfl)) (all_cons (hS.one (k := 1) rfl (.inl rfl)) all_nil))) ?_; clear hS; try clear tm H
 intro b2 tm H hS
 refine o_alloc hS (.inl rfl) rfl Fz25 (by decide) ?_; clear hS; try clear tm H
 intro b3 tm H hS
 refine o_pure hS (.inl rfl) rfl rfl ?_; clear hS; try clear tm
 intro tm hS
 refine o_nil (hR _ _ ?_)
 clear hR R
 refine c_reg fun R hR => ?_
 refine o_pure hS (.inl rfl) rfl rfl ?_; clear hS; try clear tm
 intro tm hS
 refine o_ld1 (k := 1) hS (.inl rfl) rfl rfl rfl (.inl rfl) Fu22 rfl rfl ?_; clear hS; try clear tm
 intro tm hS
 refine o_len (k := 2) (r := (rI .i64)) hS (.inl rfl) rfl rfl rfl (.inl rfl) Fu22 rfl ?_; clear hS; try clear tm
 intro tm hS
 refine o_pure hS (.inl rfl) rfl rfl ?_; clear hS; try clear tm
 intro tm hS
 refine o_nil (hR _ _ ?_)
 clear hR R
 refine c_seqS ?_
 refine c_reg fun R hR => ?_
 refine o_pure hS (.inl rfl) rfl rfl ?_; clear hS; try clear tm
 intro tm hS
 refine o_pure hS (.inl rfl) rfl rfl ?_; clear hS; try clear tm
 intro tm hS
 refine o_nil (hR _ _ ?_)
 clear hR R
 refine c_cond hS rfl (fun hc => ?_) (fun hc => ?_)
 ·replace h0 := iteT hc h0
  refine c_reg fun R hR => ?_
  refine o_build hS (.inl rfl) rfl Fb25 rfl .nil rfl ?_; clear hS; try clear tm
  intro tm hS
  refine o_st (k := 0) hS (.inl rfl) rfl rfl rfl Fs25 rfl rfl (all_cons rfl (all_cons rfl (all_cons rfl all_nil))) rfl ?_; clear hS; try clear H
  intro H hS
  refine o_pure hS (.inl rfl) rfl rfl ?_; clear hS; try clear tm
  intro tm hS
  refine o_nil (hR _ _ ?_)
  clear hR R
  refine wpC.ret ?_
  obtain rfl := Option.some.inj h0
  replace hS := hS.nilFz (rI .i64)
  replace hS := hS.nilOwn (rI .i64)
  refine Exists.intro _ (And.intro (rs_cellA (k := 2) hS rfl rfl (.inl rfl) Fu25 rfl Fs25 rfl (rs_tmp hS rfl rs_nil)) ?_)
  have hI := hS.inv
  exact ⟨(.slice none 0 0), (.slice none 0 0), rfl, (((hI.pull 0 rfl).pull 1 rfl).take 2)⟩
 ·replace h0 := iteF hc h0
  refine wpC.skip ?_
  refine c_reg fun R hR => ?_
  refine o_pure hS (.inl rfl) rfl rfl ?_; clear hS; try clear tm
  intro tm hS
  refine o_lit (r := (rI .i64)) (l := [(b1.Shape.length : Int)]) hS (.inl rfl) rfl Fl22 rfl rfl rfl (.cons rfl .nil) rfl rfl (ri_1 (rd_flat fun _ => rfl) ri_nil) rfl ?_; clear hS; try clear tm H
  intro v3 tm H hS
  refine o_build hS (.inl rfl) rfl Fb25 rfl (.cons (cells_one (hS.one (k := 0) rfl (.inr (.inr rfl)))) .nil) rfl ?_; clear hS; try clear tm
  intro tm hS
  refine o_alloc hS (.inl rfl) rfl Fz25 (by decide) ?_; clear hS; try clear tm H
  intro b4 tm H hS
  refine o_st (k := 0) hS (.inl rfl) rfl rfl rfl Fs25 rfl rfl (all_cons rfl (all_cons (hS.one (k := 1) rfl (.inr (.inr rfl))) (all_cons rfl all_nil))) rfl ?_; clear hS; try clear H
  intro H hS
  refine o_nil (hR _ _ ?_)
  clear hR R
  refine c_seqS ?_
  refine c_reg fun R hR => ?_
  refine o_pure hS (.inl rfl) rfl rfl ?_; clear hS; try clear tm
  intro tm hS
  refine o_nil (hR _ _ ?_)
  clear hR R
  obtain ⟨k1, hw1, h0⟩ := bindS h0
  refine wpC.block ?_
  replace hS := hS.nilOwn (rI .i64)
  refine c_loop (I := fun (s : Int × (List Int)) tm H => match (generalizing := false) s with | (m1, Data1) => ∃ v4, S wm 34 tm H [(1, .pointer (some ⟨b2, 0, none⟩)), (2, .pointer (some ⟨b3, 0, none⟩)), (4, .int .i64 (b1.Shape.length : Int)), (5, .pointer (some ⟨b4, 0, none⟩)), (6, .int .i64 m1)] [.box b2 [.bool b1.Char, v1, v2], .box b3 [.bool false, (.slice none 0 0), (.slice none 0 0)], .box b4 [.bool false, v3, v4], .own (rI .i64) v4 Data1, .fz (rI .i64) v1 b1.Shape, .fz (rI .i64) v2 b1.Data, .lit (rI .i64) v3 ([(b1.Shape.length : Int)])] Fr) hw1 (by refine Exists.intro (.slice none 0 0) ?_; change S wm 34 _ _ _ _ Fr; exact hS.keep (ka_cons rfl (ka_cons rfl (ka_cons rfl (ka_cons rfl (ka_cons rfl ka_nil))))) (fun hI => ((((((((hI.pull 2 rfl).pull 6 rfl).pull 6 rfl).pull 3 rfl).pull 4 rfl).pull 5 rfl).pull 6 rfl).take 7))) ?_
  clear hS
  intro s1 tm H c1 hS h1 hq1
  obtain ⟨m1, Data1⟩ := s1
  obtain ⟨v4, hS⟩ := hS
  change S wm 34 tm H [(1, .pointer (some ⟨b2, 0, none⟩)), (2, .pointer (some ⟨b3, 0, none⟩)), (4, .int .i64 (b1.Shape.length : Int)), (5, .pointer (some ⟨b4, 0, none⟩)), (6, .int .i64 m1)] [.box b2 [.bool b1.Char, v1, v2], .box b3 [.bool false, (.slice none 0 0), (.slice none 0 0)], .box b4 [.bool false, v3, v4], .own (rI .i64) v4 Data1, .fz (rI .i64) v1 b1.Shape, .fz (rI .i64) v2 b1.Data, .lit (rI .i64) v3 ([(b1.Shape.length : Int)])] Fr at hS
  refine c_seqS ?_
  refine c_reg fun R hR => ?_
  refine o_pure hS (.inl rfl) rfl rfl ?_; clear hS; try clear tm
  intro tm hS
  refine o_pure hS (.inl rfl) rfl rfl ?_; clear hS; try clear tm
  intro tm hS
  refine o_pure hS (.inl rfl) rfl rfl ?_; clear hS; try clear tm
  intro tm hS
  refine o_nil (hR _ _ ?_)
  clear hR R
  refine c_cond hS rfl (fun hc => ?_) (fun hc => ?_)
  ·replace h1 := iteT hc h1
   refine wpC.skip ?_
   refine c_seqS ?_
   refine wpC.block ?_
   refine c_reg1 fun R hR => ?_
   refine o_pure hS (.inl rfl) rfl rfl ?_; clear hS; try clear tm
   intro tm hS
   refine o_ld1 (k := 2) hS (.inl rfl) rfl rfl rfl (.inl rfl) Fu23 rfl rfl ?_; clear hS; try clear tm
   intro tm hS
   refine o_pure hS (.inl rfl) rfl rfl ?_; clear hS; try clear tm
   intro tm hS
   refine o_pure hS (.inl rfl) rfl rfl ?_; clear hS; try clear tm
   intro tm hS
   refine o_pure hS (.inl rfl) rfl rfl ?_; clear hS; try clear tm
   intro tm hS
   refine o_lit (r := (rI .i64)) (l := [(IntKind.i64.wrap ((b1.Shape.length : Int) - m1))]) hS (.inl rfl) rfl Fl23 rfl rfl rfl (.cons rfl .nil) rfl rfl (ri_1 (rd_flat fun _ => rfl) ri_nil) rfl ?_; clear hS; try clear tm H
   intro v5 tm H hS
   obtain ⟨l1, hx1, h1⟩ := bindS h1
   refine o_app (k1 := 4) (k2 := 0) (r := (rI .i64)) hS (.inl rfl) rfl rfl rfl rfl rfl (.inr (.inr rfl)) rfl Fe23_23 rfl hx1 ?_; clear hS; try clear tm H
   intro v6 tm H hS
   refine o_pure hS (.inl rfl) rfl rfl ?_; clear hS; try clear tm
   intro tm hS
   refine o_st (k := 3) hS (.inl rfl) rfl rfl rfl Fs23 (cells_one (hS.one (k := 4) rfl (.inr (.inl rfl)))) rfl (all_cons (hS.one (k := 4) rfl (.inr (.inl rfl))) all_nil) rfl ?_; clear hS; try clear H
   intro H hS
   refine o_nil (hR _ _ ?_)
   clear hR R
   refine c_reg1 fun R hR => ?_
   refine o_pure hS (.inl rfl) rfl rfl ?_; clear hS; try clear tm
   intro tm hS
   refine o_pure hS (.inl rfl) rfl rfl ?_; clear hS; try clear tm
   intro tm hS
   refine o_pure hS (.inl rfl) rfl rfl ?_; clear hS; try clear tm
   intro tm hS
   refine o_nil (hR _ _ ?_)
   clear hR R
   obtain rfl := Option.some.inj h1
   refine ⟨_, rfl, ?_⟩
   refine Exists.intro v6 ?_; change S wm 34 _ _ _ _ Fr; exact hS.keep (ka_cons rfl (ka_cons rfl (ka_cons rfl (ka_cons rfl (ka_cons rfl ka_nil))))) (fun hI => (hI.sub (sd (sc (sc (sc (sc (sc (sc (sc sn))))))))))
  ·replace h1 := iteF hc h1
   refine wpC.exit ?_
   refine seqX ?_
   obtain rfl := Option.some.inj h1
   obtain rfl := hq1 _ rfl
   refine And.intro rfl (blk_eq ?_)
   replace h0 := joinN h0
   refine c_reg fun R hR => ?_
   refine o_ldA (k := 2) hS (.inl rfl) rfl rfl rfl (.inl rfl) Fu25 rfl Fs25 rfl ?_; clear hS; try clear tm
   intro tm hS
   refine o_ldA (k := 0) hS (.inl rfl) rfl rfl rfl (.inl rfl) Fu25 rfl Fs25 rfl ?_; clear hS; try clear tm
   intro tm hS
   replace hS := hS.litFrz (k := 6) rfl
   replace hS := hS.frz (k := 3) rfl
   obtain ⟨⟨r1, r2⟩, hx2, h0⟩ := bindS h0
   refine o_call hS (.inl rfl) rfl (fun wm' hw1 hw2 => wk23  (Val.mk false ([(b1.Shape.length : Int)]) Data1) b1  v3 v4 v1 v2 (((((hS.sel hw2).ad 5 rfl).ad 4 rfl).ad 3 rfl).ad 6 rfl) hx2) (fun wm' res H hw' hp => ?_)
   obtain ⟨v7, v8, hres, hI⟩ := hp
   replace hres := hres.symm; subst hres
   replace hS : S wm 34 _ H ((31, .tuple #[.agg #[.bool r1.Char, v7, v8], .int .i64 r2]) :: _) ([.fz (rI .i64) v7 r1.Shape, .own (rI .i64) v8 r1.Data] ++ _) Fr := hS.after rfl hw' hI
   clear hI hw'
   refine o_pure hS (.inl rfl) rfl rfl ?_; clear hS; try clear tm
   intro tm hS
   refine o_pure hS (.inl rfl) rfl rfl ?_; clear hS; try clear tm
   intro tm hS
   refine o_st (k := 3) hS (.inl rfl) rfl rfl rfl Fs25 rfl rfl (all_cons rfl (all_cons (hS.one (k := 0) rfl (.inl rfl)) (all_cons (hS.one (k := 1) rfl (.inr (.inl rfl))) all_nil))) rfl ?_; clear hS; try clear H
   intro H hS
   refine o_pure hS (.inl rfl) rfl rfl ?_; clear hS; try clear tm
   intro tm hS
   refine o_nil (hR _ _ ?_)
   clear hR R
   refine wpC.ret ?_
   obtain rfl := Option.some.inj h0
   refine Exists.intro _ (And.intro (rs_cellA (k := 3) hS rfl rfl (.inl rfl) Fu25 rfl Fs25 rfl (rs_tmp hS rfl rs_nil)) ?_)
   have hI := hS.inv
   exact ⟨v7, v8, rfl, (hI.sub (sc (sc sn)))⟩
end Go.Proofs.Yteoojnahehgakaa.turnTells
