/- TurnBack: walks of the code: the run of each function comes to what its plain function says. -/
import Derived.Test.YteoojnahehgakaaWTurnBacka
set_option maxHeartbeats 4000000
set_option linter.unusedVariables false
set_option linter.unusedSimpArgs false
set_option maxRecDepth 100000
open Go Go.Am Go.Proofs
namespace Go.Proofs.Yteoojnahehgakaa.turnBack
variable {ora : FuncId → Bool}
theorem wk65 {wm : Nat} {H : AHeap} {Fr : List Ent} (s1 : (List Int)) (i1 j1 : Int) (v1 : Value) (hI : Kn wm H [.own (rI .i64) v1 s1] Fr) {r : (List Int)} (h0 : M.slices_Delete__int s1 i1 j1 = some r) :
  wpF Try.prog ora wm 65 [v1, .int .i64 i1, .int .i64 j1] H (fun res H => ∃ v2, res = v2 ∧ Kn wm H [.own (rI .i64) v2 r] Fr) := by
 unfold M.slices_Delete__int del at h0
 split at h0
 case isFalse => cases h0
 rename_i hij
 obtain rfl := Option.some.inj h0
 obtain ⟨i, rfl⟩ : ∃ i : Nat, i1 = i := ⟨i1.toNat, by omega⟩
 obtain ⟨j, rfl⟩ : ∃ j : Nat, j1 = j := ⟨j1.toNat, by omega⟩
 simp only [Int.toNat_natCast]
 have hi : i ≤ j := by omega
 have hj : j ≤ s1.length := by omega
 obtain ⟨Z, hK⟩ := hI
 have hsh := hK.slAt (k := 0) (r := (rI .i64)) (v := v1) (l := s1) rfl (.inr (.inl rfl))
 refine f_enter (n := 33) Try.func65 rfl (by simp) ⟨Z, hK⟩ rfl rfl rfl fun tm hS => ?_
 refine c_reg fun R hR => ?_
 refine o_pure hS (.inl rfl) rfl rfl fun tm hS => ?_
 refine o_nil (hR _ _ ?_)
 refine c_reg fun R hR => ?_
 refine o_pure hS (.inl rfl) rfl rfl fun tm hS => ?_
 refine o_pure hS (.inl rfl) rfl rfl fun tm hS => ?_
 refine o_pure hS (.inl rfl) rfl rfl fun tm hS => ?_
 refine o_pure hS (.inl rfl) rfl rfl fun tm hS => ?_
 refine o_len (k := 0) (r := (rI .i64)) hS (.inl rfl) rfl rfl rfl (.inr (.inl rfl)) Fu22 rfl fun tm hS => ?_
 have hsl : ∃ v, aSlice Try.prog H 22 v1 (some (.int .i64 (i : Int))) (some (.int .i64 (j : Int))) (some (.int .i64 (s1.length : Int))) = some v := by
  rcases hsh with ⟨rfl, rfl⟩ | ⟨b, o, cap, own, gr, cells, cs, rfl, q1, q2, q3, q4⟩
  ·obtain rfl : i = 0 := by simp at hj; omega
   obtain rfl : j = 0 := by simp at hj; omega
   have e : bnd 0 (some (.int .i64 ((0 : Nat) : Int))) = some (some 0) := bnd_some (Nat.le_refl 0)
   have e' : bnd 0 (some (.int .i64 (([] : (List Int)).length : Int))) = some (some 0) := bnd_some (Nat.le_refl 0)
   refine ⟨.slice none 0 0, ?_⟩
   unfold aSlice
   simp only [Fu22, Fs3, e, e', Option.isSome_some, Option.isNone_some, Bool.and_false, Bool.false_eq_true, if_false, Option.getD_some]
  ·exact ⟨_, aSlice_row Fu22 Fs3 q2 (bnd_some q1) rfl (bnd_some hj) (bnd_some hi)⟩
 obtain ⟨sv, hsv⟩ := hsl
 refine o_sliceV hS (.inl rfl) rfl rfl (vlo := [.int .i64 (i : Int)]) (vhi := [.int .i64 (j : Int)]) (vmx := [.int .i64 (s1.length : Int)]) rfl rfl rfl hsv fun tm hS => ?_
 refine o_nil (hR _ _ ?_)
 refine c_seqS ?_
 refine c_reg fun R hR => ?_
 refine o_pure hS (.inl rfl) rfl rfl fun tm hS => ?_
 refine o_pure hS (.inl rfl) rfl rfl fun tm hS => ?_
 refine o_pure hS (.inl rfl) rfl rfl fun tm hS => ?_
 refine o_nil (hR _ _ ?_)
 refine c_cond hS rfl (fun hc => ?_) (fun hc => ?_)
 ·refine c_reg fun R hR => ?_
  refine o_pure hS (.inl rfl) rfl rfl fun tm hS => ?_
  refine o_pure hS (.inl rfl) rfl rfl fun tm hS => ?_
  refine o_nil (hR _ _ ?_)
  refine wpC.ret ?_
  have hij2 : i = j := by
   have : (i : Int) = (j : Int) := by simpa using hc
   omega
  subst hij2
  rw [List.take_append_drop]
  refine Exists.intro _ (And.intro (rs_tmp hS rfl rs_nil) ?_)
  exact ⟨_, rfl, hS.inv⟩
 ·have hlt : i < j := by
   have : ¬ ((i : Int) = (j : Int)) := by simpa using hc
   omega
  refine wpC.skip ?_
  refine c_reg fun R hR => ?_
  refine o_pure hS (.inl rfl) rfl rfl fun tm hS => ?_
  refine o_len (k := 0) (r := (rI .i64)) hS (.inl rfl) rfl rfl rfl (.inr (.inl rfl)) Fu22 rfl fun tm hS => ?_
  refine o_pure hS (.inl rfl) rfl rfl fun tm hS => ?_
  refine o_nil (hR _ _ ?_)
  rcases hsh with ⟨rfl, rfl⟩ | ⟨b, o, cap, own0, gr0, cells0, cs0, rfl, q1, _, _, _⟩
  ·simp at hj; omega
  obtain ⟨_, hwm, hbn, gr, cells, cs, g1, g2, g3, g4, g5⟩ := hK.ownAt (k := 0) rfl
  have hsz1 : ((rI .i64)).sz = 1 := rfl
  rw [hsz1] at g1 g2 g4
  simp only [Nat.mul_one] at g2 g4
  have hcl : cs.length = s1.length := by have := g5.len; rw [hsz1] at this; omega
  refine c_reg fun R hR => ?_
  refine o_pure hS (.inl rfl) rfl rfl fun tm hS => ?_
  refine o_pure hS (.inl rfl) rfl rfl fun tm hS => ?_
  refine o_sliceV hS (.inl rfl) rfl rfl (vlo := []) (vhi := [.int .i64 (i : Int)]) (vmx := []) rfl rfl rfl (aSlice_row Fu22 Fs3 g1 (m := none) (h := some i) (l := none) rfl rfl (bnd_some (by simp; omega)) rfl) fun tm hS => ?_
  refine o_pure hS (.inl rfl) rfl rfl fun tm hS => ?_
  refine o_pure hS (.inl rfl) rfl rfl fun tm hS => ?_
  refine o_sliceV hS (.inl rfl) rfl rfl (vlo := [.int .i64 (j : Int)]) (vhi := []) (vmx := []) rfl rfl rfl (aSlice_row Fu22 Fs3 g1 (m := none) (h := none) (l := some j) rfl rfl rfl (bnd_some hj)) fun tm hS => ?_
  simp only [Option.getD_none, Option.getD_some, Nat.sub_zero, Nat.zero_mul, Nat.add_zero, Nat.mul_one] at hS ⊢
  have hcut2 : cut cells (o + j) (s1.length - j) = some ((cs.drop j).take (s1.length - j)) := cut_part g4 (by omega)
  have hdr : (cs.drop j).take (s1.length - j) = cs.drop j := List.take_of_length_le (by simp; omega)
  rw [hdr] at hcut2
  have hrow1 : rowOf (rI .i64) Z (cs.take i) (s1.take i) := by have := g5.take i; rw [hsz1, Nat.mul_one] at this; exact this
  have hrow2 : rowOf (rI .i64) Z (cs.drop j) (s1.drop j) := by have := g5.drop j; rw [hsz1, Nat.mul_one] at this; exact this
  have hcut1 : cut cells o i = some (cs.take i) := by have := cut_part (i := 0) (k := i) g4 (by omega); simpa using this
  have ha : ∃ cells2 gr2, ∃ H2, aAppend Try.prog wm H 22 22 (.slice (some ⟨b, o, none⟩) i cap) (.slice (some ⟨b, o + j, none⟩) (s1.length - j) (cap - j)) = some (.slice (some ⟨b, o, none⟩) (i + (s1.length - j)) cap, H2) ∧
    H2.get b = some (.row true gr2 1 cells2) ∧ cells2.length = cells.length ∧ Kn0 Z wm H2 [.own (rI .i64) (.slice (some ⟨b, o, none⟩) (s1.take i ++ s1.drop j).length cap) (s1.take i ++ s1.drop j)] Fr := by
   have hlen2 : (s1.take i ++ s1.drop j).length = i + (s1.length - j) := by simp; omega
   have hac : aCells H ((rI .i64)).sz (.slice (some ⟨b, o + j, none⟩) (s1.length - j) (cap - j)) = some ((s1.drop j).length, cs.drop j) := by
    simp only [aCells, g1, hsz1, Nat.mul_one, hcut2, Option.map_some]
    simp
   by_cases hz : s1.drop j = []
   ·have hjl : j = s1.length := by
     have := congrArg List.length hz; simp at this; omega
    subst hjl
    refine ⟨cells, gr, H, ?_, g1, rfl, ?_⟩
    ·have hac0 : aCells H 1 (.slice (some ⟨b, o + s1.length, none⟩) (s1.length - s1.length) (cap - s1.length)) = some (0, []) := by
      simp only [aCells, g1, Nat.sub_self, Nat.zero_mul]
      unfold cut
      rw [if_pos (by omega)]; simp
     have := append_none (P := Try.prog) (wm := wm) (a := some ⟨b, o, none⟩) (x := i) (y := cap) Fe22_22 hac0
     simpa using this
    ·have := hK.ownSet (k := 0) (o' := o) (cap' := cap) (gr := gr) (l' := s1.take i ++ s1.drop s1.length) (cells := cells) (cs' := cs.take i) rfl (by rw [hsz1]; omega) (by rw [hlen2]; omega) (by rw [hlen2, hsz1]; simpa using hcut1) (by simpa using hrow1)
     have hsame : (H.set b (.row true gr ((rI .i64)).sz cells)).n = H.n := rfl
     refine this.heq ?_ rfl
     intro x
     by_cases hx : x = b
     ·subst hx; rw [AHeap.get_set_same]; exact g1.symm
     ·rw [AHeap.get_set_ne _ _ hx]
   ·have hne := hz
    have hdl : (cs.drop j).length = s1.length - j := by simp; omega
    obtain ⟨cells2, hl2, hl3⟩ := lay_ok (cells := cells) (vs := cs.drop j) (o := o + i) (by rw [hdl]; omega)
    obtain ⟨c1, _⟩ := lay_cut2 hcut1 hl2
    refine ⟨cells2, gr, H.set b (.row true gr 1 cells2), ?_, AHeap.get_set_same _ _ _, hl3, ?_⟩
    ·have := append_in (P := Try.prog) (wm := wm) (st := 22) (xt := 22) Fe22_22 hac hne hwm (by rw [hsz1]; exact g1) (len := i) (cap := cap) (o := o) (by simp; omega) (by rw [hsz1, Nat.mul_one]; exact hl2)
     simpa [hsz1] using this
    ·have := hK.ownSet (k := 0) (o' := o) (cap' := cap) (gr := gr) (l' := s1.take i ++ s1.drop j) (cells := cells2) (cs' := cs.take i ++ cs.drop j) rfl (by rw [hsz1]; omega) (by rw [hlen2]; omega) (by rw [hlen2, hsz1, Nat.mul_one]; rw [hdl] at c1; exact c1) (hrow1.app hrow2)
     exact this
  obtain ⟨cells2, gr2, H2, hap, hg2, hcl2, hK2⟩ := ha
  have hlen2 : (s1.take i ++ s1.drop j).length = i + (s1.length - j) := by simp; omega
  refine o_appV hS (.inl rfl) rfl rfl rfl rfl Fu22 rfl hap ⟨Z, hK2⟩ fun tm hS => ?_
  refine o_pure hS (.inl rfl) rfl rfl fun tm hS => ?_
  refine o_nil (hR _ _ ?_)
  rw [← hlen2] at hS
  refine c_reg fun R hR => ?_
  refine o_pure hS (.inl rfl) rfl rfl fun tm hS => ?_
  refine o_pure hS (.inl rfl) rfl rfl fun tm hS => ?_
  refine o_len (k := 0) (r := (rI .i64)) hS (.inl rfl) rfl rfl rfl (.inr (.inl rfl)) Fu22 rfl fun tm hS => ?_
  refine o_pure hS (.inl rfl) rfl rfl fun tm hS => ?_
  refine o_sliceV hS (.inl rfl) rfl rfl (vlo := [.int .i64 ((s1.take i ++ s1.drop j).length : Int)]) (vhi := [.int .i64 (s1.length : Int)]) (vmx := []) rfl rfl rfl (aSlice_row Fu22 Fs3 hg2 (m := none) (h := some s1.length) (l := some (s1.take i ++ s1.drop j).length) rfl rfl (bnd_some (by simp; omega)) (bnd_some (by simp; omega))) fun tm hS => ?_
  simp only [Option.getD_none, Option.getD_some, Nat.mul_one] at hS ⊢
  obtain ⟨q, hq⟩ : ∃ q, s1.length - (s1.take i ++ s1.drop j).length = q + 1 := ⟨s1.length - (s1.take i ++ s1.drop j).length - 1, by rw [hlen2]; omega⟩
  obtain ⟨cells3, hl4, hl5⟩ := lay_ok (cells := cells2) (vs := (zeros (((Try.prog.info? 3).getD default).zero.getD undef) (q + 1)).toList) (o := o + (s1.take i ++ s1.drop j).length) (by
   have : (zeros (((Try.prog.info? 3).getD default).zero.getD undef) (q + 1)).toList.length = q + 1 := by simp [zeros]
   rw [this, hcl2]; omega)
  obtain ⟨_, _, _, gr3, cells4, cs4, k1, k2, k3, k4, k5⟩ := hK2.ownAt (k := 0) rfl
  rw [hg2] at k1
  obtain ⟨rfl, rfl⟩ : gr2 = gr3 ∧ cells2 = cells4 := by simpa [hsz1] using k1
  refine o_clrV (H' := H2.set b (.row true gr2 1 cells3)) (L' := [.own (rI .i64) (.slice (some ⟨b, o, none⟩) (s1.take i ++ s1.drop j).length cap) (s1.take i ++ s1.drop j)]) hS (.inl rfl) rfl rfl ?_ ⟨Z, ?_⟩ fun tm hS => ?_
  ·rw [hq]
   exact clear_in Fm22 hwm hg2 hl4
  ·have := hK2.ownSet (k := 0) (o' := o) (cap' := cap) (gr := gr2) (l' := s1.take i ++ s1.drop j) (cells := cells3) (cs' := cs4) rfl (by rw [hsz1] at k2 ⊢; omega) k3 (by
    rw [hsz1, Nat.mul_one] at k4 ⊢
    rw [lay_after hl4]; exact k4) k5
   exact this
  refine o_nil (hR _ _ ?_)
  refine c_reg fun R hR => ?_
  refine o_pure hS (.inl rfl) rfl rfl fun tm hS => ?_
  refine o_pure hS (.inl rfl) rfl rfl fun tm hS => ?_
  refine o_nil (hR _ _ ?_)
  refine wpC.ret ?_
  refine Exists.intro _ (And.intro (rs_tmp hS rfl rs_nil) ?_)
  exact ⟨_, rfl, hS.inv⟩
theorem wk40 {wm : Nat} {H : AHeap} {Fr : List Ent}  (s1 : (List Int)) (axis1 : Int)  (v1 : Value) (hI : Kn wm H [.fz (rI .i64) v1 s1] Fr) {r : (List Int)} (h0 : M.shape_Without s1 axis1 = some r) :
  wpF Try.prog ora wm 40 [v1, .int .i64 axis1] H (fun res H => ∃ v4, res = v4 ∧ Kn wm H [.own (rI .i64) v4 r] Fr) := by
 unfold M.shape_Without at h0
 refine f_enter (n := 22) Try.func40 rfl (by simp) hI rfl rfl rfl fun tm hS => ?_
 clear hI
 refine c_reg fun R hR => ?_
 refine o_pure hS (.inl rfl) rfl rfl ?_; clear hS; try clear tm
 intro tm hS
 refine o_nil (hR _ _ ?_)
 clear hR R
 refine c_reg fun R hR => ?_
 refine o_pure hS (.inl rfl) rfl rfl ?_; clear hS; try clear tm
 intro tm hS
 obtain ⟨r1, hx1, h0⟩ := bindS h0
 refine o_call hS (.inl rfl) rfl (fun wm' hw1 hw2 => wk54  s1  v1 ((hS.sel hw2).ad 0 rfl) hx1) (fun wm' res H hw' hp => ?_)
 obtain ⟨v2, hres, hI⟩ := hp
 replace hres := hres.symm; subst hres
 replace hS : S wm 22 _ H ((7, v2) :: _) ([.own (rI .i64) v2 r1] ++ _) Fr := hS.after rfl hw' hI
 clear hI hw'
 refine o_pure hS (.inl rfl) rfl rfl ?_; clear hS; try clear tm
 intro tm hS
 refine o_nil (hR _ _ ?_)
 clear hR R
 refine c_seqS ?_
 refine c_reg fun R hR => ?_
 refine o_pure hS (.inl rfl) rfl rfl ?_; clear hS; try clear tm
 intro tm hS
 refine o_pure hS (.inl rfl) rfl rfl ?_; clear hS; try clear tm
 intro tm hS
 refine o_pure hS (.inl rfl) rfl rfl ?_; clear hS; try clear tm
 intro tm hS
 obtain ⟨c1, hc1⟩ : ∃ x : Bool, x = ((decide (axis1 < 0)) || (decide (axis1 ≥ (s1.length : Int)))) := ⟨_, rfl⟩
 refine o_cutN 5 (J := fun tm H => S wm 22 tm H [(15, .bool c1), (1, .int .i64 axis1), (5, v2)] [.own (rI .i64) v2 r1] Fr) ?_ ?_
 ·rcases Bool.eq_false_or_eq_true (decide (axis1 < 0)) with hg1 | hg1
  ·refine o_skip hS rfl rfl rfl hg1 ?_; clear hS; try clear tm
   intro tm hS
   refine o_skip hS rfl rfl rfl hg1 ?_; clear hS; try clear tm
   intro tm hS
   refine o_skip hS rfl rfl rfl hg1 ?_; clear hS; try clear tm
   intro tm hS
   refine o_skip hS rfl rfl rfl hg1 ?_; clear hS; try clear tm
   intro tm hS
   refine o_pickT hS (.inl rfl) rfl rfl hg1 rfl ?_; clear hS; try clear tm
   intro tm hS
   have hc1 : c1 = true := hc1.trans (by rw [hg1]; first | rfl | simp)
   subst hc1
   exact o_nil (hS.keep (ka_cons rfl (ka_cons rfl (ka_cons rfl ka_nil))) (fun hI => (hI.sub (sc sn))))
  ·refine o_pure hS (.inr ⟨_, _, _, _, rfl, rfl, rfl, hg1⟩) rfl rfl ?_; clear hS; try clear tm
   intro tm hS
   refine o_pure hS (.inr ⟨_, _, _, _, rfl, rfl, rfl, hg1⟩) rfl rfl ?_; clear hS; try clear tm
   intro tm hS
   refine o_len (k := 1) (r := (rI .i64)) hS (.inr ⟨_, _, _, _, rfl, rfl, rfl, hg1⟩) rfl rfl rfl (.inl rfl) Fu22 rfl ?_; clear hS; try clear tm
   intro tm hS
   refine o_pure hS (.inr ⟨_, _, _, _, rfl, rfl, rfl, hg1⟩) rfl rfl ?_; clear hS; try clear tm
   intro tm hS
   refine o_pickF hS (.inl rfl) rfl rfl hg1 rfl ?_; clear hS; try clear tm
   intro tm hS
   have hc1 : c1 = (decide (axis1 ≥ (s1.length : Int))) := hc1.trans (by rw [hg1]; first | rfl | simp)
   subst hc1
   exact o_nil (hS.keep (ka_cons rfl (ka_cons rfl (ka_cons rfl ka_nil))) (fun hI => (hI.sub (sc sn))))
 intro tm H hS
 subst hc1
 refine o_nil (hR _ _ ?_)
 clear hR R
 refine c_cond hS rfl (fun hc => ?_) (fun hc => ?_)
 ·replace h0 := iteT hc h0
  refine c_reg fun R hR => ?_
  refine o_pure hS (.inl rfl) rfl rfl ?_; clear hS; try clear tm
  intro tm hS
  refine o_pure hS (.inl rfl) rfl rfl ?_; clear hS; try clear tm
  intro tm hS
  refine o_nil (hR _ _ ?_)
  clear hR R
  refine wpC.ret ?_
  obtain rfl := Option.some.inj h0
  refine Exists.intro _ (And.intro (rs_tmp hS rfl rs_nil) ?_)
  have hI := hS.inv
  exact ⟨v2, rfl, (hI.sub (sc sn))⟩
 ·replace h0 := iteF hc h0
  refine wpC.skip ?_
  refine c_reg fun R hR => ?_
  refine o_pure hS (.inl rfl) rfl rfl ?_; clear hS; try clear tm
  intro tm hS
  refine o_pure hS (.inl rfl) rfl rfl ?_; clear hS; try clear tm
  intro tm hS
  refine o_pure hS (.inl rfl) rfl rfl ?_; clear hS; try clear tm
  intro tm hS
  refine o_pure hS (.inl rfl) rfl rfl ?_; clear hS; try clear tm
  intro tm hS
  replace hS := hS.front 0 rfl
  obtain ⟨r2, hx2, h0⟩ := bindS h0
  refine o_callO hS (.inl rfl) rfl rfl (wk65  r1 axis1 (IntKind.i64.wrap (axis1 + 1))  v2 (hS.selN 1) hx2) (fun res H hp => ?_)
  obtain ⟨v3, hres, hI⟩ := hp
  replace hres := hres.symm; subst hres
  replace hS : S wm 22 _ H ((21, v3) :: _) ([.own (rI .i64) v3 r2] ++ _) Fr := hS.afterN rfl hI
  clear hI
  refine o_pure hS (.inl rfl) rfl rfl ?_; clear hS; try clear tm
  intro tm hS
  refine o_nil (hR _ _ ?_)
  clear hR R
  refine wpC.ret ?_
  obtain rfl := Option.some.inj h0
  refine Exists.intro _ (And.intro (rs_tmp hS rfl rs_nil) ?_)
  have hI := hS.inv
  exact ⟨v3, rfl, (hI.sub (sc sn))⟩
theorem wk41 {wm : Nat} {H : AHeap} {Fr : List Ent}  (row1 : Int) (x1 : Val)  (v1 : Value) (v2 : Value) (b1 : Nat) (hI : Kn wm H [.fz (rI .i64) v1 x1.Shape, .fz (rI .i64) v2 x1.Data, .fbox b1 [.bool x1.Char, v1, v2]] Fr) {r : Int} (h0 : M.turn_Rotate_1 row1 x1 = some r) :
  wpF Try.prog ora wm 41 [.int .i64 row1, .pointer (some ⟨b1, 0, none⟩)] H (fun res H => res = .int .i64 r ∧ Kn wm H [] Fr) := by
 unfold M.turn_Rotate_1 at h0
 refine f_enter (n := 9) Try.func41 rfl (by simp) hI rfl rfl rfl fun tm hS => ?_
 clear hI
 refine c_reg fun R hR => ?_
 refine o_pure hS (.inl rfl) rfl rfl ?_; clear hS; try clear tm
 intro tm hS
 refine o_nil (hR _ _ ?_)
 clear hR R
 refine c_reg fun R hR => ?_
 refine o_pure hS (.inl rfl) rfl rfl ?_; clear hS; try clear tm
 intro tm hS
 refine o_ld1 (k := 2) hS (.inl rfl) rfl rfl rfl (.inr rfl) Fu23 rfl rfl ?_; clear hS; try clear tm
 intro tm hS
 refine o_pure hS (.inl rfl) rfl rfl ?_; clear hS; try clear tm
 intro tm hS
 obtain ⟨y1, hx1, h0⟩ := bindS h0
 refine o_ixA (k := 1) (r := (rI .i64)) hS (.inl rfl) rfl rfl rfl rfl (.inl rfl) Fu23 Fs2 hx1 ?_; clear hS; try clear tm
 intro tm hS
 refine o_ldF (r := (rI .i64)) (k := 1) hS (.inl rfl) rfl rfl rfl (.inl rfl) hx1 Fu2 rfl (flat_I _) rfl ?_; clear hS; try clear tm
 intro tm hS
 refine o_pure hS (.inl rfl) rfl rfl ?_; clear hS; try clear tm
 intro tm hS
 refine o_nil (hR _ _ ?_)
 clear hR R
 refine wpC.ret ?_
 obtain rfl := Option.some.inj h0
 refine Exists.intro _ (And.intro (rs_tmp hS rfl rs_nil) ?_)
 have hI := hS.inv
 exact ⟨rfl, (hI.sub sn)⟩
theorem wk42 {wm : Nat} {H : AHeap} {Fr : List Ent}  (x1 : Int) (x2 : Val)  (v1 : Value) (v2 : Value) (b1 : Nat) (hI : Kn wm H [.fz (rI .i64) v1 x2.Shape, .fz (rI .i64) v2 x2.Data, .fbox b1 [.bool x2.Char, v1, v2]] Fr) {r : Int} (h0 : M.turn_Rotate_2 x1 x2 = some r) :
  wpF Try.prog ora wm 42 [.int .i64 x1, .pointer (some ⟨b1, 0, none⟩)] H (fun res H => res = .int .i64 r ∧ Kn wm H [] Fr) := by
 unfold M.turn_Rotate_2 at h0
 refine f_enter (n := 8) Try.func42 rfl (by simp) hI rfl rfl rfl fun tm hS => ?_
 clear hI
 refine c_reg fun R hR => ?_
 refine o_pure hS (.inl rfl) rfl rfl ?_; clear hS; try clear tm
 intro tm hS
 refine o_nil (hR _ _ ?_)
 clear hR R
 refine c_reg fun R hR => ?_
 refine o_pure hS (.inl rfl) rfl rfl ?_; clear hS; try clear tm
 intro tm hS
 refine o_ld1 (k := 2) hS (.inl rfl) rfl rfl rfl (.inr rfl) Fu23 rfl rfl ?_; clear hS; try clear tm
 intro tm hS
 obtain ⟨y1, hx1, h0⟩ := bindS h0
 refine o_ixA (k := 1) (r := (rI .i64)) hS (.inl rfl) rfl rfl rfl rfl (.inl rfl) Fu23 Fs2 hx1 ?_; clear hS; try clear tm
 intro tm hS
 refine o_ldF (r := (rI .i64)) (k := 1) hS (.inl rfl) rfl rfl rfl (.inl rfl) hx1 Fu2 rfl (flat_I _) rfl ?_; clear hS; try clear tm
 intro tm hS
 refine o_pure hS (.inl rfl) rfl rfl ?_; clear hS; try clear tm
 intro tm hS
 refine o_nil (hR _ _ ?_)
 clear hR R
 refine wpC.ret ?_
 obtain rfl := Option.some.inj h0
 refine Exists.intro _ (And.intro (rs_tmp hS rfl rs_nil) ?_)
 have hI := hS.inv
 exact ⟨rfl, (hI.sub sn)⟩
theorem wk43 {wm : Nat} {H : AHeap} {Fr : List Ent}  (s1 : (List Int)) (s2 : (List Int))  (v1 : Value) (v2 : Value) (hI : Kn wm H [.fz (rI .i64) v1 s1, .fz (rI .i64) v2 s2] Fr) {r : Bool} (h0 : M.slices_Equal__int s1 s2 = some r) :
  wpF Try.prog ora wm 43 [v1, v2] H (fun res H => res = .bool r ∧ Kn wm H [] Fr) := by
 unfold M.slices_Equal__int at h0
 refine f_enter (n := 26) Try.func43 rfl (by simp) hI rfl rfl rfl fun tm hS => ?_
 clear hI
 refine c_reg fun R hR => ?_
 refine o_pure hS (.inl rfl) rfl rfl ?_; clear hS; try clear tm
 intro tm hS
 refine o_nil (hR _ _ ?_)
 clear hR R
 refine c_seqS ?_
 refine c_reg fun R hR => ?_
 refine o_pure hS (.inl rfl) rfl rfl ?_; clear hS; try clear tm
 intro tm hS
 refine o_len (k := 0) (r := (rI .i64)) hS (.inl rfl) rfl rfl rfl (.inl rfl) Fu22 rfl ?_; clear hS; try clear tm
 intro tm hS
 refine o_pure hS (.inl rfl) rfl rfl ?_; clear hS; try clear tm
 intro tm hS
 refine o_len (k := 1) (r := (rI .i64)) hS (.inl rfl) rfl rfl rfl (.inl rfl) Fu22 rfl ?_; clear hS; try clear tm
 intro tm hS
 refine o_pure hS (.inl rfl) rfl rfl ?_; clear hS; try clear tm
 intro tm hS
 refine o_nil (hR _ _ ?_)
 clear hR R
 refine c_cond hS rfl (fun hc => ?_) (fun hc => ?_)
 ·replace h0 := iteT hc h0
  refine c_reg fun R hR => ?_
  refine o_pure hS (.inl rfl) rfl rfl ?_; clear hS; try clear tm
  intro tm hS
  refine o_nil (hR _ _ ?_)
  clear hR R
  refine wpC.ret ?_
  obtain rfl := Option.some.inj h0
  refine Exists.intro _ (And.intro (rs_tmp hS rfl rs_nil) ?_)
  have hI := hS.inv
  exact ⟨rfl, (hI.sub sn)⟩
 ·replace h0 := iteF hc h0
  refine wpC.skip ?_
  refine c_seqS ?_
  refine c_reg fun R hR => ?_
  refine o_pure hS (.inl rfl) rfl rfl ?_; clear hS; try clear tm
  intro tm hS
  refine o_len (k := 0) (r := (rI .i64)) hS (.inl rfl) rfl rfl rfl (.inl rfl) Fu22 rfl ?_; clear hS; try clear tm
  intro tm hS
  refine o_pure hS (.inl rfl) rfl rfl ?_; clear hS; try clear tm
  intro tm hS
  refine o_nil (hR _ _ ?_)
  clear hR R
  obtain ⟨k1, hw1, h0⟩ := bindS h0
  refine wpC.block ?_
  refine c_loop (I := fun (s : Int) tm H => match (generalizing := false) s with | t1 => S wm 26 tm H [(0, v1), (1, v2), (12, .int .i64 (s1.length : Int)), (13, .int .i64 t1)] [.fz (rI .i64) v1 s1, .fz (rI .i64) v2 s2] Fr) hw1 (by change S wm 26 _ _ _ _ Fr; exact hS.keep (ka_cons rfl (ka_cons rfl (ka_cons rfl (ka_cons rfl ka_nil)))) (fun hI => (hI.sub (sc (sc sn))))) ?_
  clear hS
  intro t1 tm H c1 hS h1 hq1
  change S wm 26 tm H [(0, v1), (1, v2), (12, .int .i64 (s1.length : Int)), (13, .int .i64 t1)] [.fz (rI .i64) v1 s1, .fz (rI .i64) v2 s2] Fr at hS
  refine c_reg fun R hR => ?_
  refine o_pure hS (.inl rfl) rfl rfl ?_; clear hS; try clear tm
  intro tm hS
  refine o_nil (hR _ _ ?_)
  clear hR R
  refine c_seqS ?_
  refine c_cond hS rfl (fun hc => ?_) (fun hc => ?_)
  ·replace h1 := iteT hc h1
   refine wpC.skip ?_
   refine c_seqS ?_
   refine wpC.block ?_
   refine c_reg fun R hR => ?_
   refine o_pure hS (.inl rfl) rfl rfl ?_; clear hS; try clear tm
   intro tm hS
   refine o_pure hS (.inl rfl) rfl rfl ?_; clear hS; try clear tm
   intro tm hS
   refine o_nil (hR _ _ ?_)
   clear hR R
   refine c_reg fun R hR => ?_
   refine o_pure hS (.inl rfl) rfl rfl ?_; clear hS; try clear tm
   intro tm hS
   refine o_pure hS (.inl rfl) rfl rfl ?_; clear hS; try clear tm
   intro tm hS
   obtain ⟨y1, hx1, h1⟩ := bindS h1
   refine o_ixA (k := 0) (r := (rI .i64)) hS (.inl rfl) rfl rfl rfl rfl (.inl rfl) Fu22 Fs3 hx1 ?_; clear hS; try clear tm
   intro tm hS
   refine o_ldF (r := (rI .i64)) (k := 0) hS (.inl rfl) rfl rfl rfl (.inl rfl) hx1 Fu3 rfl (flat_I _) rfl ?_; clear hS; try clear tm
   intro tm hS
   refine o_pure hS (.inl rfl) rfl rfl ?_; clear hS; try clear tm
   intro tm hS
   refine o_pure hS (.inl rfl) rfl rfl ?_; clear hS; try clear tm
   intro tm hS
   obtain ⟨y2, hx2, h1⟩ := bindS h1
   refine o_ixA (k := 1) (r := (rI .i64)) hS (.inl rfl) rfl rfl rfl rfl (.inl rfl) Fu22 Fs3 hx2 ?_; clear hS; try clear tm
   intro tm hS
   refine o_ldF (r := (rI .i64)) (k := 1) hS (.inl rfl) rfl rfl rfl (.inl rfl) hx2 Fu3 rfl (flat_I _) rfl ?_; clear hS; try clear tm
   intro tm hS
   refine o_pure hS (.inl rfl) rfl rfl ?_; clear hS; try clear tm
   intro tm hS
   refine o_nil (hR _ _ ?_)
   clear hR R
   refine c_cond hS rfl (fun hc => ?_) (fun hc => ?_)
   ·replace h1 := iteT hc h1
    refine c_reg fun R hR => ?_
    refine o_pure hS (.inl rfl) rfl rfl ?_; clear hS; try clear tm
    intro tm hS
    refine o_nil (hR _ _ ?_)
    clear hR R
    refine wpC.ret ?_
    obtain rfl := Option.some.inj h1
    obtain rfl := hq1 _ rfl
    refine And.intro rfl ?_
    obtain rfl := leave h0
    refine Exists.intro _ (And.intro (rs_tmp hS rfl rs_nil) ?_)
    have hI := hS.inv
    exact ⟨rfl, (hI.sub sn)⟩
   ·replace h1 := iteF hc h1
    refine wpC.skip ?_
    refine c_reg1 fun R hR => ?_
    refine o_pure hS (.inl rfl) rfl rfl ?_; clear hS; try clear tm
    intro tm hS
    refine o_pure hS (.inl rfl) rfl rfl ?_; clear hS; try clear tm
    intro tm hS
    refine o_nil (hR _ _ ?_)
    clear hR R
    obtain rfl := Option.some.inj h1
    refine ⟨_, rfl, ?_⟩
    change S wm 26 _ _ _ _ Fr; exact hS.keep (ka_cons rfl (ka_cons rfl (ka_cons rfl (ka_cons rfl ka_nil)))) (fun hI => (hI.sub (sc (sc sn))))
  ·replace h1 := iteF hc h1
   refine wpC.exit ?_
   refine seqX ?_
   obtain rfl := Option.some.inj h1
   obtain rfl := hq1 _ rfl
   refine And.intro rfl (blk_eq ?_)
   replace h0 := joinN h0
   refine c_reg fun R hR => ?_
   refine o_pure hS (.inl rfl) rfl rfl ?_; clear hS; try clear tm
   intro tm hS
   refine o_nil (hR _ _ ?_)
   clear hR R
   refine wpC.ret ?_
   obtain rfl := Option.some.inj h0
   refine Exists.intro _ (And.intro (rs_tmp hS rfl rs_nil) ?_)
   have hI := hS.inv
   exact ⟨rfl, (hI.sub sn)⟩
theorem wk66 {wm : Nat} {H : AHeap} {Fr : List Ent}  (k1 : Int) (x1 : Int) (x2 : Int) (x3 : (Int → Option (Int))) (gfn3 : FuncId) (gcap3 : Array Value) (E : List Ent) (hE : ∀ e ∈ E, e.blk = none) (hf : ∀ {wm : Nat} {H : AHeap} {Fr : List Ent} (y0 : Int) , Kn wm H (E) Fr → ∀ {r : Int}, x3 y0 = some r → wpF Try.prog ora wm gfn3 ([.int .i64 y0] ++ gcap3.toList) H (fun res H => res = .int .i64 r ∧ Kn wm H [] Fr)) (b1 : Nat) (b2 : Nat) (b3 : Nat) (hI : Kn wm H (.fbox b1 [.int .i64 x1] :: .fbox b2 [.int .i64 x2] :: .fbox b3 [.func (.func gfn3) #[] gcap3] :: E) Fr) {r : Int} (h0 : M.turn_rolled_1 k1 x1 x2 x3 = some r) :
  wpF Try.prog ora wm 66 [.int .i64 k1, .pointer (some ⟨b1, 0, none⟩), .pointer (some ⟨b2, 0, none⟩), .pointer (some ⟨b3, 0, none⟩)] H (fun res H => res = .int .i64 r ∧ Kn wm H [] Fr) := by
 unfold M.turn_rolled_1 at h0
 refine f_enter (n := 43) Try.func66 rfl (by simp) hI rfl rfl rfl fun tm hS => ?_
 clear hI
 refine c_reg fun R hR => ?_
 refine o_pure hS (.inl rfl) rfl rfl ?_; clear hS; try clear tm
 intro tm hS
 refine o_nil (hR _ _ ?_)
 clear hR R
 refine c_reg fun R hR => ?_
 refine o_pure hS (.inl rfl) rfl rfl ?_; clear hS; try clear tm
 intro tm hS
 refine o_ld1 (k := 0) hS (.inl rfl) rfl rfl rfl (.inr rfl) Fu3 rfl rfl ?_; clear hS; try clear tm
 intro tm hS
 refine o_ld1 (k := 1) hS (.inl rfl) rfl rfl rfl (.inr rfl) Fu3 rfl rfl ?_; clear hS; try clear tm
 intro tm hS
 refine o_pure hS (.inl rfl) rfl rfl ?_; clear hS; try clear tm
 intro tm hS
 obtain ⟨q1, hx1, h0⟩ := bindS h0
 refine o_quo hS (.inl rfl) rfl rfl rfl hx1 ?_; clear hS; try clear tm
 intro tm hS
 refine o_ld1 (k := 1) hS (.inl rfl) rfl rfl rfl (.inr rfl) Fu3 rfl rfl ?_; clear hS; try clear tm
 intro tm hS
 refine o_pure hS (.inl rfl) rfl rfl ?_; clear hS; try clear tm
 intro tm hS
 refine o_pure hS (.inl rfl) rfl rfl ?_; clear hS; try clear tm
 intro tm hS
 refine o_ld1 (k := 1) hS (.inl rfl) rfl rfl rfl (.inr rfl) Fu3 rfl rfl ?_; clear hS; try clear tm
 intro tm hS
 obtain ⟨q2, hx2, h0⟩ := bindS h0
 refine o_rem hS (.inl rfl) rfl rfl rfl hx2 ?_; clear hS; try clear tm
 intro tm hS
 refine o_pure hS (.inl rfl) rfl rfl ?_; clear hS; try clear tm
 intro tm hS
 refine o_pure hS (.inl rfl) rfl rfl ?_; clear hS; try clear tm
 intro tm hS
 refine o_ld1 (k := 1) hS (.inl rfl) rfl rfl rfl (.inr rfl) Fu3 rfl rfl ?_; clear hS; try clear tm
 intro tm hS
 obtain ⟨q3, hx3, h0⟩ := bindS h0
 refine o_quo hS (.inl rfl) rfl rfl rfl hx3 ?_; clear hS; try clear tm
 intro tm hS
 refine o_ld1 (k := 0) hS (.inl rfl) rfl rfl rfl (.inr rfl) Fu3 rfl rfl ?_; clear hS; try clear tm
 intro tm hS
 obtain ⟨q4, hx4, h0⟩ := bindS h0
 refine o_rem hS (.inl rfl) rfl rfl rfl hx4 ?_; clear hS; try clear tm
 intro tm hS
 refine o_pure hS (.inl rfl) rfl rfl ?_; clear hS; try clear tm
 intro tm hS
 refine o_pure hS (.inl rfl) rfl rfl ?_; clear hS; try clear tm
 intro tm hS
 refine o_nil (hR _ _ ?_)
 clear hR R
 refine c_reg fun R hR => ?_
 refine o_pure hS (.inl rfl) rfl rfl ?_; clear hS; try clear tm
 intro tm hS
 refine o_ld1 (k := 2) hS (.inl rfl) rfl rfl rfl (.inr rfl) Fu71 rfl rfl ?_; clear hS; try clear tm
 intro tm hS
 refine o_pure hS (.inl rfl) rfl rfl ?_; clear hS; try clear tm
 intro tm hS
 obtain ⟨r1, hx5, h0⟩ := bindS h0
 refine o_call hS (.inl rfl) rfl (fun wm' hw1 hw2 => hf (IntKind.i64.wrap ((IntKind.i64.wrap (q1 * x2)) + q2))  ((hS.sel hw2).adAll hE (fun e he => List.mem_cons_of_mem _ (List.mem_cons_of_mem _ (List.mem_cons_of_mem _ (he))))) hx5) (fun wm' res H hw' hp => ?_)
 obtain ⟨hres, hI⟩ := hp
 replace hres := hres.symm; subst hres
 replace hS : S wm 43 _ H ((28, .int .i64 r1) :: _) ([] ++ _) Fr := hS.after rfl hw' hI
 clear hI hw'
 refine o_ld1 (k := 0) hS (.inl rfl) rfl rfl rfl (.inr rfl) Fu3 rfl rfl ?_; clear hS; try clear tm
 intro tm hS
 obtain ⟨q5, hx6, h0⟩ := bindS h0
 refine o_rem hS (.inl rfl) rfl rfl rfl hx6 ?_; clear hS; try clear tm
 intro tm hS
 refine o_pure hS (.inl rfl) rfl rfl ?_; clear hS; try clear tm
 intro tm hS
 refine o_ld1 (k := 0) hS (.inl rfl) rfl rfl rfl (.inr rfl) Fu3 rfl rfl ?_; clear hS; try clear tm
 intro tm hS
 refine o_pure hS (.inl rfl) rfl rfl ?_; clear hS; try clear tm
 intro tm hS
 refine o_ld1 (k := 0) hS (.inl rfl) rfl rfl rfl (.inr rfl) Fu3 rfl rfl ?_; clear hS; try clear tm
 intro tm hS
 obtain ⟨q6, hx7, h0⟩ := bindS h0
 refine o_rem hS (.inl rfl) rfl rfl rfl hx7 ?_; clear hS; try clear tm
 intro tm hS
 refine o_pure hS (.inl rfl) rfl rfl ?_; clear hS; try clear tm
 intro tm hS
 refine o_nil (hR _ _ ?_)
 clear hR R
 refine c_reg fun R hR => ?_
 refine o_pure hS (.inl rfl) rfl rfl ?_; clear hS; try clear tm
 intro tm hS
 refine o_pure hS (.inl rfl) rfl rfl ?_; clear hS; try clear tm
 intro tm hS
 refine o_pure hS (.inl rfl) rfl rfl ?_; clear hS; try clear tm
 intro tm hS
 refine o_pure hS (.inl rfl) rfl rfl ?_; clear hS; try clear tm
 intro tm hS
 refine o_ld1 (k := 1) hS (.inl rfl) rfl rfl rfl (.inr rfl) Fu3 rfl rfl ?_; clear hS; try clear tm
 intro tm hS
 refine o_pure hS (.inl rfl) rfl rfl ?_; clear hS; try clear tm
 intro tm hS
 refine o_pure hS (.inl rfl) rfl rfl ?_; clear hS; try clear tm
 intro tm hS
 refine o_pure hS (.inl rfl) rfl rfl ?_; clear hS; try clear tm
 intro tm hS
 refine o_nil (hR _ _ ?_)
 clear hR R
 refine wpC.ret ?_
 obtain rfl := Option.some.inj h0
 refine Exists.intro _ (And.intro (rs_tmp hS rfl rs_nil) ?_)
 have hI := hS.inv
 exact ⟨rfl, (hI.sub sn)⟩
theorem wk44 {wm : Nat} {H : AHeap} {Fr : List Ent}  (b1 : Val) (axis1 : Int) (by1 : (Int → Option (Int))) (gfn2 : FuncId) (gcap2 : Array Value) (E : List Ent) (hE : ∀ e ∈ E, e.blk = none) (hf : ∀ {wm : Nat} {H : AHeap} {Fr : List Ent} (y0 : Int) , Kn wm H (E) Fr → ∀ {r : Int}, by1 y0 = some r → wpF Try.prog ora wm gfn2 ([.int .i64 y0] ++ gcap2.toList) H (fun res H => res = .int .i64 r ∧ Kn wm H [] Fr)) (v1 : Value) (v2 : Value) (hI : Kn wm H (.fz (rI .i64) v1 b1.Shape :: .fz (rI .i64) v2 b1.Data :: E) Fr) {r : Val} (h0 : M.turn_rolled b1 axis1 by1 = some r) :
  wpF Try.prog ora wm 44 [.agg #[.bool b1.Char, v1, v2], .int .i64 axis1, .func (.func gfn2) #[] gcap2] H (fun res H => ∃ v5 v6, res = .agg #[.bool r.Char, v5, v6] ∧ Kn wm H [.own (rI .i64) v5 r.Shape, .own (rI .i64) v6 r.Data] Fr) := by
 unfold M.turn_rolled at h0
 refine f_enter (n := 25) Try.func44 rfl (by simp) hI rfl rfl rfl fun tm hS => ?_
 clear hI
 refine c_reg fun R hR => ?_
 refine o_box hS (.inl rfl) rfl rfl rfl (all_cons rfl (all_cons (hS.one (k := 0) rfl (.inl rfl)) (all_cons (hS.one (k := 1) rfl (.inl rfl)) all_nil))) ?_; clear hS; try clear tm H
 intro b2 tm H hS
 refine o_box hS (.inl rfl) rfl rfl rfl (all_cons rfl all_nil) ?_; clear hS; try clear tm H
 intro b3 tm H hS
 refine o_alloc hS (.inl rfl) rfl Fz25 (by decide) ?_; clear hS; try clear tm H
 intro b4 tm H hS
 refine o_nil (hR _ _ ?_)
 clear hR R
 refine c_reg fun R hR => ?_
 refine o_pure hS (.inl rfl) rfl rfl ?_; clear hS; try clear tm
 intro tm hS
 refine o_ld1 (k := 2) hS (.inl rfl) rfl rfl rfl (.inl rfl) Fu22 rfl rfl ?_; clear hS; try clear tm
 intro tm hS
 refine o_pure hS (.inl rfl) rfl rfl ?_; clear hS; try clear tm
 intro tm hS
 obtain ⟨⟨r1, r2, r3, r4⟩, hx1, h0⟩ := bindS h0
 refine o_call hS (.inl rfl) rfl (fun wm' hw1 hw2 => wk56  b1.Shape axis1  v1 ((hS.sel hw2).ad 3 rfl) hx1) (fun wm' res H hw' hp => ?_)
 obtain ⟨hres, hI⟩ := hp
 replace hres := hres.symm; subst hres
 replace hS : S wm 25 _ H ((15, .tuple #[.int .i64 r1, .int .i64 r2, .int .i64 r3, .bool r4]) :: _) ([] ++ _) Fr := hS.after rfl hw' hI
 clear hI hw'
 refine o_pure hS (.inl rfl) rfl rfl ?_; clear hS; try clear tm
 intro tm hS
 refine o_pure hS (.inl rfl) rfl rfl ?_; clear hS; try clear tm
 intro tm hS
 refine o_pure hS (.inl rfl) rfl rfl ?_; clear hS; try clear tm
 intro tm hS
 refine o_pure hS (.inl rfl) rfl rfl ?_; clear hS; try clear tm
 intro tm hS
 refine o_pure hS (.inl rfl) rfl rfl ?_; clear hS; try clear tm
 intro tm hS
 refine o_alloc hS (.inl rfl) rfl Fz3 (by decide) ?_; clear hS; try clear tm H
 intro b5 tm H hS
 refine o_alloc hS (.inl rfl) rfl Fz3 (by decide) ?_; clear hS; try clear tm H
 intro b6 tm H hS
 refine o_pure hS (.inl rfl) rfl rfl ?_; clear hS; try clear tm
 intro tm hS
 refine o_st (k := 1) hS (.inl rfl) rfl rfl rfl Fs3 rfl rfl (all_cons rfl all_nil) rfl ?_; clear hS; try clear H
 intro H hS
 refine o_st (k := 0) hS (.inl rfl) rfl rfl rfl Fs3 rfl rfl (all_cons rfl all_nil) rfl ?_; clear hS; try clear H
 intro H hS
 refine o_pure hS (.inl rfl) rfl rfl ?_; clear hS; try clear tm
 intro tm hS
 refine o_nil (hR _ _ ?_)
 clear hR R
 refine c_reg fun R hR => ?_
 refine o_ldA (k := 4) hS (.inl rfl) rfl rfl rfl (.inl rfl) Fu25 rfl Fs25 rfl ?_; clear hS; try clear tm
 intro tm hS
 refine o_pure hS (.inl rfl) rfl rfl ?_; clear hS; try clear tm
 intro tm hS
 refine o_ld1 (k := 4) hS (.inl rfl) rfl rfl rfl (.inl rfl) Fu22 rfl rfl ?_; clear hS; try clear tm
 intro tm hS
 refine o_pure hS (.inl rfl) rfl rfl ?_; clear hS; try clear tm
 intro tm hS
 replace hS := hS.frzBox (k := 1) rfl
 replace hS := hS.frzBox (k := 0) rfl
 replace hS := hS.frzBox (k := 3) rfl
 obtain ⟨r5, hx2, h0⟩ := bindS h0
 refine o_call hS (.inl rfl) rfl (fun wm' hw1 hw2 => wk57  b1 b1.Shape (fun x0 => M.turn_rolled_1 x0 r2 r3 by1) 66 #[.pointer (some ⟨b5, 0, none⟩), .pointer (some ⟨b6, 0, none⟩), .pointer (some ⟨b3, 0, none⟩)] (.fbox b5 [.int .i64 r2] :: .fbox b6 [.int .i64 r3] :: .fbox b3 [.func (.func gfn2) #[] gcap2] :: E) (List.forall_mem_cons.mpr ⟨rfl, (List.forall_mem_cons.mpr ⟨rfl, (List.forall_mem_cons.mpr ⟨rfl, hE⟩)⟩)⟩) (fun x0 hI _ h0 => wk66  x0 r2 r3 by1 gfn2 gcap2 E hE hf b5 b6 b3 hI h0) v1 v2 v1 ((((((((hS.sel hw2).adAll hE (fun e he => List.mem_cons_of_mem _ (List.mem_cons_of_mem _ (List.mem_cons_of_mem _ (List.mem_cons_of_mem _ (List.mem_cons_of_mem _ (List.mem_cons_of_mem _ (List.mem_cons_of_mem _ (he))))))))).adB 3 rfl).adB 0 rfl).adB 1 rfl).ad 5 rfl).ad 6 rfl).ad 5 rfl) hx2) (fun wm' res H hw' hp => ?_)
 obtain ⟨v3, v4, hres, hI⟩ := hp
 replace hres := hres.symm; subst hres
 replace hS : S wm 25 _ H ((24, .agg #[.bool r5.Char, v3, v4]) :: _) ([.own (rI .i64) v3 r5.Shape, .own (rI .i64) v4 r5.Data] ++ _) Fr := hS.after rfl hw' hI
 clear hI hw'
 refine o_st (k := 4) hS (.inl rfl) rfl rfl rfl Fs25 rfl rfl (all_cons rfl (all_cons (hS.one (k := 0) rfl (.inr (.inl rfl))) (all_cons (hS.one (k := 1) rfl (.inr (.inl rfl))) all_nil))) rfl ?_; clear hS; try clear H
 intro H hS
 refine o_nil (hR _ _ ?_)
 clear hR R
 refine wpC.ret ?_
 obtain rfl := Option.some.inj h0
 refine Exists.intro _ (And.intro (rs_cellA (k := 4) hS rfl rfl (.inl rfl) Fu25 rfl Fs25 rfl rs_nil) ?_)
 have hI := hS.inv
 exact ⟨v3, v4, rfl, (hI.sub (sc (sc sn)))⟩
theorem wk20 {wm : Nat} {H : AHeap} {Fr : List Ent}  (a1 : Val) (b1 : Val) (axis1 : Int)  (v1 : Value) (v2 : Value) (v3 : Value) (v4 : Value) (hI : Kn wm H [.fz (rI .i64) v1 a1.Shape, .fz (rI .i64) v2 a1.Data, .fz (rI .i64) v3 b1.Shape, .fz (rI .i64) v4 b1.Data] Fr) {r : Val × Int} (h0 : M.turn_Rotate a1 b1 axis1 = some r) :
  wpF Try.prog ora wm 20 [.agg #[.bool a1.Char, v1, v2], .agg #[.bool b1.Char, v3, v4], .int .i64 axis1] H (fun res H => ∃ v14 v15, res = .tuple #[.agg #[.bool r.1.Char, v14, v15], .int .i64 r.2] ∧ Kn wm H [.own (rI .i64) v14 r.1.Shape, .own (rI .i64) v15 r.1.Data] Fr) := by
 unfold M.turn_Rotate at h0
 refine f_enter (n := 83) Try.func20 rfl (by simp) hI rfl rfl rfl fun tm hS => ?_
 clear hI
 refine c_reg fun R hR => ?_
 refine o_box hS (.inl rfl) rfl rfl rfl (all_cons rfl (all_cons (hS.one (k := 0) rfl (.inl rfl)) (all_cons (hS.one (k := 1) rfl (.inl rfl)) all_nil))) ?_; clear hS; try clear tm H
 intro b2 tm H hS
 refine o_box hS (.inl rfl) rfl rfl rfl (all_cons rfl (all_cons (hS.one (k := 3) rfl (.inl rfl)) (all_cons (hS.one (k := 4) rfl (.inl rfl)) all_nil))) ?_; clear hS; try clear tm H
 intro b3 tm H hS
 refine o_alloc hS (.inl rfl) rfl Fz25 (by decide) ?_; clear hS; try clear tm H
 intro b4 tm H hS
 refine o_pure hS (.inl rfl) rfl rfl ?_; clear hS; try clear tm
 intro tm hS
 refine o_nil (hR _ _ ?_)
 clear hR R
 refine c_seqS ?_
 refine c_reg fun R hR => ?_
 refine o_ldA (k := 2) hS (.inl rfl) rfl rfl rfl (.inl rfl) Fu25 rfl Fs25 rfl ?_; clear hS; try clear tm
 intro tm hS
 obtain ⟨r1, hx1, h0⟩ := bindS h0
 refine o_call hS (.inl rfl) rfl (fun wm' hw1 hw2 => wk25  a1  v1 v2 (((hS.sel hw2).ad 4 rfl).ad 3 rfl) hx1) (fun wm' res H hw' hp => ?_)
 obtain ⟨hres, hI⟩ := hp
 replace hres := hres.symm; subst hres
 replace hS : S wm 83 _ H ((12, .bool r1) :: _) ([] ++ _) Fr := hS.after rfl hw' hI
 clear hI hw'
 refine o_pure hS (.inl rfl) rfl rfl ?_; clear hS; try clear tm
 intro tm hS
 refine o_pure hS (.inl rfl) rfl rfl ?_; clear hS; try clear tm
 intro tm hS
 obtain ⟨c1, hc1, h0⟩ := bindS h0
 refine o_cutN 4 (J := fun tm H => S wm 83 tm H [(18, .bool c1), (2, .int .i64 axis1), (3, .pointer (some ⟨b2, 0, none⟩)), (4, .pointer (some ⟨b3, 0, none⟩)), (6, .pointer (some ⟨b4, 0, none⟩))] [.box b4 [.bool false, (.slice none 0 0), (.slice none 0 0)], .box b3 [.bool b1.Char, v3, v4], .box b2 [.bool a1.Char, v1, v2], .fz (rI .i64) v1 a1.Shape, .fz (rI .i64) v2 a1.Data, .fz (rI .i64) v3 b1.Shape, .fz (rI .i64) v4 b1.Data] Fr) ?_ ?_
 ·rcases Bool.eq_false_or_eq_true (!r1) with hg1 | hg1
  ·replace hc1 := iteT hg1 hc1
   refine o_skip hS rfl rfl rfl hg1 ?_; clear hS; try clear tm
   intro tm hS
   refine o_skip hS rfl rfl rfl hg1 ?_; clear hS; try clear tm
   intro tm hS
   refine o_skip hS rfl rfl rfl hg1 ?_; clear hS; try clear tm
   intro tm hS
   refine o_pickT hS (.inl rfl) rfl rfl hg1 rfl ?_; clear hS; try clear tm
   intro tm hS
   obtain rfl := Option.some.inj hc1
   exact o_nil (hS.keep (ka_cons rfl (ka_cons rfl (ka_cons rfl (ka_cons rfl (ka_cons rfl ka_nil))))) (fun hI => (hI.sub (sc (sc (sc (sc (sc (sc (sc sn))))))))))
  ·replace hc1 := iteF hg1 hc1
   refine o_ldA (k := 1) hS (.inr ⟨_, _, _, _, rfl, rfl, rfl, hg1⟩) rfl rfl rfl (.inl rfl) Fu25 rfl Fs25 rfl ?_; clear hS; try clear tm
   intro tm hS
   obtain ⟨r2, hx2, hc1⟩ := bindS hc1
   refine o_call hS (.inr ⟨_, _, _, _, rfl, rfl, rfl, hg1⟩) rfl (fun wm' hw1 hw2 => wk25  b1  v3 v4 (((hS.sel hw2).ad 6 rfl).ad 5 rfl) hx2) (fun wm' res H hw' hp => ?_)
   obtain ⟨hres, hI⟩ := hp
   replace hres := hres.symm; subst hres
   replace hS : S wm 83 _ H ((16, .bool r2) :: _) ([] ++ _) Fr := hS.after rfl hw' hI
   clear hI hw'
   refine o_pure hS (.inr ⟨_, _, _, _, rfl, rfl, rfl, hg1⟩) rfl rfl ?_; clear hS; try clear tm
   intro tm hS
   refine o_pickF hS (.inl rfl) rfl rfl hg1 rfl ?_; clear hS; try clear tm
   intro tm hS
   obtain rfl := Option.some.inj hc1
   exact o_nil (hS.keep (ka_cons rfl (ka_cons rfl (ka_cons rfl (ka_cons rfl (ka_cons rfl ka_nil))))) (fun hI => (hI.sub (sc (sc (sc (sc (sc (sc (sc sn))))))))))
 intro tm H hS
 refine o_nil (hR _ _ ?_)
 clear hR R
 refine c_cond hS rfl (fun hc => ?_) (fun hc => ?_)
 ·replace h0 := iteT hc h0
  refine c_reg fun R hR => ?_
  refine o_build hS (.inl rfl) rfl Fb25 rfl .nil rfl ?_; clear hS; try clear tm
  intro tm hS
  refine o_st (k := 0) hS (.inl rfl) rfl rfl rfl Fs25 rfl rfl (all_cons rfl (all_cons rfl (all_cons rfl all_nil))) rfl ?_; clear hS; try clear H
  intro H hS
  refine o_pure hS (.inl rfl) rfl rfl ?_; clear hS; try clear tm
  intro tm hS
  refine o_nil (hR _ _ ?_)
  clear hR R
  refine wpC.ret ?_
  obtain rfl := Option.some.inj h0
  replace hS := hS.nilOwn (rI .i64)
  replace hS := hS.nilOwn (rI .i64)
  refine Exists.intro _ (And.intro (rs_cellA (k := 2) hS rfl rfl (.inl rfl) Fu25 rfl Fs25 rfl (rs_tmp hS rfl rs_nil)) ?_)
  have hI := hS.inv
  exact ⟨(.slice none 0 0), (.slice none 0 0), rfl, (((hI.pull 0 rfl).pull 1 rfl).take 2)⟩
 ·replace h0 := iteF hc h0
  refine wpC.skip ?_
  refine c_reg fun R hR => ?_
  refine o_pure hS (.inl rfl) rfl rfl ?_; clear hS; try clear tm
  intro tm hS
  refine o_ld1 (k := 1) hS (.inl rfl) rfl rfl rfl (.inl rfl) Fu22 rfl rfl ?_; clear hS; try clear tm
  intro tm hS
  refine o_pure hS (.inl rfl) rfl rfl ?_; clear hS; try clear tm
  intro tm hS
  obtain ⟨⟨r3, r4⟩, hx3, h0⟩ := bindS h0
  refine o_call hS (.inl rfl) rfl (fun wm' hw1 hw2 => wk29  b1.Shape axis1  v3 ((hS.sel hw2).ad 5 rfl) hx3) (fun wm' res H hw' hp => ?_)
  obtain ⟨hres, hI⟩ := hp
  replace hres := hres.symm; subst hres
  replace hS : S wm 83 _ H ((24, .tuple #[.int .i64 r3, .bool r4]) :: _) ([] ++ _) Fr := hS.after rfl hw' hI
  clear hI hw'
  refine o_pure hS (.inl rfl) rfl rfl ?_; clear hS; try clear tm
  intro tm hS
  refine o_pure hS (.inl rfl) rfl rfl ?_; clear hS; try clear tm
  intro tm hS
  refine o_pure hS (.inl rfl) rfl rfl ?_; clear hS; try clear tm
  intro tm hS
  refine o_pure hS (.inl rfl) rfl rfl ?_; clear hS; try clear tm
  intro tm hS
  refine o_pure hS (.inl rfl) rfl rfl ?_; clear hS; try clear tm
  intro tm hS
  refine o_nil (hR _ _ ?_)
  clear hR R
  refine c_reg fun R hR => ?_
  refine o_pure hS (.inl rfl) rfl rfl ?_; clear hS; try clear tm
  intro tm hS
  refine o_ld1 (k := 1) hS (.inl rfl) rfl rfl rfl (.inl rfl) Fu22 rfl rfl ?_; clear hS; try clear tm
  intro tm hS
  refine o_pure hS (.inl rfl) rfl rfl ?_; clear hS; try clear tm
  intro tm hS
  obtain ⟨r5, hx4, h0⟩ := bindS h0
  refine o_call hS (.inl rfl) rfl (fun wm' hw1 hw2 => wk40  b1.Shape r3  v3 ((hS.sel hw2).ad 5 rfl) hx4) (fun wm' res H hw' hp => ?_)
  obtain ⟨v5, hres, hI⟩ := hp
  replace hres := hres.symm; subst hres
  replace hS : S wm 83 _ H ((30, v5) :: _) ([.own (rI .i64) v5 r5] ++ _) Fr := hS.after rfl hw' hI
  clear hI hw'
  refine o_pure hS (.inl rfl) rfl rfl ?_; clear hS; try clear tm
  intro tm hS
  refine o_nil (hR _ _ ?_)
  clear hR R
  refine c_reg fun R hR => ?_
  refine o_pure hS (.inl rfl) rfl rfl ?_; clear hS; try clear tm
  intro tm hS
  refine o_pure hS (.inl rfl) rfl rfl ?_; clear hS; try clear tm
  intro tm hS
  refine o_nil (hR _ _ ?_)
  clear hR R
  refine c_seqS ?_
  refine c_reg fun R hR => ?_
  refine o_pure hS (.inl rfl) rfl rfl ?_; clear hS; try clear tm
  intro tm hS
  refine o_ld1 (k := 3) hS (.inl rfl) rfl rfl rfl (.inl rfl) Fu23 rfl rfl ?_; clear hS; try clear tm
  intro tm hS
  refine o_len (k := 5) (r := (rI .i64)) hS (.inl rfl) rfl rfl rfl (.inl rfl) Fu23 rfl ?_; clear hS; try clear tm
  intro tm hS
  refine o_pure hS (.inl rfl) rfl rfl ?_; clear hS; try clear tm
  intro tm hS
  refine o_nil (hR _ _ ?_)
  clear hR R
  refine c_cond hS rfl (fun hc => ?_) (fun hc => ?_)
  ·replace h0 := iteT hc h0
   refine c_reg1 fun R hR => ?_
   refine o_pure hS (.inl rfl) rfl rfl ?_; clear hS; try clear tm
   intro tm hS
   refine o_pure hS (.inl rfl) rfl rfl ?_; clear hS; try clear tm
   intro tm hS
   refine o_nil (hR _ _ ?_)
   clear hR R
   refine c_seqS ?_
   refine wpC.block ?_
   refine c_reg fun R hR => ?_
   refine o_pure hS (.inl rfl) rfl rfl ?_; clear hS; try clear tm
   intro tm hS
   refine o_pure hS (.inl rfl) rfl rfl ?_; clear hS; try clear tm
   intro tm hS
   refine o_pure hS (.inl rfl) rfl rfl ?_; clear hS; try clear tm
   intro tm hS
   refine o_nil (hR _ _ ?_)
   clear hR R
   refine c_cond hS rfl (fun hc => ?_) (fun hc => ?_)
   ·replace h0 := iteT hc h0
    refine c_reg fun R hR => ?_
    refine o_build hS (.inl rfl) rfl Fb25 rfl .nil rfl ?_; clear hS; try clear tm
    intro tm hS
    refine o_st (k := 1) hS (.inl rfl) rfl rfl rfl Fs25 rfl rfl (all_cons rfl (all_cons rfl (all_cons rfl all_nil))) rfl ?_; clear hS; try clear H
    intro H hS
    refine o_pure hS (.inl rfl) rfl rfl ?_; clear hS; try clear tm
    intro tm hS
    refine o_nil (hR _ _ ?_)
    clear hR R
    refine wpC.ret ?_
    obtain rfl := Option.some.inj h0
    replace hS := hS.nilOwn (rI .i64)
    replace hS := hS.nilOwn (rI .i64)
    refine Exists.intro _ (And.intro (rs_cellA (k := 3) hS rfl rfl (.inl rfl) Fu25 rfl Fs25 rfl (rs_tmp hS rfl rs_nil)) ?_)
    have hI := hS.inv
    exact ⟨(.slice none 0 0), (.slice none 0 0), rfl, (((hI.pull 0 rfl).pull 1 rfl).take 2)⟩
   ·replace h0 := iteF hc h0
    refine c_reg fun R hR => ?_
    refine o_pure hS (.inl rfl) rfl rfl ?_; clear hS; try clear tm
    intro tm hS
    refine o_ld1 (k := 3) hS (.inl rfl) rfl rfl rfl (.inl rfl) Fu4 rfl rfl ?_; clear hS; try clear tm
    intro tm hS
    refine o_pure hS (.inl rfl) rfl rfl ?_; clear hS; try clear tm
    intro tm hS
    refine o_nil (hR _ _ ?_)
    clear hR R
    refine c_cond hS rfl (fun hc => ?_) (fun hc => ?_)
    ·replace h0 := iteT hc h0
     refine c_reg fun R hR => ?_
     refine o_build hS (.inl rfl) rfl Fb25 rfl .nil rfl ?_; clear hS; try clear tm
     intro tm hS
     refine o_st (k := 1) hS (.inl rfl) rfl rfl rfl Fs25 rfl rfl (all_cons rfl (all_cons rfl (all_cons rfl all_nil))) rfl ?_; clear hS; try clear H
     intro H hS
     refine o_pure hS (.inl rfl) rfl rfl ?_; clear hS; try clear tm
     intro tm hS
     refine o_nil (hR _ _ ?_)
     clear hR R
     refine wpC.ret ?_
     obtain rfl := Option.some.inj h0
     replace hS := hS.nilOwn (rI .i64)
     replace hS := hS.nilOwn (rI .i64)
     refine Exists.intro _ (And.intro (rs_cellA (k := 3) hS rfl rfl (.inl rfl) Fu25 rfl Fs25 rfl (rs_tmp hS rfl rs_nil)) ?_)
     have hI := hS.inv
     exact ⟨(.slice none 0 0), (.slice none 0 0), rfl, (((hI.pull 0 rfl).pull 1 rfl).take 2)⟩
    ·replace h0 := iteF hc h0
     refine c_reg fun R hR => ?_
     refine o_pure hS (.inl rfl) rfl rfl ?_; clear hS; try clear tm
     intro tm hS
     refine o_ld1 (k := 3) hS (.inl rfl) rfl rfl rfl (.inl rfl) Fu23 rfl rfl ?_; clear hS; try clear tm
     intro tm hS
     refine o_len (k := 5) (r := (rI .i64)) hS (.inl rfl) rfl rfl rfl (.inl rfl) Fu23 rfl ?_; clear hS; try clear tm
     intro tm hS
     refine o_pure hS (.inl rfl) rfl rfl ?_; clear hS; try clear tm
     intro tm hS
     refine o_pure hS (.inl rfl) rfl rfl ?_; clear hS; try clear tm
     intro tm hS
     obtain ⟨c2, hc2⟩ : ∃ x : Bool, x = (((a1.Data.length : Int) != 1) && ((a1.Shape.length : Int) != (r5.length : Int))) := ⟨_, rfl⟩
     refine o_cutN 7 (J := fun tm H => S wm 83 tm H [(57, .bool c2), (2, .int .i64 r3), (3, .pointer (some ⟨b2, 0, none⟩)), (4, .pointer (some ⟨b3, 0, none⟩)), (6, .pointer (some ⟨b4, 0, none⟩)), (9, v5), (10, .func (.func 42) #[] #[.pointer (some ⟨b2, 0, none⟩)])] [.own (rI .i64) v5 r5, .box b4 [.bool false, (.slice none 0 0), (.slice none 0 0)], .box b3 [.bool b1.Char, v3, v4], .box b2 [.bool a1.Char, v1, v2], .fz (rI .i64) v1 a1.Shape, .fz (rI .i64) v2 a1.Data, .fz (rI .i64) v3 b1.Shape, .fz (rI .i64) v4 b1.Data] Fr) ?_ ?_
     ·rcases Bool.eq_false_or_eq_true ((a1.Data.length : Int) != 1) with hg2 | hg2
      ·refine o_pure hS (.inr ⟨_, _, _, _, rfl, rfl, rfl, hg2⟩) rfl rfl ?_; clear hS; try clear tm
       intro tm hS
       refine o_ld1 (k := 3) hS (.inr ⟨_, _, _, _, rfl, rfl, rfl, hg2⟩) rfl rfl rfl (.inl rfl) Fu22 rfl rfl ?_; clear hS; try clear tm
       intro tm hS
       refine o_len (k := 4) (r := (rI .i64)) hS (.inr ⟨_, _, _, _, rfl, rfl, rfl, hg2⟩) rfl rfl rfl (.inl rfl) Fu22 rfl ?_; clear hS; try clear tm
       intro tm hS
       refine o_pure hS (.inr ⟨_, _, _, _, rfl, rfl, rfl, hg2⟩) rfl rfl ?_; clear hS; try clear tm
       intro tm hS
       refine o_len (k := 0) (r := (rI .i64)) hS (.inr ⟨_, _, _, _, rfl, rfl, rfl, hg2⟩) rfl rfl rfl (.inr (.inl rfl)) Fu22 rfl ?_; clear hS; try clear tm
       intro tm hS
       refine o_pure hS (.inr ⟨_, _, _, _, rfl, rfl, rfl, hg2⟩) rfl rfl ?_; clear hS; try clear tm
       intro tm hS
       refine o_pickT hS (.inl rfl) rfl rfl hg2 rfl ?_; clear hS; try clear tm
       intro tm hS
       have hc2 : c2 = ((a1.Shape.length : Int) != (r5.length : Int)) := hc2.trans (by rw [hg2]; first | rfl | simp)
       subst hc2
       exact o_nil (hS.keep (ka_cons rfl (ka_cons rfl (ka_cons rfl (ka_cons rfl (ka_cons rfl (ka_cons rfl (ka_cons rfl ka_nil))))))) (fun hI => (hI.sub (sc (sc (sc (sc (sc (sc (sc (sc sn)))))))))))
      ·refine o_skip hS rfl rfl rfl hg2 ?_; clear hS; try clear tm
       intro tm hS
       refine o_skip hS rfl rfl rfl hg2 ?_; clear hS; try clear tm
       intro tm hS
       refine o_skip hS rfl rfl rfl hg2 ?_; clear hS; try clear tm
       intro tm hS
       refine o_skip hS rfl rfl rfl hg2 ?_; clear hS; try clear tm
       intro tm hS
       refine o_skip hS rfl rfl rfl hg2 ?_; clear hS; try clear tm
       intro tm hS
       refine o_skip hS rfl rfl rfl hg2 ?_; clear hS; try clear tm
       intro tm hS
       refine o_pickF hS (.inl rfl) rfl rfl hg2 rfl ?_; clear hS; try clear tm
       intro tm hS
       have hc2 : c2 = false := hc2.trans (by rw [hg2]; first | rfl | simp)
       subst hc2
       exact o_nil (hS.keep (ka_cons rfl (ka_cons rfl (ka_cons rfl (ka_cons rfl (ka_cons rfl (ka_cons rfl (ka_cons rfl ka_nil))))))) (fun hI => (hI.sub (sc (sc (sc (sc (sc (sc (sc (sc sn)))))))))))
     intro tm H hS
     subst hc2
     refine o_pure hS (.inl rfl) rfl rfl ?_; clear hS; try clear tm
     intro tm hS
     refine o_nil (hR _ _ ?_)
     clear hR R
     refine c_cond hS rfl (fun hc => ?_) (fun hc => ?_)
     ·replace h0 := iteT hc h0
      refine c_reg fun R hR => ?_
      refine o_build hS (.inl rfl) rfl Fb25 rfl .nil rfl ?_; clear hS; try clear tm
      intro tm hS
      refine o_st (k := 1) hS (.inl rfl) rfl rfl rfl Fs25 rfl rfl (all_cons rfl (all_cons rfl (all_cons rfl all_nil))) rfl ?_; clear hS; try clear H
      intro H hS
      refine o_pure hS (.inl rfl) rfl rfl ?_; clear hS; try clear tm
      intro tm hS
      refine o_nil (hR _ _ ?_)
      clear hR R
      refine wpC.ret ?_
      obtain rfl := Option.some.inj h0
      replace hS := hS.nilOwn (rI .i64)
      replace hS := hS.nilOwn (rI .i64)
      refine Exists.intro _ (And.intro (rs_cellA (k := 3) hS rfl rfl (.inl rfl) Fu25 rfl Fs25 rfl (rs_tmp hS rfl rs_nil)) ?_)
      have hI := hS.inv
      exact ⟨(.slice none 0 0), (.slice none 0 0), rfl, (((hI.pull 0 rfl).pull 1 rfl).take 2)⟩
     ·replace h0 := iteF hc h0
      refine c_reg fun R hR => ?_
      refine o_pure hS (.inl rfl) rfl rfl ?_; clear hS; try clear tm
      intro tm hS
      refine o_ld1 (k := 3) hS (.inl rfl) rfl rfl rfl (.inl rfl) Fu23 rfl rfl ?_; clear hS; try clear tm
      intro tm hS
      refine o_len (k := 5) (r := (rI .i64)) hS (.inl rfl) rfl rfl rfl (.inl rfl) Fu23 rfl ?_; clear hS; try clear tm
      intro tm hS
      refine o_pure hS (.inl rfl) rfl rfl ?_; clear hS; try clear tm
      intro tm hS
      refine o_pure hS (.inl rfl) rfl rfl ?_; clear hS; try clear tm
      intro tm hS
      obtain ⟨c3, hc3, h0⟩ := bindS h0
      refine o_cutN 6 (J := fun tm H => S wm 83 tm H [(70, .bool c3), (2, .int .i64 r3), (4, .pointer (some ⟨b3, 0, none⟩)), (6, .pointer (some ⟨b4, 0, none⟩)), (10, .func (.func 42) #[] #[.pointer (some ⟨b2, 0, none⟩)])] [.box b4 [.bool false, (.slice none 0 0), (.slice none 0 0)], .box b3 [.bool b1.Char, v3, v4], .box b2 [.bool a1.Char, v1, v2], .fz (rI .i64) v1 a1.Shape, .fz (rI .i64) v2 a1.Data, .fz (rI .i64) v3 b1.Shape, .fz (rI .i64) v4 b1.Data] Fr) ?_ ?_
      ·rcases Bool.eq_false_or_eq_true ((a1.Data.length : Int) != 1) with hg3 | hg3
       ·replace hc3 := iteT hg3 hc3
        refine o_pure hS (.inr ⟨_, _, _, _, rfl, rfl, rfl, hg3⟩) rfl rfl ?_; clear hS; try clear tm
        intro tm hS
        refine o_ld1 (k := 3) hS (.inr ⟨_, _, _, _, rfl, rfl, rfl, hg3⟩) rfl rfl rfl (.inl rfl) Fu22 rfl rfl ?_; clear hS; try clear tm
        intro tm hS
        refine o_pure hS (.inr ⟨_, _, _, _, rfl, rfl, rfl, hg3⟩) rfl rfl ?_; clear hS; try clear tm
        intro tm hS
        obtain ⟨r6, hx5, hc3⟩ := bindS hc3
        refine o_call (Pc := fun _ res H => res = .bool r6 ∧ Kn wm H ([.own (rI .i64) v5 r5, .box b4 [.bool false, (.slice none 0 0), (.slice none 0 0)], .box b3 [.bool b1.Char, v3, v4], .box b2 [.bool a1.Char, v1, v2], .fz (rI .i64) v1 a1.Shape, .fz (rI .i64) v2 a1.Data, .fz (rI .i64) v3 b1.Shape, .fz (rI .i64) v4 b1.Data]) Fr) hS (.inr ⟨_, _, _, _, rfl, rfl, rfl, hg3⟩) rfl (fun wm' hw1 hw2 => by
         obtain ⟨F2, k1, k2⟩ := hS.inv.lend (La := [.fz (rI .i64) v1 a1.Shape, .fz (rI .i64) v5 r5]) (List.forall_mem_cons.mpr ⟨(.inl ⟨rfl, List.mem_of_getElem? (i := 4) rfl⟩), (List.forall_mem_cons.mpr ⟨(.inr ⟨_, _, _, _, rfl, .inl (List.mem_of_getElem? (i := 0) rfl)⟩), (fun _ h => by cases h)⟩)⟩) hw1 hw2
         exact (wk43  a1.Shape r5  v1 v5 k1 hx5).mono fun res H2 ⟨q1, q2⟩ => ⟨q1, k2 _ q2⟩) (fun wm' res H hw' hp => ?_)
        obtain ⟨hres, hI⟩ := hp
        replace hres := hres.symm; subst hres
        replace hS : S wm 83 _ H ((68, .bool r6) :: _) ([.own (rI .i64) v5 r5, .box b4 [.bool false, (.slice none 0 0), (.slice none 0 0)], .box b3 [.bool b1.Char, v3, v4], .box b2 [.bool a1.Char, v1, v2], .fz (rI .i64) v1 a1.Shape, .fz (rI .i64) v2 a1.Data, .fz (rI .i64) v3 b1.Shape, .fz (rI .i64) v4 b1.Data]) Fr := (hS.put rfl _).withK hI
        clear hI hw'
        refine o_pure hS (.inr ⟨_, _, _, _, rfl, rfl, rfl, hg3⟩) rfl rfl ?_; clear hS; try clear tm
        intro tm hS
        refine o_pickT hS (.inl rfl) rfl rfl hg3 rfl ?_; clear hS; try clear tm
        intro tm hS
        obtain rfl := Option.some.inj hc3
        exact o_nil (hS.keep (ka_cons rfl (ka_cons rfl (ka_cons rfl (ka_cons rfl (ka_cons rfl ka_nil))))) (fun hI => (hI.sub (sd (sc (sc (sc (sc (sc (sc (sc sn)))))))))))
       ·replace hc3 := iteF hg3 hc3
        refine o_skip hS rfl rfl rfl hg3 ?_; clear hS; try clear tm
        intro tm hS
        refine o_skip hS rfl rfl rfl hg3 ?_; clear hS; try clear tm
        intro tm hS
        refine o_skip hS rfl rfl rfl hg3 ?_; clear hS; try clear tm
        intro tm hS
        refine o_skip hS rfl rfl rfl hg3 ?_; clear hS; try clear tm
        intro tm hS
        refine o_skip hS rfl rfl rfl hg3 ?_; clear hS; try clear tm
        intro tm hS
        refine o_pickF hS (.inl rfl) rfl rfl hg3 rfl ?_; clear hS; try clear tm
        intro tm hS
        obtain rfl := Option.some.inj hc3
        exact o_nil (hS.keep (ka_cons rfl (ka_cons rfl (ka_cons rfl (ka_cons rfl (ka_cons rfl ka_nil))))) (fun hI => (hI.sub (sd (sc (sc (sc (sc (sc (sc (sc sn)))))))))))
      intro tm H hS
      refine o_pure hS (.inl rfl) rfl rfl ?_; clear hS; try clear tm
      intro tm hS
      refine o_nil (hR _ _ ?_)
      clear hR R
      refine c_cond hS rfl (fun hc => ?_) (fun hc => ?_)
      ·replace h0 := iteT hc h0
       refine c_reg fun R hR => ?_
       refine o_build hS (.inl rfl) rfl Fb25 rfl .nil rfl ?_; clear hS; try clear tm
       intro tm hS
       refine o_st (k := 0) hS (.inl rfl) rfl rfl rfl Fs25 rfl rfl (all_cons rfl (all_cons rfl (all_cons rfl all_nil))) rfl ?_; clear hS; try clear H
       intro H hS
       refine o_pure hS (.inl rfl) rfl rfl ?_; clear hS; try clear tm
       intro tm hS
       refine o_nil (hR _ _ ?_)
       clear hR R
       refine wpC.ret ?_
       obtain rfl := Option.some.inj h0
       replace hS := hS.nilOwn (rI .i64)
       replace hS := hS.nilOwn (rI .i64)
       refine Exists.intro _ (And.intro (rs_cellA (k := 2) hS rfl rfl (.inl rfl) Fu25 rfl Fs25 rfl (rs_tmp hS rfl rs_nil)) ?_)
       have hI := hS.inv
       exact ⟨(.slice none 0 0), (.slice none 0 0), rfl, (((hI.pull 0 rfl).pull 1 rfl).take 2)⟩
      ·replace h0 := iteF hc h0
       refine c_reg fun R hR => ?_
       refine o_pure hS (.inl rfl) rfl rfl ?_; clear hS; try clear tm
       intro tm hS
       refine o_ld1 (k := 1) hS (.inl rfl) rfl rfl rfl (.inl rfl) Fu22 rfl rfl ?_; clear hS; try clear tm
       intro tm hS
       refine o_len (k := 5) (r := (rI .i64)) hS (.inl rfl) rfl rfl rfl (.inl rfl) Fu22 rfl ?_; clear hS; try clear tm
       intro tm hS
       refine o_pure hS (.inl rfl) rfl rfl ?_; clear hS; try clear tm
       intro tm hS
       refine o_pure hS (.inl rfl) rfl rfl ?_; clear hS; try clear tm
       intro tm hS
       refine o_nil (hR _ _ ?_)
       clear hR R
       refine c_cond hS rfl (fun hc => ?_) (fun hc => ?_)
       ·replace h0 := iteT hc h0
        refine c_reg fun R hR => ?_
        refine o_ldA (k := 1) hS (.inl rfl) rfl rfl rfl (.inl rfl) Fu25 rfl Fs25 rfl ?_; clear hS; try clear tm
        intro tm hS
        obtain ⟨r7, hx6, h0⟩ := bindS h0
        refine o_call hS (.inl rfl) rfl (fun wm' hw1 hw2 => wk30  b1  v3 v4 (((hS.sel hw2).ad 6 rfl).ad 5 rfl) hx6) (fun wm' res H hw' hp => ?_)
        obtain ⟨v6, v7, hres, hI⟩ := hp
        replace hres := hres.symm; subst hres
        replace hS : S wm 83 _ H ((78, .agg #[.bool r7.Char, v6, v7]) :: _) ([.own (rI .i64) v6 r7.Shape, .own (rI .i64) v7 r7.Data] ++ _) Fr := hS.after rfl hw' hI
        clear hI hw'
        refine o_st (k := 2) hS (.inl rfl) rfl rfl rfl Fs25 rfl rfl (all_cons rfl (all_cons (hS.one (k := 0) rfl (.inr (.inl rfl))) (all_cons (hS.one (k := 1) rfl (.inr (.inl rfl))) all_nil))) rfl ?_; clear hS; try clear H
        intro H hS
        refine o_pure hS (.inl rfl) rfl rfl ?_; clear hS; try clear tm
        intro tm hS
        refine o_nil (hR _ _ ?_)
        clear hR R
        refine wpC.ret ?_
        obtain rfl := Option.some.inj h0
        refine Exists.intro _ (And.intro (rs_cellA (k := 2) hS rfl rfl (.inl rfl) Fu25 rfl Fs25 rfl (rs_tmp hS rfl rs_nil)) ?_)
        have hI := hS.inv
        exact ⟨v6, v7, rfl, (hI.sub (sc (sc sn)))⟩
       ·replace h0 := iteF hc h0
        refine wpC.skip ?_
        refine c_reg fun R hR => ?_
        refine o_ldA (k := 1) hS (.inl rfl) rfl rfl rfl (.inl rfl) Fu25 rfl Fs25 rfl ?_; clear hS; try clear tm
        intro tm hS
        refine o_pure hS (.inl rfl) rfl rfl ?_; clear hS; try clear tm
        intro tm hS
        refine o_pure hS (.inl rfl) rfl rfl ?_; clear hS; try clear tm
        intro tm hS
        replace hS := hS.frzBox (k := 2) rfl
        obtain ⟨r8, hx7, h0⟩ := bindS h0
        refine o_call hS (.inl rfl) rfl (fun wm' hw1 hw2 => wk44  b1 r3 (fun x0 => M.turn_Rotate_2 x0 a1) 42 #[.pointer (some ⟨b2, 0, none⟩)] [.fz (rI .i64) v1 a1.Shape, .fz (rI .i64) v2 a1.Data, .fbox b2 [.bool a1.Char, v1, v2]] (by simp [Ent.blk]) (fun x0 hI _ h0 => wk42  x0 a1  v1 v2 b2 hI h0) v3 v4 ((((((hS.sel hw2).adB 2 rfl).ad 4 rfl).ad 3 rfl).ad 6 rfl).ad 5 rfl) hx7) (fun wm' res H hw' hp => ?_)
        obtain ⟨v8, v9, hres, hI⟩ := hp
        replace hres := hres.symm; subst hres
        replace hS : S wm 83 _ H ((82, .agg #[.bool r8.Char, v8, v9]) :: _) ([.own (rI .i64) v8 r8.Shape, .own (rI .i64) v9 r8.Data] ++ _) Fr := hS.after rfl hw' hI
        clear hI hw'
        refine o_st (k := 2) hS (.inl rfl) rfl rfl rfl Fs25 rfl rfl (all_cons rfl (all_cons (hS.one (k := 0) rfl (.inr (.inl rfl))) (all_cons (hS.one (k := 1) rfl (.inr (.inl rfl))) all_nil))) rfl ?_; clear hS; try clear H
        intro H hS
        refine o_pure hS (.inl rfl) rfl rfl ?_; clear hS; try clear tm
        intro tm hS
        refine o_nil (hR _ _ ?_)
        clear hR R
        refine wpC.ret ?_
        obtain rfl := Option.some.inj h0
        refine Exists.intro _ (And.intro (rs_cellA (k := 2) hS rfl rfl (.inl rfl) Fu25 rfl Fs25 rfl (rs_tmp hS rfl rs_nil)) ?_)
        have hI := hS.inv
        exact ⟨v8, v9, rfl, (hI.sub (sc (sc sn)))⟩
  ·replace h0 := iteF hc h0
   refine wpC.skip ?_
   refine c_seqS ?_
   refine wpC.block ?_
   refine c_reg fun R hR => ?_
   refine o_pure hS (.inl rfl) rfl rfl ?_; clear hS; try clear tm
   intro tm hS
   refine o_pure hS (.inl rfl) rfl rfl ?_; clear hS; try clear tm
   intro tm hS
   refine o_pure hS (.inl rfl) rfl rfl ?_; clear hS; try clear tm
   intro tm hS
   refine o_nil (hR _ _ ?_)
   clear hR R
   refine c_cond hS rfl (fun hc => ?_) (fun hc => ?_)
   ·replace h0 := iteT hc h0
    refine c_reg fun R hR => ?_
    refine o_build hS (.inl rfl) rfl Fb25 rfl .nil rfl ?_; clear hS; try clear tm
    intro tm hS
    refine o_st (k := 1) hS (.inl rfl) rfl rfl rfl Fs25 rfl rfl (all_cons rfl (all_cons rfl (all_cons rfl all_nil))) rfl ?_; clear hS; try clear H
    intro H hS
    refine o_pure hS (.inl rfl) rfl rfl ?_; clear hS; try clear tm
    intro tm hS
    refine o_nil (hR _ _ ?_)
    clear hR R
    refine wpC.ret ?_
    obtain rfl := Option.some.inj h0
    replace hS := hS.nilOwn (rI .i64)
    replace hS := hS.nilOwn (rI .i64)
    refine Exists.intro _ (And.intro (rs_cellA (k := 3) hS rfl rfl (.inl rfl) Fu25 rfl Fs25 rfl (rs_tmp hS rfl rs_nil)) ?_)
    have hI := hS.inv
    exact ⟨(.slice none 0 0), (.slice none 0 0), rfl, (((hI.pull 0 rfl).pull 1 rfl).take 2)⟩
   ·replace h0 := iteF hc h0
    refine c_reg fun R hR => ?_
    refine o_pure hS (.inl rfl) rfl rfl ?_; clear hS; try clear tm
    intro tm hS
    refine o_ld1 (k := 3) hS (.inl rfl) rfl rfl rfl (.inl rfl) Fu4 rfl rfl ?_; clear hS; try clear tm
    intro tm hS
    refine o_pure hS (.inl rfl) rfl rfl ?_; clear hS; try clear tm
    intro tm hS
    refine o_nil (hR _ _ ?_)
    clear hR R
    refine c_cond hS rfl (fun hc => ?_) (fun hc => ?_)
    ·replace h0 := iteT hc h0
     refine c_reg fun R hR => ?_
     refine o_build hS (.inl rfl) rfl Fb25 rfl .nil rfl ?_; clear hS; try clear tm
     intro tm hS
     refine o_st (k := 1) hS (.inl rfl) rfl rfl rfl Fs25 rfl rfl (all_cons rfl (all_cons rfl (all_cons rfl all_nil))) rfl ?_; clear hS; try clear H
     intro H hS
     refine o_pure hS (.inl rfl) rfl rfl ?_; clear hS; try clear tm
     intro tm hS
     refine o_nil (hR _ _ ?_)
     clear hR R
     refine wpC.ret ?_
     obtain rfl := Option.some.inj h0
     replace hS := hS.nilOwn (rI .i64)
     replace hS := hS.nilOwn (rI .i64)
     refine Exists.intro _ (And.intro (rs_cellA (k := 3) hS rfl rfl (.inl rfl) Fu25 rfl Fs25 rfl (rs_tmp hS rfl rs_nil)) ?_)
     have hI := hS.inv
     exact ⟨(.slice none 0 0), (.slice none 0 0), rfl, (((hI.pull 0 rfl).pull 1 rfl).take 2)⟩
    ·replace h0 := iteF hc h0
     refine c_reg fun R hR => ?_
     refine o_pure hS (.inl rfl) rfl rfl ?_; clear hS; try clear tm
     intro tm hS
     refine o_ld1 (k := 3) hS (.inl rfl) rfl rfl rfl (.inl rfl) Fu23 rfl rfl ?_; clear hS; try clear tm
     intro tm hS
     refine o_len (k := 5) (r := (rI .i64)) hS (.inl rfl) rfl rfl rfl (.inl rfl) Fu23 rfl ?_; clear hS; try clear tm
     intro tm hS
     refine o_pure hS (.inl rfl) rfl rfl ?_; clear hS; try clear tm
     intro tm hS
     refine o_pure hS (.inl rfl) rfl rfl ?_; clear hS; try clear tm
     intro tm hS
     obtain ⟨c4, hc4⟩ : ∃ x : Bool, x = (((a1.Data.length : Int) != 1) && ((a1.Shape.length : Int) != (r5.length : Int))) := ⟨_, rfl⟩
     refine o_cutN 7 (J := fun tm H => S wm 83 tm H [(57, .bool c4), (2, .int .i64 r3), (3, .pointer (some ⟨b2, 0, none⟩)), (4, .pointer (some ⟨b3, 0, none⟩)), (6, .pointer (some ⟨b4, 0, none⟩)), (9, v5), (10, .func (.func 41) #[] #[.pointer (some ⟨b2, 0, none⟩)])] [.own (rI .i64) v5 r5, .box b4 [.bool false, (.slice none 0 0), (.slice none 0 0)], .box b3 [.bool b1.Char, v3, v4], .box b2 [.bool a1.Char, v1, v2], .fz (rI .i64) v1 a1.Shape, .fz (rI .i64) v2 a1.Data, .fz (rI .i64) v3 b1.Shape, .fz (rI .i64) v4 b1.Data] Fr) ?_ ?_
     ·rcases Bool.eq_false_or_eq_true ((a1.Data.length : Int) != 1) with hg4 | hg4
      ·refine o_pure hS (.inr ⟨_, _, _, _, rfl, rfl, rfl, hg4⟩) rfl rfl ?_; clear hS; try clear tm
       intro tm hS
       refine o_ld1 (k := 3) hS (.inr ⟨_, _, _, _, rfl, rfl, rfl, hg4⟩) rfl rfl rfl (.inl rfl) Fu22 rfl rfl ?_; clear hS; try clear tm
       intro tm hS
       refine o_len (k := 4) (r := (rI .i64)) hS (.inr ⟨_, _, _, _, rfl, rfl, rfl, hg4⟩) rfl rfl rfl (.inl rfl) Fu22 rfl ?_; clear hS; try clear tm
       intro tm hS
       refine o_pure hS (.inr ⟨_, _, _, _, rfl, rfl, rfl, hg4⟩) rfl rfl ?_; clear hS; try clear tm
       intro tm hS
       refine o_len (k := 0) (r := (rI .i64)) hS (.inr ⟨_, _, _, _, rfl, rfl, rfl, hg4⟩) rfl rfl rfl (.inr (.inl rfl)) Fu22 rfl ?_; clear hS; try clear tm
       intro tm hS
       refine o_pure hS (.inr ⟨_, _, _, _, rfl, rfl, rfl, hg4⟩) rfl rfl ?_; clear hS; try clear tm
       intro tm hS
       refine o_pickT hS (.inl rfl) rfl rfl hg4 rfl ?_; clear hS; try clear tm
       intro tm hS
       have hc4 : c4 = ((a1.Shape.length : Int) != (r5.length : Int)) := hc4.trans (by rw [hg4]; first | rfl | simp)
       subst hc4
       exact o_nil (hS.keep (ka_cons rfl (ka_cons rfl (ka_cons rfl (ka_cons rfl (ka_cons rfl (ka_cons rfl (ka_cons rfl ka_nil))))))) (fun hI => (hI.sub (sc (sc (sc (sc (sc (sc (sc (sc sn)))))))))))
      ·refine o_skip hS rfl rfl rfl hg4 ?_; clear hS; try clear tm
       intro tm hS
       refine o_skip hS rfl rfl rfl hg4 ?_; clear hS; try clear tm
       intro tm hS
       refine o_skip hS rfl rfl rfl hg4 ?_; clear hS; try clear tm
       intro tm hS
       refine o_skip hS rfl rfl rfl hg4 ?_; clear hS; try clear tm
       intro tm hS
       refine o_skip hS rfl rfl rfl hg4 ?_; clear hS; try clear tm
       intro tm hS
       refine o_skip hS rfl rfl rfl hg4 ?_; clear hS; try clear tm
       intro tm hS
       refine o_pickF hS (.inl rfl) rfl rfl hg4 rfl ?_; clear hS; try clear tm
       intro tm hS
       have hc4 : c4 = false := hc4.trans (by rw [hg4]; first | rfl | simp)
       subst hc4
       exact o_nil (hS.keep (ka_cons rfl (ka_cons rfl (ka_cons rfl (ka_cons rfl (ka_cons rfl (ka_cons rfl (ka_cons rfl ka_nil))))))) (fun hI => (hI.sub (sc (sc (sc (sc (sc (sc (sc (sc sn)))))))))))
     intro tm H hS
     subst hc4
     refine o_pure hS (.inl rfl) rfl rfl ?_; clear hS; try clear tm
     intro tm hS
     refine o_nil (hR _ _ ?_)
     clear hR R
     refine c_cond hS rfl (fun hc => ?_) (fun hc => ?_)
     ·replace h0 := iteT hc h0
      refine c_reg fun R hR => ?_
      refine o_build hS (.inl rfl) rfl Fb25 rfl .nil rfl ?_; clear hS; try clear tm
      intro tm hS
      refine o_st (k := 1) hS (.inl rfl) rfl rfl rfl Fs25 rfl rfl (all_cons rfl (all_cons rfl (all_cons rfl all_nil))) rfl ?_; clear hS; try clear H
      intro H hS
      refine o_pure hS (.inl rfl) rfl rfl ?_; clear hS; try clear tm
      intro tm hS
      refine o_nil (hR _ _ ?_)
      clear hR R
      refine wpC.ret ?_
      obtain rfl := Option.some.inj h0
      replace hS := hS.nilOwn (rI .i64)
      replace hS := hS.nilOwn (rI .i64)
      refine Exists.intro _ (And.intro (rs_cellA (k := 3) hS rfl rfl (.inl rfl) Fu25 rfl Fs25 rfl (rs_tmp hS rfl rs_nil)) ?_)
      have hI := hS.inv
      exact ⟨(.slice none 0 0), (.slice none 0 0), rfl, (((hI.pull 0 rfl).pull 1 rfl).take 2)⟩
     ·replace h0 := iteF hc h0
      refine c_reg fun R hR => ?_
      refine o_pure hS (.inl rfl) rfl rfl ?_; clear hS; try clear tm
      intro tm hS
      refine o_ld1 (k := 3) hS (.inl rfl) rfl rfl rfl (.inl rfl) Fu23 rfl rfl ?_; clear hS; try clear tm
      intro tm hS
      refine o_len (k := 5) (r := (rI .i64)) hS (.inl rfl) rfl rfl rfl (.inl rfl) Fu23 rfl ?_; clear hS; try clear tm
      intro tm hS
      refine o_pure hS (.inl rfl) rfl rfl ?_; clear hS; try clear tm
      intro tm hS
      refine o_pure hS (.inl rfl) rfl rfl ?_; clear hS; try clear tm
      intro tm hS
      obtain ⟨c5, hc5, h0⟩ := bindS h0
      refine o_cutN 6 (J := fun tm H => S wm 83 tm H [(70, .bool c5), (2, .int .i64 r3), (4, .pointer (some ⟨b3, 0, none⟩)), (6, .pointer (some ⟨b4, 0, none⟩)), (10, .func (.func 41) #[] #[.pointer (some ⟨b2, 0, none⟩)])] [.box b4 [.bool false, (.slice none 0 0), (.slice none 0 0)], .box b3 [.bool b1.Char, v3, v4], .box b2 [.bool a1.Char, v1, v2], .fz (rI .i64) v1 a1.Shape, .fz (rI .i64) v2 a1.Data, .fz (rI .i64) v3 b1.Shape, .fz (rI .i64) v4 b1.Data] Fr) ?_ ?_
      ·rcases Bool.eq_false_or_eq_true ((a1.Data.length : Int) != 1) with hg5 | hg5
       ·replace hc5 := iteT hg5 hc5
        refine o_pure hS (.inr ⟨_, _, _, _, rfl, rfl, rfl, hg5⟩) rfl rfl ?_; clear hS; try clear tm
        intro tm hS
        refine o_ld1 (k := 3) hS (.inr ⟨_, _, _, _, rfl, rfl, rfl, hg5⟩) rfl rfl rfl (.inl rfl) Fu22 rfl rfl ?_; clear hS; try clear tm
        intro tm hS
        refine o_pure hS (.inr ⟨_, _, _, _, rfl, rfl, rfl, hg5⟩) rfl rfl ?_; clear hS; try clear tm
        intro tm hS
        obtain ⟨r9, hx8, hc5⟩ := bindS hc5
        refine o_call (Pc := fun _ res H => res = .bool r9 ∧ Kn wm H ([.own (rI .i64) v5 r5, .box b4 [.bool false, (.slice none 0 0), (.slice none 0 0)], .box b3 [.bool b1.Char, v3, v4], .box b2 [.bool a1.Char, v1, v2], .fz (rI .i64) v1 a1.Shape, .fz (rI .i64) v2 a1.Data, .fz (rI .i64) v3 b1.Shape, .fz (rI .i64) v4 b1.Data]) Fr) hS (.inr ⟨_, _, _, _, rfl, rfl, rfl, hg5⟩) rfl (fun wm' hw1 hw2 => by
         obtain ⟨F2, k1, k2⟩ := hS.inv.lend (La := [.fz (rI .i64) v1 a1.Shape, .fz (rI .i64) v5 r5]) (List.forall_mem_cons.mpr ⟨(.inl ⟨rfl, List.mem_of_getElem? (i := 4) rfl⟩), (List.forall_mem_cons.mpr ⟨(.inr ⟨_, _, _, _, rfl, .inl (List.mem_of_getElem? (i := 0) rfl)⟩), (fun _ h => by cases h)⟩)⟩) hw1 hw2
         exact (wk43  a1.Shape r5  v1 v5 k1 hx8).mono fun res H2 ⟨q1, q2⟩ => ⟨q1, k2 _ q2⟩) (fun wm' res H hw' hp => ?_)
        obtain ⟨hres, hI⟩ := hp
        replace hres := hres.symm; subst hres
        replace hS : S wm 83 _ H ((68, .bool r9) :: _) ([.own (rI .i64) v5 r5, .box b4 [.bool false, (.slice none 0 0), (.slice none 0 0)], .box b3 [.bool b1.Char, v3, v4], .box b2 [.bool a1.Char, v1, v2], .fz (rI .i64) v1 a1.Shape, .fz (rI .i64) v2 a1.Data, .fz (rI .i64) v3 b1.Shape, .fz (rI .i64) v4 b1.Data]) Fr := (hS.put rfl _).withK hI
        clear hI hw'
        refine o_pure hS (.inr ⟨_, _, _, _, rfl, rfl, rfl, hg5⟩) rfl rfl ?_; clear hS; try clear tm
        intro tm hS
        refine o_pickT hS (.inl rfl) rfl rfl hg5 rfl ?_; clear hS; try clear tm
        intro tm hS
        obtain rfl := Option.some.inj hc5
        exact o_nil (hS.keep (ka_cons rfl (ka_cons rfl (ka_cons rfl (ka_cons rfl (ka_cons rfl ka_nil))))) (fun hI => (hI.sub (sd (sc (sc (sc (sc (sc (sc (sc sn)))))))))))
       ·replace hc5 := iteF hg5 hc5
        refine o_skip hS rfl rfl rfl hg5 ?_; clear hS; try clear tm
        intro tm hS
        refine o_skip hS rfl rfl rfl hg5 ?_; clear hS; try clear tm
        intro tm hS
        refine o_skip hS rfl rfl rfl hg5 ?_; clear hS; try clear tm
        intro tm hS
        refine o_skip hS rfl rfl rfl hg5 ?_; clear hS; try clear tm
        intro tm hS
        refine o_skip hS rfl rfl rfl hg5 ?_; clear hS; try clear tm
        intro tm hS
        refine o_pickF hS (.inl rfl) rfl rfl hg5 rfl ?_; clear hS; try clear tm
        intro tm hS
        obtain rfl := Option.some.inj hc5
        exact o_nil (hS.keep (ka_cons rfl (ka_cons rfl (ka_cons rfl (ka_cons rfl (ka_cons rfl ka_nil))))) (fun hI => (hI.sub (sd (sc (sc (sc (sc (sc (sc (sc sn)))))))))))
      intro tm H hS
      refine o_pure hS (.inl rfl) rfl rfl ?_; clear hS; try clear tm
      intro tm hS
      refine o_nil (hR _ _ ?_)
      clear hR R
      refine c_cond hS rfl (fun hc => ?_) (fun hc => ?_)
      ·replace h0 := iteT hc h0
       refine c_reg fun R hR => ?_
       refine o_build hS (.inl rfl) rfl Fb25 rfl .nil rfl ?_; clear hS; try clear tm
       intro tm hS
       refine o_st (k := 0) hS (.inl rfl) rfl rfl rfl Fs25 rfl rfl (all_cons rfl (all_cons rfl (all_cons rfl all_nil))) rfl ?_; clear hS; try clear H
       intro H hS
       refine o_pure hS (.inl rfl) rfl rfl ?_; clear hS; try clear tm
       intro tm hS
       refine o_nil (hR _ _ ?_)
       clear hR R
       refine wpC.ret ?_
       obtain rfl := Option.some.inj h0
       replace hS := hS.nilOwn (rI .i64)
       replace hS := hS.nilOwn (rI .i64)
       refine Exists.intro _ (And.intro (rs_cellA (k := 2) hS rfl rfl (.inl rfl) Fu25 rfl Fs25 rfl (rs_tmp hS rfl rs_nil)) ?_)
       have hI := hS.inv
       exact ⟨(.slice none 0 0), (.slice none 0 0), rfl, (((hI.pull 0 rfl).pull 1 rfl).take 2)⟩
      ·replace h0 := iteF hc h0
       refine c_reg fun R hR => ?_
       refine o_pure hS (.inl rfl) rfl rfl ?_; clear hS; try clear tm
       intro tm hS
       refine o_ld1 (k := 1) hS (.inl rfl) rfl rfl rfl (.inl rfl) Fu22 rfl rfl ?_; clear hS; try clear tm
       intro tm hS
       refine o_len (k := 5) (r := (rI .i64)) hS (.inl rfl) rfl rfl rfl (.inl rfl) Fu22 rfl ?_; clear hS; try clear tm
       intro tm hS
       refine o_pure hS (.inl rfl) rfl rfl ?_; clear hS; try clear tm
       intro tm hS
       refine o_pure hS (.inl rfl) rfl rfl ?_; clear hS; try clear tm
       intro tm hS
       refine o_nil (hR _ _ ?_)
       clear hR R
       refine c_cond hS rfl (fun hc => ?_) (fun hc => ?_)
       ·replace h0 := iteT hc h0
        refine c_reg fun R hR => ?_
        refine o_ldA (k := 1) hS (.inl rfl) rfl rfl rfl (.inl rfl) Fu25 rfl Fs25 rfl ?_; clear hS; try clear tm
        intro tm hS
        obtain ⟨r10, hx9, h0⟩ := bindS h0
        refine o_call hS (.inl rfl) rfl (fun wm' hw1 hw2 => wk30  b1  v3 v4 (((hS.sel hw2).ad 6 rfl).ad 5 rfl) hx9) (fun wm' res H hw' hp => ?_)
        obtain ⟨v10, v11, hres, hI⟩ := hp
        replace hres := hres.symm; subst hres
        replace hS : S wm 83 _ H ((78, .agg #[.bool r10.Char, v10, v11]) :: _) ([.own (rI .i64) v10 r10.Shape, .own (rI .i64) v11 r10.Data] ++ _) Fr := hS.after rfl hw' hI
        clear hI hw'
        refine o_st (k := 2) hS (.inl rfl) rfl rfl rfl Fs25 rfl rfl (all_cons rfl (all_cons (hS.one (k := 0) rfl (.inr (.inl rfl))) (all_cons (hS.one (k := 1) rfl (.inr (.inl rfl))) all_nil))) rfl ?_; clear hS; try clear H
        intro H hS
        refine o_pure hS (.inl rfl) rfl rfl ?_; clear hS; try clear tm
        intro tm hS
        refine o_nil (hR _ _ ?_)
        clear hR R
        refine wpC.ret ?_
        obtain rfl := Option.some.inj h0
        refine Exists.intro _ (And.intro (rs_cellA (k := 2) hS rfl rfl (.inl rfl) Fu25 rfl Fs25 rfl (rs_tmp hS rfl rs_nil)) ?_)
        have hI := hS.inv
        exact ⟨v10, v11, rfl, (hI.sub (sc (sc sn)))⟩
       ·replace h0 := iteF hc h0
        refine wpC.skip ?_
        refine c_reg fun R hR => ?_
        refine o_ldA (k := 1) hS (.inl rfl) rfl rfl rfl (.inl rfl) Fu25 rfl Fs25 rfl ?_; clear hS; try clear tm
        intro tm hS
        refine o_pure hS (.inl rfl) rfl rfl ?_; clear hS; try clear tm
        intro tm hS
        refine o_pure hS (.inl rfl) rfl rfl ?_; clear hS; try clear tm
        intro tm hS
        replace hS := hS.frzBox (k := 2) rfl
        obtain ⟨r11, hx10, h0⟩ := bindS h0
        refine o_call hS (.inl rfl) rfl (fun wm' hw1 hw2 => wk44  b1 r3 (fun x0 => M.turn_Rotate_1 x0 a1) 41 #[.pointer (some ⟨b2, 0, none⟩)] [.fz (rI .i64) v1 a1.Shape, .fz (rI .i64) v2 a1.Data, .fbox b2 [.bool a1.Char, v1, v2]] (by simp [Ent.blk]) (fun x0 hI _ h0 => wk41  x0 a1  v1 v2 b2 hI h0) v3 v4 ((((((hS.sel hw2).adB 2 rfl).ad 4 rfl).ad 3 rfl).ad 6 rfl).ad 5 rfl) hx10) (fun wm' res H hw' hp => ?_)
        obtain ⟨v12, v13, hres, hI⟩ := hp
        replace hres := hres.symm; subst hres
        replace hS : S wm 83 _ H ((82, .agg #[.bool r11.Char, v12, v13]) :: _) ([.own (rI .i64) v12 r11.Shape, .own (rI .i64) v13 r11.Data] ++ _) Fr := hS.after rfl hw' hI
        clear hI hw'
        refine o_st (k := 2) hS (.inl rfl) rfl rfl rfl Fs25 rfl rfl (all_cons rfl (all_cons (hS.one (k := 0) rfl (.inr (.inl rfl))) (all_cons (hS.one (k := 1) rfl (.inr (.inl rfl))) all_nil))) rfl ?_; clear hS; try clear H
        intro H hS
        refine o_pure hS (.inl rfl) rfl rfl ?_; clear hS; try clear tm
        intro tm hS
        refine o_nil (hR _ _ ?_)
        clear hR R
        refine wpC.ret ?_
        obtain rfl := Option.some.inj h0
        refine Exists.intro _ (And.intro (rs_cellA (k := 2) hS rfl rfl (.inl rfl) Fu25 rfl Fs25 rfl (rs_tmp hS rfl rs_nil)) ?_)
        have hI := hS.inv
        exact ⟨v12, v13, rfl, (hI.sub (sc (sc sn)))⟩
theorem wk5 {wm : Nat} {H : AHeap} {Fr : List Ent} (ho17 : ora 17 = true) (ho32 : ora 32 = false) (b1 : Val) (axis1 : Int) (n1 : Int) (m1 : Int)  (v1 : Value) (v2 : Value) (hI : Kn wm H [.fz (rI .i64) v1 b1.Shape, .fz (rI .i64) v2 b1.Data] Fr) {r : Bool} (h0 : M.anamnesislaw08_TurnBack b1 axis1 n1 m1 = some r) :
  wpF Try.prog ora wm 5 [.agg #[.bool b1.Char, v1, v2], .int .i64 axis1, .int .i32 n1, .int .i32 m1] H (fun res H => res = .bool r ∧ Kn wm H [] Fr) := by
 unfold M.anamnesislaw08_TurnBack at h0
 refine f_enter (n := 164) Try.func5 rfl (by simp) hI rfl rfl rfl fun tm hS => ?_
 clear hI
 refine c_reg fun R hR => ?_
 refine o_box hS (.inl rfl) rfl rfl rfl (all_cons rfl (all_cons (hS.one (k := 0) rfl (.inl rfl)) (all_cons (hS.one (k := 1) rfl (.inl rfl)) all_nil))) ?_; clear hS; try clear tm H
 intro b2 tm H hS
 refine o_pure hS (.inl rfl) rfl rfl ?_; clear hS; try clear tm
 intro tm hS
 refine o_nil (hR _ _ ?_)
 clear hR R
 refine c_seqS ?_
 refine c_reg fun R hR => ?_
 refine o_ldA (k := 0) hS (.inl rfl) rfl rfl rfl (.inl rfl) Fu25 rfl Fs25 rfl ?_; clear hS; try clear tm
 intro tm hS
 obtain ⟨r1, hx1, h0⟩ := bindS h0
 refine o_call hS (.inl rfl) rfl (fun wm' hw1 hw2 => wk18  b1  v1 v2 (((hS.sel hw2).ad 2 rfl).ad 1 rfl) hx1) (fun wm' res H hw' hp => ?_)
 obtain ⟨hres, hI⟩ := hp
 replace hres := hres.symm; subst hres
 replace hS : S wm 164 _ H ((26, .bool r1) :: _) ([] ++ _) Fr := hS.after rfl hw' hI
 clear hI hw'
 refine o_pure hS (.inl rfl) rfl rfl ?_; clear hS; try clear tm
 intro tm hS
 obtain ⟨c1, hc1, h0⟩ := bindS h0
 refine o_cutN 4 (J := fun tm H => S wm 164 tm H [(31, .bool c1), (1, .int .i64 axis1), (2, .int .i32 n1), (3, .int .i32 m1), (4, .pointer (some ⟨b2, 0, none⟩))] [.box b2 [.bool b1.Char, v1, v2], .fz (rI .i64) v1 b1.Shape, .fz (rI .i64) v2 b1.Data] Fr) ?_ ?_
 ·rcases Bool.eq_false_or_eq_true r1 with hg1 | hg1
  ·replace hc1 := iteT hg1 hc1
   refine o_skip hS rfl rfl rfl hg1 ?_; clear hS; try clear tm
   intro tm hS
   refine o_skip hS rfl rfl rfl hg1 ?_; clear hS; try clear tm
   intro tm hS
   refine o_skip hS rfl rfl rfl hg1 ?_; clear hS; try clear tm
   intro tm hS
   refine o_pickT hS (.inl rfl) rfl rfl hg1 rfl ?_; clear hS; try clear tm
   intro tm hS
   obtain rfl := Option.some.inj hc1
   exact o_nil (hS.keep (ka_cons rfl (ka_cons rfl (ka_cons rfl (ka_cons rfl (ka_cons rfl ka_nil))))) (fun hI => (hI.sub (sc (sc (sc sn))))))
  ·replace hc1 := iteF hg1 hc1
   refine o_ldA (k := 0) hS (.inr ⟨_, _, _, _, rfl, rfl, rfl, hg1⟩) rfl rfl rfl (.inl rfl) Fu25 rfl Fs25 rfl ?_; clear hS; try clear tm
   intro tm hS
   obtain ⟨r2, hx2, hc1⟩ := bindS hc1
   refine o_call hS (.inr ⟨_, _, _, _, rfl, rfl, rfl, hg1⟩) rfl (fun wm' hw1 hw2 => wk25  b1  v1 v2 (((hS.sel hw2).ad 2 rfl).ad 1 rfl) hx2) (fun wm' res H hw' hp => ?_)
   obtain ⟨hres, hI⟩ := hp
   replace hres := hres.symm; subst hres
   replace hS : S wm 164 _ H ((29, .bool r2) :: _) ([] ++ _) Fr := hS.after rfl hw' hI
   clear hI hw'
   refine o_pure hS (.inr ⟨_, _, _, _, rfl, rfl, rfl, hg1⟩) rfl rfl ?_; clear hS; try clear tm
   intro tm hS
   refine o_pickF hS (.inl rfl) rfl rfl hg1 rfl ?_; clear hS; try clear tm
   intro tm hS
   obtain rfl := Option.some.inj hc1
   exact o_nil (hS.keep (ka_cons rfl (ka_cons rfl (ka_cons rfl (ka_cons rfl (ka_cons rfl ka_nil))))) (fun hI => (hI.sub (sc (sc (sc sn))))))
 intro tm H hS
 refine o_nil (hR _ _ ?_)
 clear hR R
 refine c_cond hS rfl (fun hc => ?_) (fun hc => ?_)
 ·replace h0 := iteT hc h0
  refine c_reg fun R hR => ?_
  refine o_call hS (.inl rfl) rfl (fun wm' hw1 hw2 => wpF.told ho17 (Q := fun v H' => v = .bool true ∧ H' = H) ⟨rfl, rfl⟩) (fun wm' res H hw' hp => ?_)
  obtain ⟨rfl, rfl⟩ := hp
  replace hS := hS.put (d := 32) rfl (.bool true)
  clear hw'
  refine o_pure hS (.inl rfl) rfl rfl ?_; clear hS; try clear tm
  intro tm hS
  refine o_nil (hR _ _ ?_)
  clear hR R
  refine wpC.ret ?_
  obtain rfl := Option.some.inj h0
  refine Exists.intro _ (And.intro (rs_tmp hS rfl rs_nil) ?_)
  have hI := hS.inv
  exact ⟨rfl, (hI.sub sn)⟩
 ·replace h0 := iteF hc h0
  refine wpC.skip ?_
  refine c_reg fun R hR => ?_
  refine o_ldA (k := 0) hS (.inl rfl) rfl rfl rfl (.inl rfl) Fu25 rfl Fs25 rfl ?_; clear hS; try clear tm
  intro tm hS
  obtain ⟨⟨r3, r4⟩, hx3, h0⟩ := bindS h0
  refine o_call hS (.inl rfl) rfl (fun wm' hw1 hw2 => wk14  b1  v1 v2 (((hS.sel hw2).ad 2 rfl).ad 1 rfl) hx3) (fun wm' res H hw' hp => ?_)
  obtain ⟨v3, v4, hres, hI⟩ := hp
  replace hres := hres.symm; subst hres
  replace hS : S wm 164 _ H ((35, .tuple #[.agg #[.bool r3.Char, v3, v4], .int .i64 r4]) :: _) ([.own (rI .i64) v3 r3.Shape, .own (rI .i64) v4 r3.Data] ++ _) Fr := hS.after rfl hw' hI
  clear hI hw'
  refine o_pure hS (.inl rfl) rfl rfl ?_; clear hS; try clear tm
  intro tm hS
  refine o_pure hS (.inl rfl) rfl rfl ?_; clear hS; try clear tm
  intro tm hS
  refine o_pure hS (.inl rfl) rfl rfl ?_; clear hS; try clear tm
  intro tm hS
  refine o_alloc hS (.inl rfl) rfl Fz25 (by decide) ?_; clear hS; try clear tm H
  intro b3 tm H hS
  refine o_st (k := 0) hS (.inl rfl) rfl rfl rfl Fs25 rfl rfl (all_cons rfl (all_cons (hS.one (k := 1) rfl (.inr (.inl rfl))) (all_cons (hS.one (k := 2) rfl (.inr (.inl rfl))) all_nil))) rfl ?_; clear hS; try clear H
  intro H hS
  refine o_pure hS (.inl rfl) rfl rfl ?_; clear hS; try clear tm
  intro tm hS
  refine o_nil (hR _ _ ?_)
  clear hR R
  refine c_reg fun R hR => ?_
  refine o_ldA (k := 0) hS (.inl rfl) rfl rfl rfl (.inl rfl) Fu25 rfl Fs25 rfl ?_; clear hS; try clear tm
  intro tm hS
  obtain ⟨⟨r5, r6⟩, hx4, h0⟩ := bindS h0
  refine o_call (Pc := fun _ res H => ∃ v5 v6, res = .tuple #[.agg #[.bool r5.Char, v5, v6], .int .i64 r6] ∧ Kn wm H ([.own (rI .i64) v5 r5.Shape, .own (rI .i64) v6 r5.Data] ++ [.box b3 [.bool r3.Char, v3, v4], .own (rI .i64) v3 r3.Shape, .own (rI .i64) v4 r3.Data, .box b2 [.bool b1.Char, v1, v2], .fz (rI .i64) v1 b1.Shape, .fz (rI .i64) v2 b1.Data]) Fr) hS (.inl rfl) rfl (fun wm' hw1 hw2 => by
   obtain ⟨F2, k1, k2⟩ := hS.inv.lendR (La := [.fz (rI .i64) v3 r3.Shape, .fz (rI .i64) v4 r3.Data]) (List.forall_mem_cons.mpr ⟨(.inr ⟨_, _, _, _, rfl, .inl (List.mem_of_getElem? (i := 1) rfl)⟩), (List.forall_mem_cons.mpr ⟨(.inr ⟨_, _, _, _, rfl, .inl (List.mem_of_getElem? (i := 2) rfl)⟩), (fun _ h => by cases h)⟩)⟩) hw1 hw2
   exact (wk14  r3  v3 v4 k1 hx4).mono fun res H2 ⟨v5, v6, q1, q2⟩ => ⟨v5, v6, q1, k2 _ _ (List.forall_mem_cons.mpr ⟨⟨_, _, _, _, rfl, fun _ _ _ _ h => h⟩, (List.forall_mem_cons.mpr ⟨⟨_, _, _, _, rfl, fun _ _ _ _ h => h⟩, (fun _ h => by cases h)⟩)⟩) q2⟩) (fun wm' res H hw' hp => ?_)
  obtain ⟨v5, v6, hres, hI⟩ := hp
  replace hres := hres.symm; subst hres
  replace hS : S wm 164 _ H ((40, .tuple #[.agg #[.bool r5.Char, v5, v6], .int .i64 r6]) :: _) ([.own (rI .i64) v5 r5.Shape, .own (rI .i64) v6 r5.Data] ++ [.box b3 [.bool r3.Char, v3, v4], .own (rI .i64) v3 r3.Shape, .own (rI .i64) v4 r3.Data, .box b2 [.bool b1.Char, v1, v2], .fz (rI .i64) v1 b1.Shape, .fz (rI .i64) v2 b1.Data]) Fr := (hS.put rfl _).withK hI
  clear hI hw'
  refine o_pure hS (.inl rfl) rfl rfl ?_; clear hS; try clear tm
  intro tm hS
  refine o_pure hS (.inl rfl) rfl rfl ?_; clear hS; try clear tm
  intro tm hS
  refine o_pure hS (.inl rfl) rfl rfl ?_; clear hS; try clear tm
  intro tm hS
  refine o_alloc hS (.inl rfl) rfl Fz25 (by decide) ?_; clear hS; try clear tm H
  intro b4 tm H hS
  refine o_st (k := 0) hS (.inl rfl) rfl rfl rfl Fs25 rfl rfl (all_cons rfl (all_cons (hS.one (k := 1) rfl (.inr (.inl rfl))) (all_cons (hS.one (k := 2) rfl (.inr (.inl rfl))) all_nil))) rfl ?_; clear hS; try clear H
  intro H hS
  refine o_pure hS (.inl rfl) rfl rfl ?_; clear hS; try clear tm
  intro tm hS
  refine o_nil (hR _ _ ?_)
  clear hR R
  refine c_seqS ?_
  refine c_reg fun R hR => ?_
  refine o_pure hS (.inl rfl) rfl rfl ?_; clear hS; try clear tm
  intro tm hS
  refine o_pure hS (.inl rfl) rfl rfl ?_; clear hS; try clear tm
  intro tm hS
  refine o_pure hS (.inl rfl) rfl rfl ?_; clear hS; try clear tm
  intro tm hS
  obtain ⟨c2, hc2⟩ : ∃ x : Bool, x = ((r4 != 0) || (r6 != 0)) := ⟨_, rfl⟩
  refine o_cutN 3 (J := fun tm H => S wm 164 tm H [(48, .bool c2), (1, .int .i64 axis1), (2, .int .i32 n1), (3, .int .i32 m1), (4, .pointer (some ⟨b2, 0, none⟩)), (9, .pointer (some ⟨b3, 0, none⟩)), (11, .pointer (some ⟨b4, 0, none⟩))] [.box b4 [.bool r5.Char, v5, v6], .own (rI .i64) v5 r5.Shape, .own (rI .i64) v6 r5.Data, .box b3 [.bool r3.Char, v3, v4], .own (rI .i64) v3 r3.Shape, .own (rI .i64) v4 r3.Data, .box b2 [.bool b1.Char, v1, v2], .fz (rI .i64) v1 b1.Shape, .fz (rI .i64) v2 b1.Data] Fr) ?_ ?_
  ·rcases Bool.eq_false_or_eq_true (r4 != 0) with hg2 | hg2
   ·refine o_skip hS rfl rfl rfl hg2 ?_; clear hS; try clear tm
    intro tm hS
    refine o_skip hS rfl rfl rfl hg2 ?_; clear hS; try clear tm
    intro tm hS
    refine o_pickT hS (.inl rfl) rfl rfl hg2 rfl ?_; clear hS; try clear tm
    intro tm hS
    have hc2 : c2 = true := hc2.trans (by rw [hg2]; first | rfl | simp)
    subst hc2
    exact o_nil (hS.keep (ka_cons rfl (ka_cons rfl (ka_cons rfl (ka_cons rfl (ka_cons rfl (ka_cons rfl (ka_cons rfl ka_nil))))))) (fun hI => (hI.sub (sc (sc (sc (sc (sc (sc (sc (sc (sc sn))))))))))))
   ·refine o_pure hS (.inr ⟨_, _, _, _, rfl, rfl, rfl, hg2⟩) rfl rfl ?_; clear hS; try clear tm
    intro tm hS
    refine o_pure hS (.inr ⟨_, _, _, _, rfl, rfl, rfl, hg2⟩) rfl rfl ?_; clear hS; try clear tm
    intro tm hS
    refine o_pickF hS (.inl rfl) rfl rfl hg2 rfl ?_; clear hS; try clear tm
    intro tm hS
    have hc2 : c2 = (r6 != 0) := hc2.trans (by rw [hg2]; first | rfl | simp)
    subst hc2
    exact o_nil (hS.keep (ka_cons rfl (ka_cons rfl (ka_cons rfl (ka_cons rfl (ka_cons rfl (ka_cons rfl (ka_cons rfl ka_nil))))))) (fun hI => (hI.sub (sc (sc (sc (sc (sc (sc (sc (sc (sc sn))))))))))))
  intro tm H hS
  subst hc2
  refine o_pure hS (.inl rfl) rfl rfl ?_; clear hS; try clear tm
  intro tm hS
  obtain ⟨c3, hc3, h0⟩ := bindS h0
  refine o_cutN 5 (J := fun tm H => S wm 164 tm H [(54, .bool c3), (1, .int .i64 axis1), (2, .int .i32 n1), (3, .int .i32 m1), (4, .pointer (some ⟨b2, 0, none⟩)), (9, .pointer (some ⟨b3, 0, none⟩))] [.box b3 [.bool r3.Char, v3, v4], .own (rI .i64) v3 r3.Shape, .own (rI .i64) v4 r3.Data, .box b2 [.bool b1.Char, v1, v2], .fz (rI .i64) v1 b1.Shape, .fz (rI .i64) v2 b1.Data] Fr) ?_ ?_
  ·rcases Bool.eq_false_or_eq_true ((r4 != 0) || (r6 != 0)) with hg3 | hg3
   ·replace hc3 := iteT hg3 hc3
    refine o_skip hS rfl rfl rfl hg3 ?_; clear hS; try clear tm
    intro tm hS
    refine o_skip hS rfl rfl rfl hg3 ?_; clear hS; try clear tm
    intro tm hS
    refine o_skip hS rfl rfl rfl hg3 ?_; clear hS; try clear tm
    intro tm hS
    refine o_skip hS rfl rfl rfl hg3 ?_; clear hS; try clear tm
    intro tm hS
    refine o_pickT hS (.inl rfl) rfl rfl hg3 rfl ?_; clear hS; try clear tm
    intro tm hS
    obtain rfl := Option.some.inj hc3
    exact o_nil (hS.keep (ka_cons rfl (ka_cons rfl (ka_cons rfl (ka_cons rfl (ka_cons rfl (ka_cons rfl ka_nil)))))) (fun hI => (hI.sub (sd (sd (sd (sc (sc (sc (sc (sc (sc sn))))))))))))
   ·replace hc3 := iteF hg3 hc3
    refine o_ldA (k := 0) hS (.inr ⟨_, _, _, _, rfl, rfl, rfl, hg3⟩) rfl rfl rfl (.inl rfl) Fu25 rfl Fs25 rfl ?_; clear hS; try clear tm
    intro tm hS
    refine o_ldA (k := 6) hS (.inr ⟨_, _, _, _, rfl, rfl, rfl, hg3⟩) rfl rfl rfl (.inl rfl) Fu25 rfl Fs25 rfl ?_; clear hS; try clear tm
    intro tm hS
    obtain ⟨r7, hx5, hc3⟩ := bindS hc3
    refine o_call (Pc := fun _ res H => res = .bool r7 ∧ Kn wm H ([.box b4 [.bool r5.Char, v5, v6], .own (rI .i64) v5 r5.Shape, .own (rI .i64) v6 r5.Data, .box b3 [.bool r3.Char, v3, v4], .own (rI .i64) v3 r3.Shape, .own (rI .i64) v4 r3.Data, .box b2 [.bool b1.Char, v1, v2], .fz (rI .i64) v1 b1.Shape, .fz (rI .i64) v2 b1.Data]) Fr) hS (.inr ⟨_, _, _, _, rfl, rfl, rfl, hg3⟩) rfl (fun wm' hw1 hw2 => by
     obtain ⟨F2, k1, k2⟩ := hS.inv.lend (La := [.fz (rI .i64) v5 r5.Shape, .fz (rI .i64) v6 r5.Data, .fz (rI .i64) v1 b1.Shape, .fz (rI .i64) v2 b1.Data]) (List.forall_mem_cons.mpr ⟨(.inr ⟨_, _, _, _, rfl, .inl (List.mem_of_getElem? (i := 1) rfl)⟩), (List.forall_mem_cons.mpr ⟨(.inr ⟨_, _, _, _, rfl, .inl (List.mem_of_getElem? (i := 2) rfl)⟩), (List.forall_mem_cons.mpr ⟨(.inl ⟨rfl, List.mem_of_getElem? (i := 7) rfl⟩), (List.forall_mem_cons.mpr ⟨(.inl ⟨rfl, List.mem_of_getElem? (i := 8) rfl⟩), (fun _ h => by cases h)⟩)⟩)⟩)⟩) hw1 hw2
     exact (wk24  r5 b1  v5 v6 v1 v2 k1 hx5).mono fun res H2 ⟨q1, q2⟩ => ⟨q1, k2 _ q2⟩) (fun wm' res H hw' hp => ?_)
    obtain ⟨hres, hI⟩ := hp
    replace hres := hres.symm; subst hres
    replace hS : S wm 164 _ H ((52, .bool r7) :: _) ([.box b4 [.bool r5.Char, v5, v6], .own (rI .i64) v5 r5.Shape, .own (rI .i64) v6 r5.Data, .box b3 [.bool r3.Char, v3, v4], .own (rI .i64) v3 r3.Shape, .own (rI .i64) v4 r3.Data, .box b2 [.bool b1.Char, v1, v2], .fz (rI .i64) v1 b1.Shape, .fz (rI .i64) v2 b1.Data]) Fr := (hS.put rfl _).withK hI
    clear hI hw'
    refine o_pure hS (.inr ⟨_, _, _, _, rfl, rfl, rfl, hg3⟩) rfl rfl ?_; clear hS; try clear tm
    intro tm hS
    refine o_pickF hS (.inl rfl) rfl rfl hg3 rfl ?_; clear hS; try clear tm
    intro tm hS
    obtain rfl := Option.some.inj hc3
    exact o_nil (hS.keep (ka_cons rfl (ka_cons rfl (ka_cons rfl (ka_cons rfl (ka_cons rfl (ka_cons rfl ka_nil)))))) (fun hI => (hI.sub (sd (sd (sd (sc (sc (sc (sc (sc (sc sn))))))))))))
  intro tm H hS
  refine o_pure hS (.inl rfl) rfl rfl ?_; clear hS; try clear tm
  intro tm hS
  obtain ⟨c4, hc4, h0⟩ := bindS h0
  refine o_cutN 4 (J := fun tm H => S wm 164 tm H [(59, .bool c4), (1, .int .i64 axis1), (2, .int .i32 n1), (3, .int .i32 m1), (4, .pointer (some ⟨b2, 0, none⟩))] [.box b2 [.bool b1.Char, v1, v2], .fz (rI .i64) v1 b1.Shape, .fz (rI .i64) v2 b1.Data] Fr) ?_ ?_
  ·rcases Bool.eq_false_or_eq_true c3 with hg4 | hg4
   ·replace hc4 := iteT hg4 hc4
    refine o_skip hS rfl rfl rfl hg4 ?_; clear hS; try clear tm
    intro tm hS
    refine o_skip hS rfl rfl rfl hg4 ?_; clear hS; try clear tm
    intro tm hS
    refine o_skip hS rfl rfl rfl hg4 ?_; clear hS; try clear tm
    intro tm hS
    refine o_pickT hS (.inl rfl) rfl rfl hg4 rfl ?_; clear hS; try clear tm
    intro tm hS
    obtain rfl := Option.some.inj hc4
    exact o_nil (hS.keep (ka_cons rfl (ka_cons rfl (ka_cons rfl (ka_cons rfl (ka_cons rfl ka_nil))))) (fun hI => (hI.sub (sd (sd (sd (sc (sc (sc sn)))))))))
   ·replace hc4 := iteF hg4 hc4
    refine o_ldA (k := 0) hS (.inr ⟨_, _, _, _, rfl, rfl, rfl, hg4⟩) rfl rfl rfl (.inl rfl) Fu25 rfl Fs25 rfl ?_; clear hS; try clear tm
    intro tm hS
    obtain ⟨r8, hx6, hc4⟩ := bindS hc4
    refine o_call (Pc := fun _ res H => res = .bool r8 ∧ Kn wm H ([.box b3 [.bool r3.Char, v3, v4], .own (rI .i64) v3 r3.Shape, .own (rI .i64) v4 r3.Data, .box b2 [.bool b1.Char, v1, v2], .fz (rI .i64) v1 b1.Shape, .fz (rI .i64) v2 b1.Data]) Fr) hS (.inr ⟨_, _, _, _, rfl, rfl, rfl, hg4⟩) rfl (fun wm' hw1 hw2 => by
     obtain ⟨F2, k1, k2⟩ := hS.inv.lend (La := [.fz (rI .i64) v3 r3.Shape, .fz (rI .i64) v4 r3.Data]) (List.forall_mem_cons.mpr ⟨(.inr ⟨_, _, _, _, rfl, .inl (List.mem_of_getElem? (i := 1) rfl)⟩), (List.forall_mem_cons.mpr ⟨(.inr ⟨_, _, _, _, rfl, .inl (List.mem_of_getElem? (i := 2) rfl)⟩), (fun _ h => by cases h)⟩)⟩) hw1 hw2
     exact (wk25  r3  v3 v4 k1 hx6).mono fun res H2 ⟨q1, q2⟩ => ⟨q1, k2 _ q2⟩) (fun wm' res H hw' hp => ?_)
    obtain ⟨hres, hI⟩ := hp
    replace hres := hres.symm; subst hres
    replace hS : S wm 164 _ H ((57, .bool r8) :: _) ([.box b3 [.bool r3.Char, v3, v4], .own (rI .i64) v3 r3.Shape, .own (rI .i64) v4 r3.Data, .box b2 [.bool b1.Char, v1, v2], .fz (rI .i64) v1 b1.Shape, .fz (rI .i64) v2 b1.Data]) Fr := (hS.put rfl _).withK hI
    clear hI hw'
    refine o_pure hS (.inr ⟨_, _, _, _, rfl, rfl, rfl, hg4⟩) rfl rfl ?_; clear hS; try clear tm
    intro tm hS
    refine o_pickF hS (.inl rfl) rfl rfl hg4 rfl ?_; clear hS; try clear tm
    intro tm hS
    obtain rfl := Option.some.inj hc4
    exact o_nil (hS.keep (ka_cons rfl (ka_cons rfl (ka_cons rfl (ka_cons rfl (ka_cons rfl ka_nil))))) (fun hI => (hI.sub (sd (sd (sd (sc (sc (sc sn)))))))))
  intro tm H hS
  refine o_nil (hR _ _ ?_)
  clear hR R
  refine c_cond hS rfl (fun hc => ?_) (fun hc => ?_)
  ·replace h0 := iteT hc h0
   refine c_reg fun R hR => ?_
   refine o_pure hS (.inl rfl) rfl rfl ?_; clear hS; try clear tm
   intro tm hS
   refine o_nil (hR _ _ ?_)
   clear hR R
   refine wpC.ret ?_
   obtain rfl := Option.some.inj h0
   refine Exists.intro _ (And.intro (rs_tmp hS rfl rs_nil) ?_)
   have hI := hS.inv
   exact ⟨rfl, (hI.sub sn)⟩
  ·replace h0 := iteF hc h0
   refine wpC.skip ?_
   refine c_reg fun R hR => ?_
   refine o_ldA (k := 0) hS (.inl rfl) rfl rfl rfl (.inl rfl) Fu25 rfl Fs25 rfl ?_; clear hS; try clear tm
   intro tm hS
   refine o_pure hS (.inl rfl) rfl rfl ?_; clear hS; try clear tm
   intro tm hS
   obtain ⟨⟨r9, r10⟩, hx7, h0⟩ := bindS h0
   refine o_call hS (.inl rfl) rfl (fun wm' hw1 hw2 => wk12 ho32 b1 axis1  v1 v2 (((hS.sel hw2).ad 2 rfl).ad 1 rfl) hx7) (fun wm' res H hw' hp => ?_)
   obtain ⟨v7, v8, hres, hI⟩ := hp
   replace hres := hres.symm; subst hres
   replace hS : S wm 164 _ H ((63, .tuple #[.agg #[.bool r9.Char, v7, v8], .int .i64 r10]) :: _) ([.own (rI .i64) v7 r9.Shape, .own (rI .i64) v8 r9.Data] ++ _) Fr := hS.after rfl hw' hI
   clear hI hw'
   refine o_pure hS (.inl rfl) rfl rfl ?_; clear hS; try clear tm
   intro tm hS
   refine o_pure hS (.inl rfl) rfl rfl ?_; clear hS; try clear tm
   intro tm hS
   refine o_pure hS (.inl rfl) rfl rfl ?_; clear hS; try clear tm
   intro tm hS
   refine o_alloc hS (.inl rfl) rfl Fz25 (by decide) ?_; clear hS; try clear tm H
   intro b5 tm H hS
   refine o_st (k := 0) hS (.inl rfl) rfl rfl rfl Fs25 rfl rfl (all_cons rfl (all_cons (hS.one (k := 1) rfl (.inr (.inl rfl))) (all_cons (hS.one (k := 2) rfl (.inr (.inl rfl))) all_nil))) rfl ?_; clear hS; try clear H
   intro H hS
   refine o_pure hS (.inl rfl) rfl rfl ?_; clear hS; try clear tm
   intro tm hS
   refine o_nil (hR _ _ ?_)
   clear hR R
   refine c_seqS ?_
   refine c_reg fun R hR => ?_
   refine o_pure hS (.inl rfl) rfl rfl ?_; clear hS; try clear tm
   intro tm hS
   refine o_pure hS (.inl rfl) rfl rfl ?_; clear hS; try clear tm
   intro tm hS
   refine o_nil (hR _ _ ?_)
   clear hR R
   refine c_cond hS rfl (fun hc => ?_) (fun hc => ?_)
   ·replace h0 := iteT hc h0
    refine c_reg fun R hR => ?_
    refine o_pure hS (.inl rfl) rfl rfl ?_; clear hS; try clear tm
    intro tm hS
    refine o_pure hS (.inl rfl) rfl rfl ?_; clear hS; try clear tm
    intro tm hS
    refine o_pure hS (.inl rfl) rfl rfl ?_; clear hS; try clear tm
    intro tm hS
    obtain ⟨c5, hc5⟩ : ∃ x : Bool, x = ((decide (axis1 < (-1))) || (decide (axis1 ≥ (b1.Shape.length : Int)))) := ⟨_, rfl⟩
    refine o_cutN 6 (J := fun tm H => S wm 164 tm H [(76, .bool c5)] [] Fr) ?_ ?_
    ·rcases Bool.eq_false_or_eq_true (decide (axis1 < (-1))) with hg5 | hg5
     ·refine o_skip hS rfl rfl rfl hg5 ?_; clear hS; try clear tm
      intro tm hS
      refine o_skip hS rfl rfl rfl hg5 ?_; clear hS; try clear tm
      intro tm hS
      refine o_skip hS rfl rfl rfl hg5 ?_; clear hS; try clear tm
      intro tm hS
      refine o_skip hS rfl rfl rfl hg5 ?_; clear hS; try clear tm
      intro tm hS
      refine o_skip hS rfl rfl rfl hg5 ?_; clear hS; try clear tm
      intro tm hS
      refine o_pickT hS (.inl rfl) rfl rfl hg5 rfl ?_; clear hS; try clear tm
      intro tm hS
      have hc5 : c5 = true := hc5.trans (by rw [hg5]; first | rfl | simp)
      subst hc5
      exact o_nil (hS.keep (ka_cons rfl ka_nil) (fun hI => (hI.sub sn)))
     ·refine o_pure hS (.inr ⟨_, _, _, _, rfl, rfl, rfl, hg5⟩) rfl rfl ?_; clear hS; try clear tm
      intro tm hS
      refine o_pure hS (.inr ⟨_, _, _, _, rfl, rfl, rfl, hg5⟩) rfl rfl ?_; clear hS; try clear tm
      intro tm hS
      refine o_ld1 (k := 3) hS (.inr ⟨_, _, _, _, rfl, rfl, rfl, hg5⟩) rfl rfl rfl (.inl rfl) Fu22 rfl rfl ?_; clear hS; try clear tm
      intro tm hS
      refine o_len (k := 4) (r := (rI .i64)) hS (.inr ⟨_, _, _, _, rfl, rfl, rfl, hg5⟩) rfl rfl rfl (.inl rfl) Fu22 rfl ?_; clear hS; try clear tm
      intro tm hS
      refine o_pure hS (.inr ⟨_, _, _, _, rfl, rfl, rfl, hg5⟩) rfl rfl ?_; clear hS; try clear tm
      intro tm hS
      refine o_pickF hS (.inl rfl) rfl rfl hg5 rfl ?_; clear hS; try clear tm
      intro tm hS
      have hc5 : c5 = (decide (axis1 ≥ (b1.Shape.length : Int))) := hc5.trans (by rw [hg5]; first | rfl | simp)
      subst hc5
      exact o_nil (hS.keep (ka_cons rfl ka_nil) (fun hI => (hI.sub sn)))
    intro tm H hS
    subst hc5
    refine o_pure hS (.inl rfl) rfl rfl ?_; clear hS; try clear tm
    intro tm hS
    obtain ⟨c6, hc6⟩ : ∃ x : Bool, x = (((decide (axis1 < (-1))) || (decide (axis1 ≥ (b1.Shape.length : Int)))) && true) := ⟨_, rfl⟩
    refine o_cutN 2 (J := fun tm H => S wm 164 tm H [(79, .bool c6)] [] Fr) ?_ ?_
    ·rcases Bool.eq_false_or_eq_true ((decide (axis1 < (-1))) || (decide (axis1 ≥ (b1.Shape.length : Int)))) with hg6 | hg6
     ·refine o_call hS (.inr ⟨_, _, _, _, rfl, rfl, rfl, hg6⟩) rfl (fun wm' hw1 hw2 => wpF.told ho17 (Q := fun v H' => v = .bool true ∧ H' = H) ⟨rfl, rfl⟩) (fun wm' res H hw' hp => ?_)
      obtain ⟨rfl, rfl⟩ := hp
      replace hS := hS.put (d := 78) rfl (.bool true)
      clear hw'
      refine o_pickT hS (.inl rfl) rfl rfl hg6 rfl ?_; clear hS; try clear tm
      intro tm hS
      have hc6 : c6 = true := hc6.trans (by rw [hg6]; first | rfl | simp)
      subst hc6
      exact o_nil (hS.keep (ka_cons rfl ka_nil) (fun hI => (hI.sub sn)))
     ·refine o_skip hS rfl rfl rfl hg6 ?_; clear hS; try clear tm
      intro tm hS
      refine o_pickF hS (.inl rfl) rfl rfl hg6 rfl ?_; clear hS; try clear tm
      intro tm hS
      have hc6 : c6 = false := hc6.trans (by rw [hg6]; first | rfl | simp)
      subst hc6
      exact o_nil (hS.keep (ka_cons rfl ka_nil) (fun hI => (hI.sub sn)))
    intro tm H hS
    subst hc6
    refine o_pure hS (.inl rfl) rfl rfl ?_; clear hS; try clear tm
    intro tm hS
    refine o_nil (hR _ _ ?_)
    clear hR R
    refine wpC.ret ?_
    obtain rfl := Option.some.inj h0
    refine Exists.intro _ (And.intro (rs_tmp hS rfl rs_nil) ?_)
    have hI := hS.inv
    exact ⟨rfl, (hI.sub sn)⟩
   ·replace h0 := iteF hc h0
    refine wpC.skip ?_
    refine c_reg fun R hR => ?_
    refine o_ldA (k := 0) hS (.inl rfl) rfl rfl rfl (.inl rfl) Fu25 rfl Fs25 rfl ?_; clear hS; try clear tm
    intro tm hS
    refine o_pure hS (.inl rfl) rfl rfl ?_; clear hS; try clear tm
    intro tm hS
    obtain ⟨⟨r11, r12⟩, hx8, h0⟩ := bindS h0
    refine o_call (Pc := fun _ res H => ∃ v9 v10, res = .tuple #[.agg #[.bool r11.Char, v9, v10], .int .i64 r12] ∧ Kn wm H ([.own (rI .i64) v9 r11.Shape, .own (rI .i64) v10 r11.Data] ++ [.box b5 [.bool r9.Char, v7, v8], .own (rI .i64) v7 r9.Shape, .own (rI .i64) v8 r9.Data, .box b2 [.bool b1.Char, v1, v2], .fz (rI .i64) v1 b1.Shape, .fz (rI .i64) v2 b1.Data]) Fr) hS (.inl rfl) rfl (fun wm' hw1 hw2 => by
     obtain ⟨F2, k1, k2⟩ := hS.inv.lendR (La := [.fz (rI .i64) v7 r9.Shape, .fz (rI .i64) v8 r9.Data]) (List.forall_mem_cons.mpr ⟨(.inr ⟨_, _, _, _, rfl, .inl (List.mem_of_getElem? (i := 1) rfl)⟩), (List.forall_mem_cons.mpr ⟨(.inr ⟨_, _, _, _, rfl, .inl (List.mem_of_getElem? (i := 2) rfl)⟩), (fun _ h => by cases h)⟩)⟩) hw1 hw2
     exact (wk12 ho32 r9 axis1  v7 v8 k1 hx8).mono fun res H2 ⟨v9, v10, q1, q2⟩ => ⟨v9, v10, q1, k2 _ _ (List.forall_mem_cons.mpr ⟨⟨_, _, _, _, rfl, fun _ _ _ _ h => h⟩, (List.forall_mem_cons.mpr ⟨⟨_, _, _, _, rfl, fun _ _ _ _ h => h⟩, (fun _ h => by cases h)⟩)⟩) q2⟩) (fun wm' res H hw' hp => ?_)
    obtain ⟨v9, v10, hres, hI⟩ := hp
    replace hres := hres.symm; subst hres
    replace hS : S wm 164 _ H ((83, .tuple #[.agg #[.bool r11.Char, v9, v10], .int .i64 r12]) :: _) ([.own (rI .i64) v9 r11.Shape, .own (rI .i64) v10 r11.Data] ++ [.box b5 [.bool r9.Char, v7, v8], .own (rI .i64) v7 r9.Shape, .own (rI .i64) v8 r9.Data, .box b2 [.bool b1.Char, v1, v2], .fz (rI .i64) v1 b1.Shape, .fz (rI .i64) v2 b1.Data]) Fr := (hS.put rfl _).withK hI
    clear hI hw'
    refine o_pure hS (.inl rfl) rfl rfl ?_; clear hS; try clear tm
    intro tm hS
    refine o_pure hS (.inl rfl) rfl rfl ?_; clear hS; try clear tm
    intro tm hS
    refine o_pure hS (.inl rfl) rfl rfl ?_; clear hS; try clear tm
    intro tm hS
    refine o_alloc hS (.inl rfl) rfl Fz25 (by decide) ?_; clear hS; try clear tm H
    intro b6 tm H hS
    refine o_st (k := 0) hS (.inl rfl) rfl rfl rfl Fs25 rfl rfl (all_cons rfl (all_cons (hS.one (k := 1) rfl (.inr (.inl rfl))) (all_cons (hS.one (k := 2) rfl (.inr (.inl rfl))) all_nil))) rfl ?_; clear hS; try clear H
    intro H hS
    refine o_pure hS (.inl rfl) rfl rfl ?_; clear hS; try clear tm
    intro tm hS
    refine o_nil (hR _ _ ?_)
    clear hR R
    refine c_reg fun R hR => ?_
    refine o_pure hS (.inl rfl) rfl rfl ?_; clear hS; try clear tm
    intro tm hS
    refine o_pure hS (.inl rfl) rfl rfl ?_; clear hS; try clear tm
    intro tm hS
    refine o_lit (r := (rI .i64)) (l := [(IntKind.i64.wrap n1)]) hS (.inl rfl) rfl Fl23 rfl rfl rfl (.cons rfl .nil) rfl rfl (ri_1 (rd_flat fun _ => rfl) ri_nil) rfl ?_; clear hS; try clear tm H
    intro v11 tm H hS
    replace hS := hS.litFrz (k := 0) rfl
    obtain ⟨r13, hx9, h0⟩ := bindS h0
    refine o_call hS (.inl rfl) rfl (fun wm' hw1 hw2 => wk8  ([]) ([(IntKind.i64.wrap n1)])  (.slice none 0 0) v11 (((hS.sel hw2).ad 0 rfl).adNil (rI .i64)) hx9) (fun wm' res H hw' hp => ?_)
    obtain ⟨v12, v13, hres, hI⟩ := hp
    replace hres := hres.symm; subst hres
    replace hS : S wm 164 _ H ((90, .agg #[.bool r13.Char, v12, v13]) :: _) ([.fz (rI .i64) v12 r13.Shape, .fz (rI .i64) v13 r13.Data] ++ _) Fr := hS.after rfl hw' hI
    clear hI hw'
    refine o_ldA (k := 9) hS (.inl rfl) rfl rfl rfl (.inl rfl) Fu25 rfl Fs25 rfl ?_; clear hS; try clear tm
    intro tm hS
    refine o_pure hS (.inl rfl) rfl rfl ?_; clear hS; try clear tm
    intro tm hS
    obtain ⟨⟨r14, r15⟩, hx10, h0⟩ := bindS h0
    refine o_call hS (.inl rfl) rfl (fun wm' hw1 hw2 => wk20  r13 b1 axis1  v12 v13 v1 v2 (((((hS.sel hw2).ad 11 rfl).ad 10 rfl).ad 1 rfl).ad 0 rfl) hx10) (fun wm' res H hw' hp => ?_)
    obtain ⟨v14, v15, hres, hI⟩ := hp
    replace hres := hres.symm; subst hres
    replace hS : S wm 164 _ H ((93, .tuple #[.agg #[.bool r14.Char, v14, v15], .int .i64 r15]) :: _) ([.own (rI .i64) v14 r14.Shape, .own (rI .i64) v15 r14.Data] ++ _) Fr := hS.after rfl hw' hI
    clear hI hw'
    refine o_pure hS (.inl rfl) rfl rfl ?_; clear hS; try clear tm
    intro tm hS
    refine o_pure hS (.inl rfl) rfl rfl ?_; clear hS; try clear tm
    intro tm hS
    refine o_pure hS (.inl rfl) rfl rfl ?_; clear hS; try clear tm
    intro tm hS
    refine o_alloc hS (.inl rfl) rfl Fz25 (by decide) ?_; clear hS; try clear tm H
    intro b7 tm H hS
    refine o_st (k := 0) hS (.inl rfl) rfl rfl rfl Fs25 rfl rfl (all_cons rfl (all_cons (hS.one (k := 1) rfl (.inr (.inl rfl))) (all_cons (hS.one (k := 2) rfl (.inr (.inl rfl))) all_nil))) rfl ?_; clear hS; try clear H
    intro H hS
    refine o_pure hS (.inl rfl) rfl rfl ?_; clear hS; try clear tm
    intro tm hS
    refine o_nil (hR _ _ ?_)
    clear hR R
    refine c_reg fun R hR => ?_
    refine o_pure hS (.inl rfl) rfl rfl ?_; clear hS; try clear tm
    intro tm hS
    refine o_pure hS (.inl rfl) rfl rfl ?_; clear hS; try clear tm
    intro tm hS
    refine o_pure hS (.inl rfl) rfl rfl ?_; clear hS; try clear tm
    intro tm hS
    refine o_lit (r := (rI .i64)) (l := [(IntKind.i64.wrap (0 - (IntKind.i64.wrap n1)))]) hS (.inl rfl) rfl Fl23 rfl rfl rfl (.cons rfl .nil) rfl rfl (ri_1 (rd_flat fun _ => rfl) ri_nil) rfl ?_; clear hS; try clear tm H
    intro v16 tm H hS
    replace hS := hS.litFrz (k := 0) rfl
    obtain ⟨r16, hx11, h0⟩ := bindS h0
    refine o_call hS (.inl rfl) rfl (fun wm' hw1 hw2 => wk8  ([]) ([(IntKind.i64.wrap (0 - (IntKind.i64.wrap n1)))])  (.slice none 0 0) v16 (((hS.sel hw2).ad 0 rfl).adNil (rI .i64)) hx11) (fun wm' res H hw' hp => ?_)
    obtain ⟨v17, v18, hres, hI⟩ := hp
    replace hres := hres.symm; subst hres
    replace hS : S wm 164 _ H ((101, .agg #[.bool r16.Char, v17, v18]) :: _) ([.fz (rI .i64) v17 r16.Shape, .fz (rI .i64) v18 r16.Data] ++ _) Fr := hS.after rfl hw' hI
    clear hI hw'
    refine o_ldA (k := 3) hS (.inl rfl) rfl rfl rfl (.inl rfl) Fu25 rfl Fs25 rfl ?_; clear hS; try clear tm
    intro tm hS
    refine o_pure hS (.inl rfl) rfl rfl ?_; clear hS; try clear tm
    intro tm hS
    obtain ⟨⟨r17, r18⟩, hx12, h0⟩ := bindS h0
    refine o_call (Pc := fun _ res H => ∃ v19 v20, res = .tuple #[.agg #[.bool r17.Char, v19, v20], .int .i64 r18] ∧ Kn wm H ([.own (rI .i64) v19 r17.Shape, .own (rI .i64) v20 r17.Data] ++ [.fz (rI .i64) v17 r16.Shape, .fz (rI .i64) v18 r16.Data, .fz (rI .i64) v16 ([(IntKind.i64.wrap (0 - (IntKind.i64.wrap n1)))]), .box b7 [.bool r14.Char, v14, v15], .own (rI .i64) v14 r14.Shape, .own (rI .i64) v15 r14.Data, .fz (rI .i64) v12 r13.Shape, .fz (rI .i64) v13 r13.Data, .fz (rI .i64) v11 ([(IntKind.i64.wrap n1)]), .box b6 [.bool r11.Char, v9, v10], .own (rI .i64) v9 r11.Shape, .own (rI .i64) v10 r11.Data, .box b5 [.bool r9.Char, v7, v8], .own (rI .i64) v7 r9.Shape, .own (rI .i64) v8 r9.Data, .box b2 [.bool b1.Char, v1, v2], .fz (rI .i64) v1 b1.Shape, .fz (rI .i64) v2 b1.Data]) Fr) hS (.inl rfl) rfl (fun wm' hw1 hw2 => by
     obtain ⟨F2, k1, k2⟩ := hS.inv.lendR (La := [.fz (rI .i64) v17 r16.Shape, .fz (rI .i64) v18 r16.Data, .fz (rI .i64) v14 r14.Shape, .fz (rI .i64) v15 r14.Data]) (List.forall_mem_cons.mpr ⟨(.inl ⟨rfl, List.mem_of_getElem? (i := 0) rfl⟩), (List.forall_mem_cons.mpr ⟨(.inl ⟨rfl, List.mem_of_getElem? (i := 1) rfl⟩), (List.forall_mem_cons.mpr ⟨(.inr ⟨_, _, _, _, rfl, .inl (List.mem_of_getElem? (i := 4) rfl)⟩), (List.forall_mem_cons.mpr ⟨(.inr ⟨_, _, _, _, rfl, .inl (List.mem_of_getElem? (i := 5) rfl)⟩), (fun _ h => by cases h)⟩)⟩)⟩)⟩) hw1 hw2
     exact (wk20  r16 r14 axis1  v17 v18 v14 v15 k1 hx12).mono fun res H2 ⟨v19, v20, q1, q2⟩ => ⟨v19, v20, q1, k2 _ _ (List.forall_mem_cons.mpr ⟨⟨_, _, _, _, rfl, fun _ _ _ _ h => h⟩, (List.forall_mem_cons.mpr ⟨⟨_, _, _, _, rfl, fun _ _ _ _ h => h⟩, (fun _ h => by cases h)⟩)⟩) q2⟩) (fun wm' res H hw' hp => ?_)
    obtain ⟨v19, v20, hres, hI⟩ := hp
    replace hres := hres.symm; subst hres
    replace hS : S wm 164 _ H ((104, .tuple #[.agg #[.bool r17.Char, v19, v20], .int .i64 r18]) :: _) ([.own (rI .i64) v19 r17.Shape, .own (rI .i64) v20 r17.Data] ++ [.fz (rI .i64) v17 r16.Shape, .fz (rI .i64) v18 r16.Data, .fz (rI .i64) v16 ([(IntKind.i64.wrap (0 - (IntKind.i64.wrap n1)))]), .box b7 [.bool r14.Char, v14, v15], .own (rI .i64) v14 r14.Shape, .own (rI .i64) v15 r14.Data, .fz (rI .i64) v12 r13.Shape, .fz (rI .i64) v13 r13.Data, .fz (rI .i64) v11 ([(IntKind.i64.wrap n1)]), .box b6 [.bool r11.Char, v9, v10], .own (rI .i64) v9 r11.Shape, .own (rI .i64) v10 r11.Data, .box b5 [.bool r9.Char, v7, v8], .own (rI .i64) v7 r9.Shape, .own (rI .i64) v8 r9.Data, .box b2 [.bool b1.Char, v1, v2], .fz (rI .i64) v1 b1.Shape, .fz (rI .i64) v2 b1.Data]) Fr := (hS.put rfl _).withK hI
    clear hI hw'
    refine o_pure hS (.inl rfl) rfl rfl ?_; clear hS; try clear tm
    intro tm hS
    refine o_pure hS (.inl rfl) rfl rfl ?_; clear hS; try clear tm
    intro tm hS
    refine o_pure hS (.inl rfl) rfl rfl ?_; clear hS; try clear tm
    intro tm hS
    refine o_alloc hS (.inl rfl) rfl Fz25 (by decide) ?_; clear hS; try clear tm H
    intro b8 tm H hS
    refine o_st (k := 0) hS (.inl rfl) rfl rfl rfl Fs25 rfl rfl (all_cons rfl (all_cons (hS.one (k := 1) rfl (.inr (.inl rfl))) (all_cons (hS.one (k := 2) rfl (.inr (.inl rfl))) all_nil))) rfl ?_; clear hS; try clear H
    intro H hS
    refine o_pure hS (.inl rfl) rfl rfl ?_; clear hS; try clear tm
    intro tm hS
    refine o_nil (hR _ _ ?_)
    clear hR R
    refine c_reg fun R hR => ?_
    refine o_pure hS (.inl rfl) rfl rfl ?_; clear hS; try clear tm
    intro tm hS
    refine o_pure hS (.inl rfl) rfl rfl ?_; clear hS; try clear tm
    intro tm hS
    refine o_lit (r := (rI .i64)) (l := [(IntKind.i64.wrap m1)]) hS (.inl rfl) rfl Fl23 rfl rfl rfl (.cons rfl .nil) rfl rfl (ri_1 (rd_flat fun _ => rfl) ri_nil) rfl ?_; clear hS; try clear tm H
    intro v21 tm H hS
    replace hS := hS.litFrz (k := 0) rfl
    obtain ⟨r19, hx13, h0⟩ := bindS h0
    refine o_call hS (.inl rfl) rfl (fun wm' hw1 hw2 => wk8  ([]) ([(IntKind.i64.wrap m1)])  (.slice none 0 0) v21 (((hS.sel hw2).ad 0 rfl).adNil (rI .i64)) hx13) (fun wm' res H hw' hp => ?_)
    obtain ⟨v22, v23, hres, hI⟩ := hp
    replace hres := hres.symm; subst hres
    replace hS : S wm 164 _ H ((111, .agg #[.bool r19.Char, v22, v23]) :: _) ([.fz (rI .i64) v22 r19.Shape, .fz (rI .i64) v23 r19.Data] ++ _) Fr := hS.after rfl hw' hI
    clear hI hw'
    refine o_ldA (k := 9) hS (.inl rfl) rfl rfl rfl (.inl rfl) Fu25 rfl Fs25 rfl ?_; clear hS; try clear tm
    intro tm hS
    refine o_pure hS (.inl rfl) rfl rfl ?_; clear hS; try clear tm
    intro tm hS
    obtain ⟨⟨r20, r21⟩, hx14, h0⟩ := bindS h0
    refine o_call (Pc := fun _ res H => ∃ v24 v25, res = .tuple #[.agg #[.bool r20.Char, v24, v25], .int .i64 r21] ∧ Kn wm H ([.own (rI .i64) v24 r20.Shape, .own (rI .i64) v25 r20.Data] ++ [.fz (rI .i64) v22 r19.Shape, .fz (rI .i64) v23 r19.Data, .fz (rI .i64) v21 ([(IntKind.i64.wrap m1)]), .box b8 [.bool r17.Char, v19, v20], .own (rI .i64) v19 r17.Shape, .own (rI .i64) v20 r17.Data, .fz (rI .i64) v17 r16.Shape, .fz (rI .i64) v18 r16.Data, .fz (rI .i64) v16 ([(IntKind.i64.wrap (0 - (IntKind.i64.wrap n1)))]), .box b7 [.bool r14.Char, v14, v15], .own (rI .i64) v14 r14.Shape, .own (rI .i64) v15 r14.Data, .fz (rI .i64) v12 r13.Shape, .fz (rI .i64) v13 r13.Data, .fz (rI .i64) v11 ([(IntKind.i64.wrap n1)]), .box b6 [.bool r11.Char, v9, v10], .own (rI .i64) v9 r11.Shape, .own (rI .i64) v10 r11.Data, .box b5 [.bool r9.Char, v7, v8], .own (rI .i64) v7 r9.Shape, .own (rI .i64) v8 r9.Data, .box b2 [.bool b1.Char, v1, v2], .fz (rI .i64) v1 b1.Shape, .fz (rI .i64) v2 b1.Data]) Fr) hS (.inl rfl) rfl (fun wm' hw1 hw2 => by
     obtain ⟨F2, k1, k2⟩ := hS.inv.lendR (La := [.fz (rI .i64) v22 r19.Shape, .fz (rI .i64) v23 r19.Data, .fz (rI .i64) v14 r14.Shape, .fz (rI .i64) v15 r14.Data]) (List.forall_mem_cons.mpr ⟨(.inl ⟨rfl, List.mem_of_getElem? (i := 0) rfl⟩), (List.forall_mem_cons.mpr ⟨(.inl ⟨rfl, List.mem_of_getElem? (i := 1) rfl⟩), (List.forall_mem_cons.mpr ⟨(.inr ⟨_, _, _, _, rfl, .inl (List.mem_of_getElem? (i := 10) rfl)⟩), (List.forall_mem_cons.mpr ⟨(.inr ⟨_, _, _, _, rfl, .inl (List.mem_of_getElem? (i := 11) rfl)⟩), (fun _ h => by cases h)⟩)⟩)⟩)⟩) hw1 hw2
     exact (wk20  r19 r14 axis1  v22 v23 v14 v15 k1 hx14).mono fun res H2 ⟨v24, v25, q1, q2⟩ => ⟨v24, v25, q1, k2 _ _ (List.forall_mem_cons.mpr ⟨⟨_, _, _, _, rfl, fun _ _ _ _ h => h⟩, (List.forall_mem_cons.mpr ⟨⟨_, _, _, _, rfl, fun _ _ _ _ h => h⟩, (fun _ h => by cases h)⟩)⟩) q2⟩) (fun wm' res H hw' hp => ?_)
    obtain ⟨v24, v25, hres, hI⟩ := hp
    replace hres := hres.symm; subst hres
    replace hS : S wm 164 _ H ((114, .tuple #[.agg #[.bool r20.Char, v24, v25], .int .i64 r21]) :: _) ([.own (rI .i64) v24 r20.Shape, .own (rI .i64) v25 r20.Data] ++ [.fz (rI .i64) v22 r19.Shape, .fz (rI .i64) v23 r19.Data, .fz (rI .i64) v21 ([(IntKind.i64.wrap m1)]), .box b8 [.bool r17.Char, v19, v20], .own (rI .i64) v19 r17.Shape, .own (rI .i64) v20 r17.Data, .fz (rI .i64) v17 r16.Shape, .fz (rI .i64) v18 r16.Data, .fz (rI .i64) v16 ([(IntKind.i64.wrap (0 - (IntKind.i64.wrap n1)))]), .box b7 [.bool r14.Char, v14, v15], .own (rI .i64) v14 r14.Shape, .own (rI .i64) v15 r14.Data, .fz (rI .i64) v12 r13.Shape, .fz (rI .i64) v13 r13.Data, .fz (rI .i64) v11 ([(IntKind.i64.wrap n1)]), .box b6 [.bool r11.Char, v9, v10], .own (rI .i64) v9 r11.Shape, .own (rI .i64) v10 r11.Data, .box b5 [.bool r9.Char, v7, v8], .own (rI .i64) v7 r9.Shape, .own (rI .i64) v8 r9.Data, .box b2 [.bool b1.Char, v1, v2], .fz (rI .i64) v1 b1.Shape, .fz (rI .i64) v2 b1.Data]) Fr := (hS.put rfl _).withK hI
    clear hI hw'
    refine o_pure hS (.inl rfl) rfl rfl ?_; clear hS; try clear tm
    intro tm hS
    refine o_pure hS (.inl rfl) rfl rfl ?_; clear hS; try clear tm
    intro tm hS
    refine o_pure hS (.inl rfl) rfl rfl ?_; clear hS; try clear tm
    intro tm hS
    refine o_alloc hS (.inl rfl) rfl Fz25 (by decide) ?_; clear hS; try clear tm H
    intro b9 tm H hS
    refine o_st (k := 0) hS (.inl rfl) rfl rfl rfl Fs25 rfl rfl (all_cons rfl (all_cons (hS.one (k := 1) rfl (.inr (.inl rfl))) (all_cons (hS.one (k := 2) rfl (.inr (.inl rfl))) all_nil))) rfl ?_; clear hS; try clear H
    intro H hS
    refine o_pure hS (.inl rfl) rfl rfl ?_; clear hS; try clear tm
    intro tm hS
    refine o_nil (hR _ _ ?_)
    clear hR R
    refine c_reg fun R hR => ?_
    refine o_pure hS (.inl rfl) rfl rfl ?_; clear hS; try clear tm
    intro tm hS
    refine o_pure hS (.inl rfl) rfl rfl ?_; clear hS; try clear tm
    intro tm hS
    refine o_pure hS (.inl rfl) rfl rfl ?_; clear hS; try clear tm
    intro tm hS
    refine o_pure hS (.inl rfl) rfl rfl ?_; clear hS; try clear tm
    intro tm hS
    refine o_pure hS (.inl rfl) rfl rfl ?_; clear hS; try clear tm
    intro tm hS
    refine o_lit (r := (rI .i64)) (l := [(IntKind.i64.wrap ((IntKind.i64.wrap n1) + (IntKind.i64.wrap m1)))]) hS (.inl rfl) rfl Fl23 rfl rfl rfl (.cons rfl .nil) rfl rfl (ri_1 (rd_flat fun _ => rfl) ri_nil) rfl ?_; clear hS; try clear tm H
    intro v26 tm H hS
    replace hS := hS.litFrz (k := 0) rfl
    obtain ⟨r22, hx15, h0⟩ := bindS h0
    refine o_call hS (.inl rfl) rfl (fun wm' hw1 hw2 => wk8  ([]) ([(IntKind.i64.wrap ((IntKind.i64.wrap n1) + (IntKind.i64.wrap m1)))])  (.slice none 0 0) v26 (((hS.sel hw2).ad 0 rfl).adNil (rI .i64)) hx15) (fun wm' res H hw' hp => ?_)
    obtain ⟨v27, v28, hres, hI⟩ := hp
    replace hres := hres.symm; subst hres
    replace hS : S wm 164 _ H ((124, .agg #[.bool r22.Char, v27, v28]) :: _) ([.fz (rI .i64) v27 r22.Shape, .fz (rI .i64) v28 r22.Data] ++ _) Fr := hS.after rfl hw' hI
    clear hI hw'
    refine o_ldA (k := 27) hS (.inl rfl) rfl rfl rfl (.inl rfl) Fu25 rfl Fs25 rfl ?_; clear hS; try clear tm
    intro tm hS
    refine o_pure hS (.inl rfl) rfl rfl ?_; clear hS; try clear tm
    intro tm hS
    obtain ⟨⟨r23, r24⟩, hx16, h0⟩ := bindS h0
    refine o_call hS (.inl rfl) rfl (fun wm' hw1 hw2 => wk20  r22 b1 axis1  v27 v28 v1 v2 (((((hS.sel hw2).ad 29 rfl).ad 28 rfl).ad 1 rfl).ad 0 rfl) hx16) (fun wm' res H hw' hp => ?_)
    obtain ⟨v29, v30, hres, hI⟩ := hp
    replace hres := hres.symm; subst hres
    replace hS : S wm 164 _ H ((127, .tuple #[.agg #[.bool r23.Char, v29, v30], .int .i64 r24]) :: _) ([.own (rI .i64) v29 r23.Shape, .own (rI .i64) v30 r23.Data] ++ _) Fr := hS.after rfl hw' hI
    clear hI hw'
    refine o_pure hS (.inl rfl) rfl rfl ?_; clear hS; try clear tm
    intro tm hS
    refine o_pure hS (.inl rfl) rfl rfl ?_; clear hS; try clear tm
    intro tm hS
    refine o_pure hS (.inl rfl) rfl rfl ?_; clear hS; try clear tm
    intro tm hS
    refine o_alloc hS (.inl rfl) rfl Fz25 (by decide) ?_; clear hS; try clear tm H
    intro b10 tm H hS
    refine o_st (k := 0) hS (.inl rfl) rfl rfl rfl Fs25 rfl rfl (all_cons rfl (all_cons (hS.one (k := 1) rfl (.inr (.inl rfl))) (all_cons (hS.one (k := 2) rfl (.inr (.inl rfl))) all_nil))) rfl ?_; clear hS; try clear H
    intro H hS
    refine o_pure hS (.inl rfl) rfl rfl ?_; clear hS; try clear tm
    intro tm hS
    refine o_nil (hR _ _ ?_)
    clear hR R
    refine c_seqS ?_
    refine c_reg fun R hR => ?_
    refine o_pure hS (.inl rfl) rfl rfl ?_; clear hS; try clear tm
    intro tm hS
    refine o_pure hS (.inl rfl) rfl rfl ?_; clear hS; try clear tm
    intro tm hS
    refine o_pure hS (.inl rfl) rfl rfl ?_; clear hS; try clear tm
    intro tm hS
    obtain ⟨c7, hc7⟩ : ∃ x : Bool, x = ((r12 != 0) || (r15 != 0)) := ⟨_, rfl⟩
    refine o_cutN 3 (J := fun tm H => S wm 164 tm H [(135, .bool c7), (4, .pointer (some ⟨b2, 0, none⟩)), (15, .pointer (some ⟨b6, 0, none⟩)), (19, .pointer (some ⟨b8, 0, none⟩)), (20, .int .i64 r18), (21, .pointer (some ⟨b9, 0, none⟩)), (22, .int .i64 r21), (23, .pointer (some ⟨b10, 0, none⟩)), (24, .int .i64 r24)] [.box b10 [.bool r23.Char, v29, v30], .own (rI .i64) v29 r23.Shape, .own (rI .i64) v30 r23.Data, .box b9 [.bool r20.Char, v24, v25], .own (rI .i64) v24 r20.Shape, .own (rI .i64) v25 r20.Data, .box b8 [.bool r17.Char, v19, v20], .own (rI .i64) v19 r17.Shape, .own (rI .i64) v20 r17.Data, .box b6 [.bool r11.Char, v9, v10], .own (rI .i64) v9 r11.Shape, .own (rI .i64) v10 r11.Data, .box b2 [.bool b1.Char, v1, v2], .fz (rI .i64) v1 b1.Shape, .fz (rI .i64) v2 b1.Data] Fr) ?_ ?_
    ·rcases Bool.eq_false_or_eq_true (r12 != 0) with hg7 | hg7
     ·refine o_skip hS rfl rfl rfl hg7 ?_; clear hS; try clear tm
      intro tm hS
      refine o_skip hS rfl rfl rfl hg7 ?_; clear hS; try clear tm
      intro tm hS
      refine o_pickT hS (.inl rfl) rfl rfl hg7 rfl ?_; clear hS; try clear tm
      intro tm hS
      have hc7 : c7 = true := hc7.trans (by rw [hg7]; first | rfl | simp)
      subst hc7
      exact o_nil (hS.keep (ka_cons rfl (ka_cons rfl (ka_cons rfl (ka_cons rfl (ka_cons rfl (ka_cons rfl (ka_cons rfl (ka_cons rfl (ka_cons rfl ka_nil))))))))) (fun hI => (hI.sub (sc (sc (sc (sd (sd (sd (sc (sc (sc (sd (sd (sd (sc (sc (sc (sd (sd (sd (sd (sd (sd (sd (sd (sd (sc (sc (sc (sd (sd (sd (sc (sc (sc sn))))))))))))))))))))))))))))))))))))
     ·refine o_pure hS (.inr ⟨_, _, _, _, rfl, rfl, rfl, hg7⟩) rfl rfl ?_; clear hS; try clear tm
      intro tm hS
      refine o_pure hS (.inr ⟨_, _, _, _, rfl, rfl, rfl, hg7⟩) rfl rfl ?_; clear hS; try clear tm
      intro tm hS
      refine o_pickF hS (.inl rfl) rfl rfl hg7 rfl ?_; clear hS; try clear tm
      intro tm hS
      have hc7 : c7 = (r15 != 0) := hc7.trans (by rw [hg7]; first | rfl | simp)
      subst hc7
      exact o_nil (hS.keep (ka_cons rfl (ka_cons rfl (ka_cons rfl (ka_cons rfl (ka_cons rfl (ka_cons rfl (ka_cons rfl (ka_cons rfl (ka_cons rfl ka_nil))))))))) (fun hI => (hI.sub (sc (sc (sc (sd (sd (sd (sc (sc (sc (sd (sd (sd (sc (sc (sc (sd (sd (sd (sd (sd (sd (sd (sd (sd (sc (sc (sc (sd (sd (sd (sc (sc (sc sn))))))))))))))))))))))))))))))))))))
    intro tm H hS
    subst hc7
    refine o_pure hS (.inl rfl) rfl rfl ?_; clear hS; try clear tm
    intro tm hS
    obtain ⟨c8, hc8⟩ : ∃ x : Bool, x = (((r12 != 0) || (r15 != 0)) || (r18 != 0)) := ⟨_, rfl⟩
    refine o_cutN 3 (J := fun tm H => S wm 164 tm H [(139, .bool c8), (4, .pointer (some ⟨b2, 0, none⟩)), (15, .pointer (some ⟨b6, 0, none⟩)), (19, .pointer (some ⟨b8, 0, none⟩)), (21, .pointer (some ⟨b9, 0, none⟩)), (22, .int .i64 r21), (23, .pointer (some ⟨b10, 0, none⟩)), (24, .int .i64 r24)] [.box b10 [.bool r23.Char, v29, v30], .own (rI .i64) v29 r23.Shape, .own (rI .i64) v30 r23.Data, .box b9 [.bool r20.Char, v24, v25], .own (rI .i64) v24 r20.Shape, .own (rI .i64) v25 r20.Data, .box b8 [.bool r17.Char, v19, v20], .own (rI .i64) v19 r17.Shape, .own (rI .i64) v20 r17.Data, .box b6 [.bool r11.Char, v9, v10], .own (rI .i64) v9 r11.Shape, .own (rI .i64) v10 r11.Data, .box b2 [.bool b1.Char, v1, v2], .fz (rI .i64) v1 b1.Shape, .fz (rI .i64) v2 b1.Data] Fr) ?_ ?_
    ·rcases Bool.eq_false_or_eq_true ((r12 != 0) || (r15 != 0)) with hg8 | hg8
     ·refine o_skip hS rfl rfl rfl hg8 ?_; clear hS; try clear tm
      intro tm hS
      refine o_skip hS rfl rfl rfl hg8 ?_; clear hS; try clear tm
      intro tm hS
      refine o_pickT hS (.inl rfl) rfl rfl hg8 rfl ?_; clear hS; try clear tm
      intro tm hS
      have hc8 : c8 = true := hc8.trans (by rw [hg8]; first | rfl | simp)
      subst hc8
      exact o_nil (hS.keep (ka_cons rfl (ka_cons rfl (ka_cons rfl (ka_cons rfl (ka_cons rfl (ka_cons rfl (ka_cons rfl (ka_cons rfl ka_nil)))))))) (fun hI => (hI.sub (sc (sc (sc (sc (sc (sc (sc (sc (sc (sc (sc (sc (sc (sc (sc sn))))))))))))))))))
     ·refine o_pure hS (.inr ⟨_, _, _, _, rfl, rfl, rfl, hg8⟩) rfl rfl ?_; clear hS; try clear tm
      intro tm hS
      refine o_pure hS (.inr ⟨_, _, _, _, rfl, rfl, rfl, hg8⟩) rfl rfl ?_; clear hS; try clear tm
      intro tm hS
      refine o_pickF hS (.inl rfl) rfl rfl hg8 rfl ?_; clear hS; try clear tm
      intro tm hS
      have hc8 : c8 = (r18 != 0) := hc8.trans (by rw [hg8]; first | rfl | simp)
      subst hc8
      exact o_nil (hS.keep (ka_cons rfl (ka_cons rfl (ka_cons rfl (ka_cons rfl (ka_cons rfl (ka_cons rfl (ka_cons rfl (ka_cons rfl ka_nil)))))))) (fun hI => (hI.sub (sc (sc (sc (sc (sc (sc (sc (sc (sc (sc (sc (sc (sc (sc (sc sn))))))))))))))))))
    intro tm H hS
    subst hc8
    refine o_pure hS (.inl rfl) rfl rfl ?_; clear hS; try clear tm
    intro tm hS
    obtain ⟨c9, hc9⟩ : ∃ x : Bool, x = ((((r12 != 0) || (r15 != 0)) || (r18 != 0)) || (r21 != 0)) := ⟨_, rfl⟩
    refine o_cutN 3 (J := fun tm H => S wm 164 tm H [(143, .bool c9), (4, .pointer (some ⟨b2, 0, none⟩)), (15, .pointer (some ⟨b6, 0, none⟩)), (19, .pointer (some ⟨b8, 0, none⟩)), (21, .pointer (some ⟨b9, 0, none⟩)), (23, .pointer (some ⟨b10, 0, none⟩)), (24, .int .i64 r24)] [.box b10 [.bool r23.Char, v29, v30], .own (rI .i64) v29 r23.Shape, .own (rI .i64) v30 r23.Data, .box b9 [.bool r20.Char, v24, v25], .own (rI .i64) v24 r20.Shape, .own (rI .i64) v25 r20.Data, .box b8 [.bool r17.Char, v19, v20], .own (rI .i64) v19 r17.Shape, .own (rI .i64) v20 r17.Data, .box b6 [.bool r11.Char, v9, v10], .own (rI .i64) v9 r11.Shape, .own (rI .i64) v10 r11.Data, .box b2 [.bool b1.Char, v1, v2], .fz (rI .i64) v1 b1.Shape, .fz (rI .i64) v2 b1.Data] Fr) ?_ ?_
    ·rcases Bool.eq_false_or_eq_true (((r12 != 0) || (r15 != 0)) || (r18 != 0)) with hg9 | hg9
     ·refine o_skip hS rfl rfl rfl hg9 ?_; clear hS; try clear tm
      intro tm hS
      refine o_skip hS rfl rfl rfl hg9 ?_; clear hS; try clear tm
      intro tm hS
      refine o_pickT hS (.inl rfl) rfl rfl hg9 rfl ?_; clear hS; try clear tm
      intro tm hS
      have hc9 : c9 = true := hc9.trans (by rw [hg9]; first | rfl | simp)
      subst hc9
      exact o_nil (hS.keep (ka_cons rfl (ka_cons rfl (ka_cons rfl (ka_cons rfl (ka_cons rfl (ka_cons rfl (ka_cons rfl ka_nil))))))) (fun hI => (hI.sub (sc (sc (sc (sc (sc (sc (sc (sc (sc (sc (sc (sc (sc (sc (sc sn))))))))))))))))))
     ·refine o_pure hS (.inr ⟨_, _, _, _, rfl, rfl, rfl, hg9⟩) rfl rfl ?_; clear hS; try clear tm
      intro tm hS
      refine o_pure hS (.inr ⟨_, _, _, _, rfl, rfl, rfl, hg9⟩) rfl rfl ?_; clear hS; try clear tm
      intro tm hS
      refine o_pickF hS (.inl rfl) rfl rfl hg9 rfl ?_; clear hS; try clear tm
      intro tm hS
      have hc9 : c9 = (r21 != 0) := hc9.trans (by rw [hg9]; first | rfl | simp)
      subst hc9
      exact o_nil (hS.keep (ka_cons rfl (ka_cons rfl (ka_cons rfl (ka_cons rfl (ka_cons rfl (ka_cons rfl (ka_cons rfl ka_nil))))))) (fun hI => (hI.sub (sc (sc (sc (sc (sc (sc (sc (sc (sc (sc (sc (sc (sc (sc (sc sn))))))))))))))))))
    intro tm H hS
    subst hc9
    refine o_pure hS (.inl rfl) rfl rfl ?_; clear hS; try clear tm
    intro tm hS
    obtain ⟨c10, hc10⟩ : ∃ x : Bool, x = (((((r12 != 0) || (r15 != 0)) || (r18 != 0)) || (r21 != 0)) || (r24 != 0)) := ⟨_, rfl⟩
    refine o_cutN 3 (J := fun tm H => S wm 164 tm H [(147, .bool c10), (4, .pointer (some ⟨b2, 0, none⟩)), (15, .pointer (some ⟨b6, 0, none⟩)), (19, .pointer (some ⟨b8, 0, none⟩)), (21, .pointer (some ⟨b9, 0, none⟩)), (23, .pointer (some ⟨b10, 0, none⟩))] [.box b10 [.bool r23.Char, v29, v30], .own (rI .i64) v29 r23.Shape, .own (rI .i64) v30 r23.Data, .box b9 [.bool r20.Char, v24, v25], .own (rI .i64) v24 r20.Shape, .own (rI .i64) v25 r20.Data, .box b8 [.bool r17.Char, v19, v20], .own (rI .i64) v19 r17.Shape, .own (rI .i64) v20 r17.Data, .box b6 [.bool r11.Char, v9, v10], .own (rI .i64) v9 r11.Shape, .own (rI .i64) v10 r11.Data, .box b2 [.bool b1.Char, v1, v2], .fz (rI .i64) v1 b1.Shape, .fz (rI .i64) v2 b1.Data] Fr) ?_ ?_
    ·rcases Bool.eq_false_or_eq_true ((((r12 != 0) || (r15 != 0)) || (r18 != 0)) || (r21 != 0)) with hg10 | hg10
     ·refine o_skip hS rfl rfl rfl hg10 ?_; clear hS; try clear tm
      intro tm hS
      refine o_skip hS rfl rfl rfl hg10 ?_; clear hS; try clear tm
      intro tm hS
      refine o_pickT hS (.inl rfl) rfl rfl hg10 rfl ?_; clear hS; try clear tm
      intro tm hS
      have hc10 : c10 = true := hc10.trans (by rw [hg10]; first | rfl | simp)
      subst hc10
      exact o_nil (hS.keep (ka_cons rfl (ka_cons rfl (ka_cons rfl (ka_cons rfl (ka_cons rfl (ka_cons rfl ka_nil)))))) (fun hI => (hI.sub (sc (sc (sc (sc (sc (sc (sc (sc (sc (sc (sc (sc (sc (sc (sc sn))))))))))))))))))
     ·refine o_pure hS (.inr ⟨_, _, _, _, rfl, rfl, rfl, hg10⟩) rfl rfl ?_; clear hS; try clear tm
      intro tm hS
      refine o_pure hS (.inr ⟨_, _, _, _, rfl, rfl, rfl, hg10⟩) rfl rfl ?_; clear hS; try clear tm
      intro tm hS
      refine o_pickF hS (.inl rfl) rfl rfl hg10 rfl ?_; clear hS; try clear tm
      intro tm hS
      have hc10 : c10 = (r24 != 0) := hc10.trans (by rw [hg10]; first | rfl | simp)
      subst hc10
      exact o_nil (hS.keep (ka_cons rfl (ka_cons rfl (ka_cons rfl (ka_cons rfl (ka_cons rfl (ka_cons rfl ka_nil)))))) (fun hI => (hI.sub (sc (sc (sc (sc (sc (sc (sc (sc (sc (sc (sc (sc (sc (sc (sc sn))))))))))))))))))
    intro tm H hS
    subst hc10
    refine o_nil (hR _ _ ?_)
    clear hR R
    refine c_cond hS rfl (fun hc => ?_) (fun hc => ?_)
    ·replace h0 := iteT hc h0
     refine c_reg fun R hR => ?_
     refine o_pure hS (.inl rfl) rfl rfl ?_; clear hS; try clear tm
     intro tm hS
     refine o_nil (hR _ _ ?_)
     clear hR R
     refine wpC.ret ?_
     obtain rfl := Option.some.inj h0
     refine Exists.intro _ (And.intro (rs_tmp hS rfl rs_nil) ?_)
     have hI := hS.inv
     exact ⟨rfl, (hI.sub sn)⟩
    ·replace h0 := iteF hc h0
     refine wpC.skip ?_
     refine c_reg fun R hR => ?_
     refine o_ldA (k := 9) hS (.inl rfl) rfl rfl rfl (.inl rfl) Fu25 rfl Fs25 rfl ?_; clear hS; try clear tm
     intro tm hS
     refine o_ldA (k := 12) hS (.inl rfl) rfl rfl rfl (.inl rfl) Fu25 rfl Fs25 rfl ?_; clear hS; try clear tm
     intro tm hS
     obtain ⟨r25, hx17, h0⟩ := bindS h0
     refine o_call (Pc := fun _ res H => res = .bool r25 ∧ Kn wm H ([.box b10 [.bool r23.Char, v29, v30], .own (rI .i64) v29 r23.Shape, .own (rI .i64) v30 r23.Data, .box b9 [.bool r20.Char, v24, v25], .own (rI .i64) v24 r20.Shape, .own (rI .i64) v25 r20.Data, .box b8 [.bool r17.Char, v19, v20], .own (rI .i64) v19 r17.Shape, .own (rI .i64) v20 r17.Data, .box b6 [.bool r11.Char, v9, v10], .own (rI .i64) v9 r11.Shape, .own (rI .i64) v10 r11.Data, .box b2 [.bool b1.Char, v1, v2], .fz (rI .i64) v1 b1.Shape, .fz (rI .i64) v2 b1.Data]) Fr) hS (.inl rfl) rfl (fun wm' hw1 hw2 => by
      obtain ⟨F2, k1, k2⟩ := hS.inv.lend (La := [.fz (rI .i64) v9 r11.Shape, .fz (rI .i64) v10 r11.Data, .fz (rI .i64) v1 b1.Shape, .fz (rI .i64) v2 b1.Data]) (List.forall_mem_cons.mpr ⟨(.inr ⟨_, _, _, _, rfl, .inl (List.mem_of_getElem? (i := 10) rfl)⟩), (List.forall_mem_cons.mpr ⟨(.inr ⟨_, _, _, _, rfl, .inl (List.mem_of_getElem? (i := 11) rfl)⟩), (List.forall_mem_cons.mpr ⟨(.inl ⟨rfl, List.mem_of_getElem? (i := 13) rfl⟩), (List.forall_mem_cons.mpr ⟨(.inl ⟨rfl, List.mem_of_getElem? (i := 14) rfl⟩), (fun _ h => by cases h)⟩)⟩)⟩)⟩) hw1 hw2
      exact (wk24  r11 b1  v9 v10 v1 v2 k1 hx17).mono fun res H2 ⟨q1, q2⟩ => ⟨q1, k2 _ q2⟩) (fun wm' res H hw' hp => ?_)
     obtain ⟨hres, hI⟩ := hp
     replace hres := hres.symm; subst hres
     replace hS : S wm 164 _ H ((150, .bool r25) :: _) ([.box b10 [.bool r23.Char, v29, v30], .own (rI .i64) v29 r23.Shape, .own (rI .i64) v30 r23.Data, .box b9 [.bool r20.Char, v24, v25], .own (rI .i64) v24 r20.Shape, .own (rI .i64) v25 r20.Data, .box b8 [.bool r17.Char, v19, v20], .own (rI .i64) v19 r17.Shape, .own (rI .i64) v20 r17.Data, .box b6 [.bool r11.Char, v9, v10], .own (rI .i64) v9 r11.Shape, .own (rI .i64) v10 r11.Data, .box b2 [.bool b1.Char, v1, v2], .fz (rI .i64) v1 b1.Shape, .fz (rI .i64) v2 b1.Data]) Fr := (hS.put rfl _).withK hI
     clear hI hw'
     refine o_pure hS (.inl rfl) rfl rfl ?_; clear hS; try clear tm
     intro tm hS
     obtain ⟨c11, hc11, h0⟩ := bindS h0
     refine o_cutN 4 (J := fun tm H => S wm 164 tm H [(155, .bool c11), (21, .pointer (some ⟨b9, 0, none⟩)), (23, .pointer (some ⟨b10, 0, none⟩))] [.box b10 [.bool r23.Char, v29, v30], .own (rI .i64) v29 r23.Shape, .own (rI .i64) v30 r23.Data, .box b9 [.bool r20.Char, v24, v25], .own (rI .i64) v24 r20.Shape, .own (rI .i64) v25 r20.Data] Fr) ?_ ?_
     ·rcases Bool.eq_false_or_eq_true r25 with hg11 | hg11
      ·replace hc11 := iteT hg11 hc11
       refine o_ldA (k := 6) hS (.inr ⟨_, _, _, _, rfl, rfl, rfl, hg11⟩) rfl rfl rfl (.inl rfl) Fu25 rfl Fs25 rfl ?_; clear hS; try clear tm
       intro tm hS
       refine o_ldA (k := 12) hS (.inr ⟨_, _, _, _, rfl, rfl, rfl, hg11⟩) rfl rfl rfl (.inl rfl) Fu25 rfl Fs25 rfl ?_; clear hS; try clear tm
       intro tm hS
       obtain ⟨r26, hx18, hc11⟩ := bindS hc11
       refine o_call (Pc := fun _ res H => res = .bool r26 ∧ Kn wm H ([.box b10 [.bool r23.Char, v29, v30], .own (rI .i64) v29 r23.Shape, .own (rI .i64) v30 r23.Data, .box b9 [.bool r20.Char, v24, v25], .own (rI .i64) v24 r20.Shape, .own (rI .i64) v25 r20.Data, .box b8 [.bool r17.Char, v19, v20], .own (rI .i64) v19 r17.Shape, .own (rI .i64) v20 r17.Data, .box b6 [.bool r11.Char, v9, v10], .own (rI .i64) v9 r11.Shape, .own (rI .i64) v10 r11.Data, .box b2 [.bool b1.Char, v1, v2], .fz (rI .i64) v1 b1.Shape, .fz (rI .i64) v2 b1.Data]) Fr) hS (.inr ⟨_, _, _, _, rfl, rfl, rfl, hg11⟩) rfl (fun wm' hw1 hw2 => by
        obtain ⟨F2, k1, k2⟩ := hS.inv.lend (La := [.fz (rI .i64) v19 r17.Shape, .fz (rI .i64) v20 r17.Data, .fz (rI .i64) v1 b1.Shape, .fz (rI .i64) v2 b1.Data]) (List.forall_mem_cons.mpr ⟨(.inr ⟨_, _, _, _, rfl, .inl (List.mem_of_getElem? (i := 7) rfl)⟩), (List.forall_mem_cons.mpr ⟨(.inr ⟨_, _, _, _, rfl, .inl (List.mem_of_getElem? (i := 8) rfl)⟩), (List.forall_mem_cons.mpr ⟨(.inl ⟨rfl, List.mem_of_getElem? (i := 13) rfl⟩), (List.forall_mem_cons.mpr ⟨(.inl ⟨rfl, List.mem_of_getElem? (i := 14) rfl⟩), (fun _ h => by cases h)⟩)⟩)⟩)⟩) hw1 hw2
        exact (wk24  r17 b1  v19 v20 v1 v2 k1 hx18).mono fun res H2 ⟨q1, q2⟩ => ⟨q1, k2 _ q2⟩) (fun wm' res H hw' hp => ?_)
       obtain ⟨hres, hI⟩ := hp
       replace hres := hres.symm; subst hres
       replace hS : S wm 164 _ H ((154, .bool r26) :: _) ([.box b10 [.bool r23.Char, v29, v30], .own (rI .i64) v29 r23.Shape, .own (rI .i64) v30 r23.Data, .box b9 [.bool r20.Char, v24, v25], .own (rI .i64) v24 r20.Shape, .own (rI .i64) v25 r20.Data, .box b8 [.bool r17.Char, v19, v20], .own (rI .i64) v19 r17.Shape, .own (rI .i64) v20 r17.Data, .box b6 [.bool r11.Char, v9, v10], .own (rI .i64) v9 r11.Shape, .own (rI .i64) v10 r11.Data, .box b2 [.bool b1.Char, v1, v2], .fz (rI .i64) v1 b1.Shape, .fz (rI .i64) v2 b1.Data]) Fr := (hS.put rfl _).withK hI
       clear hI hw'
       refine o_pickT hS (.inl rfl) rfl rfl hg11 rfl ?_; clear hS; try clear tm
       intro tm hS
       obtain rfl := Option.some.inj hc11
       exact o_nil (hS.keep (ka_cons rfl (ka_cons rfl (ka_cons rfl ka_nil))) (fun hI => (hI.sub (sc (sc (sc (sc (sc (sc sn)))))))))
      ·replace hc11 := iteF hg11 hc11
       refine o_skip hS rfl rfl rfl hg11 ?_; clear hS; try clear tm
       intro tm hS
       refine o_skip hS rfl rfl rfl hg11 ?_; clear hS; try clear tm
       intro tm hS
       refine o_skip hS rfl rfl rfl hg11 ?_; clear hS; try clear tm
       intro tm hS
       refine o_pickF hS (.inl rfl) rfl rfl hg11 rfl ?_; clear hS; try clear tm
       intro tm hS
       obtain rfl := Option.some.inj hc11
       exact o_nil (hS.keep (ka_cons rfl (ka_cons rfl (ka_cons rfl ka_nil))) (fun hI => (hI.sub (sc (sc (sc (sc (sc (sc sn)))))))))
     intro tm H hS
     refine o_pure hS (.inl rfl) rfl rfl ?_; clear hS; try clear tm
     intro tm hS
     obtain ⟨c12, hc12, h0⟩ := bindS h0
     refine o_cutN 4 (J := fun tm H => S wm 164 tm H [(160, .bool c12)] [] Fr) ?_ ?_
     ·rcases Bool.eq_false_or_eq_true c11 with hg12 | hg12
      ·replace hc12 := iteT hg12 hc12
       refine o_ldA (k := 3) hS (.inr ⟨_, _, _, _, rfl, rfl, rfl, hg12⟩) rfl rfl rfl (.inl rfl) Fu25 rfl Fs25 rfl ?_; clear hS; try clear tm
       intro tm hS
       refine o_ldA (k := 0) hS (.inr ⟨_, _, _, _, rfl, rfl, rfl, hg12⟩) rfl rfl rfl (.inl rfl) Fu25 rfl Fs25 rfl ?_; clear hS; try clear tm
       intro tm hS
       obtain ⟨r27, hx19, hc12⟩ := bindS hc12
       refine o_call (Pc := fun _ res H => res = .bool r27 ∧ Kn wm H ([.box b10 [.bool r23.Char, v29, v30], .own (rI .i64) v29 r23.Shape, .own (rI .i64) v30 r23.Data, .box b9 [.bool r20.Char, v24, v25], .own (rI .i64) v24 r20.Shape, .own (rI .i64) v25 r20.Data]) Fr) hS (.inr ⟨_, _, _, _, rfl, rfl, rfl, hg12⟩) rfl (fun wm' hw1 hw2 => by
        obtain ⟨F2, k1, k2⟩ := hS.inv.lend (La := [.fz (rI .i64) v24 r20.Shape, .fz (rI .i64) v25 r20.Data, .fz (rI .i64) v29 r23.Shape, .fz (rI .i64) v30 r23.Data]) (List.forall_mem_cons.mpr ⟨(.inr ⟨_, _, _, _, rfl, .inl (List.mem_of_getElem? (i := 4) rfl)⟩), (List.forall_mem_cons.mpr ⟨(.inr ⟨_, _, _, _, rfl, .inl (List.mem_of_getElem? (i := 5) rfl)⟩), (List.forall_mem_cons.mpr ⟨(.inr ⟨_, _, _, _, rfl, .inl (List.mem_of_getElem? (i := 1) rfl)⟩), (List.forall_mem_cons.mpr ⟨(.inr ⟨_, _, _, _, rfl, .inl (List.mem_of_getElem? (i := 2) rfl)⟩), (fun _ h => by cases h)⟩)⟩)⟩)⟩) hw1 hw2
        exact (wk24  r20 r23  v24 v25 v29 v30 k1 hx19).mono fun res H2 ⟨q1, q2⟩ => ⟨q1, k2 _ q2⟩) (fun wm' res H hw' hp => ?_)
       obtain ⟨hres, hI⟩ := hp
       replace hres := hres.symm; subst hres
       replace hS : S wm 164 _ H ((159, .bool r27) :: _) ([.box b10 [.bool r23.Char, v29, v30], .own (rI .i64) v29 r23.Shape, .own (rI .i64) v30 r23.Data, .box b9 [.bool r20.Char, v24, v25], .own (rI .i64) v24 r20.Shape, .own (rI .i64) v25 r20.Data]) Fr := (hS.put rfl _).withK hI
       clear hI hw'
       refine o_pickT hS (.inl rfl) rfl rfl hg12 rfl ?_; clear hS; try clear tm
       intro tm hS
       obtain rfl := Option.some.inj hc12
       exact o_nil (hS.keep (ka_cons rfl ka_nil) (fun hI => (hI.sub sn)))
      ·replace hc12 := iteF hg12 hc12
       refine o_skip hS rfl rfl rfl hg12 ?_; clear hS; try clear tm
       intro tm hS
       refine o_skip hS rfl rfl rfl hg12 ?_; clear hS; try clear tm
       intro tm hS
       refine o_skip hS rfl rfl rfl hg12 ?_; clear hS; try clear tm
       intro tm hS
       refine o_pickF hS (.inl rfl) rfl rfl hg12 rfl ?_; clear hS; try clear tm
       intro tm hS
       obtain rfl := Option.some.inj hc12
       exact o_nil (hS.keep (ka_cons rfl ka_nil) (fun hI => (hI.sub sn)))
     intro tm H hS
     refine o_pure hS (.inl rfl) rfl rfl ?_; clear hS; try clear tm
     intro tm hS
     obtain ⟨c13, hc13⟩ : ∃ x : Bool, x = (c12 && true) := ⟨_, rfl⟩
     refine o_cutN 2 (J := fun tm H => S wm 164 tm H [(163, .bool c13)] [] Fr) ?_ ?_
     ·rcases Bool.eq_false_or_eq_true c12 with hg13 | hg13
      ·refine o_call hS (.inr ⟨_, _, _, _, rfl, rfl, rfl, hg13⟩) rfl (fun wm' hw1 hw2 => wpF.told ho17 (Q := fun v H' => v = .bool true ∧ H' = H) ⟨rfl, rfl⟩) (fun wm' res H hw' hp => ?_)
       obtain ⟨rfl, rfl⟩ := hp
       replace hS := hS.put (d := 162) rfl (.bool true)
       clear hw'
       refine o_pickT hS (.inl rfl) rfl rfl hg13 rfl ?_; clear hS; try clear tm
       intro tm hS
       have hc13 : c13 = true := hc13.trans (by rw [hg13]; first | rfl | simp)
       subst hc13
       exact o_nil (hS.keep (ka_cons rfl ka_nil) (fun hI => (hI.sub sn)))
      ·refine o_skip hS rfl rfl rfl hg13 ?_; clear hS; try clear tm
       intro tm hS
       refine o_pickF hS (.inl rfl) rfl rfl hg13 rfl ?_; clear hS; try clear tm
       intro tm hS
       have hc13 : c13 = false := hc13.trans (by rw [hg13]; first | rfl | simp)
       subst hc13
       exact o_nil (hS.keep (ka_cons rfl ka_nil) (fun hI => (hI.sub sn)))
     intro tm H hS
     subst hc13
     refine o_pure hS (.inl rfl) rfl rfl ?_; clear hS; try clear tm
     intro tm hS
     refine o_nil (hR _ _ ?_)
     clear hR R
     refine wpC.ret ?_
     obtain rfl := Option.some.inj h0
     refine Exists.intro _ (And.intro (rs_tmp hS rfl rs_nil) ?_)
     have hI := hS.inv
     exact ⟨rfl, (hI.sub sn)⟩
end Go.Proofs.Yteoojnahehgakaa.turnBack
