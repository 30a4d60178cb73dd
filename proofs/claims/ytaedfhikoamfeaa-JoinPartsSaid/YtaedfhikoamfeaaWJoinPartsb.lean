/- JoinParts: walks of the code: the run of each function comes to what its plain function says. -/
import Derived.Test.YtaedfhikoamfeaaWJoinPartsa
set_option maxHeartbeats 4000000
set_option linter.unusedVariables false
set_option linter.unusedSimpArgs false
set_option maxRecDepth 100000
open Go Go.Am Go.Proofs
namespace Go.Proofs.Ytaedfhikoamfeaa.joinParts
variable {ora : FuncId → Bool}
theorem wk7 {wm : Nat} {H : AHeap} {Fr : List Ent} (ho21 : ora 21 = true) (a1 : Val) (b1 : Val)  (v1 : Value) (v2 : Value) (v3 : Value) (v4 : Value) (hI : Kn wm H [.fz (rI .i64) v1 a1.Shape, .fz (rI .i64) v2 a1.Data, .fz (rI .i64) v3 b1.Shape, .fz (rI .i64) v4 b1.Data] Fr) {r : Bool} (h0 : M.anamnesislaw07_JoinParts a1 b1 = some r) :
  wpF Try.prog ora wm 7 [.agg #[.bool a1.Char, v1, v2], .agg #[.bool b1.Char, v3, v4]] H (fun res H => res = .bool r ∧ Kn wm H [] Fr) := by
 unfold M.anamnesislaw07_JoinParts at h0
 refine f_enter (n := 128) Try.func7 rfl (by simp) hI rfl rfl rfl fun tm hS => ?_
 clear hI
 refine c_reg fun R hR => ?_
 refine o_box hS (.inl rfl) rfl rfl rfl (all_cons rfl (all_cons (hS.one (k := 0) rfl (.inl rfl)) (all_cons (hS.one (k := 1) rfl (.inl rfl)) all_nil))) ?_; clear hS; try clear tm H
 intro b2 tm H hS
 refine o_box hS (.inl rfl) rfl rfl rfl (all_cons rfl (all_cons (hS.one (k := 3) rfl (.inl rfl)) (all_cons (hS.one (k := 4) rfl (.inl rfl)) all_nil))) ?_; clear hS; try clear tm H
 intro b3 tm H hS
 refine o_pure hS (.inl rfl) rfl rfl ?_; clear hS; try clear tm
 intro tm hS
 refine o_nil (hR _ _ ?_)
 clear hR R
 refine c_seqS ?_
 refine c_reg fun R hR => ?_
 refine o_ldA (k := 1) hS (.inl rfl) rfl rfl rfl (.inl rfl) Fu27 rfl Fs27 rfl ?_; clear hS; try clear tm
 intro tm hS
 obtain ⟨r1, hx1, h0⟩ := bindS h0
 refine o_call hS (.inl rfl) rfl (fun wm' hw1 hw2 => wk20  a1  v1 v2 (((hS.sel hw2).ad 3 rfl).ad 2 rfl) hx1) (fun wm' res H hw' hp => ?_)
 obtain ⟨hres, hI⟩ := hp
 replace hres := hres.symm; subst hres
 replace hS : S wm 128 _ H ((16, .bool r1) :: _) ([] ++ _) Fr := hS.after rfl hw' hI
 clear hI hw'
 refine o_pure hS (.inl rfl) rfl rfl ?_; clear hS; try clear tm
 intro tm hS
 obtain ⟨c1, hc1, h0⟩ := bindS h0
 refine o_cutN 3 (J := fun tm H => S wm 128 tm H [(20, .bool c1), (2, .pointer (some ⟨b2, 0, none⟩)), (3, .pointer (some ⟨b3, 0, none⟩))] [.box b3 [.bool b1.Char, v3, v4], .box b2 [.bool a1.Char, v1, v2], .fz (rI .i64) v1 a1.Shape, .fz (rI .i64) v2 a1.Data, .fz (rI .i64) v3 b1.Shape, .fz (rI .i64) v4 b1.Data] Fr) ?_ ?_
 ·rcases Bool.eq_false_or_eq_true r1 with hg1 | hg1
  ·replace hc1 := iteT hg1 hc1
   refine o_skip hS rfl rfl rfl hg1 ?_; clear hS; try clear tm
   intro tm hS
   refine o_skip hS rfl rfl rfl hg1 ?_; clear hS; try clear tm
   intro tm hS
   refine o_pickT hS (.inl rfl) rfl rfl hg1 rfl ?_; clear hS; try clear tm
   intro tm hS
   obtain rfl := Option.some.inj hc1
   exact o_nil (hS.keep (ka_cons rfl (ka_cons rfl (ka_cons rfl ka_nil))) (fun hI => (hI.sub (sc (sc (sc (sc (sc (sc sn)))))))))
  ·replace hc1 := iteF hg1 hc1
   refine o_ldA (k := 0) hS (.inr ⟨_, _, _, _, rfl, rfl, rfl, hg1⟩) rfl rfl rfl (.inl rfl) Fu27 rfl Fs27 rfl ?_; clear hS; try clear tm
   intro tm hS
   obtain ⟨r2, hx2, hc1⟩ := bindS hc1
   refine o_call hS (.inr ⟨_, _, _, _, rfl, rfl, rfl, hg1⟩) rfl (fun wm' hw1 hw2 => wk20  b1  v3 v4 (((hS.sel hw2).ad 5 rfl).ad 4 rfl) hx2) (fun wm' res H hw' hp => ?_)
   obtain ⟨hres, hI⟩ := hp
   replace hres := hres.symm; subst hres
   replace hS : S wm 128 _ H ((19, .bool r2) :: _) ([] ++ _) Fr := hS.after rfl hw' hI
   clear hI hw'
   refine o_pickF hS (.inl rfl) rfl rfl hg1 rfl ?_; clear hS; try clear tm
   intro tm hS
   obtain rfl := Option.some.inj hc1
   exact o_nil (hS.keep (ka_cons rfl (ka_cons rfl (ka_cons rfl ka_nil))) (fun hI => (hI.sub (sc (sc (sc (sc (sc (sc sn)))))))))
 intro tm H hS
 refine o_pure hS (.inl rfl) rfl rfl ?_; clear hS; try clear tm
 intro tm hS
 obtain ⟨c2, hc2⟩ : ∃ x : Bool, x = (c1 || ((a1.Shape.length : Int) != (b1.Shape.length : Int))) := ⟨_, rfl⟩
 refine o_cutN 8 (J := fun tm H => S wm 128 tm H [(29, .bool c2), (2, .pointer (some ⟨b2, 0, none⟩)), (3, .pointer (some ⟨b3, 0, none⟩))] [.box b3 [.bool b1.Char, v3, v4], .box b2 [.bool a1.Char, v1, v2], .fz (rI .i64) v1 a1.Shape, .fz (rI .i64) v2 a1.Data, .fz (rI .i64) v3 b1.Shape, .fz (rI .i64) v4 b1.Data] Fr) ?_ ?_
 ·rcases Bool.eq_false_or_eq_true c1 with hg2 | hg2
  ·refine o_skip hS rfl rfl rfl hg2 ?_; clear hS; try clear tm
   intro tm hS
   refine o_skip hS rfl rfl rfl hg2 ?_; clear hS; try clear tm
   intro tm hS
   refine o_skip hS rfl rfl rfl hg2 ?_; clear hS; try clear tm
   intro tm hS
   refine o_skip hS rfl rfl rfl hg2 ?_; clear hS; try clear tm
   intro tm hS
   refine o_skip hS rfl rfl rfl hg2 ?_; clear hS; try clear tm
   intro tm hS
   refine o_skip hS rfl rfl rfl hg2 ?_; clear hS; try clear tm
   intro tm hS
   refine o_skip hS rfl rfl rfl hg2 ?_; clear hS; try clear tm
   intro tm hS
   refine o_pickT hS (.inl rfl) rfl rfl hg2 rfl ?_; clear hS; try clear tm
   intro tm hS
   have hc2 : c2 = true := hc2.trans (by rw [hg2]; first | rfl | simp)
   subst hc2
   exact o_nil (hS.keep (ka_cons rfl (ka_cons rfl (ka_cons rfl ka_nil))) (fun hI => (hI.sub (sc (sc (sc (sc (sc (sc sn)))))))))
  ·refine o_pure hS (.inr ⟨_, _, _, _, rfl, rfl, rfl, hg2⟩) rfl rfl ?_; clear hS; try clear tm
   intro tm hS
   refine o_ld1 (k := 1) hS (.inr ⟨_, _, _, _, rfl, rfl, rfl, hg2⟩) rfl rfl rfl (.inl rfl) Fu22 rfl rfl ?_; clear hS; try clear tm
   intro tm hS
   refine o_len (k := 2) (r := (rI .i64)) hS (.inr ⟨_, _, _, _, rfl, rfl, rfl, hg2⟩) rfl rfl rfl (.inl rfl) Fu22 rfl ?_; clear hS; try clear tm
   intro tm hS
   refine o_pure hS (.inr ⟨_, _, _, _, rfl, rfl, rfl, hg2⟩) rfl rfl ?_; clear hS; try clear tm
   intro tm hS
   refine o_ld1 (k := 0) hS (.inr ⟨_, _, _, _, rfl, rfl, rfl, hg2⟩) rfl rfl rfl (.inl rfl) Fu22 rfl rfl ?_; clear hS; try clear tm
   intro tm hS
   refine o_len (k := 4) (r := (rI .i64)) hS (.inr ⟨_, _, _, _, rfl, rfl, rfl, hg2⟩) rfl rfl rfl (.inl rfl) Fu22 rfl ?_; clear hS; try clear tm
   intro tm hS
   refine o_pure hS (.inr ⟨_, _, _, _, rfl, rfl, rfl, hg2⟩) rfl rfl ?_; clear hS; try clear tm
   intro tm hS
   refine o_pickF hS (.inl rfl) rfl rfl hg2 rfl ?_; clear hS; try clear tm
   intro tm hS
   have hc2 : c2 = ((a1.Shape.length : Int) != (b1.Shape.length : Int)) := hc2.trans (by rw [hg2]; first | rfl | simp)
   subst hc2
   exact o_nil (hS.keep (ka_cons rfl (ka_cons rfl (ka_cons rfl ka_nil))) (fun hI => (hI.sub (sc (sc (sc (sc (sc (sc sn)))))))))
 intro tm H hS
 subst hc2
 refine o_pure hS (.inl rfl) rfl rfl ?_; clear hS; try clear tm
 intro tm hS
 obtain ⟨c3, hc3⟩ : ∃ x : Bool, x = ((c1 || ((a1.Shape.length : Int) != (b1.Shape.length : Int))) || ((a1.Shape.length : Int) == 0)) := ⟨_, rfl⟩
 refine o_cutN 5 (J := fun tm H => S wm 128 tm H [(35, .bool c3), (2, .pointer (some ⟨b2, 0, none⟩)), (3, .pointer (some ⟨b3, 0, none⟩))] [.box b3 [.bool b1.Char, v3, v4], .box b2 [.bool a1.Char, v1, v2], .fz (rI .i64) v1 a1.Shape, .fz (rI .i64) v2 a1.Data, .fz (rI .i64) v3 b1.Shape, .fz (rI .i64) v4 b1.Data] Fr) ?_ ?_
 ·rcases Bool.eq_false_or_eq_true (c1 || ((a1.Shape.length : Int) != (b1.Shape.length : Int))) with hg3 | hg3
  ·refine o_skip hS rfl rfl rfl hg3 ?_; clear hS; try clear tm
   intro tm hS
   refine o_skip hS rfl rfl rfl hg3 ?_; clear hS; try clear tm
   intro tm hS
   refine o_skip hS rfl rfl rfl hg3 ?_; clear hS; try clear tm
   intro tm hS
   refine o_skip hS rfl rfl rfl hg3 ?_; clear hS; try clear tm
   intro tm hS
   refine o_pickT hS (.inl rfl) rfl rfl hg3 rfl ?_; clear hS; try clear tm
   intro tm hS
   have hc3 : c3 = true := hc3.trans (by rw [hg3]; first | rfl | simp)
   subst hc3
   exact o_nil (hS.keep (ka_cons rfl (ka_cons rfl (ka_cons rfl ka_nil))) (fun hI => (hI.sub (sc (sc (sc (sc (sc (sc sn)))))))))
  ·refine o_pure hS (.inr ⟨_, _, _, _, rfl, rfl, rfl, hg3⟩) rfl rfl ?_; clear hS; try clear tm
   intro tm hS
   refine o_ld1 (k := 1) hS (.inr ⟨_, _, _, _, rfl, rfl, rfl, hg3⟩) rfl rfl rfl (.inl rfl) Fu22 rfl rfl ?_; clear hS; try clear tm
   intro tm hS
   refine o_len (k := 2) (r := (rI .i64)) hS (.inr ⟨_, _, _, _, rfl, rfl, rfl, hg3⟩) rfl rfl rfl (.inl rfl) Fu22 rfl ?_; clear hS; try clear tm
   intro tm hS
   refine o_pure hS (.inr ⟨_, _, _, _, rfl, rfl, rfl, hg3⟩) rfl rfl ?_; clear hS; try clear tm
   intro tm hS
   refine o_pickF hS (.inl rfl) rfl rfl hg3 rfl ?_; clear hS; try clear tm
   intro tm hS
   have hc3 : c3 = ((a1.Shape.length : Int) == 0) := hc3.trans (by rw [hg3]; first | rfl | simp)
   subst hc3
   exact o_nil (hS.keep (ka_cons rfl (ka_cons rfl (ka_cons rfl ka_nil))) (fun hI => (hI.sub (sc (sc (sc (sc (sc (sc sn)))))))))
 intro tm H hS
 subst hc3
 refine o_nil (hR _ _ ?_)
 clear hR R
 refine c_cond hS rfl (fun hc => ?_) (fun hc => ?_)
 ·replace h0 := iteT hc h0
  refine c_reg fun R hR => ?_
  refine o_call hS (.inl rfl) rfl (fun wm' hw1 hw2 => wpF.told ho21 (Q := fun v H' => v = .bool true ∧ H' = H) ⟨rfl, rfl⟩) (fun wm' res H hw' hp => ?_)
  obtain ⟨rfl, rfl⟩ := hp
  replace hS := hS.put (d := 36) rfl (.bool true)
  clear hw'
  refine o_pure hS (.inl rfl) rfl rfl ?_; clear hS; try clear tm
  intro tm hS
  refine o_nil (hR _ _ ?_)
  clear hR R
  refine wpC.ret ?_
  obtain rfl := Option.some.inj h0
  refine Exists.intro _ (And.intro (rs_tmp hS rfl rs_nil) ?_)
  have hI := hS.inv
  exact ⟨rfl, (hI.sub sn)⟩
 ·replace h0 := iteF hc h0
  refine wpC.skip ?_
  refine c_reg fun R hR => ?_
  refine o_ldA (k := 1) hS (.inl rfl) rfl rfl rfl (.inl rfl) Fu27 rfl Fs27 rfl ?_; clear hS; try clear tm
  intro tm hS
  refine o_ldA (k := 0) hS (.inl rfl) rfl rfl rfl (.inl rfl) Fu27 rfl Fs27 rfl ?_; clear hS; try clear tm
  intro tm hS
  obtain ⟨⟨r3, r4⟩, hx3, h0⟩ := bindS h0
  refine o_call hS (.inl rfl) rfl (fun wm' hw1 hw2 => wk23  a1 b1 0  v1 v2 v3 v4 (((((hS.sel hw2).ad 5 rfl).ad 4 rfl).ad 3 rfl).ad 2 rfl) hx3) (fun wm' res H hw' hp => ?_)
  obtain ⟨v5, v6, hres, hI⟩ := hp
  replace hres := hres.symm; subst hres
  replace hS : S wm 128 _ H ((40, .tuple #[.agg #[.bool r3.Char, v5, v6], .int .i64 r4]) :: _) ([.own (rI .i64) v5 r3.Shape, .own (rI .i64) v6 r3.Data] ++ _) Fr := hS.after rfl hw' hI
  clear hI hw'
  refine o_pure hS (.inl rfl) rfl rfl ?_; clear hS; try clear tm
  intro tm hS
  refine o_pure hS (.inl rfl) rfl rfl ?_; clear hS; try clear tm
  intro tm hS
  refine o_pure hS (.inl rfl) rfl rfl ?_; clear hS; try clear tm
  intro tm hS
  refine o_alloc hS (.inl rfl) rfl Fz27 (by decide) ?_; clear hS; try clear tm H
  intro b4 tm H hS
  refine o_st (k := 0) hS (.inl rfl) rfl rfl rfl Fs27 rfl rfl (all_cons rfl (all_cons (hS.one (k := 1) rfl (.inr (.inl rfl))) (all_cons (hS.one (k := 2) rfl (.inr (.inl rfl))) all_nil))) rfl ?_; clear hS; try clear H
  intro H hS
  refine o_pure hS (.inl rfl) rfl rfl ?_; clear hS; try clear tm
  intro tm hS
  refine o_nil (hR _ _ ?_)
  clear hR R
  refine c_seqS ?_
  refine c_reg fun R hR => ?_
  refine o_pure hS (.inl rfl) rfl rfl ?_; clear hS; try clear tm
  intro tm hS
  refine o_pure hS (.inl rfl) rfl rfl ?_; clear hS; try clear tm
  intro tm hS
  refine o_nil (hR _ _ ?_)
  clear hR R
  refine c_cond hS rfl (fun hc => ?_) (fun hc => ?_)
  ·replace h0 := iteT hc h0
   refine c_reg fun R hR => ?_
   refine o_pure hS (.inl rfl) rfl rfl ?_; clear hS; try clear tm
   intro tm hS
   refine o_ld1 (k := 0) hS (.inl rfl) rfl rfl rfl (.inl rfl) Fu23 rfl rfl ?_; clear hS; try clear tm
   intro tm hS
   refine o_len (k := 2) (r := (rI .i64)) hS (.inl rfl) rfl rfl rfl (.inr (.inl rfl)) Fu23 rfl ?_; clear hS; try clear tm
   intro tm hS
   refine o_pure hS (.inl rfl) rfl rfl ?_; clear hS; try clear tm
   intro tm hS
   refine o_pure hS (.inl rfl) rfl rfl ?_; clear hS; try clear tm
   intro tm hS
   obtain ⟨c4, hc4⟩ : ∃ x : Bool, x = (((r3.Data.length : Int) == 0) && true) := ⟨_, rfl⟩
   refine o_cutN 2 (J := fun tm H => S wm 128 tm H [(51, .bool c4)] [] Fr) ?_ ?_
   ·rcases Bool.eq_false_or_eq_true ((r3.Data.length : Int) == 0) with hg4 | hg4
    ·refine o_call hS (.inr ⟨_, _, _, _, rfl, rfl, rfl, hg4⟩) rfl (fun wm' hw1 hw2 => wpF.told ho21 (Q := fun v H' => v = .bool true ∧ H' = H) ⟨rfl, rfl⟩) (fun wm' res H hw' hp => ?_)
     obtain ⟨rfl, rfl⟩ := hp
     replace hS := hS.put (d := 50) rfl (.bool true)
     clear hw'
     refine o_pickT hS (.inl rfl) rfl rfl hg4 rfl ?_; clear hS; try clear tm
     intro tm hS
     have hc4 : c4 = true := hc4.trans (by rw [hg4]; first | rfl | simp)
     subst hc4
     exact o_nil (hS.keep (ka_cons rfl ka_nil) (fun hI => (hI.sub sn)))
    ·refine o_skip hS rfl rfl rfl hg4 ?_; clear hS; try clear tm
     intro tm hS
     refine o_pickF hS (.inl rfl) rfl rfl hg4 rfl ?_; clear hS; try clear tm
     intro tm hS
     have hc4 : c4 = false := hc4.trans (by rw [hg4]; first | rfl | simp)
     subst hc4
     exact o_nil (hS.keep (ka_cons rfl ka_nil) (fun hI => (hI.sub sn)))
   intro tm H hS
   subst hc4
   refine o_pure hS (.inl rfl) rfl rfl ?_; clear hS; try clear tm
   intro tm hS
   refine o_nil (hR _ _ ?_)
   clear hR R
   refine wpC.ret ?_
   obtain rfl := Option.some.inj h0
   refine Exists.intro _ (And.intro (rs_tmp hS rfl rs_nil) ?_)
   have hI := hS.inv
   exact ⟨rfl, (hI.sub sn)⟩
  ·replace h0 := iteF hc h0
   refine wpC.skip ?_
   refine c_seqS ?_
   refine c_reg fun R hR => ?_
   refine o_pure hS (.inl rfl) rfl rfl ?_; clear hS; try clear tm
   intro tm hS
   refine o_ld1 (k := 0) hS (.inl rfl) rfl rfl rfl (.inl rfl) Fu22 rfl rfl ?_; clear hS; try clear tm
   intro tm hS
   refine o_len (k := 1) (r := (rI .i64)) hS (.inl rfl) rfl rfl rfl (.inr (.inl rfl)) Fu22 rfl ?_; clear hS; try clear tm
   intro tm hS
   refine o_pure hS (.inl rfl) rfl rfl ?_; clear hS; try clear tm
   intro tm hS
   refine o_ld1 (k := 4) hS (.inl rfl) rfl rfl rfl (.inl rfl) Fu22 rfl rfl ?_; clear hS; try clear tm
   intro tm hS
   refine o_len (k := 5) (r := (rI .i64)) hS (.inl rfl) rfl rfl rfl (.inl rfl) Fu22 rfl ?_; clear hS; try clear tm
   intro tm hS
   refine o_pure hS (.inl rfl) rfl rfl ?_; clear hS; try clear tm
   intro tm hS
   refine o_pure hS (.inl rfl) rfl rfl ?_; clear hS; try clear tm
   intro tm hS
   obtain ⟨c5, hc5, h0⟩ := bindS h0
   refine o_cutN 15 (J := fun tm H => S wm 128 tm H [(74, .bool c5), (2, .pointer (some ⟨b2, 0, none⟩)), (3, .pointer (some ⟨b3, 0, none⟩)), (5, .pointer (some ⟨b4, 0, none⟩))] [.box b4 [.bool r3.Char, v5, v6], .own (rI .i64) v5 r3.Shape, .own (rI .i64) v6 r3.Data, .box b3 [.bool b1.Char, v3, v4], .box b2 [.bool a1.Char, v1, v2], .fz (rI .i64) v1 a1.Shape, .fz (rI .i64) v2 a1.Data, .fz (rI .i64) v3 b1.Shape, .fz (rI .i64) v4 b1.Data] Fr) ?_ ?_
   ·rcases Bool.eq_false_or_eq_true ((r3.Shape.length : Int) != (a1.Shape.length : Int)) with hg5 | hg5
    ·replace hc5 := iteT hg5 hc5
     refine o_skip hS rfl rfl rfl hg5 ?_; clear hS; try clear tm
     intro tm hS
     refine o_skip hS rfl rfl rfl hg5 ?_; clear hS; try clear tm
     intro tm hS
     refine o_skip hS rfl rfl rfl hg5 ?_; clear hS; try clear tm
     intro tm hS
     refine o_skip hS rfl rfl rfl hg5 ?_; clear hS; try clear tm
     intro tm hS
     refine o_skip hS rfl rfl rfl hg5 ?_; clear hS; try clear tm
     intro tm hS
     refine o_skip hS rfl rfl rfl hg5 ?_; clear hS; try clear tm
     intro tm hS
     refine o_skip hS rfl rfl rfl hg5 ?_; clear hS; try clear tm
     intro tm hS
     refine o_skip hS rfl rfl rfl hg5 ?_; clear hS; try clear tm
     intro tm hS
     refine o_skip hS rfl rfl rfl hg5 ?_; clear hS; try clear tm
     intro tm hS
     refine o_skip hS rfl rfl rfl hg5 ?_; clear hS; try clear tm
     intro tm hS
     refine o_skip hS rfl rfl rfl hg5 ?_; clear hS; try clear tm
     intro tm hS
     refine o_skip hS rfl rfl rfl hg5 ?_; clear hS; try clear tm
     intro tm hS
     refine o_skip hS rfl rfl rfl hg5 ?_; clear hS; try clear tm
     intro tm hS
     refine o_skip hS rfl rfl rfl hg5 ?_; clear hS; try clear tm
     intro tm hS
     refine o_pickT hS (.inl rfl) rfl rfl hg5 rfl ?_; clear hS; try clear tm
     intro tm hS
     obtain rfl := Option.some.inj hc5
     exact o_nil (hS.keep (ka_cons rfl (ka_cons rfl (ka_cons rfl (ka_cons rfl ka_nil)))) (fun hI => (hI.sub (sc (sc (sc (sc (sc (sc (sc (sc (sc sn))))))))))))
    ·replace hc5 := iteF hg5 hc5
     refine o_pure hS (.inr ⟨_, _, _, _, rfl, rfl, rfl, hg5⟩) rfl rfl ?_; clear hS; try clear tm
     intro tm hS
     refine o_ld1 (k := 0) hS (.inr ⟨_, _, _, _, rfl, rfl, rfl, hg5⟩) rfl rfl rfl (.inl rfl) Fu22 rfl rfl ?_; clear hS; try clear tm
     intro tm hS
     obtain ⟨y1, hx4, hc5⟩ := bindS hc5
     refine o_ixA (k := 1) (r := (rI .i64)) hS (.inr ⟨_, _, _, _, rfl, rfl, rfl, hg5⟩) rfl rfl rfl rfl (.inr (.inl rfl)) Fu22 Fs3 hx4 ?_; clear hS; try clear tm
     intro tm hS
     refine o_ldF (r := (rI .i64)) (k := 1) hS (.inr ⟨_, _, _, _, rfl, rfl, rfl, hg5⟩) rfl rfl rfl (.inr (.inl rfl)) hx4 Fu3 rfl (flat_I _) rfl ?_; clear hS; try clear tm
     intro tm hS
     refine o_pure hS (.inr ⟨_, _, _, _, rfl, rfl, rfl, hg5⟩) rfl rfl ?_; clear hS; try clear tm
     intro tm hS
     refine o_ld1 (k := 4) hS (.inr ⟨_, _, _, _, rfl, rfl, rfl, hg5⟩) rfl rfl rfl (.inl rfl) Fu22 rfl rfl ?_; clear hS; try clear tm
     intro tm hS
     obtain ⟨y2, hx5, hc5⟩ := bindS hc5
     refine o_ixA (k := 5) (r := (rI .i64)) hS (.inr ⟨_, _, _, _, rfl, rfl, rfl, hg5⟩) rfl rfl rfl rfl (.inl rfl) Fu22 Fs3 hx5 ?_; clear hS; try clear tm
     intro tm hS
     refine o_ldF (r := (rI .i64)) (k := 5) hS (.inr ⟨_, _, _, _, rfl, rfl, rfl, hg5⟩) rfl rfl rfl (.inl rfl) hx5 Fu3 rfl (flat_I _) rfl ?_; clear hS; try clear tm
     intro tm hS
     refine o_pure hS (.inr ⟨_, _, _, _, rfl, rfl, rfl, hg5⟩) rfl rfl ?_; clear hS; try clear tm
     intro tm hS
     refine o_ld1 (k := 3) hS (.inr ⟨_, _, _, _, rfl, rfl, rfl, hg5⟩) rfl rfl rfl (.inl rfl) Fu22 rfl rfl ?_; clear hS; try clear tm
     intro tm hS
     obtain ⟨y3, hx6, hc5⟩ := bindS hc5
     refine o_ixA (k := 7) (r := (rI .i64)) hS (.inr ⟨_, _, _, _, rfl, rfl, rfl, hg5⟩) rfl rfl rfl rfl (.inl rfl) Fu22 Fs3 hx6 ?_; clear hS; try clear tm
     intro tm hS
     refine o_ldF (r := (rI .i64)) (k := 7) hS (.inr ⟨_, _, _, _, rfl, rfl, rfl, hg5⟩) rfl rfl rfl (.inl rfl) hx6 Fu3 rfl (flat_I _) rfl ?_; clear hS; try clear tm
     intro tm hS
     refine o_pure hS (.inr ⟨_, _, _, _, rfl, rfl, rfl, hg5⟩) rfl rfl ?_; clear hS; try clear tm
     intro tm hS
     refine o_pure hS (.inr ⟨_, _, _, _, rfl, rfl, rfl, hg5⟩) rfl rfl ?_; clear hS; try clear tm
     intro tm hS
     refine o_pickF hS (.inl rfl) rfl rfl hg5 rfl ?_; clear hS; try clear tm
     intro tm hS
     obtain rfl := Option.some.inj hc5
     exact o_nil (hS.keep (ka_cons rfl (ka_cons rfl (ka_cons rfl (ka_cons rfl ka_nil)))) (fun hI => (hI.sub (sc (sc (sc (sc (sc (sc (sc (sc (sc sn))))))))))))
   intro tm H hS
   refine o_pure hS (.inl rfl) rfl rfl ?_; clear hS; try clear tm
   intro tm hS
   obtain ⟨c6, hc6⟩ : ∃ x : Bool, x = (c5 || ((r3.Data.length : Int) != (IntKind.i64.wrap ((a1.Data.length : Int) + (b1.Data.length : Int))))) := ⟨_, rfl⟩
   refine o_cutN 12 (J := fun tm H => S wm 128 tm H [(87, .bool c6), (2, .pointer (some ⟨b2, 0, none⟩)), (3, .pointer (some ⟨b3, 0, none⟩)), (5, .pointer (some ⟨b4, 0, none⟩))] [.box b4 [.bool r3.Char, v5, v6], .own (rI .i64) v5 r3.Shape, .own (rI .i64) v6 r3.Data, .box b3 [.bool b1.Char, v3, v4], .box b2 [.bool a1.Char, v1, v2], .fz (rI .i64) v1 a1.Shape, .fz (rI .i64) v2 a1.Data, .fz (rI .i64) v3 b1.Shape, .fz (rI .i64) v4 b1.Data] Fr) ?_ ?_
   ·rcases Bool.eq_false_or_eq_true c5 with hg6 | hg6
    ·refine o_skip hS rfl rfl rfl hg6 ?_; clear hS; try clear tm
     intro tm hS
     refine o_skip hS rfl rfl rfl hg6 ?_; clear hS; try clear tm
     intro tm hS
     refine o_skip hS rfl rfl rfl hg6 ?_; clear hS; try clear tm
     intro tm hS
     refine o_skip hS rfl rfl rfl hg6 ?_; clear hS; try clear tm
     intro tm hS
     refine o_skip hS rfl rfl rfl hg6 ?_; clear hS; try clear tm
     intro tm hS
     refine o_skip hS rfl rfl rfl hg6 ?_; clear hS; try clear tm
     intro tm hS
     refine o_skip hS rfl rfl rfl hg6 ?_; clear hS; try clear tm
     intro tm hS
     refine o_skip hS rfl rfl rfl hg6 ?_; clear hS; try clear tm
     intro tm hS
     refine o_skip hS rfl rfl rfl hg6 ?_; clear hS; try clear tm
     intro tm hS
     refine o_skip hS rfl rfl rfl hg6 ?_; clear hS; try clear tm
     intro tm hS
     refine o_skip hS rfl rfl rfl hg6 ?_; clear hS; try clear tm
     intro tm hS
     refine o_pickT hS (.inl rfl) rfl rfl hg6 rfl ?_; clear hS; try clear tm
     intro tm hS
     have hc6 : c6 = true := hc6.trans (by rw [hg6]; first | rfl | simp)
     subst hc6
     exact o_nil (hS.keep (ka_cons rfl (ka_cons rfl (ka_cons rfl (ka_cons rfl ka_nil)))) (fun hI => (hI.sub (sc (sc (sc (sc (sc (sc (sc (sc (sc sn))))))))))))
    ·refine o_pure hS (.inr ⟨_, _, _, _, rfl, rfl, rfl, hg6⟩) rfl rfl ?_; clear hS; try clear tm
     intro tm hS
     refine o_ld1 (k := 0) hS (.inr ⟨_, _, _, _, rfl, rfl, rfl, hg6⟩) rfl rfl rfl (.inl rfl) Fu23 rfl rfl ?_; clear hS; try clear tm
     intro tm hS
     refine o_len (k := 2) (r := (rI .i64)) hS (.inr ⟨_, _, _, _, rfl, rfl, rfl, hg6⟩) rfl rfl rfl (.inr (.inl rfl)) Fu23 rfl ?_; clear hS; try clear tm
     intro tm hS
     refine o_pure hS (.inr ⟨_, _, _, _, rfl, rfl, rfl, hg6⟩) rfl rfl ?_; clear hS; try clear tm
     intro tm hS
     refine o_ld1 (k := 4) hS (.inr ⟨_, _, _, _, rfl, rfl, rfl, hg6⟩) rfl rfl rfl (.inl rfl) Fu23 rfl rfl ?_; clear hS; try clear tm
     intro tm hS
     refine o_len (k := 6) (r := (rI .i64)) hS (.inr ⟨_, _, _, _, rfl, rfl, rfl, hg6⟩) rfl rfl rfl (.inl rfl) Fu23 rfl ?_; clear hS; try clear tm
     intro tm hS
     refine o_pure hS (.inr ⟨_, _, _, _, rfl, rfl, rfl, hg6⟩) rfl rfl ?_; clear hS; try clear tm
     intro tm hS
     refine o_ld1 (k := 3) hS (.inr ⟨_, _, _, _, rfl, rfl, rfl, hg6⟩) rfl rfl rfl (.inl rfl) Fu23 rfl rfl ?_; clear hS; try clear tm
     intro tm hS
     refine o_len (k := 8) (r := (rI .i64)) hS (.inr ⟨_, _, _, _, rfl, rfl, rfl, hg6⟩) rfl rfl rfl (.inl rfl) Fu23 rfl ?_; clear hS; try clear tm
     intro tm hS
     refine o_pure hS (.inr ⟨_, _, _, _, rfl, rfl, rfl, hg6⟩) rfl rfl ?_; clear hS; try clear tm
     intro tm hS
     refine o_pure hS (.inr ⟨_, _, _, _, rfl, rfl, rfl, hg6⟩) rfl rfl ?_; clear hS; try clear tm
     intro tm hS
     refine o_pickF hS (.inl rfl) rfl rfl hg6 rfl ?_; clear hS; try clear tm
     intro tm hS
     have hc6 : c6 = ((r3.Data.length : Int) != (IntKind.i64.wrap ((a1.Data.length : Int) + (b1.Data.length : Int)))) := hc6.trans (by rw [hg6]; first | rfl | simp)
     subst hc6
     exact o_nil (hS.keep (ka_cons rfl (ka_cons rfl (ka_cons rfl (ka_cons rfl ka_nil)))) (fun hI => (hI.sub (sc (sc (sc (sc (sc (sc (sc (sc (sc sn))))))))))))
   intro tm H hS
   subst hc6
   refine o_nil (hR _ _ ?_)
   clear hR R
   refine c_cond hS rfl (fun hc => ?_) (fun hc => ?_)
   ·replace h0 := iteT hc h0
    refine c_reg fun R hR => ?_
    refine o_pure hS (.inl rfl) rfl rfl ?_; clear hS; try clear tm
    intro tm hS
    refine o_nil (hR _ _ ?_)
    clear hR R
    refine wpC.ret ?_
    obtain rfl := Option.some.inj h0
    refine Exists.intro _ (And.intro (rs_tmp hS rfl rs_nil) ?_)
    have hI := hS.inv
    exact ⟨rfl, (hI.sub sn)⟩
   ·replace h0 := iteF hc h0
    refine wpC.skip ?_
    refine c_reg fun R hR => ?_
    refine o_ldA (k := 4) hS (.inl rfl) rfl rfl rfl (.inl rfl) Fu27 rfl Fs27 rfl ?_; clear hS; try clear tm
    intro tm hS
    obtain ⟨⟨r5, r6⟩, hx7, h0⟩ := bindS h0
    refine o_call hS (.inl rfl) rfl (fun wm' hw1 hw2 => wk28  a1  v1 v2 (((hS.sel hw2).ad 6 rfl).ad 5 rfl) hx7) (fun wm' res H hw' hp => ?_)
    obtain ⟨v7, v8, hres, hI⟩ := hp
    replace hres := hres.symm; subst hres
    replace hS : S wm 128 _ H ((90, .tuple #[.agg #[.bool r5.Char, v7, v8], .int .i64 r6]) :: _) ([.own (rI .i64) v7 r5.Shape, .own (rI .i64) v8 r5.Data] ++ _) Fr := hS.after rfl hw' hI
    clear hI hw'
    refine o_pure hS (.inl rfl) rfl rfl ?_; clear hS; try clear tm
    intro tm hS
    refine o_pure hS (.inl rfl) rfl rfl ?_; clear hS; try clear tm
    intro tm hS
    refine o_pure hS (.inl rfl) rfl rfl ?_; clear hS; try clear tm
    intro tm hS
    refine o_alloc hS (.inl rfl) rfl Fz27 (by decide) ?_; clear hS; try clear tm H
    intro b5 tm H hS
    refine o_st (k := 0) hS (.inl rfl) rfl rfl rfl Fs27 rfl rfl (all_cons rfl (all_cons (hS.one (k := 1) rfl (.inr (.inl rfl))) (all_cons (hS.one (k := 2) rfl (.inr (.inl rfl))) all_nil))) rfl ?_; clear hS; try clear H
    intro H hS
    refine o_pure hS (.inl rfl) rfl rfl ?_; clear hS; try clear tm
    intro tm hS
    refine o_nil (hR _ _ ?_)
    clear hR R
    refine c_reg fun R hR => ?_
    refine o_ldA (k := 6) hS (.inl rfl) rfl rfl rfl (.inl rfl) Fu27 rfl Fs27 rfl ?_; clear hS; try clear tm
    intro tm hS
    obtain ⟨⟨r7, r8⟩, hx8, h0⟩ := bindS h0
    refine o_call hS (.inl rfl) rfl (fun wm' hw1 hw2 => wk28  b1  v3 v4 (((hS.sel hw2).ad 11 rfl).ad 10 rfl) hx8) (fun wm' res H hw' hp => ?_)
    obtain ⟨v9, v10, hres, hI⟩ := hp
    replace hres := hres.symm; subst hres
    replace hS : S wm 128 _ H ((95, .tuple #[.agg #[.bool r7.Char, v9, v10], .int .i64 r8]) :: _) ([.own (rI .i64) v9 r7.Shape, .own (rI .i64) v10 r7.Data] ++ _) Fr := hS.after rfl hw' hI
    clear hI hw'
    refine o_pure hS (.inl rfl) rfl rfl ?_; clear hS; try clear tm
    intro tm hS
    refine o_pure hS (.inl rfl) rfl rfl ?_; clear hS; try clear tm
    intro tm hS
    refine o_pure hS (.inl rfl) rfl rfl ?_; clear hS; try clear tm
    intro tm hS
    refine o_alloc hS (.inl rfl) rfl Fz27 (by decide) ?_; clear hS; try clear tm H
    intro b6 tm H hS
    refine o_st (k := 0) hS (.inl rfl) rfl rfl rfl Fs27 rfl rfl (all_cons rfl (all_cons (hS.one (k := 1) rfl (.inr (.inl rfl))) (all_cons (hS.one (k := 2) rfl (.inr (.inl rfl))) all_nil))) rfl ?_; clear hS; try clear H
    intro H hS
    refine o_pure hS (.inl rfl) rfl rfl ?_; clear hS; try clear tm
    intro tm hS
    refine o_nil (hR _ _ ?_)
    clear hR R
    refine c_reg fun R hR => ?_
    refine o_ldA (k := 6) hS (.inl rfl) rfl rfl rfl (.inl rfl) Fu27 rfl Fs27 rfl ?_; clear hS; try clear tm
    intro tm hS
    obtain ⟨⟨r9, r10⟩, hx9, h0⟩ := bindS h0
    refine o_call (Pc := fun _ res H => ∃ v11 v12, res = .tuple #[.agg #[.bool r9.Char, v11, v12], .int .i64 r10] ∧ Kn wm H ([.own (rI .i64) v11 r9.Shape, .own (rI .i64) v12 r9.Data] ++ [.box b6 [.bool r7.Char, v9, v10], .own (rI .i64) v9 r7.Shape, .own (rI .i64) v10 r7.Data, .box b5 [.bool r5.Char, v7, v8], .own (rI .i64) v7 r5.Shape, .own (rI .i64) v8 r5.Data, .box b4 [.bool r3.Char, v5, v6], .own (rI .i64) v5 r3.Shape, .own (rI .i64) v6 r3.Data, .box b3 [.bool b1.Char, v3, v4], .box b2 [.bool a1.Char, v1, v2], .fz (rI .i64) v1 a1.Shape, .fz (rI .i64) v2 a1.Data, .fz (rI .i64) v3 b1.Shape, .fz (rI .i64) v4 b1.Data]) Fr) hS (.inl rfl) rfl (fun wm' hw1 hw2 => by
     obtain ⟨F2, k1, k2⟩ := hS.inv.lendR (La := [.fz (rI .i64) v5 r3.Shape, .fz (rI .i64) v6 r3.Data]) (List.forall_mem_cons.mpr ⟨(.inr ⟨_, _, _, _, rfl, .inl (List.mem_of_getElem? (i := 7) rfl)⟩), (List.forall_mem_cons.mpr ⟨(.inr ⟨_, _, _, _, rfl, .inl (List.mem_of_getElem? (i := 8) rfl)⟩), (fun _ h => by cases h)⟩)⟩) hw1 hw2
     exact (wk28  r3  v5 v6 k1 hx9).mono fun res H2 ⟨v11, v12, q1, q2⟩ => ⟨v11, v12, q1, k2 _ _ (List.forall_mem_cons.mpr ⟨⟨_, _, _, _, rfl, fun _ _ _ _ h => h⟩, (List.forall_mem_cons.mpr ⟨⟨_, _, _, _, rfl, fun _ _ _ _ h => h⟩, (fun _ h => by cases h)⟩)⟩) q2⟩) (fun wm' res H hw' hp => ?_)
    obtain ⟨v11, v12, hres, hI⟩ := hp
    replace hres := hres.symm; subst hres
    replace hS : S wm 128 _ H ((100, .tuple #[.agg #[.bool r9.Char, v11, v12], .int .i64 r10]) :: _) ([.own (rI .i64) v11 r9.Shape, .own (rI .i64) v12 r9.Data] ++ [.box b6 [.bool r7.Char, v9, v10], .own (rI .i64) v9 r7.Shape, .own (rI .i64) v10 r7.Data, .box b5 [.bool r5.Char, v7, v8], .own (rI .i64) v7 r5.Shape, .own (rI .i64) v8 r5.Data, .box b4 [.bool r3.Char, v5, v6], .own (rI .i64) v5 r3.Shape, .own (rI .i64) v6 r3.Data, .box b3 [.bool b1.Char, v3, v4], .box b2 [.bool a1.Char, v1, v2], .fz (rI .i64) v1 a1.Shape, .fz (rI .i64) v2 a1.Data, .fz (rI .i64) v3 b1.Shape, .fz (rI .i64) v4 b1.Data]) Fr := (hS.put rfl _).withK hI
    clear hI hw'
    refine o_pure hS (.inl rfl) rfl rfl ?_; clear hS; try clear tm
    intro tm hS
    refine o_pure hS (.inl rfl) rfl rfl ?_; clear hS; try clear tm
    intro tm hS
    refine o_pure hS (.inl rfl) rfl rfl ?_; clear hS; try clear tm
    intro tm hS
    refine o_alloc hS (.inl rfl) rfl Fz27 (by decide) ?_; clear hS; try clear tm H
    intro b7 tm H hS
    refine o_st (k := 0) hS (.inl rfl) rfl rfl rfl Fs27 rfl rfl (all_cons rfl (all_cons (hS.one (k := 1) rfl (.inr (.inl rfl))) (all_cons (hS.one (k := 2) rfl (.inr (.inl rfl))) all_nil))) rfl ?_; clear hS; try clear H
    intro H hS
    refine o_pure hS (.inl rfl) rfl rfl ?_; clear hS; try clear tm
    intro tm hS
    refine o_nil (hR _ _ ?_)
    clear hR R
    refine c_reg fun R hR => ?_
    refine o_ldA (k := 6) hS (.inl rfl) rfl rfl rfl (.inl rfl) Fu27 rfl Fs27 rfl ?_; clear hS; try clear tm
    intro tm hS
    refine o_ldA (k := 3) hS (.inl rfl) rfl rfl rfl (.inl rfl) Fu27 rfl Fs27 rfl ?_; clear hS; try clear tm
    intro tm hS
    obtain ⟨⟨r11, r12⟩, hx10, h0⟩ := bindS h0
    refine o_call (Pc := fun _ res H => ∃ v13 v14, res = .tuple #[.agg #[.bool r11.Char, v13, v14], .int .i64 r12] ∧ Kn wm H ([.own (rI .i64) v13 r11.Shape, .own (rI .i64) v14 r11.Data] ++ [.box b7 [.bool r9.Char, v11, v12], .own (rI .i64) v11 r9.Shape, .own (rI .i64) v12 r9.Data, .box b6 [.bool r7.Char, v9, v10], .own (rI .i64) v9 r7.Shape, .own (rI .i64) v10 r7.Data, .box b5 [.bool r5.Char, v7, v8], .own (rI .i64) v7 r5.Shape, .own (rI .i64) v8 r5.Data, .box b4 [.bool r3.Char, v5, v6], .own (rI .i64) v5 r3.Shape, .own (rI .i64) v6 r3.Data, .box b3 [.bool b1.Char, v3, v4], .box b2 [.bool a1.Char, v1, v2], .fz (rI .i64) v1 a1.Shape, .fz (rI .i64) v2 a1.Data, .fz (rI .i64) v3 b1.Shape, .fz (rI .i64) v4 b1.Data]) Fr) hS (.inl rfl) rfl (fun wm' hw1 hw2 => by
     obtain ⟨F2, k1, k2⟩ := hS.inv.lendR (La := [.fz (rI .i64) v7 r5.Shape, .fz (rI .i64) v8 r5.Data, .fz (rI .i64) v9 r7.Shape, .fz (rI .i64) v10 r7.Data]) (List.forall_mem_cons.mpr ⟨(.inr ⟨_, _, _, _, rfl, .inl (List.mem_of_getElem? (i := 7) rfl)⟩), (List.forall_mem_cons.mpr ⟨(.inr ⟨_, _, _, _, rfl, .inl (List.mem_of_getElem? (i := 8) rfl)⟩), (List.forall_mem_cons.mpr ⟨(.inr ⟨_, _, _, _, rfl, .inl (List.mem_of_getElem? (i := 4) rfl)⟩), (List.forall_mem_cons.mpr ⟨(.inr ⟨_, _, _, _, rfl, .inl (List.mem_of_getElem? (i := 5) rfl)⟩), (fun _ h => by cases h)⟩)⟩)⟩)⟩) hw1 hw2
     exact (wk23  r5 r7 (-1)  v7 v8 v9 v10 k1 hx10).mono fun res H2 ⟨v13, v14, q1, q2⟩ => ⟨v13, v14, q1, k2 _ _ (List.forall_mem_cons.mpr ⟨⟨_, _, _, _, rfl, fun _ _ _ _ h => h⟩, (List.forall_mem_cons.mpr ⟨⟨_, _, _, _, rfl, fun _ _ _ _ h => h⟩, (fun _ h => by cases h)⟩)⟩) q2⟩) (fun wm' res H hw' hp => ?_)
    obtain ⟨v13, v14, hres, hI⟩ := hp
    replace hres := hres.symm; subst hres
    replace hS : S wm 128 _ H ((106, .tuple #[.agg #[.bool r11.Char, v13, v14], .int .i64 r12]) :: _) ([.own (rI .i64) v13 r11.Shape, .own (rI .i64) v14 r11.Data] ++ [.box b7 [.bool r9.Char, v11, v12], .own (rI .i64) v11 r9.Shape, .own (rI .i64) v12 r9.Data, .box b6 [.bool r7.Char, v9, v10], .own (rI .i64) v9 r7.Shape, .own (rI .i64) v10 r7.Data, .box b5 [.bool r5.Char, v7, v8], .own (rI .i64) v7 r5.Shape, .own (rI .i64) v8 r5.Data, .box b4 [.bool r3.Char, v5, v6], .own (rI .i64) v5 r3.Shape, .own (rI .i64) v6 r3.Data, .box b3 [.bool b1.Char, v3, v4], .box b2 [.bool a1.Char, v1, v2], .fz (rI .i64) v1 a1.Shape, .fz (rI .i64) v2 a1.Data, .fz (rI .i64) v3 b1.Shape, .fz (rI .i64) v4 b1.Data]) Fr := (hS.put rfl _).withK hI
    clear hI hw'
    refine o_pure hS (.inl rfl) rfl rfl ?_; clear hS; try clear tm
    intro tm hS
    refine o_pure hS (.inl rfl) rfl rfl ?_; clear hS; try clear tm
    intro tm hS
    refine o_pure hS (.inl rfl) rfl rfl ?_; clear hS; try clear tm
    intro tm hS
    refine o_alloc hS (.inl rfl) rfl Fz27 (by decide) ?_; clear hS; try clear tm H
    intro b8 tm H hS
    refine o_st (k := 0) hS (.inl rfl) rfl rfl rfl Fs27 rfl rfl (all_cons rfl (all_cons (hS.one (k := 1) rfl (.inr (.inl rfl))) (all_cons (hS.one (k := 2) rfl (.inr (.inl rfl))) all_nil))) rfl ?_; clear hS; try clear H
    intro H hS
    refine o_pure hS (.inl rfl) rfl rfl ?_; clear hS; try clear tm
    intro tm hS
    refine o_nil (hR _ _ ?_)
    clear hR R
    refine c_reg fun R hR => ?_
    refine o_pure hS (.inl rfl) rfl rfl ?_; clear hS; try clear tm
    intro tm hS
    refine o_pure hS (.inl rfl) rfl rfl ?_; clear hS; try clear tm
    intro tm hS
    refine o_pure hS (.inl rfl) rfl rfl ?_; clear hS; try clear tm
    intro tm hS
    obtain ⟨c7, hc7⟩ : ∃ x : Bool, x = ((r6 == 0) && (r8 == 0)) := ⟨_, rfl⟩
    refine o_cutN 3 (J := fun tm H => S wm 128 tm H [(114, .bool c7), (11, .pointer (some ⟨b7, 0, none⟩)), (12, .int .i64 r10), (13, .pointer (some ⟨b8, 0, none⟩)), (14, .int .i64 r12)] [.box b8 [.bool r11.Char, v13, v14], .own (rI .i64) v13 r11.Shape, .own (rI .i64) v14 r11.Data, .box b7 [.bool r9.Char, v11, v12], .own (rI .i64) v11 r9.Shape, .own (rI .i64) v12 r9.Data] Fr) ?_ ?_
    ·rcases Bool.eq_false_or_eq_true (r6 == 0) with hg7 | hg7
     ·refine o_pure hS (.inr ⟨_, _, _, _, rfl, rfl, rfl, hg7⟩) rfl rfl ?_; clear hS; try clear tm
      intro tm hS
      refine o_pure hS (.inr ⟨_, _, _, _, rfl, rfl, rfl, hg7⟩) rfl rfl ?_; clear hS; try clear tm
      intro tm hS
      refine o_pickT hS (.inl rfl) rfl rfl hg7 rfl ?_; clear hS; try clear tm
      intro tm hS
      have hc7 : c7 = (r8 == 0) := hc7.trans (by rw [hg7]; first | rfl | simp)
      subst hc7
      exact o_nil (hS.keep (ka_cons rfl (ka_cons rfl (ka_cons rfl (ka_cons rfl (ka_cons rfl ka_nil))))) (fun hI => (hI.sub (sc (sc (sc (sc (sc (sc sn)))))))))
     ·refine o_skip hS rfl rfl rfl hg7 ?_; clear hS; try clear tm
      intro tm hS
      refine o_skip hS rfl rfl rfl hg7 ?_; clear hS; try clear tm
      intro tm hS
      refine o_pickF hS (.inl rfl) rfl rfl hg7 rfl ?_; clear hS; try clear tm
      intro tm hS
      have hc7 : c7 = false := hc7.trans (by rw [hg7]; first | rfl | simp)
      subst hc7
      exact o_nil (hS.keep (ka_cons rfl (ka_cons rfl (ka_cons rfl (ka_cons rfl (ka_cons rfl ka_nil))))) (fun hI => (hI.sub (sc (sc (sc (sc (sc (sc sn)))))))))
    intro tm H hS
    subst hc7
    refine o_pure hS (.inl rfl) rfl rfl ?_; clear hS; try clear tm
    intro tm hS
    obtain ⟨c8, hc8, h0⟩ := bindS h0
    refine o_cutN 5 (J := fun tm H => S wm 128 tm H [(120, .bool c8), (12, .int .i64 r10)] [] Fr) ?_ ?_
    ·rcases Bool.eq_false_or_eq_true ((r6 == 0) && (r8 == 0)) with hg8 | hg8
     ·replace hc8 := iteT hg8 hc8
      refine o_ldA (k := 0) hS (.inr ⟨_, _, _, _, rfl, rfl, rfl, hg8⟩) rfl rfl rfl (.inl rfl) Fu27 rfl Fs27 rfl ?_; clear hS; try clear tm
      intro tm hS
      refine o_pure hS (.inr ⟨_, _, _, _, rfl, rfl, rfl, hg8⟩) rfl rfl ?_; clear hS; try clear tm
      intro tm hS
      refine o_ldA (k := 3) hS (.inr ⟨_, _, _, _, rfl, rfl, rfl, hg8⟩) rfl rfl rfl (.inl rfl) Fu27 rfl Fs27 rfl ?_; clear hS; try clear tm
      intro tm hS
      obtain ⟨r13, hx11, hc8⟩ := bindS hc8
      refine o_call (Pc := fun _ res H => res = .bool r13 ∧ Kn wm H ([.box b8 [.bool r11.Char, v13, v14], .own (rI .i64) v13 r11.Shape, .own (rI .i64) v14 r11.Data, .box b7 [.bool r9.Char, v11, v12], .own (rI .i64) v11 r9.Shape, .own (rI .i64) v12 r9.Data]) Fr) hS (.inr ⟨_, _, _, _, rfl, rfl, rfl, hg8⟩) rfl (fun wm' hw1 hw2 => by
       obtain ⟨F2, k1, k2⟩ := hS.inv.lend (La := [.fz (rI .i64) v13 r11.Shape, .fz (rI .i64) v14 r11.Data, .fz (rI .i64) v11 r9.Shape, .fz (rI .i64) v12 r9.Data]) (List.forall_mem_cons.mpr ⟨(.inr ⟨_, _, _, _, rfl, .inl (List.mem_of_getElem? (i := 1) rfl)⟩), (List.forall_mem_cons.mpr ⟨(.inr ⟨_, _, _, _, rfl, .inl (List.mem_of_getElem? (i := 2) rfl)⟩), (List.forall_mem_cons.mpr ⟨(.inr ⟨_, _, _, _, rfl, .inl (List.mem_of_getElem? (i := 4) rfl)⟩), (List.forall_mem_cons.mpr ⟨(.inr ⟨_, _, _, _, rfl, .inl (List.mem_of_getElem? (i := 5) rfl)⟩), (fun _ h => by cases h)⟩)⟩)⟩)⟩) hw1 hw2
       exact (wk29  r11 r12 r9  v13 v14 v11 v12 k1 hx11).mono fun res H2 ⟨q1, q2⟩ => ⟨q1, k2 _ q2⟩) (fun wm' res H hw' hp => ?_)
      obtain ⟨hres, hI⟩ := hp
      replace hres := hres.symm; subst hres
      replace hS : S wm 128 _ H ((119, .bool r13) :: _) ([.box b8 [.bool r11.Char, v13, v14], .own (rI .i64) v13 r11.Shape, .own (rI .i64) v14 r11.Data, .box b7 [.bool r9.Char, v11, v12], .own (rI .i64) v11 r9.Shape, .own (rI .i64) v12 r9.Data]) Fr := (hS.put rfl _).withK hI
      clear hI hw'
      refine o_pickT hS (.inl rfl) rfl rfl hg8 rfl ?_; clear hS; try clear tm
      intro tm hS
      obtain rfl := Option.some.inj hc8
      exact o_nil (hS.keep (ka_cons rfl (ka_cons rfl ka_nil)) (fun hI => (hI.sub sn)))
     ·replace hc8 := iteF hg8 hc8
      refine o_skip hS rfl rfl rfl hg8 ?_; clear hS; try clear tm
      intro tm hS
      refine o_skip hS rfl rfl rfl hg8 ?_; clear hS; try clear tm
      intro tm hS
      refine o_skip hS rfl rfl rfl hg8 ?_; clear hS; try clear tm
      intro tm hS
      refine o_skip hS rfl rfl rfl hg8 ?_; clear hS; try clear tm
      intro tm hS
      refine o_pickF hS (.inl rfl) rfl rfl hg8 rfl ?_; clear hS; try clear tm
      intro tm hS
      obtain rfl := Option.some.inj hc8
      exact o_nil (hS.keep (ka_cons rfl (ka_cons rfl ka_nil)) (fun hI => (hI.sub sn)))
    intro tm H hS
    refine o_pure hS (.inl rfl) rfl rfl ?_; clear hS; try clear tm
    intro tm hS
    obtain ⟨c9, hc9⟩ : ∃ x : Bool, x = (c8 && (r10 == 0)) := ⟨_, rfl⟩
    refine o_cutN 3 (J := fun tm H => S wm 128 tm H [(124, .bool c9)] [] Fr) ?_ ?_
    ·rcases Bool.eq_false_or_eq_true c8 with hg9 | hg9
     ·refine o_pure hS (.inr ⟨_, _, _, _, rfl, rfl, rfl, hg9⟩) rfl rfl ?_; clear hS; try clear tm
      intro tm hS
      refine o_pure hS (.inr ⟨_, _, _, _, rfl, rfl, rfl, hg9⟩) rfl rfl ?_; clear hS; try clear tm
      intro tm hS
      refine o_pickT hS (.inl rfl) rfl rfl hg9 rfl ?_; clear hS; try clear tm
      intro tm hS
      have hc9 : c9 = (r10 == 0) := hc9.trans (by rw [hg9]; first | rfl | simp)
      subst hc9
      exact o_nil (hS.keep (ka_cons rfl ka_nil) (fun hI => (hI.sub sn)))
     ·refine o_skip hS rfl rfl rfl hg9 ?_; clear hS; try clear tm
      intro tm hS
      refine o_skip hS rfl rfl rfl hg9 ?_; clear hS; try clear tm
      intro tm hS
      refine o_pickF hS (.inl rfl) rfl rfl hg9 rfl ?_; clear hS; try clear tm
      intro tm hS
      have hc9 : c9 = false := hc9.trans (by rw [hg9]; first | rfl | simp)
      subst hc9
      exact o_nil (hS.keep (ka_cons rfl ka_nil) (fun hI => (hI.sub sn)))
    intro tm H hS
    subst hc9
    refine o_pure hS (.inl rfl) rfl rfl ?_; clear hS; try clear tm
    intro tm hS
    obtain ⟨c10, hc10⟩ : ∃ x : Bool, x = ((c8 && (r10 == 0)) && true) := ⟨_, rfl⟩
    refine o_cutN 2 (J := fun tm H => S wm 128 tm H [(127, .bool c10)] [] Fr) ?_ ?_
    ·rcases Bool.eq_false_or_eq_true (c8 && (r10 == 0)) with hg10 | hg10
     ·refine o_call hS (.inr ⟨_, _, _, _, rfl, rfl, rfl, hg10⟩) rfl (fun wm' hw1 hw2 => wpF.told ho21 (Q := fun v H' => v = .bool true ∧ H' = H) ⟨rfl, rfl⟩) (fun wm' res H hw' hp => ?_)
      obtain ⟨rfl, rfl⟩ := hp
      replace hS := hS.put (d := 126) rfl (.bool true)
      clear hw'
      refine o_pickT hS (.inl rfl) rfl rfl hg10 rfl ?_; clear hS; try clear tm
      intro tm hS
      have hc10 : c10 = true := hc10.trans (by rw [hg10]; first | rfl | simp)
      subst hc10
      exact o_nil (hS.keep (ka_cons rfl ka_nil) (fun hI => (hI.sub sn)))
     ·refine o_skip hS rfl rfl rfl hg10 ?_; clear hS; try clear tm
      intro tm hS
      refine o_pickF hS (.inl rfl) rfl rfl hg10 rfl ?_; clear hS; try clear tm
      intro tm hS
      have hc10 : c10 = false := hc10.trans (by rw [hg10]; first | rfl | simp)
      subst hc10
      exact o_nil (hS.keep (ka_cons rfl ka_nil) (fun hI => (hI.sub sn)))
    intro tm H hS
    subst hc10
    refine o_pure hS (.inl rfl) rfl rfl ?_; clear hS; try clear tm
    intro tm hS
    refine o_nil (hR _ _ ?_)
    clear hR R
    refine wpC.ret ?_
    obtain rfl := Option.some.inj h0
    refine Exists.intro _ (And.intro (rs_tmp hS rfl rs_nil) ?_)
    have hI := hS.inv
    exact ⟨rfl, (hI.sub sn)⟩
end Go.Proofs.Ytaedfhikoamfeaa.joinParts
