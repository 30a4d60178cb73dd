/- JoinBeside: walks of the code: the run of each function comes to what its plain function says. -/
import Derived.Test.YtaedfhikoamfeaaWJoinBesidea
set_option maxHeartbeats 4000000
set_option linter.unusedVariables false
set_option linter.unusedSimpArgs false
set_option maxRecDepth 100000
open Go Go.Am Go.Proofs
namespace Go.Proofs.Ytaedfhikoamfeaa.joinBeside
variable {ora : FuncId → Bool}
theorem wk24 {wm : Nat} {H : AHeap} {Fr : List Ent}  (a1 : Val) (b1 : Val) (axis1 : Int)  (v1 : Value) (v2 : Value) (v3 : Value) (v4 : Value) (hI : Kn wm H [.fz (rI .i64) v1 a1.Shape, .fz (rI .i64) v2 a1.Data, .fz (rI .i64) v3 b1.Shape, .fz (rI .i64) v4 b1.Data] Fr) {r : Val × Int} (h0 : M.anamnesisref07_Catenate a1 b1 axis1 = some r) :
  wpF Try.prog ora wm 24 [.agg #[.bool a1.Char, v1, v2], .agg #[.bool b1.Char, v3, v4], .int .i64 axis1] H (fun res H => ∃ v21 v22, res = .tuple #[.agg #[.bool r.1.Char, v21, v22], .int .i64 r.2] ∧ Kn wm H [.own (rI .i64) v21 r.1.Shape, .own (rI .i64) v22 r.1.Data] Fr) := by
 unfold M.anamnesisref07_Catenate at h0
 refine f_enter (n := 217) Try.func24 rfl (by simp) hI rfl rfl rfl fun tm hS => ?_
 clear hI
 refine c_reg fun R hR => ?_
 refine o_box hS (.inl rfl) rfl rfl rfl (all_cons rfl (all_cons (hS.one (k := 0) rfl (.inl rfl)) (all_cons (hS.one (k := 1) rfl (.inl rfl)) all_nil))) ?_; clear hS
 intro b2 tm H hS
 refine o_box hS (.inl rfl) rfl rfl rfl (all_cons rfl (all_cons (hS.one (k := 3) rfl (.inl rfl)) (all_cons (hS.one (k := 4) rfl (.inl rfl)) all_nil))) ?_; clear hS
 intro b3 tm H hS
 refine o_alloc hS (.inl rfl) rfl Fz27 (by decide) ?_; clear hS
 intro b4 tm H hS
 refine pp1 hS rfl rfl ?_; clear hS
 intro tm hS
 refine o_nil (hR _ _ ?_)
 clear hR R
 refine c_seqS ?_
 refine c_reg fun R hR => ?_
 refine o_ldA (k := 2) hS (.inl rfl) rfl rfl rfl (.inl rfl) Fu27 rfl Fs27 rfl ?_; clear hS
 intro tm hS
 obtain ⟨r1, hx1, h0⟩ := bindS h0
 refine o_call hS (.inl rfl) rfl (fun wm' hw1 hw2 => wk37  a1  v1 v2 (((hS.sel hw2).ad 4 rfl).ad 3 rfl) hx1) (fun wm' res H hw' hp => ?_)
 obtain ⟨hres, hI⟩ := hp
 replace hres := hres.symm; subst hres
 replace hS : S wm 217 _ H ((23, .bool r1) :: _) ([] ++ _) Fr := hS.after rfl hw' hI
 clear hI hw'
 refine pp2 hS rfl rfl rfl rfl ?_; clear hS
 intro tm hS
 obtain ⟨c1, hc1, h0⟩ := bindS h0
 refine o_cutN 4 (J := fun tm H => S wm 217 tm H [(29, .bool c1), (2, .int .i64 axis1), (3, .pointer (some ⟨b2, 0, none⟩)), (4, .pointer (some ⟨b3, 0, none⟩)), (6, .pointer (some ⟨b4, 0, none⟩))] [.box b4 [.bool false, (.slice none 0 0), (.slice none 0 0)], .box b3 [.bool b1.Char, v3, v4], .box b2 [.bool a1.Char, v1, v2], .fz (rI .i64) v1 a1.Shape, .fz (rI .i64) v2 a1.Data, .fz (rI .i64) v3 b1.Shape, .fz (rI .i64) v4 b1.Data] Fr) ?_ ?_
 ·rcases Bool.eq_false_or_eq_true (!r1) with hg1 | hg1
  ·replace hc1 := iteT hg1 hc1
   refine o_skip hS rfl rfl rfl hg1 ?_; clear hS
   intro tm hS
   refine o_skip hS rfl rfl rfl hg1 ?_; clear hS
   intro tm hS
   refine o_skip hS rfl rfl rfl hg1 ?_; clear hS
   intro tm hS
   refine o_pickT hS (.inl rfl) rfl rfl hg1 rfl ?_; clear hS
   intro tm hS
   obtain rfl := Option.some.inj hc1
   exact o_nil (hS.keep (k5 rfl rfl rfl rfl rfl) (fun hI => (hI.sub (sc (sc (sc (sc (sc (sc (sc sn))))))))))
  ·replace hc1 := iteF hg1 hc1
   refine o_ldA (k := 1) hS (.inr ⟨_, _, _, _, rfl, rfl, rfl, hg1⟩) rfl rfl rfl (.inl rfl) Fu27 rfl Fs27 rfl ?_; clear hS
   intro tm hS
   obtain ⟨r2, hx2, hc1⟩ := bindS hc1
   refine o_call hS (.inr ⟨_, _, _, _, rfl, rfl, rfl, hg1⟩) rfl (fun wm' hw1 hw2 => wk37  b1  v3 v4 (((hS.sel hw2).ad 6 rfl).ad 5 rfl) hx2) (fun wm' res H hw' hp => ?_)
   obtain ⟨hres, hI⟩ := hp
   replace hres := hres.symm; subst hres
   replace hS : S wm 217 _ H ((27, .bool r2) :: _) ([] ++ _) Fr := hS.after rfl hw' hI
   clear hI hw'
   refine o_pure hS (.inr ⟨_, _, _, _, rfl, rfl, rfl, hg1⟩) rfl rfl ?_; clear hS
   intro tm hS
   refine o_pickF hS (.inl rfl) rfl rfl hg1 rfl ?_; clear hS
   intro tm hS
   obtain rfl := Option.some.inj hc1
   exact o_nil (hS.keep (k5 rfl rfl rfl rfl rfl) (fun hI => (hI.sub (sc (sc (sc (sc (sc (sc (sc sn))))))))))
 intro tm H hS
 refine o_nil (hR _ _ ?_)
 clear hR R
 refine c_cond hS rfl (fun hc => ?_) (fun hc => ?_)
 ·replace h0 := iteT hc h0
  refine c_reg fun R hR => ?_
  refine o_build hS (.inl rfl) rfl Fb27 rfl .nil rfl ?_; clear hS
  intro tm hS
  refine o_st (k := 0) hS (.inl rfl) rfl rfl rfl Fs27 rfl rfl (all_cons rfl (all_cons rfl (all_cons rfl all_nil))) rfl ?_; clear hS; try clear H
  intro H hS
  refine pp1 hS rfl rfl ?_; clear hS
  intro tm hS
  refine o_nil (hR _ _ ?_)
  clear hR R
  refine wpC.ret ?_
  obtain rfl := Option.some.inj h0
  replace hS := hS.nilOwn (rI .i64)
  replace hS := hS.nilOwn (rI .i64)
  refine Exists.intro _ (And.intro (rs_cellA (k := 2) hS rfl rfl (.inl rfl) Fu27 rfl Fs27 rfl (rs_tmp hS rfl rs_nil)) ?_)
  have hI := hS.inv
  exact ⟨(.slice none 0 0), (.slice none 0 0), rfl, (((hI.pull 0 rfl).pull 1 rfl).take 2)⟩
 ·replace h0 := iteF hc h0
  refine wpC.skip ?_
  refine c_reg fun R hR => ?_
  refine pp1 hS rfl rfl ?_; clear hS
  intro tm hS
  refine o_ld1 (k := 2) hS (.inl rfl) rfl rfl rfl (.inl rfl) Fu22 rfl rfl ?_; clear hS
  intro tm hS
  refine o_len (k := 3) (r := (rI .i64)) hS (.inl rfl) rfl rfl rfl (.inl rfl) Fu22 rfl ?_; clear hS
  intro tm hS
  refine pp1 hS rfl rfl ?_; clear hS
  intro tm hS
  refine o_nil (hR _ _ ?_)
  clear hR R
  refine c_reg fun R hR => ?_
  refine pp1 hS rfl rfl ?_; clear hS
  intro tm hS
  refine o_ld1 (k := 1) hS (.inl rfl) rfl rfl rfl (.inl rfl) Fu22 rfl rfl ?_; clear hS
  intro tm hS
  refine o_len (k := 5) (r := (rI .i64)) hS (.inl rfl) rfl rfl rfl (.inl rfl) Fu22 rfl ?_; clear hS
  intro tm hS
  refine pp1 hS rfl rfl ?_; clear hS
  intro tm hS
  refine o_nil (hR _ _ ?_)
  clear hR R
  refine cr2 hS rfl rfl rfl rfl ?_; clear hS
  intro tm hS
  obtain ⟨rank1, h1, h0⟩ := bindS h0
  refine c_seqJ (J := fun tm H => (match (generalizing := false) rank1 with | rank1 => S wm 217 tm H [(2, .int .i64 axis1), (3, .pointer (some ⟨b2, 0, none⟩)), (4, .pointer (some ⟨b3, 0, none⟩)), (6, .pointer (some ⟨b4, 0, none⟩)), (8, .int .i64 (a1.Shape.length : Int)), (9, .int .i64 (b1.Shape.length : Int)), (10, .int .i64 rank1)] [.box b2 [.bool a1.Char, v1, v2], .box b3 [.bool b1.Char, v3, v4], .box b4 [.bool false, (.slice none 0 0), (.slice none 0 0)], .fz (rI .i64) v1 a1.Shape, .fz (rI .i64) v2 a1.Data, .fz (rI .i64) v3 b1.Shape, .fz (rI .i64) v4 b1.Data] Fr)) ?_ ?_
  ·refine cr3 hS rfl rfl rfl rfl rfl rfl ?_; clear hS
   intro tm hS
   refine c_cond hS rfl (fun hc => ?_) (fun hc => ?_)
   ·replace h1 := iteT hc h1
    refine cs2 hS rfl rfl rfl rfl ?_; clear hS
    intro tm hS
    obtain rfl := Option.some.inj h1
    change S wm 217 _ _ _ _ Fr; exact hS.keep (k7 rfl rfl rfl rfl rfl rfl rfl) (fun hI => ((((((((hI.pull 6 rfl).pull 6 rfl).pull 6 rfl).pull 6 rfl).pull 4 rfl).pull 5 rfl).pull 6 rfl).take 7))
   ·replace h1 := iteF hc h1
    refine wpC.skip ?_
    obtain rfl := Option.some.inj h1
    change S wm 217 _ _ _ _ Fr; exact hS.keep (k7 rfl rfl rfl rfl rfl rfl rfl) (fun hI => ((((((((hI.pull 6 rfl).pull 6 rfl).pull 6 rfl).pull 6 rfl).pull 4 rfl).pull 5 rfl).pull 6 rfl).take 7))
  intro tm H hS
  change S wm 217 tm H [(2, .int .i64 axis1), (3, .pointer (some ⟨b2, 0, none⟩)), (4, .pointer (some ⟨b3, 0, none⟩)), (6, .pointer (some ⟨b4, 0, none⟩)), (8, .int .i64 (a1.Shape.length : Int)), (9, .int .i64 (b1.Shape.length : Int)), (10, .int .i64 rank1)] [.box b2 [.bool a1.Char, v1, v2], .box b3 [.bool b1.Char, v3, v4], .box b4 [.bool false, (.slice none 0 0), (.slice none 0 0)], .fz (rI .i64) v1 a1.Shape, .fz (rI .i64) v2 a1.Data, .fz (rI .i64) v3 b1.Shape, .fz (rI .i64) v4 b1.Data] Fr at hS
  refine c_seqS ?_
  refine c_reg fun R hR => ?_
  refine pp3 hS rfl rfl rfl rfl rfl rfl ?_; clear hS
  intro tm hS
  obtain ⟨c2, hc2⟩ : ∃ x : Bool, x = ((decide (axis1 < (-1))) || (decide (axis1 ≥ rank1))) := ⟨_, rfl⟩
  refine o_cutN 4 (J := fun tm H => S wm 217 tm H [(48, .bool c2), (2, .int .i64 axis1), (3, .pointer (some ⟨b2, 0, none⟩)), (4, .pointer (some ⟨b3, 0, none⟩)), (6, .pointer (some ⟨b4, 0, none⟩)), (8, .int .i64 (a1.Shape.length : Int)), (9, .int .i64 (b1.Shape.length : Int)), (10, .int .i64 rank1)] [.box b2 [.bool a1.Char, v1, v2], .box b3 [.bool b1.Char, v3, v4], .box b4 [.bool false, (.slice none 0 0), (.slice none 0 0)], .fz (rI .i64) v1 a1.Shape, .fz (rI .i64) v2 a1.Data, .fz (rI .i64) v3 b1.Shape, .fz (rI .i64) v4 b1.Data] Fr) ?_ ?_
  ·rcases Bool.eq_false_or_eq_true (decide (axis1 < (-1))) with hg2 | hg2
   ·refine o_skip hS rfl rfl rfl hg2 ?_; clear hS
    intro tm hS
    refine o_skip hS rfl rfl rfl hg2 ?_; clear hS
    intro tm hS
    refine o_skip hS rfl rfl rfl hg2 ?_; clear hS
    intro tm hS
    refine o_pickT hS (.inl rfl) rfl rfl hg2 rfl ?_; clear hS
    intro tm hS
    have hc2 : c2 = true := hc2.trans (by rw [hg2]; first | rfl | simp)
    subst hc2
    exact o_nil (hS.keep (k8 rfl rfl rfl rfl rfl rfl rfl rfl) (fun hI => (hI.sub (sc (sc (sc (sc (sc (sc (sc sn))))))))))
   ·refine o_pure hS (.inr ⟨_, _, _, _, rfl, rfl, rfl, hg2⟩) rfl rfl ?_; clear hS
    intro tm hS
    refine o_pure hS (.inr ⟨_, _, _, _, rfl, rfl, rfl, hg2⟩) rfl rfl ?_; clear hS
    intro tm hS
    refine o_pure hS (.inr ⟨_, _, _, _, rfl, rfl, rfl, hg2⟩) rfl rfl ?_; clear hS
    intro tm hS
    refine o_pickF hS (.inl rfl) rfl rfl hg2 rfl ?_; clear hS
    intro tm hS
    have hc2 : c2 = (decide (axis1 ≥ rank1)) := hc2.trans (by rw [hg2]; first | rfl | simp)
    subst hc2
    exact o_nil (hS.keep (k8 rfl rfl rfl rfl rfl rfl rfl rfl) (fun hI => (hI.sub (sc (sc (sc (sc (sc (sc (sc sn))))))))))
  intro tm H hS
  subst hc2
  refine o_nil (hR _ _ ?_)
  clear hR R
  refine c_cond hS rfl (fun hc => ?_) (fun hc => ?_)
  ·replace h0 := iteT hc h0
   refine c_reg fun R hR => ?_
   refine o_build hS (.inl rfl) rfl Fb27 rfl .nil rfl ?_; clear hS
   intro tm hS
   refine o_st (k := 2) hS (.inl rfl) rfl rfl rfl Fs27 rfl rfl (all_cons rfl (all_cons rfl (all_cons rfl all_nil))) rfl ?_; clear hS; try clear H
   intro H hS
   refine pp1 hS rfl rfl ?_; clear hS
   intro tm hS
   refine o_nil (hR _ _ ?_)
   clear hR R
   refine wpC.ret ?_
   obtain rfl := Option.some.inj h0
   replace hS := hS.nilOwn (rI .i64)
   replace hS := hS.nilOwn (rI .i64)
   refine Exists.intro _ (And.intro (rs_cellA (k := 4) hS rfl rfl (.inl rfl) Fu27 rfl Fs27 rfl (rs_tmp hS rfl rs_nil)) ?_)
   have hI := hS.inv
   exact ⟨(.slice none 0 0), (.slice none 0 0), rfl, (((hI.pull 0 rfl).pull 1 rfl).take 2)⟩
  ·replace h0 := iteF hc h0
   refine wpC.skip ?_
   obtain ⟨rank2, h2, h0⟩ := bindS h0
   refine c_seqJ (J := fun tm H => (match (generalizing := false) rank2 with | rank2 => S wm 217 tm H [(2, .int .i64 axis1), (3, .pointer (some ⟨b2, 0, none⟩)), (4, .pointer (some ⟨b3, 0, none⟩)), (6, .pointer (some ⟨b4, 0, none⟩)), (8, .int .i64 (a1.Shape.length : Int)), (9, .int .i64 (b1.Shape.length : Int)), (10, .int .i64 rank2)] [.box b2 [.bool a1.Char, v1, v2], .box b3 [.bool b1.Char, v3, v4], .box b4 [.bool false, (.slice none 0 0), (.slice none 0 0)], .fz (rI .i64) v1 a1.Shape, .fz (rI .i64) v2 a1.Data, .fz (rI .i64) v3 b1.Shape, .fz (rI .i64) v4 b1.Data] Fr)) ?_ ?_
   ·refine cr2 hS rfl rfl rfl rfl ?_; clear hS
    intro tm hS
    refine c_cond hS rfl (fun hc => ?_) (fun hc => ?_)
    ·replace h2 := iteT hc h2
     refine cs1 hS rfl rfl ?_; clear hS
     intro tm hS
     obtain rfl := Option.some.inj h2
     change S wm 217 _ _ _ _ Fr; exact hS.keep (k7 rfl rfl rfl rfl rfl rfl rfl) (fun hI => (hI.sub (sc (sc (sc (sc (sc (sc (sc sn)))))))))
    ·replace h2 := iteF hc h2
     refine wpC.skip ?_
     obtain rfl := Option.some.inj h2
     change S wm 217 _ _ _ _ Fr; exact hS.keep (k7 rfl rfl rfl rfl rfl rfl rfl) (fun hI => (hI.sub (sc (sc (sc (sc (sc (sc (sc sn)))))))))
   intro tm H hS
   change S wm 217 tm H [(2, .int .i64 axis1), (3, .pointer (some ⟨b2, 0, none⟩)), (4, .pointer (some ⟨b3, 0, none⟩)), (6, .pointer (some ⟨b4, 0, none⟩)), (8, .int .i64 (a1.Shape.length : Int)), (9, .int .i64 (b1.Shape.length : Int)), (10, .int .i64 rank2)] [.box b2 [.bool a1.Char, v1, v2], .box b3 [.bool b1.Char, v3, v4], .box b4 [.bool false, (.slice none 0 0), (.slice none 0 0)], .fz (rI .i64) v1 a1.Shape, .fz (rI .i64) v2 a1.Data, .fz (rI .i64) v3 b1.Shape, .fz (rI .i64) v4 b1.Data] Fr at hS
   obtain ⟨axis2, h3, h0⟩ := bindS h0
   refine c_seqJ (J := fun tm H => (match (generalizing := false) axis2 with | axis2 => S wm 217 tm H [(2, .int .i64 axis2), (3, .pointer (some ⟨b2, 0, none⟩)), (4, .pointer (some ⟨b3, 0, none⟩)), (6, .pointer (some ⟨b4, 0, none⟩)), (8, .int .i64 (a1.Shape.length : Int)), (9, .int .i64 (b1.Shape.length : Int)), (10, .int .i64 rank2)] [.box b2 [.bool a1.Char, v1, v2], .box b3 [.bool b1.Char, v3, v4], .box b4 [.bool false, (.slice none 0 0), (.slice none 0 0)], .fz (rI .i64) v1 a1.Shape, .fz (rI .i64) v2 a1.Data, .fz (rI .i64) v3 b1.Shape, .fz (rI .i64) v4 b1.Data] Fr)) ?_ ?_
   ·refine cr2 hS rfl rfl rfl rfl ?_; clear hS
    intro tm hS
    refine c_cond hS rfl (fun hc => ?_) (fun hc => ?_)
    ·replace h3 := iteT hc h3
     refine cs3 hS rfl rfl rfl rfl rfl rfl ?_; clear hS
     intro tm hS
     obtain rfl := Option.some.inj h3
     change S wm 217 _ _ _ _ Fr; exact hS.keep (k7 rfl rfl rfl rfl rfl rfl rfl) (fun hI => (hI.sub (sc (sc (sc (sc (sc (sc (sc sn)))))))))
    ·replace h3 := iteF hc h3
     refine wpC.skip ?_
     obtain rfl := Option.some.inj h3
     change S wm 217 _ _ _ _ Fr; exact hS.keep (k7 rfl rfl rfl rfl rfl rfl rfl) (fun hI => (hI.sub (sc (sc (sc (sc (sc (sc (sc sn)))))))))
   intro tm H hS
   change S wm 217 tm H [(2, .int .i64 axis2), (3, .pointer (some ⟨b2, 0, none⟩)), (4, .pointer (some ⟨b3, 0, none⟩)), (6, .pointer (some ⟨b4, 0, none⟩)), (8, .int .i64 (a1.Shape.length : Int)), (9, .int .i64 (b1.Shape.length : Int)), (10, .int .i64 rank2)] [.box b2 [.bool a1.Char, v1, v2], .box b3 [.bool b1.Char, v3, v4], .box b4 [.bool false, (.slice none 0 0), (.slice none 0 0)], .fz (rI .i64) v1 a1.Shape, .fz (rI .i64) v2 a1.Data, .fz (rI .i64) v3 b1.Shape, .fz (rI .i64) v4 b1.Data] Fr at hS
   refine c_seqS ?_
   refine c_reg fun R hR => ?_
   refine pp3 hS rfl rfl rfl rfl rfl rfl ?_; clear hS
   intro tm hS
   obtain ⟨c3, hc3⟩ : ∃ x : Bool, x = ((decide ((a1.Shape.length : Int) > 0)) && (decide ((b1.Shape.length : Int) > 0))) := ⟨_, rfl⟩
   refine o_cutN 3 (J := fun tm H => S wm 217 tm H [(61, .bool c3), (2, .int .i64 axis2), (3, .pointer (some ⟨b2, 0, none⟩)), (4, .pointer (some ⟨b3, 0, none⟩)), (6, .pointer (some ⟨b4, 0, none⟩)), (8, .int .i64 (a1.Shape.length : Int)), (9, .int .i64 (b1.Shape.length : Int)), (10, .int .i64 rank2)] [.box b2 [.bool a1.Char, v1, v2], .box b3 [.bool b1.Char, v3, v4], .box b4 [.bool false, (.slice none 0 0), (.slice none 0 0)], .fz (rI .i64) v1 a1.Shape, .fz (rI .i64) v2 a1.Data, .fz (rI .i64) v3 b1.Shape, .fz (rI .i64) v4 b1.Data] Fr) ?_ ?_
   ·rcases Bool.eq_false_or_eq_true (decide ((a1.Shape.length : Int) > 0)) with hg3 | hg3
    ·refine o_pure hS (.inr ⟨_, _, _, _, rfl, rfl, rfl, hg3⟩) rfl rfl ?_; clear hS
     intro tm hS
     refine o_pure hS (.inr ⟨_, _, _, _, rfl, rfl, rfl, hg3⟩) rfl rfl ?_; clear hS
     intro tm hS
     refine o_pickT hS (.inl rfl) rfl rfl hg3 rfl ?_; clear hS
     intro tm hS
     have hc3 : c3 = (decide ((b1.Shape.length : Int) > 0)) := hc3.trans (by rw [hg3]; first | rfl | simp)
     subst hc3
     exact o_nil (hS.keep (k8 rfl rfl rfl rfl rfl rfl rfl rfl) (fun hI => (hI.sub (sc (sc (sc (sc (sc (sc (sc sn))))))))))
    ·refine o_skip hS rfl rfl rfl hg3 ?_; clear hS
     intro tm hS
     refine o_skip hS rfl rfl rfl hg3 ?_; clear hS
     intro tm hS
     refine o_pickF hS (.inl rfl) rfl rfl hg3 rfl ?_; clear hS
     intro tm hS
     have hc3 : c3 = false := hc3.trans (by rw [hg3]; first | rfl | simp)
     subst hc3
     exact o_nil (hS.keep (k8 rfl rfl rfl rfl rfl rfl rfl rfl) (fun hI => (hI.sub (sc (sc (sc (sc (sc (sc (sc sn))))))))))
   intro tm H hS
   subst hc3
   refine pp1 hS rfl rfl ?_; clear hS
   intro tm hS
   obtain ⟨c4, hc4⟩ : ∃ x : Bool, x = (((decide ((a1.Shape.length : Int) > 0)) && (decide ((b1.Shape.length : Int) > 0))) && ((decide ((IntKind.i64.wrap ((a1.Shape.length : Int) - (b1.Shape.length : Int))) > 1)) || (decide ((IntKind.i64.wrap ((b1.Shape.length : Int) - (a1.Shape.length : Int))) > 1)))) := ⟨_, rfl⟩
   refine o_cutN 11 (J := fun tm H => S wm 217 tm H [(73, .bool c4), (2, .int .i64 axis2), (3, .pointer (some ⟨b2, 0, none⟩)), (4, .pointer (some ⟨b3, 0, none⟩)), (6, .pointer (some ⟨b4, 0, none⟩)), (10, .int .i64 rank2)] [.box b2 [.bool a1.Char, v1, v2], .box b3 [.bool b1.Char, v3, v4], .box b4 [.bool false, (.slice none 0 0), (.slice none 0 0)], .fz (rI .i64) v1 a1.Shape, .fz (rI .i64) v2 a1.Data, .fz (rI .i64) v3 b1.Shape, .fz (rI .i64) v4 b1.Data] Fr) ?_ ?_
   ·rcases Bool.eq_false_or_eq_true ((decide ((a1.Shape.length : Int) > 0)) && (decide ((b1.Shape.length : Int) > 0))) with hg4 | hg4
    ·refine o_pure hS (.inr ⟨_, _, _, _, rfl, rfl, rfl, hg4⟩) rfl rfl ?_; clear hS
     intro tm hS
     refine o_pure hS (.inr ⟨_, _, _, _, rfl, rfl, rfl, hg4⟩) rfl rfl ?_; clear hS
     intro tm hS
     refine o_pure hS (.inr ⟨_, _, _, _, rfl, rfl, rfl, hg4⟩) rfl rfl ?_; clear hS
     intro tm hS
     refine o_pure hS (.inr ⟨_, _, _, _, rfl, rfl, rfl, hg4⟩) rfl rfl ?_; clear hS
     intro tm hS
     refine o_pure hS (.inr ⟨_, _, _, _, rfl, rfl, rfl, hg4⟩) rfl rfl ?_; clear hS
     intro tm hS
     obtain ⟨c5, hc5⟩ : ∃ x : Bool, x = ((decide ((IntKind.i64.wrap ((a1.Shape.length : Int) - (b1.Shape.length : Int))) > 1)) || (decide ((IntKind.i64.wrap ((b1.Shape.length : Int) - (a1.Shape.length : Int))) > 1))) := ⟨_, rfl⟩
     refine o_cutN 5 (J := fun tm H => S wm 217 tm H [(72, .bool c5), (2, .int .i64 axis2), (3, .pointer (some ⟨b2, 0, none⟩)), (4, .pointer (some ⟨b3, 0, none⟩)), (6, .pointer (some ⟨b4, 0, none⟩)), (10, .int .i64 rank2), (62, .bool ((decide ((a1.Shape.length : Int) > 0)) && (decide ((b1.Shape.length : Int) > 0))))] [.box b2 [.bool a1.Char, v1, v2], .box b3 [.bool b1.Char, v3, v4], .box b4 [.bool false, (.slice none 0 0), (.slice none 0 0)], .fz (rI .i64) v1 a1.Shape, .fz (rI .i64) v2 a1.Data, .fz (rI .i64) v3 b1.Shape, .fz (rI .i64) v4 b1.Data] Fr) ?_ ?_
     ·rcases Bool.eq_false_or_eq_true (decide ((IntKind.i64.wrap ((a1.Shape.length : Int) - (b1.Shape.length : Int))) > 1)) with hg5 | hg5
      ·refine o_skip hS rfl rfl rfl hg5 ?_; clear hS
       intro tm hS
       refine o_skip hS rfl rfl rfl hg5 ?_; clear hS
       intro tm hS
       refine o_skip hS rfl rfl rfl hg5 ?_; clear hS
       intro tm hS
       refine o_skip hS rfl rfl rfl hg5 ?_; clear hS
       intro tm hS
       refine o_pickT hS (.inr ⟨_, _, _, _, rfl, rfl, rfl, hg4⟩) rfl rfl hg5 rfl ?_; clear hS
       intro tm hS
       have hc5 : c5 = true := hc5.trans (by rw [hg5]; first | rfl | simp)
       subst hc5
       exact o_nil (hS.keep (k7 rfl rfl rfl rfl rfl rfl rfl) (fun hI => (hI.sub (sc (sc (sc (sc (sc (sc (sc sn))))))))))
      ·refine o_pure hS (.inr ⟨_, _, _, _, rfl, rfl, rfl, hg5⟩) rfl rfl ?_; clear hS
       intro tm hS
       refine o_pure hS (.inr ⟨_, _, _, _, rfl, rfl, rfl, hg5⟩) rfl rfl ?_; clear hS
       intro tm hS
       refine o_pure hS (.inr ⟨_, _, _, _, rfl, rfl, rfl, hg5⟩) rfl rfl ?_; clear hS
       intro tm hS
       refine o_pure hS (.inr ⟨_, _, _, _, rfl, rfl, rfl, hg5⟩) rfl rfl ?_; clear hS
       intro tm hS
       refine o_pickF hS (.inr ⟨_, _, _, _, rfl, rfl, rfl, hg4⟩) rfl rfl hg5 rfl ?_; clear hS
       intro tm hS
       have hc5 : c5 = (decide ((IntKind.i64.wrap ((b1.Shape.length : Int) - (a1.Shape.length : Int))) > 1)) := hc5.trans (by rw [hg5]; first | rfl | simp)
       subst hc5
       exact o_nil (hS.keep (k7 rfl rfl rfl rfl rfl rfl rfl) (fun hI => (hI.sub (sc (sc (sc (sc (sc (sc (sc sn))))))))))
     intro tm H hS
     subst hc5
     refine o_pickT hS (.inl rfl) rfl rfl hg4 rfl ?_; clear hS
     intro tm hS
     have hc4 : c4 = ((decide ((IntKind.i64.wrap ((a1.Shape.length : Int) - (b1.Shape.length : Int))) > 1)) || (decide ((IntKind.i64.wrap ((b1.Shape.length : Int) - (a1.Shape.length : Int))) > 1))) := hc4.trans (by rw [hg4]; first | rfl | simp)
     subst hc4
     exact o_nil (hS.keep (k6 rfl rfl rfl rfl rfl rfl) (fun hI => (hI.sub (sc (sc (sc (sc (sc (sc (sc sn))))))))))
    ·refine o_skip hS rfl rfl rfl hg4 ?_; clear hS
     intro tm hS
     refine o_skip hS rfl rfl rfl hg4 ?_; clear hS
     intro tm hS
     refine o_skip hS rfl rfl rfl hg4 ?_; clear hS
     intro tm hS
     refine o_skip hS rfl rfl rfl hg4 ?_; clear hS
     intro tm hS
     refine o_skip hS rfl rfl rfl hg4 ?_; clear hS
     intro tm hS
     refine o_skipU hS rfl rfl rfl ?_; clear hS
     intro tm hS
     refine o_skipU hS rfl rfl rfl ?_; clear hS
     intro tm hS
     refine o_skipU hS rfl rfl rfl ?_; clear hS
     intro tm hS
     refine o_skipU hS rfl rfl rfl ?_; clear hS
     intro tm hS
     refine o_skip hS rfl rfl rfl hg4 ?_; clear hS
     intro tm hS
     refine o_pickF hS (.inl rfl) rfl rfl hg4 rfl ?_; clear hS
     intro tm hS
     have hc4 : c4 = false := hc4.trans (by rw [hg4]; first | rfl | simp)
     subst hc4
     exact o_nil (hS.keep (k6 rfl rfl rfl rfl rfl rfl) (fun hI => (hI.sub (sc (sc (sc (sc (sc (sc (sc sn))))))))))
   intro tm H hS
   subst hc4
   refine o_nil (hR _ _ ?_)
   clear hR R
   refine c_cond hS rfl (fun hc => ?_) (fun hc => ?_)
   ·replace h0 := iteT hc h0
    refine c_reg fun R hR => ?_
    refine o_build hS (.inl rfl) rfl Fb27 rfl .nil rfl ?_; clear hS
    intro tm hS
    refine o_st (k := 2) hS (.inl rfl) rfl rfl rfl Fs27 rfl rfl (all_cons rfl (all_cons rfl (all_cons rfl all_nil))) rfl ?_; clear hS; try clear H
    intro H hS
    refine pp1 hS rfl rfl ?_; clear hS
    intro tm hS
    refine o_nil (hR _ _ ?_)
    clear hR R
    refine wpC.ret ?_
    obtain rfl := Option.some.inj h0
    replace hS := hS.nilOwn (rI .i64)
    replace hS := hS.nilOwn (rI .i64)
    refine Exists.intro _ (And.intro (rs_cellA (k := 4) hS rfl rfl (.inl rfl) Fu27 rfl Fs27 rfl (rs_tmp hS rfl rs_nil)) ?_)
    have hI := hS.inv
    exact ⟨(.slice none 0 0), (.slice none 0 0), rfl, (((hI.pull 0 rfl).pull 1 rfl).take 2)⟩
   ·replace h0 := iteF hc h0
    refine wpC.skip ?_
    refine c_reg fun R hR => ?_
    refine o_ldA (k := 0) hS (.inl rfl) rfl rfl rfl (.inl rfl) Fu27 rfl Fs27 rfl ?_; clear hS
    intro tm hS
    refine pp2 hS rfl rfl rfl rfl ?_; clear hS
    intro tm hS
    obtain ⟨⟨r3, r4⟩, hx3, h0⟩ := bindS h0
    refine o_call hS (.inl rfl) rfl (fun wm' hw1 hw2 => wk61  a1 rank2 axis2  v1 v2 (((hS.sel hw2).ad 4 rfl).ad 3 rfl) hx3) (fun wm' res H hw' hp => ?_)
    obtain ⟨v5, hres, hI⟩ := hp
    replace hres := hres.symm; subst hres
    replace hS : S wm 217 _ H ((79, .tuple #[v5, .bool r4]) :: _) ([.fz (rI .i64) v5 r3] ++ _) Fr := hS.after rfl hw' hI
    clear hI hw'
    refine pp5 hS rfl rfl rfl rfl rfl rfl rfl rfl rfl rfl ?_; clear hS
    intro tm hS
    refine o_nil (hR _ _ ?_)
    clear hR R
    refine c_reg fun R hR => ?_
    refine o_ldA (k := 2) hS (.inl rfl) rfl rfl rfl (.inl rfl) Fu27 rfl Fs27 rfl ?_; clear hS
    intro tm hS
    refine pp2 hS rfl rfl rfl rfl ?_; clear hS
    intro tm hS
    obtain ⟨⟨r5, r6⟩, hx4, h0⟩ := bindS h0
    refine o_call hS (.inl rfl) rfl (fun wm' hw1 hw2 => wk61  b1 rank2 axis2  v3 v4 (((hS.sel hw2).ad 7 rfl).ad 6 rfl) hx4) (fun wm' res H hw' hp => ?_)
    obtain ⟨v6, hres, hI⟩ := hp
    replace hres := hres.symm; subst hres
    replace hS : S wm 217 _ H ((86, .tuple #[v6, .bool r6]) :: _) ([.fz (rI .i64) v6 r5] ++ _) Fr := hS.after rfl hw' hI
    clear hI hw'
    refine pp5 hS rfl rfl rfl rfl rfl rfl rfl rfl rfl rfl ?_; clear hS
    intro tm hS
    refine o_nil (hR _ _ ?_)
    clear hR R
    refine c_seqS ?_
    refine c_reg fun R hR => ?_
    refine pp2 hS rfl rfl rfl rfl ?_; clear hS
    intro tm hS
    obtain ⟨c6, hc6⟩ : ∃ x : Bool, x = (r4 && r6) := ⟨_, rfl⟩
    refine o_cutN 2 (J := fun tm H => S wm 217 tm H [(92, .bool c6), (2, .int .i64 axis2), (3, .pointer (some ⟨b2, 0, none⟩)), (4, .pointer (some ⟨b3, 0, none⟩)), (6, .pointer (some ⟨b4, 0, none⟩)), (10, .int .i64 rank2), (11, v5), (12, .bool r4), (13, v6), (14, .bool r6)] [.fz (rI .i64) v6 r5, .fz (rI .i64) v5 r3, .box b2 [.bool a1.Char, v1, v2], .box b3 [.bool b1.Char, v3, v4], .box b4 [.bool false, (.slice none 0 0), (.slice none 0 0)], .fz (rI .i64) v1 a1.Shape, .fz (rI .i64) v2 a1.Data, .fz (rI .i64) v3 b1.Shape, .fz (rI .i64) v4 b1.Data] Fr) ?_ ?_
    ·rcases Bool.eq_false_or_eq_true r4 with hg6 | hg6
     ·refine o_pure hS (.inr ⟨_, _, _, _, rfl, rfl, rfl, hg6⟩) rfl rfl ?_; clear hS
      intro tm hS
      refine o_pickT hS (.inl rfl) rfl rfl hg6 rfl ?_; clear hS
      intro tm hS
      have hc6 : c6 = r6 := hc6.trans (by rw [hg6]; first | rfl | simp)
      subst hc6
      exact o_nil (hS.keep (k10 rfl rfl rfl rfl rfl rfl rfl rfl rfl rfl) (fun hI => (hI.sub (sc (sc (sc (sc (sc (sc (sc (sc (sc sn))))))))))))
     ·refine o_skip hS rfl rfl rfl hg6 ?_; clear hS
      intro tm hS
      refine o_pickF hS (.inl rfl) rfl rfl hg6 rfl ?_; clear hS
      intro tm hS
      have hc6 : c6 = false := hc6.trans (by rw [hg6]; first | rfl | simp)
      subst hc6
      exact o_nil (hS.keep (k10 rfl rfl rfl rfl rfl rfl rfl rfl rfl rfl) (fun hI => (hI.sub (sc (sc (sc (sc (sc (sc (sc (sc (sc sn))))))))))))
    intro tm H hS
    subst hc6
    refine pp1 hS rfl rfl ?_; clear hS
    intro tm hS
    obtain ⟨c7, hc7, h0⟩ := bindS h0
    refine o_cutN 5 (J := fun tm H => S wm 217 tm H [(98, .bool c7), (2, .int .i64 axis2), (3, .pointer (some ⟨b2, 0, none⟩)), (4, .pointer (some ⟨b3, 0, none⟩)), (6, .pointer (some ⟨b4, 0, none⟩)), (10, .int .i64 rank2), (11, v5), (12, .bool r4), (13, v6), (14, .bool r6)] [.fz (rI .i64) v6 r5, .fz (rI .i64) v5 r3, .box b2 [.bool a1.Char, v1, v2], .box b3 [.bool b1.Char, v3, v4], .box b4 [.bool false, (.slice none 0 0), (.slice none 0 0)], .fz (rI .i64) v1 a1.Shape, .fz (rI .i64) v2 a1.Data, .fz (rI .i64) v3 b1.Shape, .fz (rI .i64) v4 b1.Data] Fr) ?_ ?_
    ·rcases Bool.eq_false_or_eq_true (r4 && r6) with hg7 | hg7
     ·replace hc7 := iteT hg7 hc7
      refine o_pure hS (.inr ⟨_, _, _, _, rfl, rfl, rfl, hg7⟩) rfl rfl ?_; clear hS
      intro tm hS
      refine o_pure hS (.inr ⟨_, _, _, _, rfl, rfl, rfl, hg7⟩) rfl rfl ?_; clear hS
      intro tm hS
      obtain ⟨r7, hx5, hc7⟩ := bindS hc7
      refine o_call hS (.inr ⟨_, _, _, _, rfl, rfl, rfl, hg7⟩) rfl (fun wm' hw1 hw2 => wk62  r3 r5  v5 v6 (((hS.sel hw2).ad 0 rfl).ad 1 rfl) hx5) (fun wm' res H hw' hp => ?_)
      obtain ⟨hres, hI⟩ := hp
      replace hres := hres.symm; subst hres
      replace hS : S wm 217 _ H ((96, .bool r7) :: _) ([] ++ _) Fr := hS.after rfl hw' hI
      clear hI hw'
      refine o_pure hS (.inr ⟨_, _, _, _, rfl, rfl, rfl, hg7⟩) rfl rfl ?_; clear hS
      intro tm hS
      refine o_pickT hS (.inl rfl) rfl rfl hg7 rfl ?_; clear hS
      intro tm hS
      obtain rfl := Option.some.inj hc7
      exact o_nil (hS.keep (k10 rfl rfl rfl rfl rfl rfl rfl rfl rfl rfl) (fun hI => (hI.sub (sc (sc (sc (sc (sc (sc (sc (sc (sc sn))))))))))))
     ·replace hc7 := iteF hg7 hc7
      refine o_skip hS rfl rfl rfl hg7 ?_; clear hS
      intro tm hS
      refine o_skip hS rfl rfl rfl hg7 ?_; clear hS
      intro tm hS
      refine o_skip hS rfl rfl rfl hg7 ?_; clear hS
      intro tm hS
      refine o_skip hS rfl rfl rfl hg7 ?_; clear hS
      intro tm hS
      refine o_pickF hS (.inl rfl) rfl rfl hg7 rfl ?_; clear hS
      intro tm hS
      obtain rfl := Option.some.inj hc7
      exact o_nil (hS.keep (k10 rfl rfl rfl rfl rfl rfl rfl rfl rfl rfl) (fun hI => (hI.sub (sc (sc (sc (sc (sc (sc (sc (sc (sc sn))))))))))))
    intro tm H hS
    refine o_nil (hR _ _ ?_)
    clear hR R
    refine c_cond hS rfl (fun hc => ?_) (fun hc => ?_)
    ·replace h0 := iteT hc h0
     refine c_reg fun R hR => ?_
     refine o_build hS (.inl rfl) rfl Fb27 rfl .nil rfl ?_; clear hS
     intro tm hS
     refine o_st (k := 4) hS (.inl rfl) rfl rfl rfl Fs27 rfl rfl (all_cons rfl (all_cons rfl (all_cons rfl all_nil))) rfl ?_; clear hS; try clear H
     intro H hS
     refine pp1 hS rfl rfl ?_; clear hS
     intro tm hS
     refine o_nil (hR _ _ ?_)
     clear hR R
     refine wpC.ret ?_
     obtain rfl := Option.some.inj h0
     replace hS := hS.nilOwn (rI .i64)
     replace hS := hS.nilOwn (rI .i64)
     refine Exists.intro _ (And.intro (rs_cellA (k := 6) hS rfl rfl (.inl rfl) Fu27 rfl Fs27 rfl (rs_tmp hS rfl rs_nil)) ?_)
     have hI := hS.inv
     exact ⟨(.slice none 0 0), (.slice none 0 0), rfl, (((hI.pull 0 rfl).pull 1 rfl).take 2)⟩
    ·replace h0 := iteF hc h0
     refine wpC.skip ?_
     obtain ⟨x1, h4, h0⟩ := bindS h0
     refine c_seqJ (J := fun tm H => (match (generalizing := false) x1 with | x1 => ∃ v7, S wm 217 tm H [(2, .int .i64 axis2), (3, .pointer (some ⟨b2, 0, none⟩)), (4, .pointer (some ⟨b3, 0, none⟩)), (6, .pointer (some ⟨b4, 0, none⟩)), (10, .int .i64 rank2), (11, v7), (12, .bool r4), (14, .bool r6)] [.box b2 [.bool a1.Char, v1, v2], .box b3 [.bool b1.Char, v3, v4], .box b4 [.bool false, (.slice none 0 0), (.slice none 0 0)], .fz (rI .i64) v7 x1, .fz (rI .i64) v1 a1.Shape, .fz (rI .i64) v2 a1.Data, .fz (rI .i64) v3 b1.Shape, .fz (rI .i64) v4 b1.Data] Fr)) ?_ ?_
     ·refine cr2 hS rfl rfl rfl rfl ?_; clear hS
      intro tm hS
      refine c_cond hS rfl (fun hc => ?_) (fun hc => ?_)
      ·replace h4 := iteT hc h4
       refine cs2 hS rfl rfl rfl rfl ?_; clear hS
       intro tm hS
       obtain rfl := Option.some.inj h4
       refine Exists.intro v6 ?_; change S wm 217 _ _ _ _ Fr; exact hS.keep (k8 rfl rfl rfl rfl rfl rfl rfl rfl) (fun hI => (hI.pick [2, 3, 4, 0, 5, 6, 7, 8] rfl))
      ·replace h4 := iteF hc h4
       refine wpC.skip ?_
       obtain rfl := Option.some.inj h4
       refine Exists.intro v5 ?_; change S wm 217 _ _ _ _ Fr; exact hS.keep (k8 rfl rfl rfl rfl rfl rfl rfl rfl) (fun hI => (hI.pick [2, 3, 4, 1, 5, 6, 7, 8] rfl))
     intro tm H hS
     obtain ⟨v7, hS⟩ := hS
     change S wm 217 tm H [(2, .int .i64 axis2), (3, .pointer (some ⟨b2, 0, none⟩)), (4, .pointer (some ⟨b3, 0, none⟩)), (6, .pointer (some ⟨b4, 0, none⟩)), (10, .int .i64 rank2), (11, v7), (12, .bool r4), (14, .bool r6)] [.box b2 [.bool a1.Char, v1, v2], .box b3 [.bool b1.Char, v3, v4], .box b4 [.bool false, (.slice none 0 0), (.slice none 0 0)], .fz (rI .i64) v7 x1, .fz (rI .i64) v1 a1.Shape, .fz (rI .i64) v2 a1.Data, .fz (rI .i64) v3 b1.Shape, .fz (rI .i64) v4 b1.Data] Fr at hS
     obtain ⟨x2, h5, h0⟩ := bindS h0
     refine c_seqJ (J := fun tm H => (match (generalizing := false) x2 with | x2 => ∃ v8, S wm 217 tm H [(2, .int .i64 axis2), (3, .pointer (some ⟨b2, 0, none⟩)), (4, .pointer (some ⟨b3, 0, none⟩)), (6, .pointer (some ⟨b4, 0, none⟩)), (10, .int .i64 rank2), (11, v8)] [.box b2 [.bool a1.Char, v1, v2], .box b3 [.bool b1.Char, v3, v4], .box b4 [.bool false, (.slice none 0 0), (.slice none 0 0)], .fz (rI .i64) v8 x2, .fz (rI .i64) v1 a1.Shape, .fz (rI .i64) v2 a1.Data, .fz (rI .i64) v3 b1.Shape, .fz (rI .i64) v4 b1.Data] Fr)) ?_ ?_
     ·refine c_reg fun R hR => ?_
      refine pp3 hS rfl rfl rfl rfl rfl rfl ?_; clear hS
      intro tm hS
      obtain ⟨c8, hc8⟩ : ∃ x : Bool, x = ((!r4) && (!r6)) := ⟨_, rfl⟩
      refine o_cutN 3 (J := fun tm H => S wm 217 tm H [(108, .bool c8), (2, .int .i64 axis2), (3, .pointer (some ⟨b2, 0, none⟩)), (4, .pointer (some ⟨b3, 0, none⟩)), (6, .pointer (some ⟨b4, 0, none⟩)), (10, .int .i64 rank2), (11, v7)] [.box b2 [.bool a1.Char, v1, v2], .box b3 [.bool b1.Char, v3, v4], .box b4 [.bool false, (.slice none 0 0), (.slice none 0 0)], .fz (rI .i64) v7 x1, .fz (rI .i64) v1 a1.Shape, .fz (rI .i64) v2 a1.Data, .fz (rI .i64) v3 b1.Shape, .fz (rI .i64) v4 b1.Data] Fr) ?_ ?_
      ·rcases Bool.eq_false_or_eq_true (!r4) with hg8 | hg8
       ·refine o_pure hS (.inr ⟨_, _, _, _, rfl, rfl, rfl, hg8⟩) rfl rfl ?_; clear hS
        intro tm hS
        refine o_pure hS (.inr ⟨_, _, _, _, rfl, rfl, rfl, hg8⟩) rfl rfl ?_; clear hS
        intro tm hS
        refine o_pickT hS (.inl rfl) rfl rfl hg8 rfl ?_; clear hS
        intro tm hS
        have hc8 : c8 = (!r6) := hc8.trans (by rw [hg8]; first | rfl | simp)
        subst hc8
        exact o_nil (hS.keep (k7 rfl rfl rfl rfl rfl rfl rfl) (fun hI => (hI.sub (sc (sc (sc (sc (sc (sc (sc (sc sn)))))))))))
       ·refine o_skip hS rfl rfl rfl hg8 ?_; clear hS
        intro tm hS
        refine o_skip hS rfl rfl rfl hg8 ?_; clear hS
        intro tm hS
        refine o_pickF hS (.inl rfl) rfl rfl hg8 rfl ?_; clear hS
        intro tm hS
        have hc8 : c8 = false := hc8.trans (by rw [hg8]; first | rfl | simp)
        subst hc8
        exact o_nil (hS.keep (k7 rfl rfl rfl rfl rfl rfl rfl) (fun hI => (hI.sub (sc (sc (sc (sc (sc (sc (sc (sc sn)))))))))))
      intro tm H hS
      subst hc8
      refine o_nil (hR _ _ ?_)
      clear hR R
      refine c_cond hS rfl (fun hc => ?_) (fun hc => ?_)
      ·replace h5 := iteT hc h5
       refine cs1 hS rfl rfl ?_; clear hS
       intro tm hS
       obtain rfl := Option.some.inj h5
       replace hS := hS.nilFz (rI .i64)
       refine Exists.intro (.slice none 0 0) ?_; change S wm 217 _ _ _ _ Fr; exact hS.keep (k6 rfl rfl rfl rfl rfl rfl) (fun hI => (hI.pick [1, 2, 3, 0, 5, 6, 7, 8] rfl))
      ·replace h5 := iteF hc h5
       refine wpC.skip ?_
       obtain rfl := Option.some.inj h5
       refine Exists.intro v7 ?_; change S wm 217 _ _ _ _ Fr; exact hS.keep (k6 rfl rfl rfl rfl rfl rfl) (fun hI => (hI.sub (sc (sc (sc (sc (sc (sc (sc (sc sn))))))))))
     intro tm H hS
     obtain ⟨v8, hS⟩ := hS
     change S wm 217 tm H [(2, .int .i64 axis2), (3, .pointer (some ⟨b2, 0, none⟩)), (4, .pointer (some ⟨b3, 0, none⟩)), (6, .pointer (some ⟨b4, 0, none⟩)), (10, .int .i64 rank2), (11, v8)] [.box b2 [.bool a1.Char, v1, v2], .box b3 [.bool b1.Char, v3, v4], .box b4 [.bool false, (.slice none 0 0), (.slice none 0 0)], .fz (rI .i64) v8 x2, .fz (rI .i64) v1 a1.Shape, .fz (rI .i64) v2 a1.Data, .fz (rI .i64) v3 b1.Shape, .fz (rI .i64) v4 b1.Data] Fr at hS
     refine c_reg fun R hR => ?_
     refine o_ldA (k := 0) hS (.inl rfl) rfl rfl rfl (.inl rfl) Fu27 rfl Fs27 rfl ?_; clear hS
     intro tm hS
     refine pp2 hS rfl rfl rfl rfl ?_; clear hS
     intro tm hS
     obtain ⟨r8, hx6, h0⟩ := bindS h0
     refine o_call hS (.inl rfl) rfl (fun wm' hw1 hw2 => wk63  a1 rank2 axis2  v1 v2 (((hS.sel hw2).ad 5 rfl).ad 4 rfl) hx6) (fun wm' res H hw' hp => ?_)
     obtain ⟨hres, hI⟩ := hp
     replace hres := hres.symm; subst hres
     replace hS : S wm 217 _ H ((112, .int .i64 r8) :: _) ([] ++ _) Fr := hS.after rfl hw' hI
     clear hI hw'
     refine pp1 hS rfl rfl ?_; clear hS
     intro tm hS
     refine o_nil (hR _ _ ?_)
     clear hR R
     refine c_reg fun R hR => ?_
     refine pp1 hS rfl rfl ?_; clear hS
     intro tm hS
     refine o_ldA (k := 1) hS (.inl rfl) rfl rfl rfl (.inl rfl) Fu27 rfl Fs27 rfl ?_; clear hS
     intro tm hS
     refine pp2 hS rfl rfl rfl rfl ?_; clear hS
     intro tm hS
     obtain ⟨r9, hx7, h0⟩ := bindS h0
     refine o_call hS (.inl rfl) rfl (fun wm' hw1 hw2 => wk63  b1 rank2 axis2  v3 v4 (((hS.sel hw2).ad 7 rfl).ad 6 rfl) hx7) (fun wm' res H hw' hp => ?_)
     obtain ⟨hres, hI⟩ := hp
     replace hres := hres.symm; subst hres
     replace hS : S wm 217 _ H ((117, .int .i64 r9) :: _) ([] ++ _) Fr := hS.after rfl hw' hI
     clear hI hw'
     refine pp2 hS rfl rfl rfl rfl ?_; clear hS
     intro tm hS
     refine o_nil (hR _ _ ?_)
     clear hR R
     refine cr1 hS rfl rfl ?_; clear hS
     intro tm hS
     refine c_reg fun R hR => ?_
     refine pp3 hS rfl rfl rfl rfl rfl rfl ?_; clear hS
     intro tm hS
     obtain ⟨l1, hx8, h0⟩ := bindS h0
     refine o_sl (k := 3) (r := (rI .i64)) hS (.inl rfl) rfl rfl rfl Fu22 Fs3 rfl rfl hx8 ?_; clear hS
     intro v9 tm hS
     replace hS := hS.nilOwn (rI .i64)
     obtain ⟨l2, hx9, h0⟩ := bindS h0
     refine o_app (k1 := 0) (k2 := 1) (r := (rI .i64)) hS (.inl rfl) rfl rfl rfl rfl rfl (.inl rfl) rfl Fe22_22 rfl hx9 ?_; clear hS
     intro v10 tm H hS
     refine pp1 hS rfl rfl ?_; clear hS
     intro tm hS
     refine o_nil (hR _ _ ?_)
     clear hR R
     refine c_reg fun R hR => ?_
     refine pp2 hS rfl rfl rfl rfl ?_; clear hS
     intro tm hS
     refine o_lit (r := (rI .i64)) (l := [(IntKind.i64.wrap (r8 + r9))]) hS (.inl rfl) rfl Fl22 rfl rfl rfl (.cons rfl .nil) rfl rfl (ri_1 (rd_flat fun _ => rfl) ri_nil) rfl ?_; clear hS
     intro v11 tm H hS
     obtain ⟨l3, hx10, h0⟩ := bindS h0
     refine o_app (k1 := 1) (k2 := 0) (r := (rI .i64)) hS (.inl rfl) rfl rfl rfl rfl rfl (.inr (.inr rfl)) rfl Fe22_22 rfl hx10 ?_; clear hS
     intro v12 tm H hS
     refine pp1 hS rfl rfl ?_; clear hS
     intro tm hS
     refine o_nil (hR _ _ ?_)
     clear hR R
     refine c_reg fun R hR => ?_
     refine pp3 hS rfl rfl rfl rfl rfl rfl ?_; clear hS
     intro tm hS
     obtain ⟨l4, hx11, h0⟩ := bindS h0
     refine o_sl (k := 6) (r := (rI .i64)) hS (.inl rfl) rfl rfl rfl Fu22 Fs3 rfl rfl hx11 ?_; clear hS
     intro v13 tm hS
     obtain ⟨l5, hx12, h0⟩ := bindS h0
     refine o_app (k1 := 2) (k2 := 0) (r := (rI .i64)) hS (.inl rfl) rfl rfl rfl rfl rfl (.inl rfl) rfl Fe22_22 rfl hx12 ?_; clear hS
     intro v14 tm H hS
     refine pp1 hS rfl rfl ?_; clear hS
     intro tm hS
     refine o_nil (hR _ _ ?_)
     clear hR R
     refine c_reg fun R hR => ?_
     refine pp1 hS rfl rfl ?_; clear hS
     intro tm hS
     obtain ⟨r10, hx13, h0⟩ := bindS h0
     refine o_call (Pc := fun _ res H => res = .int .i64 r10 ∧ Kn wm H ([.fz (rI .i64) v13 l4, .lit (rI .i64) v11 ([(IntKind.i64.wrap (r8 + r9))]), .own (rI .i64) v14 l5, .fz (rI .i64) v9 l1, .box b2 [.bool a1.Char, v1, v2], .box b3 [.bool b1.Char, v3, v4], .box b4 [.bool false, (.slice none 0 0), (.slice none 0 0)], .fz (rI .i64) v8 x2, .fz (rI .i64) v1 a1.Shape, .fz (rI .i64) v2 a1.Data, .fz (rI .i64) v3 b1.Shape, .fz (rI .i64) v4 b1.Data]) Fr) hS (.inl rfl) rfl (fun wm' hw1 hw2 => by
      obtain ⟨F2, kk_1, kk_2⟩ := hS.inv.lend (La := [.fz (rI .i64) v14 l5]) (List.forall_mem_cons.mpr ⟨(.inr ⟨_, _, _, _, rfl, .inl (List.mem_of_getElem? (i := 2) rfl)⟩), (fun _ h => by cases h)⟩) hw1 hw2
      exact (wk64  l5  v14 kk_1 hx13).mono fun res H2 ⟨qq_1, qq_2⟩ => ⟨qq_1, kk_2 _ qq_2⟩) (fun wm' res H hw' hp => ?_)
     obtain ⟨hres, hI⟩ := hp
     replace hres := hres.symm; subst hres
     replace hS : S wm 217 _ H ((134, .int .i64 r10) :: _) ([.fz (rI .i64) v13 l4, .lit (rI .i64) v11 ([(IntKind.i64.wrap (r8 + r9))]), .own (rI .i64) v14 l5, .fz (rI .i64) v9 l1, .box b2 [.bool a1.Char, v1, v2], .box b3 [.bool b1.Char, v3, v4], .box b4 [.bool false, (.slice none 0 0), (.slice none 0 0)], .fz (rI .i64) v8 x2, .fz (rI .i64) v1 a1.Shape, .fz (rI .i64) v2 a1.Data, .fz (rI .i64) v3 b1.Shape, .fz (rI .i64) v4 b1.Data]) Fr := (hS.put rfl _).withK hI
     clear hI hw'
     refine pp1 hS rfl rfl ?_; clear hS
     intro tm hS
     refine o_nil (hR _ _ ?_)
     clear hR R
     refine c_seqS ?_
     refine cr2 hS rfl rfl rfl rfl ?_; clear hS
     intro tm hS
     refine c_cond hS rfl (fun hc => ?_) (fun hc => ?_)
     ·replace h0 := iteT hc h0
      refine c_reg fun R hR => ?_
      refine o_build hS (.inl rfl) rfl Fb27 rfl .nil rfl ?_; clear hS
      intro tm hS
      refine o_st (k := 6) hS (.inl rfl) rfl rfl rfl Fs27 rfl rfl (all_cons rfl (all_cons rfl (all_cons rfl all_nil))) rfl ?_; clear hS; try clear H
      intro H hS
      refine pp1 hS rfl rfl ?_; clear hS
      intro tm hS
      refine o_nil (hR _ _ ?_)
      clear hR R
      refine wpC.ret ?_
      obtain rfl := Option.some.inj h0
      replace hS := hS.nilOwn (rI .i64)
      replace hS := hS.nilOwn (rI .i64)
      refine Exists.intro _ (And.intro (rs_cellA (k := 8) hS rfl rfl (.inl rfl) Fu27 rfl Fs27 rfl (rs_tmp hS rfl rs_nil)) ?_)
      have hI := hS.inv
      exact ⟨(.slice none 0 0), (.slice none 0 0), rfl, (((hI.pull 0 rfl).pull 1 rfl).take 2)⟩
     ·replace h0 := iteF hc h0
      refine wpC.skip ?_
      refine c_seqS ?_
      refine c_reg fun R hR => ?_
      refine pp1 hS rfl rfl ?_; clear hS
      intro tm hS
      refine o_ld1 (k := 4) hS (.inl rfl) rfl rfl rfl (.inl rfl) Fu4 rfl rfl ?_; clear hS
      intro tm hS
      refine pp1 hS rfl rfl ?_; clear hS
      intro tm hS
      refine o_ld1 (k := 5) hS (.inl rfl) rfl rfl rfl (.inl rfl) Fu4 rfl rfl ?_; clear hS
      intro tm hS
      refine pp2 hS rfl rfl rfl rfl ?_; clear hS
      intro tm hS
      obtain ⟨c9, hc9⟩ : ∃ x : Bool, x = ((!(a1.Char == b1.Char)) && (decide ((a1.Data.length : Int) > 0))) := ⟨_, rfl⟩
      refine o_cutN 5 (J := fun tm H => S wm 217 tm H [(148, .bool c9), (2, .int .i64 axis2), (3, .pointer (some ⟨b2, 0, none⟩)), (4, .pointer (some ⟨b3, 0, none⟩)), (6, .pointer (some ⟨b4, 0, none⟩)), (10, .int .i64 rank2), (15, .int .i64 r8), (17, v14), (18, .int .i64 r10)] [.own (rI .i64) v14 l5, .box b2 [.bool a1.Char, v1, v2], .box b3 [.bool b1.Char, v3, v4], .box b4 [.bool false, (.slice none 0 0), (.slice none 0 0)], .fz (rI .i64) v1 a1.Shape, .fz (rI .i64) v2 a1.Data, .fz (rI .i64) v3 b1.Shape, .fz (rI .i64) v4 b1.Data] Fr) ?_ ?_
      ·rcases Bool.eq_false_or_eq_true (!(a1.Char == b1.Char)) with hg9 | hg9
       ·refine o_pure hS (.inr ⟨_, _, _, _, rfl, rfl, rfl, hg9⟩) rfl rfl ?_; clear hS
        intro tm hS
        refine o_ld1 (k := 4) hS (.inr ⟨_, _, _, _, rfl, rfl, rfl, hg9⟩) rfl rfl rfl (.inl rfl) Fu23 rfl rfl ?_; clear hS
        intro tm hS
        refine o_len (k := 9) (r := (rI .i64)) hS (.inr ⟨_, _, _, _, rfl, rfl, rfl, hg9⟩) rfl rfl rfl (.inl rfl) Fu23 rfl ?_; clear hS
        intro tm hS
        refine o_pure hS (.inr ⟨_, _, _, _, rfl, rfl, rfl, hg9⟩) rfl rfl ?_; clear hS
        intro tm hS
        refine o_pickT hS (.inl rfl) rfl rfl hg9 rfl ?_; clear hS
        intro tm hS
        have hc9 : c9 = (decide ((a1.Data.length : Int) > 0)) := hc9.trans (by rw [hg9]; first | rfl | simp)
        subst hc9
        exact o_nil (hS.keep (k9 rfl rfl rfl rfl rfl rfl rfl rfl rfl) (fun hI => (hI.sub (sd (sd (sc (sd (sc (sc (sc (sd (sc (sc (sc (sc sn)))))))))))))))
       ·refine o_skip hS rfl rfl rfl hg9 ?_; clear hS
        intro tm hS
        refine o_skip hS rfl rfl rfl hg9 ?_; clear hS
        intro tm hS
        refine o_skip hS rfl rfl rfl hg9 ?_; clear hS
        intro tm hS
        refine o_skip hS rfl rfl rfl hg9 ?_; clear hS
        intro tm hS
        refine o_pickF hS (.inl rfl) rfl rfl hg9 rfl ?_; clear hS
        intro tm hS
        have hc9 : c9 = false := hc9.trans (by rw [hg9]; first | rfl | simp)
        subst hc9
        exact o_nil (hS.keep (k9 rfl rfl rfl rfl rfl rfl rfl rfl rfl) (fun hI => (hI.sub (sd (sd (sc (sd (sc (sc (sc (sd (sc (sc (sc (sc sn)))))))))))))))
      intro tm H hS
      subst hc9
      refine pp1 hS rfl rfl ?_; clear hS
      intro tm hS
      obtain ⟨c10, hc10⟩ : ∃ x : Bool, x = (((!(a1.Char == b1.Char)) && (decide ((a1.Data.length : Int) > 0))) && (decide ((b1.Data.length : Int) > 0))) := ⟨_, rfl⟩
      refine o_cutN 5 (J := fun tm H => S wm 217 tm H [(154, .bool c10), (2, .int .i64 axis2), (3, .pointer (some ⟨b2, 0, none⟩)), (4, .pointer (some ⟨b3, 0, none⟩)), (6, .pointer (some ⟨b4, 0, none⟩)), (10, .int .i64 rank2), (15, .int .i64 r8), (17, v14), (18, .int .i64 r10)] [.own (rI .i64) v14 l5, .box b2 [.bool a1.Char, v1, v2], .box b3 [.bool b1.Char, v3, v4], .box b4 [.bool false, (.slice none 0 0), (.slice none 0 0)], .fz (rI .i64) v1 a1.Shape, .fz (rI .i64) v2 a1.Data, .fz (rI .i64) v3 b1.Shape, .fz (rI .i64) v4 b1.Data] Fr) ?_ ?_
      ·rcases Bool.eq_false_or_eq_true ((!(a1.Char == b1.Char)) && (decide ((a1.Data.length : Int) > 0))) with hg10 | hg10
       ·refine o_pure hS (.inr ⟨_, _, _, _, rfl, rfl, rfl, hg10⟩) rfl rfl ?_; clear hS
        intro tm hS
        refine o_ld1 (k := 2) hS (.inr ⟨_, _, _, _, rfl, rfl, rfl, hg10⟩) rfl rfl rfl (.inl rfl) Fu23 rfl rfl ?_; clear hS
        intro tm hS
        refine o_len (k := 7) (r := (rI .i64)) hS (.inr ⟨_, _, _, _, rfl, rfl, rfl, hg10⟩) rfl rfl rfl (.inl rfl) Fu23 rfl ?_; clear hS
        intro tm hS
        refine o_pure hS (.inr ⟨_, _, _, _, rfl, rfl, rfl, hg10⟩) rfl rfl ?_; clear hS
        intro tm hS
        refine o_pickT hS (.inl rfl) rfl rfl hg10 rfl ?_; clear hS
        intro tm hS
        have hc10 : c10 = (decide ((b1.Data.length : Int) > 0)) := hc10.trans (by rw [hg10]; first | rfl | simp)
        subst hc10
        exact o_nil (hS.keep (k9 rfl rfl rfl rfl rfl rfl rfl rfl rfl) (fun hI => (hI.sub (sc (sc (sc (sc (sc (sc (sc (sc sn)))))))))))
       ·refine o_skip hS rfl rfl rfl hg10 ?_; clear hS
        intro tm hS
        refine o_skip hS rfl rfl rfl hg10 ?_; clear hS
        intro tm hS
        refine o_skip hS rfl rfl rfl hg10 ?_; clear hS
        intro tm hS
        refine o_skip hS rfl rfl rfl hg10 ?_; clear hS
        intro tm hS
        refine o_pickF hS (.inl rfl) rfl rfl hg10 rfl ?_; clear hS
        intro tm hS
        have hc10 : c10 = false := hc10.trans (by rw [hg10]; first | rfl | simp)
        subst hc10
        exact o_nil (hS.keep (k9 rfl rfl rfl rfl rfl rfl rfl rfl rfl) (fun hI => (hI.sub (sc (sc (sc (sc (sc (sc (sc (sc sn)))))))))))
      intro tm H hS
      subst hc10
      refine o_nil (hR _ _ ?_)
      clear hR R
      refine c_cond hS rfl (fun hc => ?_) (fun hc => ?_)
      ·replace h0 := iteT hc h0
       refine c_reg fun R hR => ?_
       refine o_build hS (.inl rfl) rfl Fb27 rfl .nil rfl ?_; clear hS
       intro tm hS
       refine o_st (k := 3) hS (.inl rfl) rfl rfl rfl Fs27 rfl rfl (all_cons rfl (all_cons rfl (all_cons rfl all_nil))) rfl ?_; clear hS; try clear H
       intro H hS
       refine pp1 hS rfl rfl ?_; clear hS
       intro tm hS
       refine o_nil (hR _ _ ?_)
       clear hR R
       refine wpC.ret ?_
       obtain rfl := Option.some.inj h0
       replace hS := hS.nilOwn (rI .i64)
       replace hS := hS.nilOwn (rI .i64)
       refine Exists.intro _ (And.intro (rs_cellA (k := 5) hS rfl rfl (.inl rfl) Fu27 rfl Fs27 rfl (rs_tmp hS rfl rs_nil)) ?_)
       have hI := hS.inv
       exact ⟨(.slice none 0 0), (.slice none 0 0), rfl, (((hI.pull 0 rfl).pull 1 rfl).take 2)⟩
      ·replace h0 := iteF hc h0
       refine wpC.skip ?_
       refine c_reg fun R hR => ?_
       refine pp1 hS rfl rfl ?_; clear hS
       intro tm hS
       refine o_ld1 (k := 2) hS (.inl rfl) rfl rfl rfl (.inl rfl) Fu4 rfl rfl ?_; clear hS
       intro tm hS
       refine pp1 hS rfl rfl ?_; clear hS
       intro tm hS
       refine o_build hS (.inl rfl) rfl Fb27 rfl (.cons rfl (.cons (cells_one (hS.one (k := 0) rfl (.inr (.inl rfl)))) .nil)) rfl ?_; clear hS
       intro tm hS
       refine o_alloc hS (.inl rfl) rfl Fz27 (by decide) ?_; clear hS
       intro b5 tm H hS
       refine o_st (k := 0) hS (.inl rfl) rfl rfl rfl Fs27 rfl rfl (all_cons rfl (all_cons (hS.one (k := 1) rfl (.inr (.inl rfl))) (all_cons rfl all_nil))) rfl ?_; clear hS; try clear H
       intro H hS
       refine o_nil (hR _ _ ?_)
       clear hR R
       obtain ⟨Char1, h6, h0⟩ := bindS h0
       refine c_seqJ (J := fun tm H => (match (generalizing := false) Char1 with | Char1 => S wm 217 tm H [(2, .int .i64 axis2), (3, .pointer (some ⟨b2, 0, none⟩)), (4, .pointer (some ⟨b3, 0, none⟩)), (6, .pointer (some ⟨b4, 0, none⟩)), (10, .int .i64 rank2), (15, .int .i64 r8), (17, v14), (18, .int .i64 r10), (19, .pointer (some ⟨b5, 0, none⟩))] [.box b2 [.bool a1.Char, v1, v2], .box b3 [.bool b1.Char, v3, v4], .box b4 [.bool false, (.slice none 0 0), (.slice none 0 0)], .box b5 [.bool Char1, v14, (.slice none 0 0)], .fz (rI .i64) v1 a1.Shape, .fz (rI .i64) v2 a1.Data, .fz (rI .i64) v3 b1.Shape, .fz (rI .i64) v4 b1.Data, .own (rI .i64) v14 l5] Fr)) ?_ ?_
       ·refine c_reg fun R hR => ?_
        refine pp1 hS rfl rfl ?_; clear hS
        intro tm hS
        refine o_ld1 (k := 3) hS (.inl rfl) rfl rfl rfl (.inl rfl) Fu23 rfl rfl ?_; clear hS
        intro tm hS
        refine o_len (k := 8) (r := (rI .i64)) hS (.inl rfl) rfl rfl rfl (.inl rfl) Fu23 rfl ?_; clear hS
        intro tm hS
        refine pp2 hS rfl rfl rfl rfl ?_; clear hS
        intro tm hS
        obtain ⟨c11, hc11⟩ : ∃ x : Bool, x = (((b1.Data.length : Int) == 0) && (decide ((a1.Data.length : Int) > 0))) := ⟨_, rfl⟩
        refine o_cutN 5 (J := fun tm H => S wm 217 tm H [(169, .bool c11), (2, .int .i64 axis2), (3, .pointer (some ⟨b2, 0, none⟩)), (4, .pointer (some ⟨b3, 0, none⟩)), (6, .pointer (some ⟨b4, 0, none⟩)), (10, .int .i64 rank2), (15, .int .i64 r8), (17, v14), (18, .int .i64 r10), (19, .pointer (some ⟨b5, 0, none⟩))] [.box b5 [.bool b1.Char, v14, (.slice none 0 0)], .own (rI .i64) v14 l5, .box b2 [.bool a1.Char, v1, v2], .box b3 [.bool b1.Char, v3, v4], .box b4 [.bool false, (.slice none 0 0), (.slice none 0 0)], .fz (rI .i64) v1 a1.Shape, .fz (rI .i64) v2 a1.Data, .fz (rI .i64) v3 b1.Shape, .fz (rI .i64) v4 b1.Data] Fr) ?_ ?_
        ·rcases Bool.eq_false_or_eq_true ((b1.Data.length : Int) == 0) with hg11 | hg11
         ·refine o_pure hS (.inr ⟨_, _, _, _, rfl, rfl, rfl, hg11⟩) rfl rfl ?_; clear hS
          intro tm hS
          refine o_ld1 (k := 2) hS (.inr ⟨_, _, _, _, rfl, rfl, rfl, hg11⟩) rfl rfl rfl (.inl rfl) Fu23 rfl rfl ?_; clear hS
          intro tm hS
          refine o_len (k := 6) (r := (rI .i64)) hS (.inr ⟨_, _, _, _, rfl, rfl, rfl, hg11⟩) rfl rfl rfl (.inl rfl) Fu23 rfl ?_; clear hS
          intro tm hS
          refine o_pure hS (.inr ⟨_, _, _, _, rfl, rfl, rfl, hg11⟩) rfl rfl ?_; clear hS
          intro tm hS
          refine o_pickT hS (.inl rfl) rfl rfl hg11 rfl ?_; clear hS
          intro tm hS
          have hc11 : c11 = (decide ((a1.Data.length : Int) > 0)) := hc11.trans (by rw [hg11]; first | rfl | simp)
          subst hc11
          exact o_nil (hS.keep (k10 rfl rfl rfl rfl rfl rfl rfl rfl rfl rfl) (fun hI => (hI.sub (sc (sc (sc (sc (sc (sc (sc (sc (sc sn))))))))))))
         ·refine o_skip hS rfl rfl rfl hg11 ?_; clear hS
          intro tm hS
          refine o_skip hS rfl rfl rfl hg11 ?_; clear hS
          intro tm hS
          refine o_skip hS rfl rfl rfl hg11 ?_; clear hS
          intro tm hS
          refine o_skip hS rfl rfl rfl hg11 ?_; clear hS
          intro tm hS
          refine o_pickF hS (.inl rfl) rfl rfl hg11 rfl ?_; clear hS
          intro tm hS
          have hc11 : c11 = false := hc11.trans (by rw [hg11]; first | rfl | simp)
          subst hc11
          exact o_nil (hS.keep (k10 rfl rfl rfl rfl rfl rfl rfl rfl rfl rfl) (fun hI => (hI.sub (sc (sc (sc (sc (sc (sc (sc (sc (sc sn))))))))))))
        intro tm H hS
        subst hc11
        refine o_nil (hR _ _ ?_)
        clear hR R
        refine c_cond hS rfl (fun hc => ?_) (fun hc => ?_)
        ·replace h6 := iteT hc h6
         refine c_reg1 fun R hR => ?_
         refine pp1 hS rfl rfl ?_; clear hS
         intro tm hS
         refine o_ld1 (k := 2) hS (.inl rfl) rfl rfl rfl (.inl rfl) Fu4 rfl rfl ?_; clear hS
         intro tm hS
         refine pp1 hS rfl rfl ?_; clear hS
         intro tm hS
         refine o_st (k := 0) hS (.inl rfl) rfl rfl rfl Fs4 rfl rfl (all_cons rfl all_nil) rfl ?_; clear hS; try clear H
         intro H hS
         refine o_nil (hR _ _ ?_)
         clear hR R
         obtain rfl := Option.some.inj h6
         change S wm 217 _ _ _ _ Fr; exact hS.keep (k9 rfl rfl rfl rfl rfl rfl rfl rfl rfl) (fun hI => (hI.pick [2, 3, 4, 0, 5, 6, 7, 8, 1] rfl))
        ·replace h6 := iteF hc h6
         refine wpC.skip ?_
         obtain rfl := Option.some.inj h6
         change S wm 217 _ _ _ _ Fr; exact hS.keep (k9 rfl rfl rfl rfl rfl rfl rfl rfl rfl) (fun hI => (hI.pick [2, 3, 4, 0, 5, 6, 7, 8, 1] rfl))
       intro tm H hS
       change S wm 217 tm H [(2, .int .i64 axis2), (3, .pointer (some ⟨b2, 0, none⟩)), (4, .pointer (some ⟨b3, 0, none⟩)), (6, .pointer (some ⟨b4, 0, none⟩)), (10, .int .i64 rank2), (15, .int .i64 r8), (17, v14), (18, .int .i64 r10), (19, .pointer (some ⟨b5, 0, none⟩))] [.box b2 [.bool a1.Char, v1, v2], .box b3 [.bool b1.Char, v3, v4], .box b4 [.bool false, (.slice none 0 0), (.slice none 0 0)], .box b5 [.bool Char1, v14, (.slice none 0 0)], .fz (rI .i64) v1 a1.Shape, .fz (rI .i64) v2 a1.Data, .fz (rI .i64) v3 b1.Shape, .fz (rI .i64) v4 b1.Data, .own (rI .i64) v14 l5] Fr at hS
       refine c_seqS ?_
       refine cr1 hS rfl rfl ?_; clear hS
       intro tm hS
       obtain ⟨k2, hw1, h0⟩ := bindS h0
       refine wpC.block ?_
       replace hS := hS.nilOwn (rI .i64)
       refine c_loop (I := fun (s : Int × (List Int)) tm H => match (generalizing := false) s with | (k1, Data1) => ∃ v15, S wm 217 tm H [(2, .int .i64 axis2), (3, .pointer (some ⟨b2, 0, none⟩)), (4, .pointer (some ⟨b3, 0, none⟩)), (6, .pointer (some ⟨b4, 0, none⟩)), (10, .int .i64 rank2), (15, .int .i64 r8), (17, v14), (18, .int .i64 r10), (19, .pointer (some ⟨b5, 0, none⟩)), (20, .int .i64 k1)] [.box b2 [.bool a1.Char, v1, v2], .box b3 [.bool b1.Char, v3, v4], .box b4 [.bool false, (.slice none 0 0), (.slice none 0 0)], .box b5 [.bool Char1, v14, v15], .own (rI .i64) v15 Data1, .fz (rI .i64) v1 a1.Shape, .fz (rI .i64) v2 a1.Data, .fz (rI .i64) v3 b1.Shape, .fz (rI .i64) v4 b1.Data, .own (rI .i64) v14 l5] Fr) hw1 (by refine Exists.intro (.slice none 0 0) ?_; change S wm 217 _ _ _ _ Fr; exact hS.keep (k10 rfl rfl rfl rfl rfl rfl rfl rfl rfl rfl) (fun hI => (hI.pick [1, 2, 3, 4, 0, 5, 6, 7, 8, 9] rfl))) ?_
       clear hS
       intro s1 tm H c12 hS h7 hq7
       obtain ⟨k1, Data1⟩ := s1
       obtain ⟨v15, hS⟩ := hS
       change S wm 217 tm H [(2, .int .i64 axis2), (3, .pointer (some ⟨b2, 0, none⟩)), (4, .pointer (some ⟨b3, 0, none⟩)), (6, .pointer (some ⟨b4, 0, none⟩)), (10, .int .i64 rank2), (15, .int .i64 r8), (17, v14), (18, .int .i64 r10), (19, .pointer (some ⟨b5, 0, none⟩)), (20, .int .i64 k1)] [.box b2 [.bool a1.Char, v1, v2], .box b3 [.bool b1.Char, v3, v4], .box b4 [.bool false, (.slice none 0 0), (.slice none 0 0)], .box b5 [.bool Char1, v14, v15], .own (rI .i64) v15 Data1, .fz (rI .i64) v1 a1.Shape, .fz (rI .i64) v2 a1.Data, .fz (rI .i64) v3 b1.Shape, .fz (rI .i64) v4 b1.Data, .own (rI .i64) v14 l5] Fr at hS
       refine c_seqS ?_
       refine cr3 hS rfl rfl rfl rfl rfl rfl ?_; clear hS
       intro tm hS
       refine c_cond hS rfl (fun hc => ?_) (fun hc => ?_)
       ·replace h7 := iteT hc h7
        refine wpC.skip ?_
        refine c_seqS ?_
        refine wpC.block ?_
        refine c_reg fun R hR => ?_
        refine pp2 hS rfl rfl rfl rfl ?_; clear hS
        intro tm hS
        obtain ⟨r11, hx14, h7⟩ := bindS h7
        refine o_call (Pc := fun _ res H => ∃ v16, res = v16 ∧ Kn wm H ([.own (rI .i64) v16 r11] ++ [.box b2 [.bool a1.Char, v1, v2], .box b3 [.bool b1.Char, v3, v4], .box b4 [.bool false, (.slice none 0 0), (.slice none 0 0)], .box b5 [.bool Char1, v14, v15], .own (rI .i64) v15 Data1, .fz (rI .i64) v1 a1.Shape, .fz (rI .i64) v2 a1.Data, .fz (rI .i64) v3 b1.Shape, .fz (rI .i64) v4 b1.Data, .own (rI .i64) v14 l5]) Fr) hS (.inl rfl) rfl (fun wm' hw1 hw2 => by
         obtain ⟨F2, kk_1, kk_2⟩ := hS.inv.lendR (La := [.fz (rI .i64) v14 l5]) (List.forall_mem_cons.mpr ⟨(.inr ⟨_, _, _, _, rfl, .inl (List.mem_of_getElem? (i := 9) rfl)⟩), (fun _ h => by cases h)⟩) hw1 hw2
         exact (wk65  l5 k1  v14 kk_1 hx14).mono fun res H2 ⟨v16, qq_1, qq_2⟩ => ⟨v16, qq_1, kk_2 _ _ (List.forall_mem_cons.mpr ⟨⟨_, _, _, _, rfl, fun _ _ _ _ h => h⟩, (fun _ h => by cases h)⟩) qq_2⟩) (fun wm' res H hw' hp => ?_)
        obtain ⟨v16, hres, hI⟩ := hp
        replace hres := hres.symm; subst hres
        replace hS : S wm 217 _ H ((180, v16) :: _) ([.own (rI .i64) v16 r11] ++ [.box b2 [.bool a1.Char, v1, v2], .box b3 [.bool b1.Char, v3, v4], .box b4 [.bool false, (.slice none 0 0), (.slice none 0 0)], .box b5 [.bool Char1, v14, v15], .own (rI .i64) v15 Data1, .fz (rI .i64) v1 a1.Shape, .fz (rI .i64) v2 a1.Data, .fz (rI .i64) v3 b1.Shape, .fz (rI .i64) v4 b1.Data, .own (rI .i64) v14 l5]) Fr := (hS.put rfl _).withK hI
        clear hI hw'
        refine pp1 hS rfl rfl ?_; clear hS
        intro tm hS
        refine o_nil (hR _ _ ?_)
        clear hR R
        refine c_seqS ?_
        refine c_reg fun R hR => ?_
        refine pp2 hS rfl rfl rfl rfl ?_; clear hS
        intro tm hS
        obtain ⟨y1, hx15, h7⟩ := bindS h7
        refine o_ixA (k := 0) (r := (rI .i64)) hS (.inl rfl) rfl rfl rfl rfl (.inr (.inl rfl)) Fu22 Fs3 hx15 ?_; clear hS
        intro tm hS
        refine o_ldF (r := (rI .i64)) (k := 0) hS (.inl rfl) rfl rfl rfl (.inr (.inl rfl)) hx15 Fu3 rfl (flat_I _) rfl ?_; clear hS
        intro tm hS
        refine pp2 hS rfl rfl rfl rfl ?_; clear hS
        intro tm hS
        refine o_nil (hR _ _ ?_)
        clear hR R
        refine c_cond hS rfl (fun hc => ?_) (fun hc => ?_)
        ·replace h7 := iteT hc h7
         refine c_reg fun R hR => ?_
         refine pp1 hS rfl rfl ?_; clear hS
         intro tm hS
         refine o_ld1 (k := 4) hS (.inl rfl) rfl rfl rfl (.inl rfl) Fu23 rfl rfl ?_; clear hS
         intro tm hS
         refine o_ldA (k := 1) hS (.inl rfl) rfl rfl rfl (.inl rfl) Fu27 rfl Fs27 rfl ?_; clear hS
         intro tm hS
         refine pp3 hS rfl rfl rfl rfl rfl rfl ?_; clear hS
         intro tm hS
         obtain ⟨r12, hx16, h7⟩ := bindS h7
         refine o_call (Pc := fun _ res H => res = .int .i64 r12 ∧ Kn wm H ([.own (rI .i64) v16 r11, .box b2 [.bool a1.Char, v1, v2], .box b3 [.bool b1.Char, v3, v4], .box b4 [.bool false, (.slice none 0 0), (.slice none 0 0)], .box b5 [.bool Char1, v14, v15], .own (rI .i64) v15 Data1, .fz (rI .i64) v1 a1.Shape, .fz (rI .i64) v2 a1.Data, .fz (rI .i64) v3 b1.Shape, .fz (rI .i64) v4 b1.Data, .own (rI .i64) v14 l5]) Fr) hS (.inl rfl) rfl (fun wm' hw1 hw2 => by
          obtain ⟨F2, kk_1, kk_2⟩ := hS.inv.lend (La := [.fz (rI .i64) v1 a1.Shape, .fz (rI .i64) v2 a1.Data, .fz (rI .i64) v16 r11]) (List.forall_mem_cons.mpr ⟨(.inl ⟨rfl, List.mem_of_getElem? (i := 6) rfl⟩), (List.forall_mem_cons.mpr ⟨(.inl ⟨rfl, List.mem_of_getElem? (i := 7) rfl⟩), (List.forall_mem_cons.mpr ⟨(.inr ⟨_, _, _, _, rfl, .inl (List.mem_of_getElem? (i := 0) rfl)⟩), (fun _ h => by cases h)⟩)⟩)⟩) hw1 hw2
          exact (wk66  a1 rank2 axis2 r11  v1 v2 v16 kk_1 hx16).mono fun res H2 ⟨qq_1, qq_2⟩ => ⟨qq_1, kk_2 _ qq_2⟩) (fun wm' res H hw' hp => ?_)
         obtain ⟨hres, hI⟩ := hp
         replace hres := hres.symm; subst hres
         replace hS : S wm 217 _ H ((193, .int .i64 r12) :: _) ([.own (rI .i64) v16 r11, .box b2 [.bool a1.Char, v1, v2], .box b3 [.bool b1.Char, v3, v4], .box b4 [.bool false, (.slice none 0 0), (.slice none 0 0)], .box b5 [.bool Char1, v14, v15], .own (rI .i64) v15 Data1, .fz (rI .i64) v1 a1.Shape, .fz (rI .i64) v2 a1.Data, .fz (rI .i64) v3 b1.Shape, .fz (rI .i64) v4 b1.Data, .own (rI .i64) v14 l5]) Fr := (hS.put rfl _).withK hI
         clear hI hw'
         refine o_lit (r := (rI .i64)) (l := [r12]) hS (.inl rfl) rfl Fl23 rfl rfl rfl (.cons rfl .nil) rfl rfl (ri_1 (rd_flat fun _ => rfl) ri_nil) rfl ?_; clear hS
         intro v17 tm H hS
         obtain ⟨l6, hx17, h7⟩ := bindS h7
         refine o_app (k1 := 6) (k2 := 0) (r := (rI .i64)) hS (.inl rfl) rfl rfl rfl rfl rfl (.inr (.inr rfl)) rfl Fe23_23 rfl hx17 ?_; clear hS
         intro v18 tm H hS
         refine pp1 hS rfl rfl ?_; clear hS
         intro tm hS
         refine o_st (k := 5) hS (.inl rfl) rfl rfl rfl Fs23 (cells_one (hS.one (k := 6) rfl (.inr (.inl rfl)))) rfl (all_cons (hS.one (k := 6) rfl (.inr (.inl rfl))) all_nil) rfl ?_; clear hS; try clear H
         intro H hS
         refine o_nil (hR _ _ ?_)
         clear hR R
         refine wpC.exit ?_
         refine seqX ?_
         refine blk_eq ?_
         refine cs3 hS rfl rfl rfl rfl rfl rfl ?_; clear hS
         intro tm hS
         obtain rfl := Option.some.inj h7
         refine ⟨_, rfl, ?_⟩
         refine Exists.intro v18 ?_; change S wm 217 _ _ _ _ Fr; exact hS.keep (k10 rfl rfl rfl rfl rfl rfl rfl rfl rfl rfl) (fun hI => (hI.sub (sd (sd (sc (sc (sc (sc (sc (sc (sc (sc (sc (sc sn))))))))))))))
        ·replace h7 := iteF hc h7
         refine wpC.skip ?_
         refine c_reg fun R hR => ?_
         refine pp4 hS rfl rfl rfl rfl rfl rfl rfl rfl ?_; clear hS
         intro tm hS
         obtain ⟨y2, hx18, h7⟩ := bindS h7
         refine o_ixA (k := 0) (r := (rI .i64)) hS (.inl rfl) rfl rfl rfl rfl (.inr (.inl rfl)) Fu22 Fs3 hx18 ?_; clear hS
         intro tm hS
         refine o_ldF (r := (rI .i64)) (k := 0) hS (.inl rfl) rfl rfl rfl (.inr (.inl rfl)) hx18 Fu3 rfl (flat_I _) rfl ?_; clear hS
         intro tm hS
         refine pp2 hS rfl rfl rfl rfl ?_; clear hS
         intro tm hS
         obtain ⟨y3, hx19, h7⟩ := bindS h7
         refine o_ixA (k := 0) (r := (rI .i64)) hS (.inl rfl) rfl rfl rfl rfl (.inr (.inl rfl)) Fu22 Fs3 hx19 ?_; clear hS
         intro tm hS
         obtain ⟨l7, hx20, h7⟩ := bindS h7
         refine o_stE (k := 0) (r := (rI .i64)) hS (.inl rfl) rfl rfl rfl Fs3 rfl rfl (rd_flat fun _ => rfl) hx20 ?_; clear hS; try clear H
         intro H hS
         refine o_nil (hR _ _ ?_)
         clear hR R
         refine c_reg1 fun R hR => ?_
         refine pp1 hS rfl rfl ?_; clear hS
         intro tm hS
         refine o_ld1 (k := 4) hS (.inl rfl) rfl rfl rfl (.inl rfl) Fu23 rfl rfl ?_; clear hS
         intro tm hS
         refine o_ldA (k := 2) hS (.inl rfl) rfl rfl rfl (.inl rfl) Fu27 rfl Fs27 rfl ?_; clear hS
         intro tm hS
         refine pp3 hS rfl rfl rfl rfl rfl rfl ?_; clear hS
         intro tm hS
         obtain ⟨r13, hx21, h7⟩ := bindS h7
         refine o_call (Pc := fun _ res H => res = .int .i64 r13 ∧ Kn wm H ([.own (rI .i64) v16 l7, .box b2 [.bool a1.Char, v1, v2], .box b3 [.bool b1.Char, v3, v4], .box b4 [.bool false, (.slice none 0 0), (.slice none 0 0)], .box b5 [.bool Char1, v14, v15], .own (rI .i64) v15 Data1, .fz (rI .i64) v1 a1.Shape, .fz (rI .i64) v2 a1.Data, .fz (rI .i64) v3 b1.Shape, .fz (rI .i64) v4 b1.Data, .own (rI .i64) v14 l5]) Fr) hS (.inl rfl) rfl (fun wm' hw1 hw2 => by
          obtain ⟨F2, kk_1, kk_2⟩ := hS.inv.lend (La := [.fz (rI .i64) v3 b1.Shape, .fz (rI .i64) v4 b1.Data, .fz (rI .i64) v16 l7]) (List.forall_mem_cons.mpr ⟨(.inl ⟨rfl, List.mem_of_getElem? (i := 8) rfl⟩), (List.forall_mem_cons.mpr ⟨(.inl ⟨rfl, List.mem_of_getElem? (i := 9) rfl⟩), (List.forall_mem_cons.mpr ⟨(.inr ⟨_, _, _, _, rfl, .inl (List.mem_of_getElem? (i := 0) rfl)⟩), (fun _ h => by cases h)⟩)⟩)⟩) hw1 hw2
          exact (wk66  b1 rank2 axis2 l7  v3 v4 v16 kk_1 hx21).mono fun res H2 ⟨qq_1, qq_2⟩ => ⟨qq_1, kk_2 _ qq_2⟩) (fun wm' res H hw' hp => ?_)
         obtain ⟨hres, hI⟩ := hp
         replace hres := hres.symm; subst hres
         replace hS : S wm 217 _ H ((212, .int .i64 r13) :: _) ([.own (rI .i64) v16 l7, .box b2 [.bool a1.Char, v1, v2], .box b3 [.bool b1.Char, v3, v4], .box b4 [.bool false, (.slice none 0 0), (.slice none 0 0)], .box b5 [.bool Char1, v14, v15], .own (rI .i64) v15 Data1, .fz (rI .i64) v1 a1.Shape, .fz (rI .i64) v2 a1.Data, .fz (rI .i64) v3 b1.Shape, .fz (rI .i64) v4 b1.Data, .own (rI .i64) v14 l5]) Fr := (hS.put rfl _).withK hI
         clear hI hw'
         refine o_lit (r := (rI .i64)) (l := [r13]) hS (.inl rfl) rfl Fl23 rfl rfl rfl (.cons rfl .nil) rfl rfl (ri_1 (rd_flat fun _ => rfl) ri_nil) rfl ?_; clear hS
         intro v19 tm H hS
         obtain ⟨l8, hx22, h7⟩ := bindS h7
         refine o_app (k1 := 6) (k2 := 0) (r := (rI .i64)) hS (.inl rfl) rfl rfl rfl rfl rfl (.inr (.inr rfl)) rfl Fe23_23 rfl hx22 ?_; clear hS
         intro v20 tm H hS
         refine pp1 hS rfl rfl ?_; clear hS
         intro tm hS
         refine o_st (k := 5) hS (.inl rfl) rfl rfl rfl Fs23 (cells_one (hS.one (k := 6) rfl (.inr (.inl rfl)))) rfl (all_cons (hS.one (k := 6) rfl (.inr (.inl rfl))) all_nil) rfl ?_; clear hS; try clear H
         intro H hS
         refine o_nil (hR _ _ ?_)
         clear hR R
         refine cs3 hS rfl rfl rfl rfl rfl rfl ?_; clear hS
         intro tm hS
         obtain rfl := Option.some.inj h7
         refine ⟨_, rfl, ?_⟩
         refine Exists.intro v20 ?_; change S wm 217 _ _ _ _ Fr; exact hS.keep (k10 rfl rfl rfl rfl rfl rfl rfl rfl rfl rfl) (fun hI => (hI.sub (sd (sd (sc (sc (sc (sc (sc (sc (sc (sc (sc (sc sn))))))))))))))
       ·replace h7 := iteF hc h7
        refine wpC.exit ?_
        refine seqX ?_
        obtain rfl := Option.some.inj h7
        obtain rfl := hq7 _ rfl
        refine And.intro rfl (blk_eq ?_)
        replace h0 := joinN h0
        refine c_reg fun R hR => ?_
        refine o_ldA (k := 3) hS (.inl rfl) rfl rfl rfl (.inl rfl) Fu27 rfl Fs27 rfl ?_; clear hS
        intro tm hS
        refine o_st (k := 2) hS (.inl rfl) rfl rfl rfl Fs27 rfl rfl (all_cons rfl (all_cons (hS.one (k := 9) rfl (.inr (.inl rfl))) (all_cons (hS.one (k := 4) rfl (.inr (.inl rfl))) all_nil))) rfl ?_; clear hS; try clear H
        intro H hS
        refine pp1 hS rfl rfl ?_; clear hS
        intro tm hS
        refine o_nil (hR _ _ ?_)
        clear hR R
        refine wpC.ret ?_
        obtain rfl := Option.some.inj h0
        refine Exists.intro _ (And.intro (rs_cellA (k := 2) hS rfl rfl (.inl rfl) Fu27 rfl Fs27 rfl (rs_tmp hS rfl rs_nil)) ?_)
        have hI := hS.inv
        exact ⟨v14, v15, rfl, (((hI.pull 4 rfl).pull 9 rfl).take 2)⟩
theorem wk26 {wm : Nat} {H : AHeap} {Fr : List Ent}  (a1 : Val) (b1 : Val)  (v1 : Value) (v2 : Value) (v3 : Value) (v4 : Value) (hI : Kn wm H [.fz (rI .i64) v1 a1.Shape, .fz (rI .i64) v2 a1.Data, .fz (rI .i64) v3 b1.Shape, .fz (rI .i64) v4 b1.Data] Fr) {r : Bool} (h0 : M.anamnesisref02_Same a1 b1 = some r) :
  wpF Try.prog ora wm 26 [.agg #[.bool a1.Char, v1, v2], .agg #[.bool b1.Char, v3, v4]] H (fun res H => res = .bool r ∧ Kn wm H [] Fr) := by
 unfold M.anamnesisref02_Same at h0
 refine f_enter (n := 66) Try.func26 rfl (by simp) hI rfl rfl rfl fun tm hS => ?_
 clear hI
 refine c_reg fun R hR => ?_
 refine o_box hS (.inl rfl) rfl rfl rfl (all_cons rfl (all_cons (hS.one (k := 0) rfl (.inl rfl)) (all_cons (hS.one (k := 1) rfl (.inl rfl)) all_nil))) ?_; clear hS
 intro b2 tm H hS
 refine o_box hS (.inl rfl) rfl rfl rfl (all_cons rfl (all_cons (hS.one (k := 3) rfl (.inl rfl)) (all_cons (hS.one (k := 4) rfl (.inl rfl)) all_nil))) ?_; clear hS
 intro b3 tm H hS
 refine pp1 hS rfl rfl ?_; clear hS
 intro tm hS
 refine o_nil (hR _ _ ?_)
 clear hR R
 refine c_seqS ?_
 refine c_reg fun R hR => ?_
 refine pp1 hS rfl rfl ?_; clear hS
 intro tm hS
 refine o_ld1 (k := 1) hS (.inl rfl) rfl rfl rfl (.inl rfl) Fu4 rfl rfl ?_; clear hS
 intro tm hS
 refine pp1 hS rfl rfl ?_; clear hS
 intro tm hS
 refine o_ld1 (k := 0) hS (.inl rfl) rfl rfl rfl (.inl rfl) Fu4 rfl rfl ?_; clear hS
 intro tm hS
 refine pp2 hS rfl rfl rfl rfl ?_; clear hS
 intro tm hS
 obtain ⟨c1, hc1⟩ : ∃ x : Bool, x = ((!(a1.Char == b1.Char)) || ((a1.Shape.length : Int) != (b1.Shape.length : Int))) := ⟨_, rfl⟩
 refine o_cutN 8 (J := fun tm H => S wm 66 tm H [(20, .bool c1), (2, .pointer (some ⟨b2, 0, none⟩)), (3, .pointer (some ⟨b3, 0, none⟩))] [.box b3 [.bool b1.Char, v3, v4], .box b2 [.bool a1.Char, v1, v2], .fz (rI .i64) v1 a1.Shape, .fz (rI .i64) v2 a1.Data, .fz (rI .i64) v3 b1.Shape, .fz (rI .i64) v4 b1.Data] Fr) ?_ ?_
 ·rcases Bool.eq_false_or_eq_true (!(a1.Char == b1.Char)) with hg1 | hg1
  ·refine o_skip hS rfl rfl rfl hg1 ?_; clear hS
   intro tm hS
   refine o_skip hS rfl rfl rfl hg1 ?_; clear hS
   intro tm hS
   refine o_skip hS rfl rfl rfl hg1 ?_; clear hS
   intro tm hS
   refine o_skip hS rfl rfl rfl hg1 ?_; clear hS
   intro tm hS
   refine o_skip hS rfl rfl rfl hg1 ?_; clear hS
   intro tm hS
   refine o_skip hS rfl rfl rfl hg1 ?_; clear hS
   intro tm hS
   refine o_skip hS rfl rfl rfl hg1 ?_; clear hS
   intro tm hS
   refine o_pickT hS (.inl rfl) rfl rfl hg1 rfl ?_; clear hS
   intro tm hS
   have hc1 : c1 = true := hc1.trans (by rw [hg1]; first | rfl | simp)
   subst hc1
   exact o_nil (hS.keep (k3 rfl rfl rfl) (fun hI => (hI.sub (sc (sc (sc (sc (sc (sc sn)))))))))
  ·refine o_pure hS (.inr ⟨_, _, _, _, rfl, rfl, rfl, hg1⟩) rfl rfl ?_; clear hS
   intro tm hS
   refine o_ld1 (k := 1) hS (.inr ⟨_, _, _, _, rfl, rfl, rfl, hg1⟩) rfl rfl rfl (.inl rfl) Fu22 rfl rfl ?_; clear hS
   intro tm hS
   refine o_len (k := 2) (r := (rI .i64)) hS (.inr ⟨_, _, _, _, rfl, rfl, rfl, hg1⟩) rfl rfl rfl (.inl rfl) Fu22 rfl ?_; clear hS
   intro tm hS
   refine o_pure hS (.inr ⟨_, _, _, _, rfl, rfl, rfl, hg1⟩) rfl rfl ?_; clear hS
   intro tm hS
   refine o_ld1 (k := 0) hS (.inr ⟨_, _, _, _, rfl, rfl, rfl, hg1⟩) rfl rfl rfl (.inl rfl) Fu22 rfl rfl ?_; clear hS
   intro tm hS
   refine o_len (k := 4) (r := (rI .i64)) hS (.inr ⟨_, _, _, _, rfl, rfl, rfl, hg1⟩) rfl rfl rfl (.inl rfl) Fu22 rfl ?_; clear hS
   intro tm hS
   refine o_pure hS (.inr ⟨_, _, _, _, rfl, rfl, rfl, hg1⟩) rfl rfl ?_; clear hS
   intro tm hS
   refine o_pickF hS (.inl rfl) rfl rfl hg1 rfl ?_; clear hS
   intro tm hS
   have hc1 : c1 = ((a1.Shape.length : Int) != (b1.Shape.length : Int)) := hc1.trans (by rw [hg1]; first | rfl | simp)
   subst hc1
   exact o_nil (hS.keep (k3 rfl rfl rfl) (fun hI => (hI.sub (sc (sc (sc (sc (sc (sc sn)))))))))
 intro tm H hS
 subst hc1
 refine pp1 hS rfl rfl ?_; clear hS
 intro tm hS
 obtain ⟨c2, hc2⟩ : ∃ x : Bool, x = (((!(a1.Char == b1.Char)) || ((a1.Shape.length : Int) != (b1.Shape.length : Int))) || ((a1.Data.length : Int) != (b1.Data.length : Int))) := ⟨_, rfl⟩
 refine o_cutN 8 (J := fun tm H => S wm 66 tm H [(29, .bool c2), (2, .pointer (some ⟨b2, 0, none⟩)), (3, .pointer (some ⟨b3, 0, none⟩))] [.box b3 [.bool b1.Char, v3, v4], .box b2 [.bool a1.Char, v1, v2], .fz (rI .i64) v1 a1.Shape, .fz (rI .i64) v2 a1.Data, .fz (rI .i64) v3 b1.Shape, .fz (rI .i64) v4 b1.Data] Fr) ?_ ?_
 ·rcases Bool.eq_false_or_eq_true ((!(a1.Char == b1.Char)) || ((a1.Shape.length : Int) != (b1.Shape.length : Int))) with hg2 | hg2
  ·refine o_skip hS rfl rfl rfl hg2 ?_; clear hS
   intro tm hS
   refine o_skip hS rfl rfl rfl hg2 ?_; clear hS
   intro tm hS
   refine o_skip hS rfl rfl rfl hg2 ?_; clear hS
   intro tm hS
   refine o_skip hS rfl rfl rfl hg2 ?_; clear hS
   intro tm hS
   refine o_skip hS rfl rfl rfl hg2 ?_; clear hS
   intro tm hS
   refine o_skip hS rfl rfl rfl hg2 ?_; clear hS
   intro tm hS
   refine o_skip hS rfl rfl rfl hg2 ?_; clear hS
   intro tm hS
   refine o_pickT hS (.inl rfl) rfl rfl hg2 rfl ?_; clear hS
   intro tm hS
   have hc2 : c2 = true := hc2.trans (by rw [hg2]; first | rfl | simp)
   subst hc2
   exact o_nil (hS.keep (k3 rfl rfl rfl) (fun hI => (hI.sub (sc (sc (sc (sc (sc (sc sn)))))))))
  ·refine o_pure hS (.inr ⟨_, _, _, _, rfl, rfl, rfl, hg2⟩) rfl rfl ?_; clear hS
   intro tm hS
   refine o_ld1 (k := 1) hS (.inr ⟨_, _, _, _, rfl, rfl, rfl, hg2⟩) rfl rfl rfl (.inl rfl) Fu23 rfl rfl ?_; clear hS
   intro tm hS
   refine o_len (k := 3) (r := (rI .i64)) hS (.inr ⟨_, _, _, _, rfl, rfl, rfl, hg2⟩) rfl rfl rfl (.inl rfl) Fu23 rfl ?_; clear hS
   intro tm hS
   refine o_pure hS (.inr ⟨_, _, _, _, rfl, rfl, rfl, hg2⟩) rfl rfl ?_; clear hS
   intro tm hS
   refine o_ld1 (k := 0) hS (.inr ⟨_, _, _, _, rfl, rfl, rfl, hg2⟩) rfl rfl rfl (.inl rfl) Fu23 rfl rfl ?_; clear hS
   intro tm hS
   refine o_len (k := 5) (r := (rI .i64)) hS (.inr ⟨_, _, _, _, rfl, rfl, rfl, hg2⟩) rfl rfl rfl (.inl rfl) Fu23 rfl ?_; clear hS
   intro tm hS
   refine o_pure hS (.inr ⟨_, _, _, _, rfl, rfl, rfl, hg2⟩) rfl rfl ?_; clear hS
   intro tm hS
   refine o_pickF hS (.inl rfl) rfl rfl hg2 rfl ?_; clear hS
   intro tm hS
   have hc2 : c2 = ((a1.Data.length : Int) != (b1.Data.length : Int)) := hc2.trans (by rw [hg2]; first | rfl | simp)
   subst hc2
   exact o_nil (hS.keep (k3 rfl rfl rfl) (fun hI => (hI.sub (sc (sc (sc (sc (sc (sc sn)))))))))
 intro tm H hS
 subst hc2
 refine o_nil (hR _ _ ?_)
 clear hR R
 refine c_cond hS rfl (fun hc => ?_) (fun hc => ?_)
 ·replace h0 := iteT hc h0
  refine cr1 hS rfl rfl ?_; clear hS
  intro tm hS
  refine wpC.ret ?_
  obtain rfl := Option.some.inj h0
  refine Exists.intro _ (And.intro (rs_tmp hS rfl rs_nil) ?_)
  have hI := hS.inv
  exact ⟨rfl, (hI.sub sn)⟩
 ·replace h0 := iteF hc h0
  refine wpC.skip ?_
  refine c_seqS ?_
  refine cr1 hS rfl rfl ?_; clear hS
  intro tm hS
  obtain ⟨k1, hw1, h0⟩ := bindS h0
  refine wpC.block ?_
  refine c_loop (I := fun (s : Int) tm H => match (generalizing := false) s with | i1 => S wm 66 tm H [(2, .pointer (some ⟨b2, 0, none⟩)), (3, .pointer (some ⟨b3, 0, none⟩)), (5, .int .i64 i1)] [.box b2 [.bool a1.Char, v1, v2], .box b3 [.bool b1.Char, v3, v4], .fz (rI .i64) v1 a1.Shape, .fz (rI .i64) v2 a1.Data, .fz (rI .i64) v3 b1.Shape, .fz (rI .i64) v4 b1.Data] Fr) hw1 (by change S wm 66 _ _ _ _ Fr; exact hS.keep (k3 rfl rfl rfl) (fun hI => (((((((hI.pull 5 rfl).pull 5 rfl).pull 5 rfl).pull 5 rfl).pull 4 rfl).pull 5 rfl).take 6))) ?_
  clear hS
  intro i1 tm H c3 hS h1 hq1
  change S wm 66 tm H [(2, .pointer (some ⟨b2, 0, none⟩)), (3, .pointer (some ⟨b3, 0, none⟩)), (5, .int .i64 i1)] [.box b2 [.bool a1.Char, v1, v2], .box b3 [.bool b1.Char, v3, v4], .fz (rI .i64) v1 a1.Shape, .fz (rI .i64) v2 a1.Data, .fz (rI .i64) v3 b1.Shape, .fz (rI .i64) v4 b1.Data] Fr at hS
  refine c_seqS ?_
  refine c_reg fun R hR => ?_
  refine pp2 hS rfl rfl rfl rfl ?_; clear hS
  intro tm hS
  refine o_ld1 (k := 0) hS (.inl rfl) rfl rfl rfl (.inl rfl) Fu22 rfl rfl ?_; clear hS
  intro tm hS
  refine o_len (k := 2) (r := (rI .i64)) hS (.inl rfl) rfl rfl rfl (.inl rfl) Fu22 rfl ?_; clear hS
  intro tm hS
  refine pp1 hS rfl rfl ?_; clear hS
  intro tm hS
  refine o_nil (hR _ _ ?_)
  clear hR R
  refine c_cond hS rfl (fun hc => ?_) (fun hc => ?_)
  ·replace h1 := iteT hc h1
   refine wpC.skip ?_
   refine c_seqS ?_
   refine wpC.block ?_
   refine c_reg fun R hR => ?_
   refine pp1 hS rfl rfl ?_; clear hS
   intro tm hS
   refine o_ld1 (k := 0) hS (.inl rfl) rfl rfl rfl (.inl rfl) Fu22 rfl rfl ?_; clear hS
   intro tm hS
   refine pp1 hS rfl rfl ?_; clear hS
   intro tm hS
   obtain ⟨y1, hx1, h1⟩ := bindS h1
   refine o_ixA (k := 2) (r := (rI .i64)) hS (.inl rfl) rfl rfl rfl rfl (.inl rfl) Fu22 Fs3 hx1 ?_; clear hS
   intro tm hS
   refine o_ldF (r := (rI .i64)) (k := 2) hS (.inl rfl) rfl rfl rfl (.inl rfl) hx1 Fu3 rfl (flat_I _) rfl ?_; clear hS
   intro tm hS
   refine pp1 hS rfl rfl ?_; clear hS
   intro tm hS
   refine o_ld1 (k := 1) hS (.inl rfl) rfl rfl rfl (.inl rfl) Fu22 rfl rfl ?_; clear hS
   intro tm hS
   refine pp1 hS rfl rfl ?_; clear hS
   intro tm hS
   obtain ⟨y2, hx2, h1⟩ := bindS h1
   refine o_ixA (k := 4) (r := (rI .i64)) hS (.inl rfl) rfl rfl rfl rfl (.inl rfl) Fu22 Fs3 hx2 ?_; clear hS
   intro tm hS
   refine o_ldF (r := (rI .i64)) (k := 4) hS (.inl rfl) rfl rfl rfl (.inl rfl) hx2 Fu3 rfl (flat_I _) rfl ?_; clear hS
   intro tm hS
   refine pp1 hS rfl rfl ?_; clear hS
   intro tm hS
   refine o_nil (hR _ _ ?_)
   clear hR R
   refine c_cond hS rfl (fun hc => ?_) (fun hc => ?_)
   ·replace h1 := iteT hc h1
    refine cr1 hS rfl rfl ?_; clear hS
    intro tm hS
    refine wpC.ret ?_
    obtain rfl := Option.some.inj h1
    obtain rfl := hq1 _ rfl
    refine And.intro rfl ?_
    obtain rfl := leave h0
    refine Exists.intro _ (And.intro (rs_tmp hS rfl rs_nil) ?_)
    have hI := hS.inv
    exact ⟨rfl, (hI.sub sn)⟩
   ·replace h1 := iteF hc h1
    refine wpC.skip ?_
    refine cs3 hS rfl rfl rfl rfl rfl rfl ?_; clear hS
    intro tm hS
    obtain rfl := Option.some.inj h1
    refine ⟨_, rfl, ?_⟩
    change S wm 66 _ _ _ _ Fr; exact hS.keep (k3 rfl rfl rfl) (fun hI => (hI.sub (sc (sc (sc (sc (sc (sc sn))))))))
  ·replace h1 := iteF hc h1
   refine wpC.exit ?_
   refine seqX ?_
   obtain rfl := Option.some.inj h1
   obtain rfl := hq1 _ rfl
   refine And.intro rfl (blk_eq ?_)
   replace h0 := joinN h0
   refine c_seqS ?_
   refine cr1 hS rfl rfl ?_; clear hS
   intro tm hS
   obtain ⟨k2, hw2, h0⟩ := bindS h0
   refine wpC.block ?_
   refine c_loop (I := fun (s : Int) tm H => match (generalizing := false) s with | i2 => S wm 66 tm H [(2, .pointer (some ⟨b2, 0, none⟩)), (3, .pointer (some ⟨b3, 0, none⟩)), (6, .int .i64 i2)] [.box b2 [.bool a1.Char, v1, v2], .box b3 [.bool b1.Char, v3, v4], .fz (rI .i64) v1 a1.Shape, .fz (rI .i64) v2 a1.Data, .fz (rI .i64) v3 b1.Shape, .fz (rI .i64) v4 b1.Data] Fr) hw2 (by change S wm 66 _ _ _ _ Fr; exact hS.keep (k3 rfl rfl rfl) (fun hI => (hI.sub (sc (sc (sc (sc (sc (sc sn))))))))) ?_
   clear hS
   intro i2 tm H c4 hS h3 hq3
   change S wm 66 tm H [(2, .pointer (some ⟨b2, 0, none⟩)), (3, .pointer (some ⟨b3, 0, none⟩)), (6, .int .i64 i2)] [.box b2 [.bool a1.Char, v1, v2], .box b3 [.bool b1.Char, v3, v4], .fz (rI .i64) v1 a1.Shape, .fz (rI .i64) v2 a1.Data, .fz (rI .i64) v3 b1.Shape, .fz (rI .i64) v4 b1.Data] Fr at hS
   refine c_seqS ?_
   refine c_reg fun R hR => ?_
   refine pp2 hS rfl rfl rfl rfl ?_; clear hS
   intro tm hS
   refine o_ld1 (k := 0) hS (.inl rfl) rfl rfl rfl (.inl rfl) Fu23 rfl rfl ?_; clear hS
   intro tm hS
   refine o_len (k := 3) (r := (rI .i64)) hS (.inl rfl) rfl rfl rfl (.inl rfl) Fu23 rfl ?_; clear hS
   intro tm hS
   refine pp1 hS rfl rfl ?_; clear hS
   intro tm hS
   refine o_nil (hR _ _ ?_)
   clear hR R
   refine c_cond hS rfl (fun hc => ?_) (fun hc => ?_)
   ·replace h3 := iteT hc h3
    refine wpC.skip ?_
    refine c_seqS ?_
    refine wpC.block ?_
    refine c_reg fun R hR => ?_
    refine pp1 hS rfl rfl ?_; clear hS
    intro tm hS
    refine o_ld1 (k := 0) hS (.inl rfl) rfl rfl rfl (.inl rfl) Fu23 rfl rfl ?_; clear hS
    intro tm hS
    refine pp1 hS rfl rfl ?_; clear hS
    intro tm hS
    obtain ⟨y3, hx3, h3⟩ := bindS h3
    refine o_ixA (k := 3) (r := (rI .i64)) hS (.inl rfl) rfl rfl rfl rfl (.inl rfl) Fu23 Fs2 hx3 ?_; clear hS
    intro tm hS
    refine o_ldF (r := (rI .i64)) (k := 3) hS (.inl rfl) rfl rfl rfl (.inl rfl) hx3 Fu2 rfl (flat_I _) rfl ?_; clear hS
    intro tm hS
    refine pp1 hS rfl rfl ?_; clear hS
    intro tm hS
    refine o_ld1 (k := 1) hS (.inl rfl) rfl rfl rfl (.inl rfl) Fu23 rfl rfl ?_; clear hS
    intro tm hS
    refine pp1 hS rfl rfl ?_; clear hS
    intro tm hS
    obtain ⟨y4, hx4, h3⟩ := bindS h3
    refine o_ixA (k := 5) (r := (rI .i64)) hS (.inl rfl) rfl rfl rfl rfl (.inl rfl) Fu23 Fs2 hx4 ?_; clear hS
    intro tm hS
    refine o_ldF (r := (rI .i64)) (k := 5) hS (.inl rfl) rfl rfl rfl (.inl rfl) hx4 Fu2 rfl (flat_I _) rfl ?_; clear hS
    intro tm hS
    refine pp1 hS rfl rfl ?_; clear hS
    intro tm hS
    refine o_nil (hR _ _ ?_)
    clear hR R
    refine c_cond hS rfl (fun hc => ?_) (fun hc => ?_)
    ·replace h3 := iteT hc h3
     refine cr1 hS rfl rfl ?_; clear hS
     intro tm hS
     refine wpC.ret ?_
     obtain rfl := Option.some.inj h3
     obtain rfl := hq3 _ rfl
     refine And.intro rfl ?_
     obtain rfl := leave h0
     refine Exists.intro _ (And.intro (rs_tmp hS rfl rs_nil) ?_)
     have hI := hS.inv
     exact ⟨rfl, (hI.sub sn)⟩
    ·replace h3 := iteF hc h3
     refine wpC.skip ?_
     refine cs3 hS rfl rfl rfl rfl rfl rfl ?_; clear hS
     intro tm hS
     obtain rfl := Option.some.inj h3
     refine ⟨_, rfl, ?_⟩
     change S wm 66 _ _ _ _ Fr; exact hS.keep (k3 rfl rfl rfl) (fun hI => (hI.sub (sc (sc (sc (sc (sc (sc sn))))))))
   ·replace h3 := iteF hc h3
    refine wpC.exit ?_
    refine seqX ?_
    obtain rfl := Option.some.inj h3
    obtain rfl := hq3 _ rfl
    refine And.intro rfl (blk_eq ?_)
    replace h0 := joinN h0
    refine cr1 hS rfl rfl ?_; clear hS
    intro tm hS
    refine wpC.ret ?_
    obtain rfl := Option.some.inj h0
    refine Exists.intro _ (And.intro (rs_tmp hS rfl rs_nil) ?_)
    have hI := hS.inv
    exact ⟨rfl, (hI.sub sn)⟩
theorem wk25 {wm : Nat} {H : AHeap} {Fr : List Ent}  (v1 : Val) (e1 : Int) (w1 : Val) (f1 : Int)  (v2 : Value) (v3 : Value) (v4 : Value) (v5 : Value) (hI : Kn wm H [.fz (rI .i64) v2 v1.Shape, .fz (rI .i64) v3 v1.Data, .fz (rI .i64) v4 w1.Shape, .fz (rI .i64) v5 w1.Data] Fr) {r : Bool} (h0 : M.anamnesislaw07_told v1 e1 w1 f1 = some r) :
  wpF Try.prog ora wm 25 [.agg #[.bool v1.Char, v2, v3], .int .i64 e1, .agg #[.bool w1.Char, v4, v5], .int .i64 f1] H (fun res H => res = .bool r ∧ Kn wm H [] Fr) := by
 unfold M.anamnesislaw07_told at h0
 refine f_enter (n := 17) Try.func25 rfl (by simp) hI rfl rfl rfl fun tm hS => ?_
 clear hI
 refine c_reg fun R hR => ?_
 refine o_box hS (.inl rfl) rfl rfl rfl (all_cons rfl (all_cons (hS.one (k := 0) rfl (.inl rfl)) (all_cons (hS.one (k := 1) rfl (.inl rfl)) all_nil))) ?_; clear hS
 intro b1 tm H hS
 refine o_box hS (.inl rfl) rfl rfl rfl (all_cons rfl (all_cons (hS.one (k := 3) rfl (.inl rfl)) (all_cons (hS.one (k := 4) rfl (.inl rfl)) all_nil))) ?_; clear hS
 intro b2 tm H hS
 refine pp1 hS rfl rfl ?_; clear hS
 intro tm hS
 refine o_nil (hR _ _ ?_)
 clear hR R
 refine c_reg fun R hR => ?_
 refine pp4 hS rfl rfl rfl rfl rfl rfl rfl rfl ?_; clear hS
 intro tm hS
 obtain ⟨c1, hc1, h0⟩ := bindS h0
 refine o_cutN 4 (J := fun tm H => S wm 17 tm H [(16, .bool c1)] [] Fr) ?_ ?_
 ·rcases Bool.eq_false_or_eq_true (e1 == f1) with hg1 | hg1
  ·replace hc1 := iteT hg1 hc1
   refine o_ldA (k := 1) hS (.inr ⟨_, _, _, _, rfl, rfl, rfl, hg1⟩) rfl rfl rfl (.inl rfl) Fu27 rfl Fs27 rfl ?_; clear hS
   intro tm hS
   refine o_ldA (k := 0) hS (.inr ⟨_, _, _, _, rfl, rfl, rfl, hg1⟩) rfl rfl rfl (.inl rfl) Fu27 rfl Fs27 rfl ?_; clear hS
   intro tm hS
   obtain ⟨r1, hx1, hc1⟩ := bindS hc1
   refine o_call hS (.inr ⟨_, _, _, _, rfl, rfl, rfl, hg1⟩) rfl (fun wm' hw1 hw2 => wk26  v1 w1  v2 v3 v4 v5 (((((hS.sel hw2).ad 5 rfl).ad 4 rfl).ad 3 rfl).ad 2 rfl) hx1) (fun wm' res H hw' hp => ?_)
   obtain ⟨hres, hI⟩ := hp
   replace hres := hres.symm; subst hres
   replace hS : S wm 17 _ H ((15, .bool r1) :: _) ([] ++ _) Fr := hS.after rfl hw' hI
   clear hI hw'
   refine o_pickT hS (.inl rfl) rfl rfl hg1 rfl ?_; clear hS
   intro tm hS
   obtain rfl := Option.some.inj hc1
   exact o_nil (hS.keep (ka_cons rfl ka_nil) (fun hI => (hI.sub sn)))
  ·replace hc1 := iteF hg1 hc1
   refine o_skip hS rfl rfl rfl hg1 ?_; clear hS
   intro tm hS
   refine o_skip hS rfl rfl rfl hg1 ?_; clear hS
   intro tm hS
   refine o_skip hS rfl rfl rfl hg1 ?_; clear hS
   intro tm hS
   refine o_pickF hS (.inl rfl) rfl rfl hg1 rfl ?_; clear hS
   intro tm hS
   obtain rfl := Option.some.inj hc1
   exact o_nil (hS.keep (ka_cons rfl ka_nil) (fun hI => (hI.sub sn)))
 intro tm H hS
 refine pp1 hS rfl rfl ?_; clear hS
 intro tm hS
 refine o_nil (hR _ _ ?_)
 clear hR R
 refine wpC.ret ?_
 obtain rfl := Option.some.inj h0
 refine Exists.intro _ (And.intro (rs_tmp hS rfl rs_nil) ?_)
 have hI := hS.inv
 exact ⟨rfl, (hI.sub sn)⟩
theorem wk5 {wm : Nat} {H : AHeap} {Fr : List Ent} (ho21 : ora 21 = true) (a1 : Val) (b1 : Val) (axis1 : Int)  (v1 : Value) (v2 : Value) (v3 : Value) (v4 : Value) (hI : Kn wm H [.fz (rI .i64) v1 a1.Shape, .fz (rI .i64) v2 a1.Data, .fz (rI .i64) v3 b1.Shape, .fz (rI .i64) v4 b1.Data] Fr) {r : Bool} (h0 : M.anamnesislaw07_JoinBeside a1 b1 axis1 = some r) :
  wpF Try.prog ora wm 5 [.agg #[.bool a1.Char, v1, v2], .agg #[.bool b1.Char, v3, v4], .int .i64 axis1] H (fun res H => res = .bool r ∧ Kn wm H [] Fr) := by
 unfold M.anamnesislaw07_JoinBeside at h0
 refine f_enter (n := 56) Try.func5 rfl (by simp) hI rfl rfl rfl fun tm hS => ?_
 clear hI
 refine c_reg fun R hR => ?_
 refine o_box hS (.inl rfl) rfl rfl rfl (all_cons rfl (all_cons (hS.one (k := 0) rfl (.inl rfl)) (all_cons (hS.one (k := 1) rfl (.inl rfl)) all_nil))) ?_; clear hS
 intro b2 tm H hS
 refine o_box hS (.inl rfl) rfl rfl rfl (all_cons rfl (all_cons (hS.one (k := 3) rfl (.inl rfl)) (all_cons (hS.one (k := 4) rfl (.inl rfl)) all_nil))) ?_; clear hS
 intro b3 tm H hS
 refine pp1 hS rfl rfl ?_; clear hS
 intro tm hS
 refine o_nil (hR _ _ ?_)
 clear hR R
 refine c_seqS ?_
 refine c_reg fun R hR => ?_
 refine o_ldA (k := 1) hS (.inl rfl) rfl rfl rfl (.inl rfl) Fu27 rfl Fs27 rfl ?_; clear hS
 intro tm hS
 obtain ⟨r1, hx1, h0⟩ := bindS h0
 refine o_call hS (.inl rfl) rfl (fun wm' hw1 hw2 => wk20  a1  v1 v2 (((hS.sel hw2).ad 3 rfl).ad 2 rfl) hx1) (fun wm' res H hw' hp => ?_)
 obtain ⟨hres, hI⟩ := hp
 replace hres := hres.symm; subst hres
 replace hS : S wm 56 _ H ((14, .bool r1) :: _) ([] ++ _) Fr := hS.after rfl hw' hI
 clear hI hw'
 refine pp1 hS rfl rfl ?_; clear hS
 intro tm hS
 obtain ⟨c1, hc1, h0⟩ := bindS h0
 refine o_cutN 3 (J := fun tm H => S wm 56 tm H [(18, .bool c1), (2, .int .i64 axis1), (3, .pointer (some ⟨b2, 0, none⟩)), (4, .pointer (some ⟨b3, 0, none⟩))] [.box b3 [.bool b1.Char, v3, v4], .box b2 [.bool a1.Char, v1, v2], .fz (rI .i64) v1 a1.Shape, .fz (rI .i64) v2 a1.Data, .fz (rI .i64) v3 b1.Shape, .fz (rI .i64) v4 b1.Data] Fr) ?_ ?_
 ·rcases Bool.eq_false_or_eq_true r1 with hg1 | hg1
  ·replace hc1 := iteT hg1 hc1
   refine o_skip hS rfl rfl rfl hg1 ?_; clear hS
   intro tm hS
   refine o_skip hS rfl rfl rfl hg1 ?_; clear hS
   intro tm hS
   refine o_pickT hS (.inl rfl) rfl rfl hg1 rfl ?_; clear hS
   intro tm hS
   obtain rfl := Option.some.inj hc1
   exact o_nil (hS.keep (k4 rfl rfl rfl rfl) (fun hI => (hI.sub (sc (sc (sc (sc (sc (sc sn)))))))))
  ·replace hc1 := iteF hg1 hc1
   refine o_ldA (k := 0) hS (.inr ⟨_, _, _, _, rfl, rfl, rfl, hg1⟩) rfl rfl rfl (.inl rfl) Fu27 rfl Fs27 rfl ?_; clear hS
   intro tm hS
   obtain ⟨r2, hx2, hc1⟩ := bindS hc1
   refine o_call hS (.inr ⟨_, _, _, _, rfl, rfl, rfl, hg1⟩) rfl (fun wm' hw1 hw2 => wk20  b1  v3 v4 (((hS.sel hw2).ad 5 rfl).ad 4 rfl) hx2) (fun wm' res H hw' hp => ?_)
   obtain ⟨hres, hI⟩ := hp
   replace hres := hres.symm; subst hres
   replace hS : S wm 56 _ H ((17, .bool r2) :: _) ([] ++ _) Fr := hS.after rfl hw' hI
   clear hI hw'
   refine o_pickF hS (.inl rfl) rfl rfl hg1 rfl ?_; clear hS
   intro tm hS
   obtain rfl := Option.some.inj hc1
   exact o_nil (hS.keep (k4 rfl rfl rfl rfl) (fun hI => (hI.sub (sc (sc (sc (sc (sc (sc sn)))))))))
 intro tm H hS
 refine o_nil (hR _ _ ?_)
 clear hR R
 refine c_cond hS rfl (fun hc => ?_) (fun hc => ?_)
 ·replace h0 := iteT hc h0
  refine c_reg fun R hR => ?_
  refine o_call hS (.inl rfl) rfl (fun wm' hw1 hw2 => wpF.told ho21 (Q := fun v H' => v = .bool true ∧ H' = H) ⟨rfl, rfl⟩) (fun wm' res H hw' hp => ?_)
  obtain ⟨rfl, rfl⟩ := hp
  replace hS := hS.put (d := 19) rfl (.bool true)
  clear hw'
  refine pp1 hS rfl rfl ?_; clear hS
  intro tm hS
  refine o_nil (hR _ _ ?_)
  clear hR R
  refine wpC.ret ?_
  obtain rfl := Option.some.inj h0
  refine Exists.intro _ (And.intro (rs_tmp hS rfl rs_nil) ?_)
  have hI := hS.inv
  exact ⟨rfl, (hI.sub sn)⟩
 ·replace h0 := iteF hc h0
  refine wpC.skip ?_
  refine c_reg fun R hR => ?_
  refine o_ldA (k := 1) hS (.inl rfl) rfl rfl rfl (.inl rfl) Fu27 rfl Fs27 rfl ?_; clear hS
  intro tm hS
  obtain ⟨r3, hx3, h0⟩ := bindS h0
  refine o_call hS (.inl rfl) rfl (fun wm' hw1 hw2 => wk22  a1  v1 v2 (((hS.sel hw2).ad 3 rfl).ad 2 rfl) hx3) (fun wm' res H hw' hp => ?_)
  obtain ⟨v5, v6, hres, hI⟩ := hp
  replace hres := hres.symm; subst hres
  replace hS : S wm 56 _ H ((21, .agg #[.bool r3.Char, v5, v6]) :: _) ([.own (rI .i64) v5 r3.Shape, .own (rI .i64) v6 r3.Data] ++ _) Fr := hS.after rfl hw' hI
  clear hI hw'
  refine o_alloc hS (.inl rfl) rfl Fz27 (by decide) ?_; clear hS
  intro b4 tm H hS
  refine o_st (k := 0) hS (.inl rfl) rfl rfl rfl Fs27 rfl rfl (all_cons rfl (all_cons (hS.one (k := 1) rfl (.inr (.inl rfl))) (all_cons (hS.one (k := 2) rfl (.inr (.inl rfl))) all_nil))) rfl ?_; clear hS; try clear H
  intro H hS
  refine o_nil (hR _ _ ?_)
  clear hR R
  refine c_reg fun R hR => ?_
  refine o_ldA (k := 3) hS (.inl rfl) rfl rfl rfl (.inl rfl) Fu27 rfl Fs27 rfl ?_; clear hS
  intro tm hS
  obtain ⟨r4, hx4, h0⟩ := bindS h0
  refine o_call hS (.inl rfl) rfl (fun wm' hw1 hw2 => wk22  b1  v3 v4 (((hS.sel hw2).ad 8 rfl).ad 7 rfl) hx4) (fun wm' res H hw' hp => ?_)
  obtain ⟨v7, v8, hres, hI⟩ := hp
  replace hres := hres.symm; subst hres
  replace hS : S wm 56 _ H ((23, .agg #[.bool r4.Char, v7, v8]) :: _) ([.own (rI .i64) v7 r4.Shape, .own (rI .i64) v8 r4.Data] ++ _) Fr := hS.after rfl hw' hI
  clear hI hw'
  refine o_alloc hS (.inl rfl) rfl Fz27 (by decide) ?_; clear hS
  intro b5 tm H hS
  refine o_st (k := 0) hS (.inl rfl) rfl rfl rfl Fs27 rfl rfl (all_cons rfl (all_cons (hS.one (k := 1) rfl (.inr (.inl rfl))) (all_cons (hS.one (k := 2) rfl (.inr (.inl rfl))) all_nil))) rfl ?_; clear hS; try clear H
  intro H hS
  refine o_nil (hR _ _ ?_)
  clear hR R
  refine c_reg fun R hR => ?_
  refine o_ldA (k := 7) hS (.inl rfl) rfl rfl rfl (.inl rfl) Fu27 rfl Fs27 rfl ?_; clear hS
  intro tm hS
  refine o_ldA (k := 6) hS (.inl rfl) rfl rfl rfl (.inl rfl) Fu27 rfl Fs27 rfl ?_; clear hS
  intro tm hS
  refine pp1 hS rfl rfl ?_; clear hS
  intro tm hS
  obtain ⟨⟨r5, r6⟩, hx5, h0⟩ := bindS h0
  refine o_call hS (.inl rfl) rfl (fun wm' hw1 hw2 => wk23  a1 b1 axis1  v1 v2 v3 v4 (((((hS.sel hw2).ad 11 rfl).ad 10 rfl).ad 9 rfl).ad 8 rfl) hx5) (fun wm' res H hw' hp => ?_)
  obtain ⟨v9, v10, hres, hI⟩ := hp
  replace hres := hres.symm; subst hres
  replace hS : S wm 56 _ H ((28, .tuple #[.agg #[.bool r5.Char, v9, v10], .int .i64 r6]) :: _) ([.own (rI .i64) v9 r5.Shape, .own (rI .i64) v10 r5.Data] ++ _) Fr := hS.after rfl hw' hI
  clear hI hw'
  refine pp3 hS rfl rfl rfl rfl rfl rfl ?_; clear hS
  intro tm hS
  refine o_alloc hS (.inl rfl) rfl Fz27 (by decide) ?_; clear hS
  intro b6 tm H hS
  refine o_st (k := 0) hS (.inl rfl) rfl rfl rfl Fs27 rfl rfl (all_cons rfl (all_cons (hS.one (k := 1) rfl (.inr (.inl rfl))) (all_cons (hS.one (k := 2) rfl (.inr (.inl rfl))) all_nil))) rfl ?_; clear hS; try clear H
  intro H hS
  refine pp1 hS rfl rfl ?_; clear hS
  intro tm hS
  refine o_nil (hR _ _ ?_)
  clear hR R
  refine c_reg fun R hR => ?_
  refine o_ldA (k := 10) hS (.inl rfl) rfl rfl rfl (.inl rfl) Fu27 rfl Fs27 rfl ?_; clear hS
  intro tm hS
  refine o_ldA (k := 9) hS (.inl rfl) rfl rfl rfl (.inl rfl) Fu27 rfl Fs27 rfl ?_; clear hS
  intro tm hS
  refine pp1 hS rfl rfl ?_; clear hS
  intro tm hS
  obtain ⟨⟨r7, r8⟩, hx6, h0⟩ := bindS h0
  refine o_call hS (.inl rfl) rfl (fun wm' hw1 hw2 => wk24  a1 b1 axis1  v1 v2 v3 v4 (((((hS.sel hw2).ad 14 rfl).ad 13 rfl).ad 12 rfl).ad 11 rfl) hx6) (fun wm' res H hw' hp => ?_)
  obtain ⟨v11, v12, hres, hI⟩ := hp
  replace hres := hres.symm; subst hres
  replace hS : S wm 56 _ H ((35, .tuple #[.agg #[.bool r7.Char, v11, v12], .int .i64 r8]) :: _) ([.own (rI .i64) v11 r7.Shape, .own (rI .i64) v12 r7.Data] ++ _) Fr := hS.after rfl hw' hI
  clear hI hw'
  refine pp3 hS rfl rfl rfl rfl rfl rfl ?_; clear hS
  intro tm hS
  refine o_alloc hS (.inl rfl) rfl Fz27 (by decide) ?_; clear hS
  intro b7 tm H hS
  refine o_st (k := 0) hS (.inl rfl) rfl rfl rfl Fs27 rfl rfl (all_cons rfl (all_cons (hS.one (k := 1) rfl (.inr (.inl rfl))) (all_cons (hS.one (k := 2) rfl (.inr (.inl rfl))) all_nil))) rfl ?_; clear hS; try clear H
  intro H hS
  refine pp1 hS rfl rfl ?_; clear hS
  intro tm hS
  refine o_nil (hR _ _ ?_)
  clear hR R
  refine c_reg fun R hR => ?_
  refine o_ldA (k := 3) hS (.inl rfl) rfl rfl rfl (.inl rfl) Fu27 rfl Fs27 rfl ?_; clear hS
  intro tm hS
  refine pp1 hS rfl rfl ?_; clear hS
  intro tm hS
  refine o_ldA (k := 0) hS (.inl rfl) rfl rfl rfl (.inl rfl) Fu27 rfl Fs27 rfl ?_; clear hS
  intro tm hS
  refine pp1 hS rfl rfl ?_; clear hS
  intro tm hS
  obtain ⟨r9, hx7, h0⟩ := bindS h0
  refine o_call (Pc := fun _ res H => res = .bool r9 ∧ Kn wm H ([.box b7 [.bool r7.Char, v11, v12], .own (rI .i64) v11 r7.Shape, .own (rI .i64) v12 r7.Data, .box b6 [.bool r5.Char, v9, v10], .own (rI .i64) v9 r5.Shape, .own (rI .i64) v10 r5.Data, .box b5 [.bool r4.Char, v7, v8], .own (rI .i64) v7 r4.Shape, .own (rI .i64) v8 r4.Data, .box b4 [.bool r3.Char, v5, v6], .own (rI .i64) v5 r3.Shape, .own (rI .i64) v6 r3.Data, .box b3 [.bool b1.Char, v3, v4], .box b2 [.bool a1.Char, v1, v2], .fz (rI .i64) v1 a1.Shape, .fz (rI .i64) v2 a1.Data, .fz (rI .i64) v3 b1.Shape, .fz (rI .i64) v4 b1.Data]) Fr) hS (.inl rfl) rfl (fun wm' hw1 hw2 => by
   obtain ⟨F2, kk_1, kk_2⟩ := hS.inv.lend (La := [.fz (rI .i64) v9 r5.Shape, .fz (rI .i64) v10 r5.Data, .fz (rI .i64) v11 r7.Shape, .fz (rI .i64) v12 r7.Data]) (List.forall_mem_cons.mpr ⟨(.inr ⟨_, _, _, _, rfl, .inl (List.mem_of_getElem? (i := 4) rfl)⟩), (List.forall_mem_cons.mpr ⟨(.inr ⟨_, _, _, _, rfl, .inl (List.mem_of_getElem? (i := 5) rfl)⟩), (List.forall_mem_cons.mpr ⟨(.inr ⟨_, _, _, _, rfl, .inl (List.mem_of_getElem? (i := 1) rfl)⟩), (List.forall_mem_cons.mpr ⟨(.inr ⟨_, _, _, _, rfl, .inl (List.mem_of_getElem? (i := 2) rfl)⟩), (fun _ h => by cases h)⟩)⟩)⟩)⟩) hw1 hw2
   exact (wk25  r5 r6 r7 r8  v9 v10 v11 v12 kk_1 hx7).mono fun res H2 ⟨qq_1, qq_2⟩ => ⟨qq_1, kk_2 _ qq_2⟩) (fun wm' res H hw' hp => ?_)
  obtain ⟨hres, hI⟩ := hp
  replace hres := hres.symm; subst hres
  replace hS : S wm 56 _ H ((42, .bool r9) :: _) ([.box b7 [.bool r7.Char, v11, v12], .own (rI .i64) v11 r7.Shape, .own (rI .i64) v12 r7.Data, .box b6 [.bool r5.Char, v9, v10], .own (rI .i64) v9 r5.Shape, .own (rI .i64) v10 r5.Data, .box b5 [.bool r4.Char, v7, v8], .own (rI .i64) v7 r4.Shape, .own (rI .i64) v8 r4.Data, .box b4 [.bool r3.Char, v5, v6], .own (rI .i64) v5 r3.Shape, .own (rI .i64) v6 r3.Data, .box b3 [.bool b1.Char, v3, v4], .box b2 [.bool a1.Char, v1, v2], .fz (rI .i64) v1 a1.Shape, .fz (rI .i64) v2 a1.Data, .fz (rI .i64) v3 b1.Shape, .fz (rI .i64) v4 b1.Data]) Fr := (hS.put rfl _).withK hI
  clear hI hw'
  refine pp1 hS rfl rfl ?_; clear hS
  intro tm hS
  obtain ⟨c2, hc2, h0⟩ := bindS h0
  refine o_cutN 4 (J := fun tm H => S wm 56 tm H [(47, .bool c2), (4, .pointer (some ⟨b3, 0, none⟩)), (8, .pointer (some ⟨b5, 0, none⟩))] [.box b5 [.bool r4.Char, v7, v8], .own (rI .i64) v7 r4.Shape, .own (rI .i64) v8 r4.Data, .box b3 [.bool b1.Char, v3, v4], .fz (rI .i64) v3 b1.Shape, .fz (rI .i64) v4 b1.Data] Fr) ?_ ?_
  ·rcases Bool.eq_false_or_eq_true r9 with hg2 | hg2
   ·replace hc2 := iteT hg2 hc2
    refine o_ldA (k := 13) hS (.inr ⟨_, _, _, _, rfl, rfl, rfl, hg2⟩) rfl rfl rfl (.inl rfl) Fu27 rfl Fs27 rfl ?_; clear hS
    intro tm hS
    refine o_ldA (k := 9) hS (.inr ⟨_, _, _, _, rfl, rfl, rfl, hg2⟩) rfl rfl rfl (.inl rfl) Fu27 rfl Fs27 rfl ?_; clear hS
    intro tm hS
    obtain ⟨r10, hx8, hc2⟩ := bindS hc2
    refine o_call (Pc := fun _ res H => res = .bool r10 ∧ Kn wm H ([.box b7 [.bool r7.Char, v11, v12], .own (rI .i64) v11 r7.Shape, .own (rI .i64) v12 r7.Data, .box b6 [.bool r5.Char, v9, v10], .own (rI .i64) v9 r5.Shape, .own (rI .i64) v10 r5.Data, .box b5 [.bool r4.Char, v7, v8], .own (rI .i64) v7 r4.Shape, .own (rI .i64) v8 r4.Data, .box b4 [.bool r3.Char, v5, v6], .own (rI .i64) v5 r3.Shape, .own (rI .i64) v6 r3.Data, .box b3 [.bool b1.Char, v3, v4], .box b2 [.bool a1.Char, v1, v2], .fz (rI .i64) v1 a1.Shape, .fz (rI .i64) v2 a1.Data, .fz (rI .i64) v3 b1.Shape, .fz (rI .i64) v4 b1.Data]) Fr) hS (.inr ⟨_, _, _, _, rfl, rfl, rfl, hg2⟩) rfl (fun wm' hw1 hw2 => by
     obtain ⟨F2, kk_1, kk_2⟩ := hS.inv.lend (La := [.fz (rI .i64) v1 a1.Shape, .fz (rI .i64) v2 a1.Data, .fz (rI .i64) v5 r3.Shape, .fz (rI .i64) v6 r3.Data]) (List.forall_mem_cons.mpr ⟨(.inl ⟨rfl, List.mem_of_getElem? (i := 14) rfl⟩), (List.forall_mem_cons.mpr ⟨(.inl ⟨rfl, List.mem_of_getElem? (i := 15) rfl⟩), (List.forall_mem_cons.mpr ⟨(.inr ⟨_, _, _, _, rfl, .inl (List.mem_of_getElem? (i := 10) rfl)⟩), (List.forall_mem_cons.mpr ⟨(.inr ⟨_, _, _, _, rfl, .inl (List.mem_of_getElem? (i := 11) rfl)⟩), (fun _ h => by cases h)⟩)⟩)⟩)⟩) hw1 hw2
     exact (wk26  a1 r3  v1 v2 v5 v6 kk_1 hx8).mono fun res H2 ⟨qq_1, qq_2⟩ => ⟨qq_1, kk_2 _ qq_2⟩) (fun wm' res H hw' hp => ?_)
    obtain ⟨hres, hI⟩ := hp
    replace hres := hres.symm; subst hres
    replace hS : S wm 56 _ H ((46, .bool r10) :: _) ([.box b7 [.bool r7.Char, v11, v12], .own (rI .i64) v11 r7.Shape, .own (rI .i64) v12 r7.Data, .box b6 [.bool r5.Char, v9, v10], .own (rI .i64) v9 r5.Shape, .own (rI .i64) v10 r5.Data, .box b5 [.bool r4.Char, v7, v8], .own (rI .i64) v7 r4.Shape, .own (rI .i64) v8 r4.Data, .box b4 [.bool r3.Char, v5, v6], .own (rI .i64) v5 r3.Shape, .own (rI .i64) v6 r3.Data, .box b3 [.bool b1.Char, v3, v4], .box b2 [.bool a1.Char, v1, v2], .fz (rI .i64) v1 a1.Shape, .fz (rI .i64) v2 a1.Data, .fz (rI .i64) v3 b1.Shape, .fz (rI .i64) v4 b1.Data]) Fr := (hS.put rfl _).withK hI
    clear hI hw'
    refine o_pickT hS (.inl rfl) rfl rfl hg2 rfl ?_; clear hS
    intro tm hS
    obtain rfl := Option.some.inj hc2
    exact o_nil (hS.keep (k3 rfl rfl rfl) (fun hI => (hI.sub (sd (sd (sd (sd (sd (sd (sc (sc (sc (sd (sd (sd (sc (sd (sd (sd (sc (sc sn)))))))))))))))))))))
   ·replace hc2 := iteF hg2 hc2
    refine o_skip hS rfl rfl rfl hg2 ?_; clear hS
    intro tm hS
    refine o_skip hS rfl rfl rfl hg2 ?_; clear hS
    intro tm hS
    refine o_skip hS rfl rfl rfl hg2 ?_; clear hS
    intro tm hS
    refine o_pickF hS (.inl rfl) rfl rfl hg2 rfl ?_; clear hS
    intro tm hS
    obtain rfl := Option.some.inj hc2
    exact o_nil (hS.keep (k3 rfl rfl rfl) (fun hI => (hI.sub (sd (sd (sd (sd (sd (sd (sc (sc (sc (sd (sd (sd (sc (sd (sd (sd (sc (sc sn)))))))))))))))))))))
  intro tm H hS
  refine pp1 hS rfl rfl ?_; clear hS
  intro tm hS
  obtain ⟨c3, hc3, h0⟩ := bindS h0
  refine o_cutN 4 (J := fun tm H => S wm 56 tm H [(52, .bool c3)] [] Fr) ?_ ?_
  ·rcases Bool.eq_false_or_eq_true c2 with hg3 | hg3
   ·replace hc3 := iteT hg3 hc3
    refine o_ldA (k := 3) hS (.inr ⟨_, _, _, _, rfl, rfl, rfl, hg3⟩) rfl rfl rfl (.inl rfl) Fu27 rfl Fs27 rfl ?_; clear hS
    intro tm hS
    refine o_ldA (k := 0) hS (.inr ⟨_, _, _, _, rfl, rfl, rfl, hg3⟩) rfl rfl rfl (.inl rfl) Fu27 rfl Fs27 rfl ?_; clear hS
    intro tm hS
    obtain ⟨r11, hx9, hc3⟩ := bindS hc3
    refine o_call (Pc := fun _ res H => res = .bool r11 ∧ Kn wm H ([.box b5 [.bool r4.Char, v7, v8], .own (rI .i64) v7 r4.Shape, .own (rI .i64) v8 r4.Data, .box b3 [.bool b1.Char, v3, v4], .fz (rI .i64) v3 b1.Shape, .fz (rI .i64) v4 b1.Data]) Fr) hS (.inr ⟨_, _, _, _, rfl, rfl, rfl, hg3⟩) rfl (fun wm' hw1 hw2 => by
     obtain ⟨F2, kk_1, kk_2⟩ := hS.inv.lend (La := [.fz (rI .i64) v3 b1.Shape, .fz (rI .i64) v4 b1.Data, .fz (rI .i64) v7 r4.Shape, .fz (rI .i64) v8 r4.Data]) (List.forall_mem_cons.mpr ⟨(.inl ⟨rfl, List.mem_of_getElem? (i := 4) rfl⟩), (List.forall_mem_cons.mpr ⟨(.inl ⟨rfl, List.mem_of_getElem? (i := 5) rfl⟩), (List.forall_mem_cons.mpr ⟨(.inr ⟨_, _, _, _, rfl, .inl (List.mem_of_getElem? (i := 1) rfl)⟩), (List.forall_mem_cons.mpr ⟨(.inr ⟨_, _, _, _, rfl, .inl (List.mem_of_getElem? (i := 2) rfl)⟩), (fun _ h => by cases h)⟩)⟩)⟩)⟩) hw1 hw2
     exact (wk26  b1 r4  v3 v4 v7 v8 kk_1 hx9).mono fun res H2 ⟨qq_1, qq_2⟩ => ⟨qq_1, kk_2 _ qq_2⟩) (fun wm' res H hw' hp => ?_)
    obtain ⟨hres, hI⟩ := hp
    replace hres := hres.symm; subst hres
    replace hS : S wm 56 _ H ((51, .bool r11) :: _) ([.box b5 [.bool r4.Char, v7, v8], .own (rI .i64) v7 r4.Shape, .own (rI .i64) v8 r4.Data, .box b3 [.bool b1.Char, v3, v4], .fz (rI .i64) v3 b1.Shape, .fz (rI .i64) v4 b1.Data]) Fr := (hS.put rfl _).withK hI
    clear hI hw'
    refine o_pickT hS (.inl rfl) rfl rfl hg3 rfl ?_; clear hS
    intro tm hS
    obtain rfl := Option.some.inj hc3
    exact o_nil (hS.keep (ka_cons rfl ka_nil) (fun hI => (hI.sub sn)))
   ·replace hc3 := iteF hg3 hc3
    refine o_skip hS rfl rfl rfl hg3 ?_; clear hS
    intro tm hS
    refine o_skip hS rfl rfl rfl hg3 ?_; clear hS
    intro tm hS
    refine o_skip hS rfl rfl rfl hg3 ?_; clear hS
    intro tm hS
    refine o_pickF hS (.inl rfl) rfl rfl hg3 rfl ?_; clear hS
    intro tm hS
    obtain rfl := Option.some.inj hc3
    exact o_nil (hS.keep (ka_cons rfl ka_nil) (fun hI => (hI.sub sn)))
  intro tm H hS
  refine pp1 hS rfl rfl ?_; clear hS
  intro tm hS
  obtain ⟨c4, hc4⟩ : ∃ x : Bool, x = (c3 && true) := ⟨_, rfl⟩
  refine o_cutN 2 (J := fun tm H => S wm 56 tm H [(55, .bool c4)] [] Fr) ?_ ?_
  ·rcases Bool.eq_false_or_eq_true c3 with hg4 | hg4
   ·refine o_call hS (.inr ⟨_, _, _, _, rfl, rfl, rfl, hg4⟩) rfl (fun wm' hw1 hw2 => wpF.told ho21 (Q := fun v H' => v = .bool true ∧ H' = H) ⟨rfl, rfl⟩) (fun wm' res H hw' hp => ?_)
    obtain ⟨rfl, rfl⟩ := hp
    replace hS := hS.put (d := 54) rfl (.bool true)
    clear hw'
    refine o_pickT hS (.inl rfl) rfl rfl hg4 rfl ?_; clear hS
    intro tm hS
    have hc4 : c4 = true := hc4.trans (by rw [hg4]; first | rfl | simp)
    subst hc4
    exact o_nil (hS.keep (ka_cons rfl ka_nil) (fun hI => (hI.sub sn)))
   ·refine o_skip hS rfl rfl rfl hg4 ?_; clear hS
    intro tm hS
    refine o_pickF hS (.inl rfl) rfl rfl hg4 rfl ?_; clear hS
    intro tm hS
    have hc4 : c4 = false := hc4.trans (by rw [hg4]; first | rfl | simp)
    subst hc4
    exact o_nil (hS.keep (ka_cons rfl ka_nil) (fun hI => (hI.sub sn)))
  intro tm H hS
  subst hc4
  refine pp1 hS rfl rfl ?_; clear hS
  intro tm hS
  refine o_nil (hR _ _ ?_)
  clear hR R
  refine wpC.ret ?_
  obtain rfl := Option.some.inj h0
  refine Exists.intro _ (And.intro (rs_tmp hS rfl rs_nil) ?_)
  have hI := hS.inv
  exact ⟨rfl, (hI.sub sn)⟩
end Go.Proofs.Ytaedfhikoamfeaa.joinBeside
