/- RandTells: walks of the code: the run of each function comes to what its plain function says. -/
import Derived.Test.YtpkfklfakegbjaaWRandTellsa
set_option linter.unusedVariables false
set_option linter.unusedSimpArgs false
set_option maxRecDepth 100000
open Go Go.Am Go.Proofs
namespace Go.Proofs.Ytpkfklfakegbjaa.randTells
variable {ora : FuncId → Bool}
theorem wk4 {wm : Nat} {H : AHeap} {Fr : List Ent} (ho19 : ora 19 = true) (a1 : Val) (b1 : Val) (draws1 : (List Int)) (at1 : Int)  (v1 : Value) (v2 : Value) (v3 : Value) (v4 : Value) (v5 : Value) (hI : Kn wm H [.fz (rI .i64) v1 a1.Shape, .fz (rI .i64) v2 a1.Data, .fz (rI .i64) v3 b1.Shape, .fz (rI .i64) v4 b1.Data, .fz (rI .u64) v5 draws1] Fr) {r : Bool} (h0 : M.anamnesislaw13_RandTells a1 b1 draws1 at1 = some r) :
  wpF Try.prog ora wm 4 [.agg #[.bool a1.Char, v1, v2], .agg #[.bool b1.Char, v3, v4], v5, .int .i64 at1] H (fun res H => res = .bool r ∧ Kn wm H [] Fr) := by
 unfold M.anamnesislaw13_RandTells at h0
 refine f_enter (n := 151) Try.func4 rfl (by simp) hI rfl rfl rfl fun tm hS => ?_
 clear hI
 refine c_reg fun R hR => ?_
 refine o_box hS (.inl rfl) rfl rfl rfl (all_cons rfl (all_cons (hS.one (k := 0) rfl (.inl rfl)) (all_cons (hS.one (k := 1) rfl (.inl rfl)) all_nil))) ?_; clear hS; try clear tm H
 intro b2 tm H hS
 refine o_box hS (.inl rfl) rfl rfl rfl (all_cons rfl (all_cons (hS.one (k := 3) rfl (.inl rfl)) (all_cons (hS.one (k := 4) rfl (.inl rfl)) all_nil))) ?_; clear hS; try clear tm H
 intro b3 tm H hS
 refine o_pure hS (.inl rfl) rfl rfl ?_; clear hS; try clear tm
 intro tm hS
 refine o_nil (hR _ _ ?_)
 clear hR R
 refine c_seqS ?_
 refine c_reg fun R hR => ?_
 refine o_ldA (k := 1) hS (.inl rfl) rfl rfl rfl (.inl rfl) Fu25 rfl Fs25 rfl ?_; clear hS; try clear tm
 intro tm hS
 obtain ⟨r1, hx1, h0⟩ := bindS h0
 refine o_call hS (.inl rfl) rfl (fun wm' hw1 hw2 => wk20  a1  v1 v2 (((hS.sel hw2).ad 3 rfl).ad 2 rfl) hx1) (fun wm' res H hw' hp => ?_)
 obtain ⟨hres, hI⟩ := hp
 replace hres := hres.symm; subst hres
 replace hS : S wm 151 _ H ((23, .bool r1) :: _) ([] ++ _) Fr := hS.after rfl hw' hI
 clear hI hw'
 refine o_pure hS (.inl rfl) rfl rfl ?_; clear hS; try clear tm
 intro tm hS
 obtain ⟨c1, hc1, h0⟩ := bindS h0
 refine o_cutN 3 (J := fun tm H => S wm 151 tm H [(27, .bool c1), (2, v5), (3, .int .i64 at1), (4, .pointer (some ⟨b2, 0, none⟩)), (5, .pointer (some ⟨b3, 0, none⟩))] [.box b3 [.bool b1.Char, v3, v4], .box b2 [.bool a1.Char, v1, v2], .fz (rI .i64) v1 a1.Shape, .fz (rI .i64) v2 a1.Data, .fz (rI .i64) v3 b1.Shape, .fz (rI .i64) v4 b1.Data, .fz (rI .u64) v5 draws1] Fr) ?_ ?_
 ·rcases Bool.eq_false_or_eq_true r1 with hg1 | hg1
  ·replace hc1 := iteT hg1 hc1
   refine o_skip hS rfl rfl rfl hg1 ?_; clear hS; try clear tm
   intro tm hS
   refine o_skip hS rfl rfl rfl hg1 ?_; clear hS; try clear tm
   intro tm hS
   refine o_pickT hS (.inl rfl) rfl rfl hg1 rfl ?_; clear hS; try clear tm
   intro tm hS
   obtain rfl := Option.some.inj hc1
   exact o_nil (hS.keep (ka_cons rfl (ka_cons rfl (ka_cons rfl (ka_cons rfl (ka_cons rfl ka_nil))))) (fun hI => (hI.sub (sc (sc (sc (sc (sc (sc (sc sn))))))))))
  ·replace hc1 := iteF hg1 hc1
   refine o_ldA (k := 0) hS (.inr ⟨_, _, _, _, rfl, rfl, rfl, hg1⟩) rfl rfl rfl (.inl rfl) Fu25 rfl Fs25 rfl ?_; clear hS; try clear tm
   intro tm hS
   obtain ⟨r2, hx2, hc1⟩ := bindS hc1
   refine o_call hS (.inr ⟨_, _, _, _, rfl, rfl, rfl, hg1⟩) rfl (fun wm' hw1 hw2 => wk20  b1  v3 v4 (((hS.sel hw2).ad 5 rfl).ad 4 rfl) hx2) (fun wm' res H hw' hp => ?_)
   obtain ⟨hres, hI⟩ := hp
   replace hres := hres.symm; subst hres
   replace hS : S wm 151 _ H ((26, .bool r2) :: _) ([] ++ _) Fr := hS.after rfl hw' hI
   clear hI hw'
   refine o_pickF hS (.inl rfl) rfl rfl hg1 rfl ?_; clear hS; try clear tm
   intro tm hS
   obtain rfl := Option.some.inj hc1
   exact o_nil (hS.keep (ka_cons rfl (ka_cons rfl (ka_cons rfl (ka_cons rfl (ka_cons rfl ka_nil))))) (fun hI => (hI.sub (sc (sc (sc (sc (sc (sc (sc sn))))))))))
 intro tm H hS
 refine o_pure hS (.inl rfl) rfl rfl ?_; clear hS; try clear tm
 intro tm hS
 obtain ⟨c2, hc2, h0⟩ := bindS h0
 refine o_cutN 19 (J := fun tm H => S wm 151 tm H [(47, .bool c2), (2, v5), (3, .int .i64 at1), (4, .pointer (some ⟨b2, 0, none⟩)), (5, .pointer (some ⟨b3, 0, none⟩))] [.box b3 [.bool b1.Char, v3, v4], .box b2 [.bool a1.Char, v1, v2], .fz (rI .i64) v1 a1.Shape, .fz (rI .i64) v2 a1.Data, .fz (rI .i64) v3 b1.Shape, .fz (rI .i64) v4 b1.Data, .fz (rI .u64) v5 draws1] Fr) ?_ ?_
 ·rcases Bool.eq_false_or_eq_true c1 with hg2 | hg2
  ·replace hc2 := iteT hg2 hc2
   refine o_skip hS rfl rfl rfl hg2 ?_; clear hS; try clear tm
   intro tm hS
   refine o_skip hS rfl rfl rfl hg2 ?_; clear hS; try clear tm
   intro tm hS
   refine o_skip hS rfl rfl rfl hg2 ?_; clear hS; try clear tm
   intro tm hS
   refine o_skip hS rfl rfl rfl hg2 ?_; clear hS; try clear tm
   intro tm hS
   refine o_skip hS rfl rfl rfl hg2 ?_; clear hS; try clear tm
   intro tm hS
   refine o_skipU hS rfl rfl rfl ?_; clear hS; try clear tm
   intro tm hS
   refine o_skipU hS rfl rfl rfl ?_; clear hS; try clear tm
   intro tm hS
   refine o_skipU hS rfl rfl rfl ?_; clear hS; try clear tm
   intro tm hS
   refine o_skipU hS rfl rfl rfl ?_; clear hS; try clear tm
   intro tm hS
   refine o_skipU hS rfl rfl rfl ?_; clear hS; try clear tm
   intro tm hS
   refine o_skip hS rfl rfl rfl hg2 ?_; clear hS; try clear tm
   intro tm hS
   refine o_skip hS rfl rfl rfl hg2 ?_; clear hS; try clear tm
   intro tm hS
   refine o_skipU hS rfl rfl rfl ?_; clear hS; try clear tm
   intro tm hS
   refine o_skipU hS rfl rfl rfl ?_; clear hS; try clear tm
   intro tm hS
   refine o_skipU hS rfl rfl rfl ?_; clear hS; try clear tm
   intro tm hS
   refine o_skipU hS rfl rfl rfl ?_; clear hS; try clear tm
   intro tm hS
   refine o_skipU hS rfl rfl rfl ?_; clear hS; try clear tm
   intro tm hS
   refine o_skip hS rfl rfl rfl hg2 ?_; clear hS; try clear tm
   intro tm hS
   refine o_pickT hS (.inl rfl) rfl rfl hg2 rfl ?_; clear hS; try clear tm
   intro tm hS
   obtain rfl := Option.some.inj hc2
   exact o_nil (hS.keep (ka_cons rfl (ka_cons rfl (ka_cons rfl (ka_cons rfl (ka_cons rfl ka_nil))))) (fun hI => (hI.sub (sc (sc (sc (sc (sc (sc (sc sn))))))))))
  ·replace hc2 := iteF hg2 hc2
   refine o_pure hS (.inr ⟨_, _, _, _, rfl, rfl, rfl, hg2⟩) rfl rfl ?_; clear hS; try clear tm
   intro tm hS
   refine o_ld1 (k := 0) hS (.inr ⟨_, _, _, _, rfl, rfl, rfl, hg2⟩) rfl rfl rfl (.inl rfl) Fu22 rfl rfl ?_; clear hS; try clear tm
   intro tm hS
   refine o_len (k := 5) (r := (rI .i64)) hS (.inr ⟨_, _, _, _, rfl, rfl, rfl, hg2⟩) rfl rfl rfl (.inl rfl) Fu22 rfl ?_; clear hS; try clear tm
   intro tm hS
   refine o_pure hS (.inr ⟨_, _, _, _, rfl, rfl, rfl, hg2⟩) rfl rfl ?_; clear hS; try clear tm
   intro tm hS
   refine o_pure hS (.inr ⟨_, _, _, _, rfl, rfl, rfl, hg2⟩) rfl rfl ?_; clear hS; try clear tm
   intro tm hS
   obtain ⟨c3, hc3, hc2⟩ := bindS hc2
   refine o_cutN 6 (J := fun tm H => S wm 151 tm H [(39, .bool c3), (2, v5), (3, .int .i64 at1), (4, .pointer (some ⟨b2, 0, none⟩)), (5, .pointer (some ⟨b3, 0, none⟩)), (28, .bool c1)] [.box b3 [.bool b1.Char, v3, v4], .box b2 [.bool a1.Char, v1, v2], .fz (rI .i64) v1 a1.Shape, .fz (rI .i64) v2 a1.Data, .fz (rI .i64) v3 b1.Shape, .fz (rI .i64) v4 b1.Data, .fz (rI .u64) v5 draws1] Fr) ?_ ?_
   ·rcases Bool.eq_false_or_eq_true ((b1.Data.length : Int) == 1) with hg3 | hg3
    ·replace hc3 := iteT hg3 hc3
     refine o_pure hS (.inr ⟨_, _, _, _, rfl, rfl, rfl, hg3⟩) rfl rfl ?_; clear hS; try clear tm
     intro tm hS
     refine o_ld1 (k := 0) hS (.inr ⟨_, _, _, _, rfl, rfl, rfl, hg3⟩) rfl rfl rfl (.inl rfl) Fu22 rfl rfl ?_; clear hS; try clear tm
     intro tm hS
     obtain ⟨y1, hx3, hc3⟩ := bindS hc3
     refine o_ixA (k := 5) (r := (rI .i64)) hS (.inr ⟨_, _, _, _, rfl, rfl, rfl, hg3⟩) rfl rfl rfl rfl (.inl rfl) Fu22 Fs2 hx3 ?_; clear hS; try clear tm
     intro tm hS
     refine o_ldF (r := (rI .i64)) (k := 5) hS (.inr ⟨_, _, _, _, rfl, rfl, rfl, hg3⟩) rfl rfl rfl (.inl rfl) hx3 Fu2 rfl (flat_I _) rfl ?_; clear hS; try clear tm
     intro tm hS
     refine o_pure hS (.inr ⟨_, _, _, _, rfl, rfl, rfl, hg3⟩) rfl rfl ?_; clear hS; try clear tm
     intro tm hS
     refine o_pickT hS (.inr ⟨_, _, _, _, rfl, rfl, rfl, hg2⟩) rfl rfl hg3 rfl ?_; clear hS; try clear tm
     intro tm hS
     obtain rfl := Option.some.inj hc3
     exact o_nil (hS.keep (ka_cons rfl (ka_cons rfl (ka_cons rfl (ka_cons rfl (ka_cons rfl (ka_cons rfl ka_nil)))))) (fun hI => (hI.sub (sc (sc (sc (sc (sc (sc (sc sn))))))))))
    ·replace hc3 := iteF hg3 hc3
     refine o_skip hS rfl rfl rfl hg3 ?_; clear hS; try clear tm
     intro tm hS
     refine o_skip hS rfl rfl rfl hg3 ?_; clear hS; try clear tm
     intro tm hS
     refine o_skip hS rfl rfl rfl hg3 ?_; clear hS; try clear tm
     intro tm hS
     refine o_skip hS rfl rfl rfl hg3 ?_; clear hS; try clear tm
     intro tm hS
     refine o_skip hS rfl rfl rfl hg3 ?_; clear hS; try clear tm
     intro tm hS
     refine o_pickF hS (.inr ⟨_, _, _, _, rfl, rfl, rfl, hg2⟩) rfl rfl hg3 rfl ?_; clear hS; try clear tm
     intro tm hS
     obtain rfl := Option.some.inj hc3
     exact o_nil (hS.keep (ka_cons rfl (ka_cons rfl (ka_cons rfl (ka_cons rfl (ka_cons rfl (ka_cons rfl ka_nil)))))) (fun hI => (hI.sub (sc (sc (sc (sc (sc (sc (sc sn))))))))))
   intro tm H hS
   refine o_pure hS (.inr ⟨_, _, _, _, rfl, rfl, rfl, hg2⟩) rfl rfl ?_; clear hS; try clear tm
   intro tm hS
   obtain ⟨c4, hc4, hc2⟩ := bindS hc2
   refine o_cutN 6 (J := fun tm H => S wm 151 tm H [(46, .bool c4), (2, v5), (3, .int .i64 at1), (4, .pointer (some ⟨b2, 0, none⟩)), (5, .pointer (some ⟨b3, 0, none⟩)), (28, .bool c1)] [.box b3 [.bool b1.Char, v3, v4], .box b2 [.bool a1.Char, v1, v2], .fz (rI .i64) v1 a1.Shape, .fz (rI .i64) v2 a1.Data, .fz (rI .i64) v3 b1.Shape, .fz (rI .i64) v4 b1.Data, .fz (rI .u64) v5 draws1] Fr) ?_ ?_
   ·rcases Bool.eq_false_or_eq_true c3 with hg4 | hg4
    ·replace hc4 := iteT hg4 hc4
     refine o_pure hS (.inr ⟨_, _, _, _, rfl, rfl, rfl, hg4⟩) rfl rfl ?_; clear hS; try clear tm
     intro tm hS
     refine o_ld1 (k := 0) hS (.inr ⟨_, _, _, _, rfl, rfl, rfl, hg4⟩) rfl rfl rfl (.inl rfl) Fu22 rfl rfl ?_; clear hS; try clear tm
     intro tm hS
     obtain ⟨y2, hx4, hc4⟩ := bindS hc4
     refine o_ixA (k := 5) (r := (rI .i64)) hS (.inr ⟨_, _, _, _, rfl, rfl, rfl, hg4⟩) rfl rfl rfl rfl (.inl rfl) Fu22 Fs2 hx4 ?_; clear hS; try clear tm
     intro tm hS
     refine o_ldF (r := (rI .i64)) (k := 5) hS (.inr ⟨_, _, _, _, rfl, rfl, rfl, hg4⟩) rfl rfl rfl (.inl rfl) hx4 Fu2 rfl (flat_I _) rfl ?_; clear hS; try clear tm
     intro tm hS
     refine o_pure hS (.inr ⟨_, _, _, _, rfl, rfl, rfl, hg4⟩) rfl rfl ?_; clear hS; try clear tm
     intro tm hS
     refine o_pickT hS (.inr ⟨_, _, _, _, rfl, rfl, rfl, hg2⟩) rfl rfl hg4 rfl ?_; clear hS; try clear tm
     intro tm hS
     obtain rfl := Option.some.inj hc4
     exact o_nil (hS.keep (ka_cons rfl (ka_cons rfl (ka_cons rfl (ka_cons rfl (ka_cons rfl (ka_cons rfl ka_nil)))))) (fun hI => (hI.sub (sc (sc (sc (sc (sc (sc (sc sn))))))))))
    ·replace hc4 := iteF hg4 hc4
     refine o_skip hS rfl rfl rfl hg4 ?_; clear hS; try clear tm
     intro tm hS
     refine o_skip hS rfl rfl rfl hg4 ?_; clear hS; try clear tm
     intro tm hS
     refine o_skip hS rfl rfl rfl hg4 ?_; clear hS; try clear tm
     intro tm hS
     refine o_skip hS rfl rfl rfl hg4 ?_; clear hS; try clear tm
     intro tm hS
     refine o_skip hS rfl rfl rfl hg4 ?_; clear hS; try clear tm
     intro tm hS
     refine o_pickF hS (.inr ⟨_, _, _, _, rfl, rfl, rfl, hg2⟩) rfl rfl hg4 rfl ?_; clear hS; try clear tm
     intro tm hS
     obtain rfl := Option.some.inj hc4
     exact o_nil (hS.keep (ka_cons rfl (ka_cons rfl (ka_cons rfl (ka_cons rfl (ka_cons rfl (ka_cons rfl ka_nil)))))) (fun hI => (hI.sub (sc (sc (sc (sc (sc (sc (sc sn))))))))))
   intro tm H hS
   refine o_pickF hS (.inl rfl) rfl rfl hg2 rfl ?_; clear hS; try clear tm
   intro tm hS
   obtain rfl := Option.some.inj hc2
   exact o_nil (hS.keep (ka_cons rfl (ka_cons rfl (ka_cons rfl (ka_cons rfl (ka_cons rfl ka_nil))))) (fun hI => (hI.sub (sc (sc (sc (sc (sc (sc (sc sn))))))))))
 intro tm H hS
 refine o_nil (hR _ _ ?_)
 clear hR R
 refine c_cond hS rfl (fun hc => ?_) (fun hc => ?_)
 ·replace h0 := iteT hc h0
  refine c_reg fun R hR => ?_
  refine o_call hS (.inl rfl) rfl (fun wm' hw1 hw2 => wpF.told ho19 (Q := fun v H' => v = .bool true ∧ H' = H) ⟨rfl, rfl⟩) (fun wm' res H hw' hp => ?_)
  obtain ⟨rfl, rfl⟩ := hp
  replace hS := hS.put (d := 48) rfl (.bool true)
  clear hw'
  refine o_pure hS (.inl rfl) rfl rfl ?_; clear hS; try clear tm
  intro tm hS
  refine o_nil (hR _ _ ?_)
  clear hR R
  refine wpC.ret ?_
  obtain rfl := Option.some.inj h0
  refine Exists.intro _ (And.intro (rs_tmp hS rfl rs_nil) ?_)
  have hI := hS.inv
  exact ⟨rfl, (hI.sub sn)⟩
 ·replace h0 := iteF hc h0
  refine wpC.skip ?_
  refine c_reg fun R hR => ?_
  refine o_lit (r := (rI .i64)) (l := ([] : List Int)) hS (.inl rfl) rfl Fl22 rfl rfl rfl .nil rfl rfl ri_nil rfl ?_; clear hS; try clear tm H
  intro v6 tm H hS
  refine o_pure hS (.inl rfl) rfl rfl ?_; clear hS; try clear tm
  intro tm hS
  refine o_ld1 (k := 1) hS (.inl rfl) rfl rfl rfl (.inl rfl) Fu22 rfl rfl ?_; clear hS; try clear tm
  intro tm hS
  obtain ⟨l1, hx5, h0⟩ := bindS h0
  refine o_appL (k1 := 0) (k2 := 6) (r := (rI .i64)) hS (.inl rfl) rfl rfl rfl rfl rfl (.inl rfl) rfl Fe22_22 hx5 ?_; clear hS; try clear tm H
  intro v7 tm H hS
  refine o_pure hS (.inl rfl) rfl rfl ?_; clear hS; try clear tm
  intro tm hS
  refine o_nil (hR _ _ ?_)
  clear hR R
  refine c_reg fun R hR => ?_
  refine o_ldA (k := 1) hS (.inl rfl) rfl rfl rfl (.inl rfl) Fu25 rfl Fs25 rfl ?_; clear hS; try clear tm
  intro tm hS
  refine o_pure hS (.inl rfl) rfl rfl ?_; clear hS; try clear tm
  intro tm hS
  refine o_pure hS (.inl rfl) rfl rfl ?_; clear hS; try clear tm
  intro tm hS
  obtain ⟨⟨r3, r4, r5⟩, hx6, h0⟩ := bindS h0
  refine o_call hS (.inl rfl) rfl (fun wm' hw1 hw2 => wk12  b1 draws1 at1  v3 v4 v5 ((((hS.sel hw2).ad 7 rfl).ad 6 rfl).ad 5 rfl) hx6) (fun wm' res H hw' hp => ?_)
  obtain ⟨v8, v9, hres, hI⟩ := hp
  replace hres := hres.symm; subst hres
  replace hS : S wm 151 _ H ((57, .tuple #[.agg #[.bool r3.Char, v8, v9], .int .i64 r4, .int .i64 r5]) :: _) ([.own (rI .i64) v8 r3.Shape, .own (rI .i64) v9 r3.Data] ++ _) Fr := hS.after rfl hw' hI
  clear hI hw'
  refine o_pure hS (.inl rfl) rfl rfl ?_; clear hS; try clear tm
  intro tm hS
  refine o_pure hS (.inl rfl) rfl rfl ?_; clear hS; try clear tm
  intro tm hS
  refine o_pure hS (.inl rfl) rfl rfl ?_; clear hS; try clear tm
  intro tm hS
  refine o_pure hS (.inl rfl) rfl rfl ?_; clear hS; try clear tm
  intro tm hS
  refine o_alloc hS (.inl rfl) rfl Fz25 (by decide) ?_; clear hS; try clear tm H
  intro b4 tm H hS
  refine o_st (k := 0) hS (.inl rfl) rfl rfl rfl Fs25 rfl rfl (all_cons rfl (all_cons (hS.one (k := 1) rfl (.inr (.inl rfl))) (all_cons (hS.one (k := 2) rfl (.inr (.inl rfl))) all_nil))) rfl ?_; clear hS; try clear H
  intro H hS
  refine o_pure hS (.inl rfl) rfl rfl ?_; clear hS; try clear tm
  intro tm hS
  refine o_pure hS (.inl rfl) rfl rfl ?_; clear hS; try clear tm
  intro tm hS
  refine o_nil (hR _ _ ?_)
  clear hR R
  refine c_reg fun R hR => ?_
  refine o_ldA (k := 4) hS (.inl rfl) rfl rfl rfl (.inl rfl) Fu25 rfl Fs25 rfl ?_; clear hS; try clear tm
  intro tm hS
  refine o_pure hS (.inl rfl) rfl rfl ?_; clear hS; try clear tm
  intro tm hS
  refine o_pure hS (.inl rfl) rfl rfl ?_; clear hS; try clear tm
  intro tm hS
  obtain ⟨⟨r6, r7⟩, hx7, h0⟩ := bindS h0
  refine o_call hS (.inl rfl) rfl (fun wm' hw1 hw2 => wk21  b1 draws1 at1  v3 v4 v5 ((((hS.sel hw2).ad 10 rfl).ad 9 rfl).ad 8 rfl) hx7) (fun wm' res H hw' hp => ?_)
  obtain ⟨v10, v11, hres, hI⟩ := hp
  replace hres := hres.symm; subst hres
  replace hS : S wm 151 _ H ((65, .tuple #[.agg #[.bool r6.Char, v10, v11], .int .i64 r7]) :: _) ([.own (rI .i64) v10 r6.Shape, .own (rI .i64) v11 r6.Data] ++ _) Fr := hS.after rfl hw' hI
  clear hI hw'
  refine o_pure hS (.inl rfl) rfl rfl ?_; clear hS; try clear tm
  intro tm hS
  refine o_pure hS (.inl rfl) rfl rfl ?_; clear hS; try clear tm
  intro tm hS
  refine o_pure hS (.inl rfl) rfl rfl ?_; clear hS; try clear tm
  intro tm hS
  refine o_alloc hS (.inl rfl) rfl Fz25 (by decide) ?_; clear hS; try clear tm H
  intro b5 tm H hS
  refine o_st (k := 0) hS (.inl rfl) rfl rfl rfl Fs25 rfl rfl (all_cons rfl (all_cons (hS.one (k := 1) rfl (.inr (.inl rfl))) (all_cons (hS.one (k := 2) rfl (.inr (.inl rfl))) all_nil))) rfl ?_; clear hS; try clear H
  intro H hS
  refine o_pure hS (.inl rfl) rfl rfl ?_; clear hS; try clear tm
  intro tm hS
  refine o_nil (hR _ _ ?_)
  clear hR R
  refine c_reg fun R hR => ?_
  refine o_ldA (k := 8) hS (.inl rfl) rfl rfl rfl (.inl rfl) Fu25 rfl Fs25 rfl ?_; clear hS; try clear tm
  intro tm hS
  refine o_ldA (k := 7) hS (.inl rfl) rfl rfl rfl (.inl rfl) Fu25 rfl Fs25 rfl ?_; clear hS; try clear tm
  intro tm hS
  refine o_pure hS (.inl rfl) rfl rfl ?_; clear hS; try clear tm
  intro tm hS
  refine o_pure hS (.inl rfl) rfl rfl ?_; clear hS; try clear tm
  intro tm hS
  obtain ⟨⟨r8, r9, r10⟩, hx8, h0⟩ := bindS h0
  refine o_call hS (.inl rfl) rfl (fun wm' hw1 hw2 => wk22  a1 b1 draws1 at1  v1 v2 v3 v4 v5 ((((((hS.sel hw2).ad 13 rfl).ad 12 rfl).ad 11 rfl).ad 10 rfl).ad 9 rfl) hx8) (fun wm' res H hw' hp => ?_)
  obtain ⟨v12, v13, hres, hI⟩ := hp
  replace hres := hres.symm; subst hres
  replace hS : S wm 151 _ H ((73, .tuple #[.agg #[.bool r8.Char, v12, v13], .int .i64 r9, .int .i64 r10]) :: _) ([.own (rI .i64) v12 r8.Shape, .own (rI .i64) v13 r8.Data] ++ _) Fr := hS.after rfl hw' hI
  clear hI hw'
  refine o_pure hS (.inl rfl) rfl rfl ?_; clear hS; try clear tm
  intro tm hS
  refine o_pure hS (.inl rfl) rfl rfl ?_; clear hS; try clear tm
  intro tm hS
  refine o_pure hS (.inl rfl) rfl rfl ?_; clear hS; try clear tm
  intro tm hS
  refine o_pure hS (.inl rfl) rfl rfl ?_; clear hS; try clear tm
  intro tm hS
  refine o_alloc hS (.inl rfl) rfl Fz25 (by decide) ?_; clear hS; try clear tm H
  intro b6 tm H hS
  refine o_st (k := 0) hS (.inl rfl) rfl rfl rfl Fs25 rfl rfl (all_cons rfl (all_cons (hS.one (k := 1) rfl (.inr (.inl rfl))) (all_cons (hS.one (k := 2) rfl (.inr (.inl rfl))) all_nil))) rfl ?_; clear hS; try clear H
  intro H hS
  refine o_pure hS (.inl rfl) rfl rfl ?_; clear hS; try clear tm
  intro tm hS
  refine o_pure hS (.inl rfl) rfl rfl ?_; clear hS; try clear tm
  intro tm hS
  refine o_nil (hR _ _ ?_)
  clear hR R
  refine c_reg fun R hR => ?_
  refine o_ldA (k := 11) hS (.inl rfl) rfl rfl rfl (.inl rfl) Fu25 rfl Fs25 rfl ?_; clear hS; try clear tm
  intro tm hS
  refine o_ldA (k := 10) hS (.inl rfl) rfl rfl rfl (.inl rfl) Fu25 rfl Fs25 rfl ?_; clear hS; try clear tm
  intro tm hS
  refine o_pure hS (.inl rfl) rfl rfl ?_; clear hS; try clear tm
  intro tm hS
  refine o_pure hS (.inl rfl) rfl rfl ?_; clear hS; try clear tm
  intro tm hS
  obtain ⟨⟨r11, r12⟩, hx9, h0⟩ := bindS h0
  refine o_call hS (.inl rfl) rfl (fun wm' hw1 hw2 => wk23  a1 b1 draws1 at1  v1 v2 v3 v4 v5 ((((((hS.sel hw2).ad 16 rfl).ad 15 rfl).ad 14 rfl).ad 13 rfl).ad 12 rfl) hx9) (fun wm' res H hw' hp => ?_)
  obtain ⟨v14, v15, hres, hI⟩ := hp
  replace hres := hres.symm; subst hres
  replace hS : S wm 151 _ H ((82, .tuple #[.agg #[.bool r11.Char, v14, v15], .int .i64 r12]) :: _) ([.own (rI .i64) v14 r11.Shape, .own (rI .i64) v15 r11.Data] ++ _) Fr := hS.after rfl hw' hI
  clear hI hw'
  refine o_pure hS (.inl rfl) rfl rfl ?_; clear hS; try clear tm
  intro tm hS
  refine o_pure hS (.inl rfl) rfl rfl ?_; clear hS; try clear tm
  intro tm hS
  refine o_pure hS (.inl rfl) rfl rfl ?_; clear hS; try clear tm
  intro tm hS
  refine o_alloc hS (.inl rfl) rfl Fz25 (by decide) ?_; clear hS; try clear tm H
  intro b7 tm H hS
  refine o_st (k := 0) hS (.inl rfl) rfl rfl rfl Fs25 rfl rfl (all_cons rfl (all_cons (hS.one (k := 1) rfl (.inr (.inl rfl))) (all_cons (hS.one (k := 2) rfl (.inr (.inl rfl))) all_nil))) rfl ?_; clear hS; try clear H
  intro H hS
  refine o_pure hS (.inl rfl) rfl rfl ?_; clear hS; try clear tm
  intro tm hS
  refine o_nil (hR _ _ ?_)
  clear hR R
  refine c_seqS ?_
  refine c_reg fun R hR => ?_
  refine o_pure hS (.inl rfl) rfl rfl ?_; clear hS; try clear tm
  intro tm hS
  refine o_pure hS (.inl rfl) rfl rfl ?_; clear hS; try clear tm
  intro tm hS
  refine o_pure hS (.inl rfl) rfl rfl ?_; clear hS; try clear tm
  intro tm hS
  refine o_pure hS (.inl rfl) rfl rfl ?_; clear hS; try clear tm
  intro tm hS
  obtain ⟨c5, hc5⟩ : ∃ x : Bool, x = ((r5 != r7) || (r10 != r12)) := ⟨_, rfl⟩
  refine o_cutN 4 (J := fun tm H => S wm 151 tm H [(92, .bool c5), (3, .int .i64 at1), (5, .pointer (some ⟨b3, 0, none⟩)), (9, v7), (10, .pointer (some ⟨b4, 0, none⟩)), (11, .int .i64 r4), (13, .pointer (some ⟨b5, 0, none⟩)), (15, .pointer (some ⟨b6, 0, none⟩)), (16, .int .i64 r9), (18, .pointer (some ⟨b7, 0, none⟩))] [.box b7 [.bool r11.Char, v14, v15], .own (rI .i64) v14 r11.Shape, .own (rI .i64) v15 r11.Data, .box b6 [.bool r8.Char, v12, v13], .own (rI .i64) v12 r8.Shape, .own (rI .i64) v13 r8.Data, .box b5 [.bool r6.Char, v10, v11], .own (rI .i64) v10 r6.Shape, .own (rI .i64) v11 r6.Data, .box b4 [.bool r3.Char, v8, v9], .own (rI .i64) v8 r3.Shape, .own (rI .i64) v9 r3.Data, .own (rI .i64) v7 l1, .box b3 [.bool b1.Char, v3, v4], .fz (rI .i64) v3 b1.Shape, .fz (rI .i64) v4 b1.Data] Fr) ?_ ?_
  ·rcases Bool.eq_false_or_eq_true (r5 != r7) with hg5 | hg5
   ·refine o_skip hS rfl rfl rfl hg5 ?_; clear hS; try clear tm
    intro tm hS
    refine o_skip hS rfl rfl rfl hg5 ?_; clear hS; try clear tm
    intro tm hS
    refine o_skip hS rfl rfl rfl hg5 ?_; clear hS; try clear tm
    intro tm hS
    refine o_pickT hS (.inl rfl) rfl rfl hg5 rfl ?_; clear hS; try clear tm
    intro tm hS
    have hc5 : c5 = true := hc5.trans (by rw [hg5]; first | rfl | simp)
    subst hc5
    exact o_nil (hS.keep (ka_cons rfl (ka_cons rfl (ka_cons rfl (ka_cons rfl (ka_cons rfl (ka_cons rfl (ka_cons rfl (ka_cons rfl (ka_cons rfl (ka_cons rfl ka_nil)))))))))) (fun hI => (hI.sub (sc (sc (sc (sc (sc (sc (sc (sc (sc (sc (sc (sc (sc (sc (sd (sd (sd (sc (sc sn))))))))))))))))))))))
   ·refine o_pure hS (.inr ⟨_, _, _, _, rfl, rfl, rfl, hg5⟩) rfl rfl ?_; clear hS; try clear tm
    intro tm hS
    refine o_pure hS (.inr ⟨_, _, _, _, rfl, rfl, rfl, hg5⟩) rfl rfl ?_; clear hS; try clear tm
    intro tm hS
    refine o_pure hS (.inr ⟨_, _, _, _, rfl, rfl, rfl, hg5⟩) rfl rfl ?_; clear hS; try clear tm
    intro tm hS
    refine o_pickF hS (.inl rfl) rfl rfl hg5 rfl ?_; clear hS; try clear tm
    intro tm hS
    have hc5 : c5 = (r10 != r12) := hc5.trans (by rw [hg5]; first | rfl | simp)
    subst hc5
    exact o_nil (hS.keep (ka_cons rfl (ka_cons rfl (ka_cons rfl (ka_cons rfl (ka_cons rfl (ka_cons rfl (ka_cons rfl (ka_cons rfl (ka_cons rfl (ka_cons rfl ka_nil)))))))))) (fun hI => (hI.sub (sc (sc (sc (sc (sc (sc (sc (sc (sc (sc (sc (sc (sc (sc (sd (sd (sd (sc (sc sn))))))))))))))))))))))
  intro tm H hS
  subst hc5
  refine o_pure hS (.inl rfl) rfl rfl ?_; clear hS; try clear tm
  intro tm hS
  obtain ⟨c6, hc6, h0⟩ := bindS h0
  refine o_cutN 5 (J := fun tm H => S wm 151 tm H [(98, .bool c6), (3, .int .i64 at1), (5, .pointer (some ⟨b3, 0, none⟩)), (9, v7), (10, .pointer (some ⟨b4, 0, none⟩)), (11, .int .i64 r4), (15, .pointer (some ⟨b6, 0, none⟩)), (16, .int .i64 r9), (18, .pointer (some ⟨b7, 0, none⟩))] [.box b7 [.bool r11.Char, v14, v15], .own (rI .i64) v14 r11.Shape, .own (rI .i64) v15 r11.Data, .box b6 [.bool r8.Char, v12, v13], .own (rI .i64) v12 r8.Shape, .own (rI .i64) v13 r8.Data, .box b4 [.bool r3.Char, v8, v9], .own (rI .i64) v8 r3.Shape, .own (rI .i64) v9 r3.Data, .own (rI .i64) v7 l1, .box b3 [.bool b1.Char, v3, v4], .fz (rI .i64) v3 b1.Shape, .fz (rI .i64) v4 b1.Data] Fr) ?_ ?_
  ·rcases Bool.eq_false_or_eq_true ((r5 != r7) || (r10 != r12)) with hg6 | hg6
   ·replace hc6 := iteT hg6 hc6
    refine o_skip hS rfl rfl rfl hg6 ?_; clear hS; try clear tm
    intro tm hS
    refine o_skip hS rfl rfl rfl hg6 ?_; clear hS; try clear tm
    intro tm hS
    refine o_skip hS rfl rfl rfl hg6 ?_; clear hS; try clear tm
    intro tm hS
    refine o_skip hS rfl rfl rfl hg6 ?_; clear hS; try clear tm
    intro tm hS
    refine o_pickT hS (.inl rfl) rfl rfl hg6 rfl ?_; clear hS; try clear tm
    intro tm hS
    obtain rfl := Option.some.inj hc6
    exact o_nil (hS.keep (ka_cons rfl (ka_cons rfl (ka_cons rfl (ka_cons rfl (ka_cons rfl (ka_cons rfl (ka_cons rfl (ka_cons rfl (ka_cons rfl ka_nil))))))))) (fun hI => (hI.sub (sc (sc (sc (sc (sc (sc (sd (sd (sd (sc (sc (sc (sc (sc (sc (sc sn)))))))))))))))))))
   ·replace hc6 := iteF hg6 hc6
    refine o_ldA (k := 9) hS (.inr ⟨_, _, _, _, rfl, rfl, rfl, hg6⟩) rfl rfl rfl (.inl rfl) Fu25 rfl Fs25 rfl ?_; clear hS; try clear tm
    intro tm hS
    refine o_ldA (k := 6) hS (.inr ⟨_, _, _, _, rfl, rfl, rfl, hg6⟩) rfl rfl rfl (.inl rfl) Fu25 rfl Fs25 rfl ?_; clear hS; try clear tm
    intro tm hS
    obtain ⟨r13, hx10, hc6⟩ := bindS hc6
    refine o_call (Pc := fun _ res H => res = .bool r13 ∧ Kn wm H [.box b7 [.bool r11.Char, v14, v15], .own (rI .i64) v14 r11.Shape, .own (rI .i64) v15 r11.Data, .box b6 [.bool r8.Char, v12, v13], .own (rI .i64) v12 r8.Shape, .own (rI .i64) v13 r8.Data, .box b5 [.bool r6.Char, v10, v11], .own (rI .i64) v10 r6.Shape, .own (rI .i64) v11 r6.Data, .box b4 [.bool r3.Char, v8, v9], .own (rI .i64) v8 r3.Shape, .own (rI .i64) v9 r3.Data, .own (rI .i64) v7 l1, .box b3 [.bool b1.Char, v3, v4], .fz (rI .i64) v3 b1.Shape, .fz (rI .i64) v4 b1.Data] Fr) hS (.inr ⟨_, _, _, _, rfl, rfl, rfl, hg6⟩) rfl (fun wm' hw1 hw2 => by
     obtain ⟨F2, k1, k2⟩ := hS.inv.lend (La := [.fz (rI .i64) v8 r3.Shape, .fz (rI .i64) v9 r3.Data, .fz (rI .i64) v10 r6.Shape, .fz (rI .i64) v11 r6.Data]) (List.forall_mem_cons.mpr ⟨(.inr ⟨_, _, _, _, rfl, .inl (List.mem_of_getElem? (i := 10) rfl)⟩), (List.forall_mem_cons.mpr ⟨(.inr ⟨_, _, _, _, rfl, .inl (List.mem_of_getElem? (i := 11) rfl)⟩), (List.forall_mem_cons.mpr ⟨(.inr ⟨_, _, _, _, rfl, .inl (List.mem_of_getElem? (i := 7) rfl)⟩), (List.forall_mem_cons.mpr ⟨(.inr ⟨_, _, _, _, rfl, .inl (List.mem_of_getElem? (i := 8) rfl)⟩), (fun _ h => by cases h)⟩)⟩)⟩)⟩) hw1 hw2
     exact (wk24  r3 r6 v8 v9 v10 v11 k1 hx10).mono fun res H2 ⟨q1, q2⟩ => ⟨q1, k2 _ q2⟩) (fun wm' res H hw' hp => ?_)
    obtain ⟨hres, hI⟩ := hp
    replace hres := hres.symm; subst hres
    replace hS : S wm 151 _ H ((96, .bool r13) :: _) [.box b7 [.bool r11.Char, v14, v15], .own (rI .i64) v14 r11.Shape, .own (rI .i64) v15 r11.Data, .box b6 [.bool r8.Char, v12, v13], .own (rI .i64) v12 r8.Shape, .own (rI .i64) v13 r8.Data, .box b5 [.bool r6.Char, v10, v11], .own (rI .i64) v10 r6.Shape, .own (rI .i64) v11 r6.Data, .box b4 [.bool r3.Char, v8, v9], .own (rI .i64) v8 r3.Shape, .own (rI .i64) v9 r3.Data, .own (rI .i64) v7 l1, .box b3 [.bool b1.Char, v3, v4], .fz (rI .i64) v3 b1.Shape, .fz (rI .i64) v4 b1.Data] Fr := (hS.put rfl _).withK hI
    clear hI hw'
    refine o_pure hS (.inr ⟨_, _, _, _, rfl, rfl, rfl, hg6⟩) rfl rfl ?_; clear hS; try clear tm
    intro tm hS
    refine o_pickF hS (.inl rfl) rfl rfl hg6 rfl ?_; clear hS; try clear tm
    intro tm hS
    obtain rfl := Option.some.inj hc6
    exact o_nil (hS.keep (ka_cons rfl (ka_cons rfl (ka_cons rfl (ka_cons rfl (ka_cons rfl (ka_cons rfl (ka_cons rfl (ka_cons rfl (ka_cons rfl ka_nil))))))))) (fun hI => (hI.sub (sc (sc (sc (sc (sc (sc (sd (sd (sd (sc (sc (sc (sc (sc (sc (sc sn)))))))))))))))))))
  intro tm H hS
  refine o_pure hS (.inl rfl) rfl rfl ?_; clear hS; try clear tm
  intro tm hS
  obtain ⟨c7, hc7, h0⟩ := bindS h0
  refine o_cutN 5 (J := fun tm H => S wm 151 tm H [(104, .bool c7), (3, .int .i64 at1), (5, .pointer (some ⟨b3, 0, none⟩)), (9, v7), (10, .pointer (some ⟨b4, 0, none⟩)), (11, .int .i64 r4), (15, .pointer (some ⟨b6, 0, none⟩)), (16, .int .i64 r9)] [.box b6 [.bool r8.Char, v12, v13], .own (rI .i64) v12 r8.Shape, .own (rI .i64) v13 r8.Data, .box b4 [.bool r3.Char, v8, v9], .own (rI .i64) v8 r3.Shape, .own (rI .i64) v9 r3.Data, .own (rI .i64) v7 l1, .box b3 [.bool b1.Char, v3, v4], .fz (rI .i64) v3 b1.Shape, .fz (rI .i64) v4 b1.Data] Fr) ?_ ?_
  ·rcases Bool.eq_false_or_eq_true c6 with hg7 | hg7
   ·replace hc7 := iteT hg7 hc7
    refine o_skip hS rfl rfl rfl hg7 ?_; clear hS; try clear tm
    intro tm hS
    refine o_skip hS rfl rfl rfl hg7 ?_; clear hS; try clear tm
    intro tm hS
    refine o_skip hS rfl rfl rfl hg7 ?_; clear hS; try clear tm
    intro tm hS
    refine o_skip hS rfl rfl rfl hg7 ?_; clear hS; try clear tm
    intro tm hS
    refine o_pickT hS (.inl rfl) rfl rfl hg7 rfl ?_; clear hS; try clear tm
    intro tm hS
    obtain rfl := Option.some.inj hc7
    exact o_nil (hS.keep (ka_cons rfl (ka_cons rfl (ka_cons rfl (ka_cons rfl (ka_cons rfl (ka_cons rfl (ka_cons rfl (ka_cons rfl ka_nil)))))))) (fun hI => (hI.sub (sd (sd (sd (sc (sc (sc (sc (sc (sc (sc (sc (sc (sc sn))))))))))))))))
   ·replace hc7 := iteF hg7 hc7
    refine o_ldA (k := 3) hS (.inr ⟨_, _, _, _, rfl, rfl, rfl, hg7⟩) rfl rfl rfl (.inl rfl) Fu25 rfl Fs25 rfl ?_; clear hS; try clear tm
    intro tm hS
    refine o_ldA (k := 0) hS (.inr ⟨_, _, _, _, rfl, rfl, rfl, hg7⟩) rfl rfl rfl (.inl rfl) Fu25 rfl Fs25 rfl ?_; clear hS; try clear tm
    intro tm hS
    obtain ⟨r14, hx11, hc7⟩ := bindS hc7
    refine o_call (Pc := fun _ res H => res = .bool r14 ∧ Kn wm H [.box b7 [.bool r11.Char, v14, v15], .own (rI .i64) v14 r11.Shape, .own (rI .i64) v15 r11.Data, .box b6 [.bool r8.Char, v12, v13], .own (rI .i64) v12 r8.Shape, .own (rI .i64) v13 r8.Data, .box b4 [.bool r3.Char, v8, v9], .own (rI .i64) v8 r3.Shape, .own (rI .i64) v9 r3.Data, .own (rI .i64) v7 l1, .box b3 [.bool b1.Char, v3, v4], .fz (rI .i64) v3 b1.Shape, .fz (rI .i64) v4 b1.Data] Fr) hS (.inr ⟨_, _, _, _, rfl, rfl, rfl, hg7⟩) rfl (fun wm' hw1 hw2 => by
     obtain ⟨F2, k1, k2⟩ := hS.inv.lend (La := [.fz (rI .i64) v12 r8.Shape, .fz (rI .i64) v13 r8.Data, .fz (rI .i64) v14 r11.Shape, .fz (rI .i64) v15 r11.Data]) (List.forall_mem_cons.mpr ⟨(.inr ⟨_, _, _, _, rfl, .inl (List.mem_of_getElem? (i := 4) rfl)⟩), (List.forall_mem_cons.mpr ⟨(.inr ⟨_, _, _, _, rfl, .inl (List.mem_of_getElem? (i := 5) rfl)⟩), (List.forall_mem_cons.mpr ⟨(.inr ⟨_, _, _, _, rfl, .inl (List.mem_of_getElem? (i := 1) rfl)⟩), (List.forall_mem_cons.mpr ⟨(.inr ⟨_, _, _, _, rfl, .inl (List.mem_of_getElem? (i := 2) rfl)⟩), (fun _ h => by cases h)⟩)⟩)⟩)⟩) hw1 hw2
     exact (wk24  r8 r11 v12 v13 v14 v15 k1 hx11).mono fun res H2 ⟨q1, q2⟩ => ⟨q1, k2 _ q2⟩) (fun wm' res H hw' hp => ?_)
    obtain ⟨hres, hI⟩ := hp
    replace hres := hres.symm; subst hres
    replace hS : S wm 151 _ H ((102, .bool r14) :: _) [.box b7 [.bool r11.Char, v14, v15], .own (rI .i64) v14 r11.Shape, .own (rI .i64) v15 r11.Data, .box b6 [.bool r8.Char, v12, v13], .own (rI .i64) v12 r8.Shape, .own (rI .i64) v13 r8.Data, .box b4 [.bool r3.Char, v8, v9], .own (rI .i64) v8 r3.Shape, .own (rI .i64) v9 r3.Data, .own (rI .i64) v7 l1, .box b3 [.bool b1.Char, v3, v4], .fz (rI .i64) v3 b1.Shape, .fz (rI .i64) v4 b1.Data] Fr := (hS.put rfl _).withK hI
    clear hI hw'
    refine o_pure hS (.inr ⟨_, _, _, _, rfl, rfl, rfl, hg7⟩) rfl rfl ?_; clear hS; try clear tm
    intro tm hS
    refine o_pickF hS (.inl rfl) rfl rfl hg7 rfl ?_; clear hS; try clear tm
    intro tm hS
    obtain rfl := Option.some.inj hc7
    exact o_nil (hS.keep (ka_cons rfl (ka_cons rfl (ka_cons rfl (ka_cons rfl (ka_cons rfl (ka_cons rfl (ka_cons rfl (ka_cons rfl ka_nil)))))))) (fun hI => (hI.sub (sd (sd (sd (sc (sc (sc (sc (sc (sc (sc (sc (sc (sc sn))))))))))))))))
  intro tm H hS
  refine o_pure hS (.inl rfl) rfl rfl ?_; clear hS; try clear tm
  intro tm hS
  obtain ⟨c8, hc8⟩ : ∃ x : Bool, x = (c7 || (r4 != (IntKind.i64.wrap (at1 + (r3.Data.length : Int))))) := ⟨_, rfl⟩
  refine o_cutN 8 (J := fun tm H => S wm 151 tm H [(113, .bool c8), (3, .int .i64 at1), (5, .pointer (some ⟨b3, 0, none⟩)), (9, v7), (10, .pointer (some ⟨b4, 0, none⟩)), (15, .pointer (some ⟨b6, 0, none⟩)), (16, .int .i64 r9)] [.box b6 [.bool r8.Char, v12, v13], .own (rI .i64) v12 r8.Shape, .own (rI .i64) v13 r8.Data, .box b4 [.bool r3.Char, v8, v9], .own (rI .i64) v8 r3.Shape, .own (rI .i64) v9 r3.Data, .own (rI .i64) v7 l1, .box b3 [.bool b1.Char, v3, v4], .fz (rI .i64) v3 b1.Shape, .fz (rI .i64) v4 b1.Data] Fr) ?_ ?_
  ·rcases Bool.eq_false_or_eq_true c7 with hg8 | hg8
   ·refine o_skip hS rfl rfl rfl hg8 ?_; clear hS; try clear tm
    intro tm hS
    refine o_skip hS rfl rfl rfl hg8 ?_; clear hS; try clear tm
    intro tm hS
    refine o_skip hS rfl rfl rfl hg8 ?_; clear hS; try clear tm
    intro tm hS
    refine o_skip hS rfl rfl rfl hg8 ?_; clear hS; try clear tm
    intro tm hS
    refine o_skip hS rfl rfl rfl hg8 ?_; clear hS; try clear tm
    intro tm hS
    refine o_skip hS rfl rfl rfl hg8 ?_; clear hS; try clear tm
    intro tm hS
    refine o_skip hS rfl rfl rfl hg8 ?_; clear hS; try clear tm
    intro tm hS
    refine o_pickT hS (.inl rfl) rfl rfl hg8 rfl ?_; clear hS; try clear tm
    intro tm hS
    have hc8 : c8 = true := hc8.trans (by rw [hg8]; first | rfl | simp)
    subst hc8
    exact o_nil (hS.keep (ka_cons rfl (ka_cons rfl (ka_cons rfl (ka_cons rfl (ka_cons rfl (ka_cons rfl (ka_cons rfl ka_nil))))))) (fun hI => (hI.sub (sc (sc (sc (sc (sc (sc (sc (sc (sc (sc sn)))))))))))))
   ·refine o_pure hS (.inr ⟨_, _, _, _, rfl, rfl, rfl, hg8⟩) rfl rfl ?_; clear hS; try clear tm
    intro tm hS
    refine o_pure hS (.inr ⟨_, _, _, _, rfl, rfl, rfl, hg8⟩) rfl rfl ?_; clear hS; try clear tm
    intro tm hS
    refine o_pure hS (.inr ⟨_, _, _, _, rfl, rfl, rfl, hg8⟩) rfl rfl ?_; clear hS; try clear tm
    intro tm hS
    refine o_ld1 (k := 3) hS (.inr ⟨_, _, _, _, rfl, rfl, rfl, hg8⟩) rfl rfl rfl (.inl rfl) Fu22 rfl rfl ?_; clear hS; try clear tm
    intro tm hS
    refine o_len (k := 5) (r := (rI .i64)) hS (.inr ⟨_, _, _, _, rfl, rfl, rfl, hg8⟩) rfl rfl rfl (.inr (.inl rfl)) Fu22 rfl ?_; clear hS; try clear tm
    intro tm hS
    refine o_pure hS (.inr ⟨_, _, _, _, rfl, rfl, rfl, hg8⟩) rfl rfl ?_; clear hS; try clear tm
    intro tm hS
    refine o_pure hS (.inr ⟨_, _, _, _, rfl, rfl, rfl, hg8⟩) rfl rfl ?_; clear hS; try clear tm
    intro tm hS
    refine o_pickF hS (.inl rfl) rfl rfl hg8 rfl ?_; clear hS; try clear tm
    intro tm hS
    have hc8 : c8 = (r4 != (IntKind.i64.wrap (at1 + (r3.Data.length : Int)))) := hc8.trans (by rw [hg8]; first | rfl | simp)
    subst hc8
    exact o_nil (hS.keep (ka_cons rfl (ka_cons rfl (ka_cons rfl (ka_cons rfl (ka_cons rfl (ka_cons rfl (ka_cons rfl ka_nil))))))) (fun hI => (hI.sub (sc (sc (sc (sc (sc (sc (sc (sc (sc (sc sn)))))))))))))
  intro tm H hS
  subst hc8
  refine o_pure hS (.inl rfl) rfl rfl ?_; clear hS; try clear tm
  intro tm hS
  obtain ⟨c9, hc9⟩ : ∃ x : Bool, x = ((c7 || (r4 != (IntKind.i64.wrap (at1 + (r3.Data.length : Int))))) || (r9 != (IntKind.i64.wrap (at1 + (r8.Data.length : Int))))) := ⟨_, rfl⟩
  refine o_cutN 8 (J := fun tm H => S wm 151 tm H [(122, .bool c9), (5, .pointer (some ⟨b3, 0, none⟩)), (9, v7), (10, .pointer (some ⟨b4, 0, none⟩))] [.box b4 [.bool r3.Char, v8, v9], .own (rI .i64) v8 r3.Shape, .own (rI .i64) v9 r3.Data, .own (rI .i64) v7 l1, .box b3 [.bool b1.Char, v3, v4], .fz (rI .i64) v3 b1.Shape, .fz (rI .i64) v4 b1.Data] Fr) ?_ ?_
  ·rcases Bool.eq_false_or_eq_true (c7 || (r4 != (IntKind.i64.wrap (at1 + (r3.Data.length : Int))))) with hg9 | hg9
   ·refine o_skip hS rfl rfl rfl hg9 ?_; clear hS; try clear tm
    intro tm hS
    refine o_skip hS rfl rfl rfl hg9 ?_; clear hS; try clear tm
    intro tm hS
    refine o_skip hS rfl rfl rfl hg9 ?_; clear hS; try clear tm
    intro tm hS
    refine o_skip hS rfl rfl rfl hg9 ?_; clear hS; try clear tm
    intro tm hS
    refine o_skip hS rfl rfl rfl hg9 ?_; clear hS; try clear tm
    intro tm hS
    refine o_skip hS rfl rfl rfl hg9 ?_; clear hS; try clear tm
    intro tm hS
    refine o_skip hS rfl rfl rfl hg9 ?_; clear hS; try clear tm
    intro tm hS
    refine o_pickT hS (.inl rfl) rfl rfl hg9 rfl ?_; clear hS; try clear tm
    intro tm hS
    have hc9 : c9 = true := hc9.trans (by rw [hg9]; first | rfl | simp)
    subst hc9
    exact o_nil (hS.keep (ka_cons rfl (ka_cons rfl (ka_cons rfl (ka_cons rfl ka_nil)))) (fun hI => (hI.sub (sd (sd (sd (sc (sc (sc (sc (sc (sc (sc sn)))))))))))))
   ·refine o_pure hS (.inr ⟨_, _, _, _, rfl, rfl, rfl, hg9⟩) rfl rfl ?_; clear hS; try clear tm
    intro tm hS
    refine o_pure hS (.inr ⟨_, _, _, _, rfl, rfl, rfl, hg9⟩) rfl rfl ?_; clear hS; try clear tm
    intro tm hS
    refine o_pure hS (.inr ⟨_, _, _, _, rfl, rfl, rfl, hg9⟩) rfl rfl ?_; clear hS; try clear tm
    intro tm hS
    refine o_ld1 (k := 0) hS (.inr ⟨_, _, _, _, rfl, rfl, rfl, hg9⟩) rfl rfl rfl (.inl rfl) Fu22 rfl rfl ?_; clear hS; try clear tm
    intro tm hS
    refine o_len (k := 2) (r := (rI .i64)) hS (.inr ⟨_, _, _, _, rfl, rfl, rfl, hg9⟩) rfl rfl rfl (.inr (.inl rfl)) Fu22 rfl ?_; clear hS; try clear tm
    intro tm hS
    refine o_pure hS (.inr ⟨_, _, _, _, rfl, rfl, rfl, hg9⟩) rfl rfl ?_; clear hS; try clear tm
    intro tm hS
    refine o_pure hS (.inr ⟨_, _, _, _, rfl, rfl, rfl, hg9⟩) rfl rfl ?_; clear hS; try clear tm
    intro tm hS
    refine o_pickF hS (.inl rfl) rfl rfl hg9 rfl ?_; clear hS; try clear tm
    intro tm hS
    have hc9 : c9 = (r9 != (IntKind.i64.wrap (at1 + (r8.Data.length : Int)))) := hc9.trans (by rw [hg9]; first | rfl | simp)
    subst hc9
    exact o_nil (hS.keep (ka_cons rfl (ka_cons rfl (ka_cons rfl (ka_cons rfl ka_nil)))) (fun hI => (hI.sub (sd (sd (sd (sc (sc (sc (sc (sc (sc (sc sn)))))))))))))
  intro tm H hS
  subst hc9
  refine o_nil (hR _ _ ?_)
  clear hR R
  refine c_cond hS rfl (fun hc => ?_) (fun hc => ?_)
  ·replace h0 := iteT hc h0
   refine c_reg fun R hR => ?_
   refine o_pure hS (.inl rfl) rfl rfl ?_; clear hS; try clear tm
   intro tm hS
   refine o_nil (hR _ _ ?_)
   clear hR R
   refine wpC.ret ?_
   obtain rfl := Option.some.inj h0
   refine Exists.intro _ (And.intro (rs_tmp hS rfl rs_nil) ?_)
   have hI := hS.inv
   exact ⟨rfl, (hI.sub sn)⟩
  ·replace h0 := iteF hc h0
   refine wpC.skip ?_
   refine c_seqS ?_
   refine c_reg fun R hR => ?_
   refine o_pure hS (.inl rfl) rfl rfl ?_; clear hS; try clear tm
   intro tm hS
   refine o_nil (hR _ _ ?_)
   clear hR R
   obtain ⟨k1, hw1, h0⟩ := bindS h0
   refine wpC.block ?_
   refine c_loop (I := fun (s : Int × (List Int)) tm H => match (generalizing := false) s with | (i1, l2) => S wm 151 tm H [(5, .pointer (some ⟨b3, 0, none⟩)), (9, v7), (10, .pointer (some ⟨b4, 0, none⟩)), (20, .int .i64 i1)] [.box b3 [.bool b1.Char, v3, v4], .box b4 [.bool r3.Char, v8, v9], .fz (rI .i64) v3 b1.Shape, .fz (rI .i64) v4 b1.Data, .own (rI .i64) v7 l1, .own (rI .i64) v8 r3.Shape, .own (rI .i64) v9 l2] Fr) hw1 (by change S wm 151 _ _ _ _ Fr; exact hS.keep (ka_cons rfl (ka_cons rfl (ka_cons rfl (ka_cons rfl ka_nil)))) (fun hI => ((((((((hI.pull 2 rfl).pull 2 rfl).pull 3 rfl).pull 6 rfl).pull 6 rfl).pull 5 rfl).pull 6 rfl).take 7))) ?_
   clear hS
   intro s1 tm H c10 hS h1 hq1
   obtain ⟨i1, l2⟩ := s1
   change S wm 151 tm H [(5, .pointer (some ⟨b3, 0, none⟩)), (9, v7), (10, .pointer (some ⟨b4, 0, none⟩)), (20, .int .i64 i1)] [.box b3 [.bool b1.Char, v3, v4], .box b4 [.bool r3.Char, v8, v9], .fz (rI .i64) v3 b1.Shape, .fz (rI .i64) v4 b1.Data, .own (rI .i64) v7 l1, .own (rI .i64) v8 r3.Shape, .own (rI .i64) v9 l2] Fr at hS
   refine c_seqS ?_
   refine c_reg fun R hR => ?_
   refine o_pure hS (.inl rfl) rfl rfl ?_; clear hS; try clear tm
   intro tm hS
   refine o_pure hS (.inl rfl) rfl rfl ?_; clear hS; try clear tm
   intro tm hS
   refine o_ld1 (k := 1) hS (.inl rfl) rfl rfl rfl (.inl rfl) Fu22 rfl rfl ?_; clear hS; try clear tm
   intro tm hS
   refine o_len (k := 6) (r := (rI .i64)) hS (.inl rfl) rfl rfl rfl (.inr (.inl rfl)) Fu22 rfl ?_; clear hS; try clear tm
   intro tm hS
   refine o_pure hS (.inl rfl) rfl rfl ?_; clear hS; try clear tm
   intro tm hS
   refine o_nil (hR _ _ ?_)
   clear hR R
   refine c_cond hS rfl (fun hc => ?_) (fun hc => ?_)
   ·replace h1 := iteT hc h1
    refine wpC.skip ?_
    refine c_seqS ?_
    refine wpC.block ?_
    refine c_reg1 fun R hR => ?_
    refine o_pure hS (.inl rfl) rfl rfl ?_; clear hS; try clear tm
    intro tm hS
    refine o_ld1 (k := 1) hS (.inl rfl) rfl rfl rfl (.inl rfl) Fu22 rfl rfl ?_; clear hS; try clear tm
    intro tm hS
    refine o_pure hS (.inl rfl) rfl rfl ?_; clear hS; try clear tm
    intro tm hS
    obtain ⟨y3, hx12, h1⟩ := bindS h1
    refine o_ixA (k := 6) (r := (rI .i64)) hS (.inl rfl) rfl rfl rfl rfl (.inr (.inl rfl)) Fu22 Fs2 hx12 ?_; clear hS; try clear tm
    intro tm hS
    obtain ⟨l3, hx13, h1⟩ := bindS h1
    refine o_stE (k := 6) (r := (rI .i64)) hS (.inl rfl) rfl rfl rfl Fs2 rfl rfl (rd_flat fun _ => rfl) hx13 ?_; clear hS; try clear H
    intro H hS
    refine o_nil (hR _ _ ?_)
    clear hR R
    refine c_reg1 fun R hR => ?_
    refine o_pure hS (.inl rfl) rfl rfl ?_; clear hS; try clear tm
    intro tm hS
    refine o_pure hS (.inl rfl) rfl rfl ?_; clear hS; try clear tm
    intro tm hS
    refine o_pure hS (.inl rfl) rfl rfl ?_; clear hS; try clear tm
    intro tm hS
    refine o_nil (hR _ _ ?_)
    clear hR R
    obtain rfl := Option.some.inj h1
    refine ⟨_, rfl, ?_⟩
    change S wm 151 _ _ _ _ Fr; exact hS.keep (ka_cons rfl (ka_cons rfl (ka_cons rfl (ka_cons rfl ka_nil)))) (fun hI => (hI.sub (sc (sc (sc (sc (sc (sc (sc sn)))))))))
   ·replace h1 := iteF hc h1
    refine wpC.exit ?_
    obtain rfl := Option.some.inj h1
    obtain rfl := hq1 _ rfl
    refine And.intro rfl (blk_eq ?_)
    replace h0 := joinN h0
    refine c_seqS ?_
    refine c_reg fun R hR => ?_
    refine o_pure hS (.inl rfl) rfl rfl ?_; clear hS; try clear tm
    intro tm hS
    refine o_nil (hR _ _ ?_)
    clear hR R
    obtain ⟨k2, hw2, h0⟩ := bindS h0
    refine wpC.block ?_
    refine c_loop (I := fun (s : Int) tm H => match (generalizing := false) s with | i2 => S wm 151 tm H [(5, .pointer (some ⟨b3, 0, none⟩)), (9, v7), (21, .int .i64 i2)] [.box b3 [.bool b1.Char, v3, v4], .fz (rI .i64) v3 b1.Shape, .fz (rI .i64) v4 b1.Data, .own (rI .i64) v7 l1] Fr) hw2 (by change S wm 151 _ _ _ _ Fr; exact hS.keep (ka_cons rfl (ka_cons rfl (ka_cons rfl ka_nil))) (fun hI => (hI.sub (sc (sd (sc (sc (sc sn)))))))) ?_
    clear hS
    intro i2 tm H c11 hS h3 hq3
    change S wm 151 tm H [(5, .pointer (some ⟨b3, 0, none⟩)), (9, v7), (21, .int .i64 i2)] [.box b3 [.bool b1.Char, v3, v4], .fz (rI .i64) v3 b1.Shape, .fz (rI .i64) v4 b1.Data, .own (rI .i64) v7 l1] Fr at hS
    refine c_seqS ?_
    refine c_reg fun R hR => ?_
    refine o_pure hS (.inl rfl) rfl rfl ?_; clear hS; try clear tm
    intro tm hS
    refine o_pure hS (.inl rfl) rfl rfl ?_; clear hS; try clear tm
    intro tm hS
    refine o_len (k := 3) (r := (rI .i64)) hS (.inl rfl) rfl rfl rfl (.inr (.inl rfl)) Fu22 rfl ?_; clear hS; try clear tm
    intro tm hS
    refine o_pure hS (.inl rfl) rfl rfl ?_; clear hS; try clear tm
    intro tm hS
    refine o_nil (hR _ _ ?_)
    clear hR R
    refine c_cond hS rfl (fun hc => ?_) (fun hc => ?_)
    ·replace h3 := iteT hc h3
     refine wpC.skip ?_
     refine c_seqS ?_
     refine wpC.block ?_
     refine c_reg fun R hR => ?_
     refine o_pure hS (.inl rfl) rfl rfl ?_; clear hS; try clear tm
     intro tm hS
     refine o_ld1 (k := 0) hS (.inl rfl) rfl rfl rfl (.inl rfl) Fu22 rfl rfl ?_; clear hS; try clear tm
     intro tm hS
     refine o_pure hS (.inl rfl) rfl rfl ?_; clear hS; try clear tm
     intro tm hS
     obtain ⟨y4, hx14, h3⟩ := bindS h3
     refine o_ixA (k := 2) (r := (rI .i64)) hS (.inl rfl) rfl rfl rfl rfl (.inl rfl) Fu22 Fs2 hx14 ?_; clear hS; try clear tm
     intro tm hS
     refine o_ldF (r := (rI .i64)) (k := 2) hS (.inl rfl) rfl rfl rfl (.inl rfl) hx14 Fu2 rfl (flat_I _) rfl ?_; clear hS; try clear tm
     intro tm hS
     refine o_pure hS (.inl rfl) rfl rfl ?_; clear hS; try clear tm
     intro tm hS
     refine o_pure hS (.inl rfl) rfl rfl ?_; clear hS; try clear tm
     intro tm hS
     obtain ⟨y5, hx15, h3⟩ := bindS h3
     refine o_ixA (k := 3) (r := (rI .i64)) hS (.inl rfl) rfl rfl rfl rfl (.inr (.inl rfl)) Fu22 Fs2 hx15 ?_; clear hS; try clear tm
     intro tm hS
     refine o_ldF (r := (rI .i64)) (k := 3) hS (.inl rfl) rfl rfl rfl (.inr (.inl rfl)) hx15 Fu2 rfl (flat_I _) rfl ?_; clear hS; try clear tm
     intro tm hS
     refine o_pure hS (.inl rfl) rfl rfl ?_; clear hS; try clear tm
     intro tm hS
     refine o_nil (hR _ _ ?_)
     clear hR R
     refine c_cond hS rfl (fun hc => ?_) (fun hc => ?_)
     ·replace h3 := iteT hc h3
      refine c_reg fun R hR => ?_
      refine o_pure hS (.inl rfl) rfl rfl ?_; clear hS; try clear tm
      intro tm hS
      refine o_nil (hR _ _ ?_)
      clear hR R
      refine wpC.ret ?_
      obtain rfl := Option.some.inj h3
      obtain rfl := hq3 _ rfl
      refine And.intro rfl ?_
      obtain rfl := leave h0
      refine Exists.intro _ (And.intro (rs_tmp hS rfl rs_nil) ?_)
      have hI := hS.inv
      exact ⟨rfl, (hI.sub sn)⟩
     ·replace h3 := iteF hc h3
      refine wpC.skip ?_
      refine c_reg1 fun R hR => ?_
      refine o_pure hS (.inl rfl) rfl rfl ?_; clear hS; try clear tm
      intro tm hS
      refine o_pure hS (.inl rfl) rfl rfl ?_; clear hS; try clear tm
      intro tm hS
      refine o_pure hS (.inl rfl) rfl rfl ?_; clear hS; try clear tm
      intro tm hS
      refine o_nil (hR _ _ ?_)
      clear hR R
      obtain rfl := Option.some.inj h3
      refine ⟨_, rfl, ?_⟩
      change S wm 151 _ _ _ _ Fr; exact hS.keep (ka_cons rfl (ka_cons rfl (ka_cons rfl ka_nil))) (fun hI => (hI.sub (sc (sc (sc (sc sn))))))
    ·replace h3 := iteF hc h3
     refine wpC.exit ?_
     obtain rfl := Option.some.inj h3
     obtain rfl := hq3 _ rfl
     refine And.intro rfl (blk_eq ?_)
     replace h0 := joinN h0
     refine c_reg fun R hR => ?_
     refine o_call hS (.inl rfl) rfl (fun wm' hw1 hw2 => wpF.told ho19 (Q := fun v H' => v = .bool true ∧ H' = H) ⟨rfl, rfl⟩) (fun wm' res H hw' hp => ?_)
     obtain ⟨rfl, rfl⟩ := hp
     replace hS := hS.put (d := 150) rfl (.bool true)
     clear hw'
     refine o_pure hS (.inl rfl) rfl rfl ?_; clear hS; try clear tm
     intro tm hS
     refine o_nil (hR _ _ ?_)
     clear hR R
     refine wpC.ret ?_
     obtain rfl := Option.some.inj h0
     refine Exists.intro _ (And.intro (rs_tmp hS rfl rs_nil) ?_)
     have hI := hS.inv
     exact ⟨rfl, (hI.sub sn)⟩
end Go.Proofs.Ytpkfklfakegbjaa.randTells
