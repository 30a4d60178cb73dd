/- JoinThree: walks of the code: the run of each function comes to what its plain function says. -/
import Derived.Test.YtaedfhikoamfeaaWJoinThreea
set_option maxHeartbeats 4000000
set_option linter.unusedVariables false
set_option linter.unusedSimpArgs false
set_option maxRecDepth 100000
open Go Go.Am Go.Proofs
namespace Go.Proofs.Ytaedfhikoamfeaa.joinThree
variable {ora : FuncId → Bool}
theorem wk6 {wm : Nat} {H : AHeap} {Fr : List Ent} (ho21 : ora 21 = true) (a1 : (List Int)) (b1 : (List Int)) (c1 : (List Int))  (v1 : Value) (v2 : Value) (v3 : Value) (hI : Kn wm H [.fz (rI .i64) v1 a1, .fz (rI .i64) v2 b1, .fz (rI .i64) v3 c1] Fr) {r : Bool} (h0 : M.anamnesislaw07_JoinThree a1 b1 c1 = some r) :
  wpF Try.prog ora wm 6 [v1, v2, v3] H (fun res H => res = .bool r ∧ Kn wm H [] Fr) := by
 unfold M.anamnesislaw07_JoinThree at h0
 refine f_enter (n := 107) Try.func6 rfl (by simp) hI rfl rfl rfl fun tm hS => ?_
 clear hI
 refine c_reg fun R hR => ?_
 refine o_pure hS (.inl rfl) rfl rfl ?_; clear hS; try clear tm
 intro tm hS
 refine o_nil (hR _ _ ?_)
 clear hR R
 refine c_seqS ?_
 refine c_reg fun R hR => ?_
 refine o_pure hS (.inl rfl) rfl rfl ?_; clear hS; try clear tm
 intro tm hS
 refine o_len (k := 0) (r := (rI .i64)) hS (.inl rfl) rfl rfl rfl (.inl rfl) Fu23 rfl ?_; clear hS; try clear tm
 intro tm hS
 refine o_pure hS (.inl rfl) rfl rfl ?_; clear hS; try clear tm
 intro tm hS
 refine o_pure hS (.inl rfl) rfl rfl ?_; clear hS; try clear tm
 intro tm hS
 obtain ⟨c2, hc1⟩ : ∃ x : Bool, x = ((decide ((a1.length : Int) > 600)) || (decide ((b1.length : Int) > 600))) := ⟨_, rfl⟩
 refine o_cutN 4 (J := fun tm H => S wm 107 tm H [(25, .bool c2), (0, v1), (1, v2), (2, v3)] [.fz (rI .i64) v1 a1, .fz (rI .i64) v2 b1, .fz (rI .i64) v3 c1] Fr) ?_ ?_
 ·rcases Bool.eq_false_or_eq_true (decide ((a1.length : Int) > 600)) with hg1 | hg1
  ·refine o_skip hS rfl rfl rfl hg1 ?_; clear hS; try clear tm
   intro tm hS
   refine o_skip hS rfl rfl rfl hg1 ?_; clear hS; try clear tm
   intro tm hS
   refine o_skip hS rfl rfl rfl hg1 ?_; clear hS; try clear tm
   intro tm hS
   refine o_pickT hS (.inl rfl) rfl rfl hg1 rfl ?_; clear hS; try clear tm
   intro tm hS
   have hc1 : c2 = true := hc1.trans (by rw [hg1]; first | rfl | simp)
   subst hc1
   exact o_nil (hS.keep (ka_cons rfl (ka_cons rfl (ka_cons rfl (ka_cons rfl ka_nil)))) (fun hI => (hI.sub (sc (sc (sc sn))))))
  ·refine o_pure hS (.inr ⟨_, _, _, _, rfl, rfl, rfl, hg1⟩) rfl rfl ?_; clear hS; try clear tm
   intro tm hS
   refine o_len (k := 1) (r := (rI .i64)) hS (.inr ⟨_, _, _, _, rfl, rfl, rfl, hg1⟩) rfl rfl rfl (.inl rfl) Fu23 rfl ?_; clear hS; try clear tm
   intro tm hS
   refine o_pure hS (.inr ⟨_, _, _, _, rfl, rfl, rfl, hg1⟩) rfl rfl ?_; clear hS; try clear tm
   intro tm hS
   refine o_pickF hS (.inl rfl) rfl rfl hg1 rfl ?_; clear hS; try clear tm
   intro tm hS
   have hc1 : c2 = (decide ((b1.length : Int) > 600)) := hc1.trans (by rw [hg1]; first | rfl | simp)
   subst hc1
   exact o_nil (hS.keep (ka_cons rfl (ka_cons rfl (ka_cons rfl (ka_cons rfl ka_nil)))) (fun hI => (hI.sub (sc (sc (sc sn))))))
 intro tm H hS
 subst hc1
 refine o_pure hS (.inl rfl) rfl rfl ?_; clear hS; try clear tm
 intro tm hS
 obtain ⟨c3, hc2⟩ : ∃ x : Bool, x = (((decide ((a1.length : Int) > 600)) || (decide ((b1.length : Int) > 600))) || (decide ((c1.length : Int) > 600))) := ⟨_, rfl⟩
 refine o_cutN 4 (J := fun tm H => S wm 107 tm H [(30, .bool c3), (0, v1), (1, v2), (2, v3)] [.fz (rI .i64) v1 a1, .fz (rI .i64) v2 b1, .fz (rI .i64) v3 c1] Fr) ?_ ?_
 ·rcases Bool.eq_false_or_eq_true ((decide ((a1.length : Int) > 600)) || (decide ((b1.length : Int) > 600))) with hg2 | hg2
  ·refine o_skip hS rfl rfl rfl hg2 ?_; clear hS; try clear tm
   intro tm hS
   refine o_skip hS rfl rfl rfl hg2 ?_; clear hS; try clear tm
   intro tm hS
   refine o_skip hS rfl rfl rfl hg2 ?_; clear hS; try clear tm
   intro tm hS
   refine o_pickT hS (.inl rfl) rfl rfl hg2 rfl ?_; clear hS; try clear tm
   intro tm hS
   have hc2 : c3 = true := hc2.trans (by rw [hg2]; first | rfl | simp)
   subst hc2
   exact o_nil (hS.keep (ka_cons rfl (ka_cons rfl (ka_cons rfl (ka_cons rfl ka_nil)))) (fun hI => (hI.sub (sc (sc (sc sn))))))
  ·refine o_pure hS (.inr ⟨_, _, _, _, rfl, rfl, rfl, hg2⟩) rfl rfl ?_; clear hS; try clear tm
   intro tm hS
   refine o_len (k := 2) (r := (rI .i64)) hS (.inr ⟨_, _, _, _, rfl, rfl, rfl, hg2⟩) rfl rfl rfl (.inl rfl) Fu23 rfl ?_; clear hS; try clear tm
   intro tm hS
   refine o_pure hS (.inr ⟨_, _, _, _, rfl, rfl, rfl, hg2⟩) rfl rfl ?_; clear hS; try clear tm
   intro tm hS
   refine o_pickF hS (.inl rfl) rfl rfl hg2 rfl ?_; clear hS; try clear tm
   intro tm hS
   have hc2 : c3 = (decide ((c1.length : Int) > 600)) := hc2.trans (by rw [hg2]; first | rfl | simp)
   subst hc2
   exact o_nil (hS.keep (ka_cons rfl (ka_cons rfl (ka_cons rfl (ka_cons rfl ka_nil)))) (fun hI => (hI.sub (sc (sc (sc sn))))))
 intro tm H hS
 subst hc2
 refine o_nil (hR _ _ ?_)
 clear hR R
 refine c_cond hS rfl (fun hc => ?_) (fun hc => ?_)
 ·replace h0 := iteT hc h0
  refine c_reg fun R hR => ?_
  refine o_call hS (.inl rfl) rfl (fun wm' hw1 hw2 => wpF.told ho21 (Q := fun v H' => v = .bool true ∧ H' = H) ⟨rfl, rfl⟩) (fun wm' res H hw' hp => ?_)
  obtain ⟨rfl, rfl⟩ := hp
  replace hS := hS.put (d := 31) rfl (.bool true)
  clear hw'
  refine o_pure hS (.inl rfl) rfl rfl ?_; clear hS; try clear tm
  intro tm hS
  refine o_nil (hR _ _ ?_)
  clear hR R
  refine wpC.ret ?_
  obtain rfl := Option.some.inj h0
  refine Exists.intro _ (And.intro (rs_tmp hS rfl rs_nil) ?_)
  have hI := hS.inv
  exact ⟨rfl, (hI.sub sn)⟩
 ·replace h0 := iteF hc h0
  refine wpC.skip ?_
  refine c_reg fun R hR => ?_
  refine o_pure hS (.inl rfl) rfl rfl ?_; clear hS; try clear tm
  intro tm hS
  refine o_len (k := 0) (r := (rI .i64)) hS (.inl rfl) rfl rfl rfl (.inl rfl) Fu23 rfl ?_; clear hS; try clear tm
  intro tm hS
  refine o_lit (r := (rI .i64)) (l := [(a1.length : Int)]) hS (.inl rfl) rfl Fl22 rfl rfl rfl (.cons rfl .nil) rfl rfl (ri_1 (rd_flat fun _ => rfl) ri_nil) rfl ?_; clear hS; try clear tm H
  intro v4 tm H hS
  refine o_pure hS (.inl rfl) rfl rfl ?_; clear hS; try clear tm
  intro tm hS
  replace hS := hS.litFrz (k := 0) rfl
  obtain ⟨r1, hx1, h0⟩ := bindS h0
  refine o_call hS (.inl rfl) rfl (fun wm' hw1 hw2 => wk27  ([(a1.length : Int)]) a1  v4 v1 (((hS.sel hw2).ad 1 rfl).ad 0 rfl) hx1) (fun wm' res H hw' hp => ?_)
  obtain ⟨v5, v6, hres, hI⟩ := hp
  replace hres := hres.symm; subst hres
  replace hS : S wm 107 _ H ((36, .agg #[.bool r1.Char, v5, v6]) :: _) ([.fz (rI .i64) v5 r1.Shape, .fz (rI .i64) v6 r1.Data] ++ _) Fr := hS.after rfl hw' hI
  clear hI hw'
  refine o_alloc hS (.inl rfl) rfl Fz27 (by decide) ?_; clear hS; try clear tm H
  intro b2 tm H hS
  refine o_st (k := 0) hS (.inl rfl) rfl rfl rfl Fs27 rfl rfl (all_cons rfl (all_cons (hS.one (k := 1) rfl (.inl rfl)) (all_cons (hS.one (k := 2) rfl (.inl rfl)) all_nil))) rfl ?_; clear hS; try clear H
  intro H hS
  refine o_nil (hR _ _ ?_)
  clear hR R
  refine c_reg fun R hR => ?_
  refine o_pure hS (.inl rfl) rfl rfl ?_; clear hS; try clear tm
  intro tm hS
  refine o_len (k := 5) (r := (rI .i64)) hS (.inl rfl) rfl rfl rfl (.inl rfl) Fu23 rfl ?_; clear hS; try clear tm
  intro tm hS
  refine o_lit (r := (rI .i64)) (l := [(b1.length : Int)]) hS (.inl rfl) rfl Fl22 rfl rfl rfl (.cons rfl .nil) rfl rfl (ri_1 (rd_flat fun _ => rfl) ri_nil) rfl ?_; clear hS; try clear tm H
  intro v7 tm H hS
  refine o_pure hS (.inl rfl) rfl rfl ?_; clear hS; try clear tm
  intro tm hS
  replace hS := hS.litFrz (k := 0) rfl
  obtain ⟨r2, hx2, h0⟩ := bindS h0
  refine o_call hS (.inl rfl) rfl (fun wm' hw1 hw2 => wk27  ([(b1.length : Int)]) b1  v7 v2 (((hS.sel hw2).ad 6 rfl).ad 0 rfl) hx2) (fun wm' res H hw' hp => ?_)
  obtain ⟨v8, v9, hres, hI⟩ := hp
  replace hres := hres.symm; subst hres
  replace hS : S wm 107 _ H ((41, .agg #[.bool r2.Char, v8, v9]) :: _) ([.fz (rI .i64) v8 r2.Shape, .fz (rI .i64) v9 r2.Data] ++ _) Fr := hS.after rfl hw' hI
  clear hI hw'
  refine o_alloc hS (.inl rfl) rfl Fz27 (by decide) ?_; clear hS; try clear tm H
  intro b3 tm H hS
  refine o_st (k := 0) hS (.inl rfl) rfl rfl rfl Fs27 rfl rfl (all_cons rfl (all_cons (hS.one (k := 1) rfl (.inl rfl)) (all_cons (hS.one (k := 2) rfl (.inl rfl)) all_nil))) rfl ?_; clear hS; try clear H
  intro H hS
  refine o_nil (hR _ _ ?_)
  clear hR R
  refine c_reg fun R hR => ?_
  refine o_pure hS (.inl rfl) rfl rfl ?_; clear hS; try clear tm
  intro tm hS
  refine o_len (k := 10) (r := (rI .i64)) hS (.inl rfl) rfl rfl rfl (.inl rfl) Fu23 rfl ?_; clear hS; try clear tm
  intro tm hS
  refine o_lit (r := (rI .i64)) (l := [(c1.length : Int)]) hS (.inl rfl) rfl Fl22 rfl rfl rfl (.cons rfl .nil) rfl rfl (ri_1 (rd_flat fun _ => rfl) ri_nil) rfl ?_; clear hS; try clear tm H
  intro v10 tm H hS
  refine o_pure hS (.inl rfl) rfl rfl ?_; clear hS; try clear tm
  intro tm hS
  replace hS := hS.litFrz (k := 0) rfl
  obtain ⟨r3, hx3, h0⟩ := bindS h0
  refine o_call hS (.inl rfl) rfl (fun wm' hw1 hw2 => wk27  ([(c1.length : Int)]) c1  v10 v3 (((hS.sel hw2).ad 11 rfl).ad 0 rfl) hx3) (fun wm' res H hw' hp => ?_)
  obtain ⟨v11, v12, hres, hI⟩ := hp
  replace hres := hres.symm; subst hres
  replace hS : S wm 107 _ H ((46, .agg #[.bool r3.Char, v11, v12]) :: _) ([.fz (rI .i64) v11 r3.Shape, .fz (rI .i64) v12 r3.Data] ++ _) Fr := hS.after rfl hw' hI
  clear hI hw'
  refine o_alloc hS (.inl rfl) rfl Fz27 (by decide) ?_; clear hS; try clear tm H
  intro b4 tm H hS
  refine o_st (k := 0) hS (.inl rfl) rfl rfl rfl Fs27 rfl rfl (all_cons rfl (all_cons (hS.one (k := 1) rfl (.inl rfl)) (all_cons (hS.one (k := 2) rfl (.inl rfl)) all_nil))) rfl ?_; clear hS; try clear H
  intro H hS
  refine o_nil (hR _ _ ?_)
  clear hR R
  refine c_reg fun R hR => ?_
  refine o_ldA (k := 8) hS (.inl rfl) rfl rfl rfl (.inl rfl) Fu27 rfl Fs27 rfl ?_; clear hS; try clear tm
  intro tm hS
  refine o_ldA (k := 4) hS (.inl rfl) rfl rfl rfl (.inl rfl) Fu27 rfl Fs27 rfl ?_; clear hS; try clear tm
  intro tm hS
  obtain ⟨⟨r4, r5⟩, hx4, h0⟩ := bindS h0
  refine o_call hS (.inl rfl) rfl (fun wm' hw1 hw2 => wk23  r1 r2 0  v5 v6 v8 v9 (((((hS.sel hw2).ad 6 rfl).ad 5 rfl).ad 10 rfl).ad 9 rfl) hx4) (fun wm' res H hw' hp => ?_)
  obtain ⟨v13, v14, hres, hI⟩ := hp
  replace hres := hres.symm; subst hres
  replace hS : S wm 107 _ H ((50, .tuple #[.agg #[.bool r4.Char, v13, v14], .int .i64 r5]) :: _) ([.own (rI .i64) v13 r4.Shape, .own (rI .i64) v14 r4.Data] ++ _) Fr := hS.after rfl hw' hI
  clear hI hw'
  refine o_pure hS (.inl rfl) rfl rfl ?_; clear hS; try clear tm
  intro tm hS
  refine o_pure hS (.inl rfl) rfl rfl ?_; clear hS; try clear tm
  intro tm hS
  refine o_pure hS (.inl rfl) rfl rfl ?_; clear hS; try clear tm
  intro tm hS
  refine o_alloc hS (.inl rfl) rfl Fz27 (by decide) ?_; clear hS; try clear tm H
  intro b5 tm H hS
  refine o_st (k := 0) hS (.inl rfl) rfl rfl rfl Fs27 rfl rfl (all_cons rfl (all_cons (hS.one (k := 1) rfl (.inr (.inl rfl))) (all_cons (hS.one (k := 2) rfl (.inr (.inl rfl))) all_nil))) rfl ?_; clear hS; try clear H
  intro H hS
  refine o_pure hS (.inl rfl) rfl rfl ?_; clear hS; try clear tm
  intro tm hS
  refine o_nil (hR _ _ ?_)
  clear hR R
  refine c_reg fun R hR => ?_
  refine o_ldA (k := 0) hS (.inl rfl) rfl rfl rfl (.inl rfl) Fu27 rfl Fs27 rfl ?_; clear hS; try clear tm
  intro tm hS
  refine o_ldA (k := 3) hS (.inl rfl) rfl rfl rfl (.inl rfl) Fu27 rfl Fs27 rfl ?_; clear hS; try clear tm
  intro tm hS
  obtain ⟨⟨r6, r7⟩, hx5, h0⟩ := bindS h0
  refine o_call (Pc := fun _ res H => ∃ v15 v16, res = .tuple #[.agg #[.bool r6.Char, v15, v16], .int .i64 r7] ∧ Kn wm H ([.own (rI .i64) v15 r6.Shape, .own (rI .i64) v16 r6.Data] ++ [.box b5 [.bool r4.Char, v13, v14], .own (rI .i64) v13 r4.Shape, .own (rI .i64) v14 r4.Data, .box b4 [.bool r3.Char, v11, v12], .fz (rI .i64) v11 r3.Shape, .fz (rI .i64) v12 r3.Data, .fz (rI .i64) v10 ([(c1.length : Int)]), .box b3 [.bool r2.Char, v8, v9], .fz (rI .i64) v8 r2.Shape, .fz (rI .i64) v9 r2.Data, .fz (rI .i64) v7 ([(b1.length : Int)]), .box b2 [.bool r1.Char, v5, v6], .fz (rI .i64) v5 r1.Shape, .fz (rI .i64) v6 r1.Data, .fz (rI .i64) v4 ([(a1.length : Int)]), .fz (rI .i64) v1 a1, .fz (rI .i64) v2 b1, .fz (rI .i64) v3 c1]) Fr) hS (.inl rfl) rfl (fun wm' hw1 hw2 => by
   obtain ⟨F2, k1, k2⟩ := hS.inv.lendR (La := [.fz (rI .i64) v13 r4.Shape, .fz (rI .i64) v14 r4.Data, .fz (rI .i64) v11 r3.Shape, .fz (rI .i64) v12 r3.Data]) (List.forall_mem_cons.mpr ⟨(.inr ⟨_, _, _, _, rfl, .inl (List.mem_of_getElem? (i := 1) rfl)⟩), (List.forall_mem_cons.mpr ⟨(.inr ⟨_, _, _, _, rfl, .inl (List.mem_of_getElem? (i := 2) rfl)⟩), (List.forall_mem_cons.mpr ⟨(.inl ⟨rfl, List.mem_of_getElem? (i := 4) rfl⟩), (List.forall_mem_cons.mpr ⟨(.inl ⟨rfl, List.mem_of_getElem? (i := 5) rfl⟩), (fun _ h => by cases h)⟩)⟩)⟩)⟩) hw1 hw2
   exact (wk23  r4 r3 (-1)  v13 v14 v11 v12 k1 hx5).mono fun res H2 ⟨v15, v16, q1, q2⟩ => ⟨v15, v16, q1, k2 _ _ (List.forall_mem_cons.mpr ⟨⟨_, _, _, _, rfl, fun _ _ _ _ h => h⟩, (List.forall_mem_cons.mpr ⟨⟨_, _, _, _, rfl, fun _ _ _ _ h => h⟩, (fun _ h => by cases h)⟩)⟩) q2⟩) (fun wm' res H hw' hp => ?_)
  obtain ⟨v15, v16, hres, hI⟩ := hp
  replace hres := hres.symm; subst hres
  replace hS : S wm 107 _ H ((56, .tuple #[.agg #[.bool r6.Char, v15, v16], .int .i64 r7]) :: _) ([.own (rI .i64) v15 r6.Shape, .own (rI .i64) v16 r6.Data] ++ [.box b5 [.bool r4.Char, v13, v14], .own (rI .i64) v13 r4.Shape, .own (rI .i64) v14 r4.Data, .box b4 [.bool r3.Char, v11, v12], .fz (rI .i64) v11 r3.Shape, .fz (rI .i64) v12 r3.Data, .fz (rI .i64) v10 ([(c1.length : Int)]), .box b3 [.bool r2.Char, v8, v9], .fz (rI .i64) v8 r2.Shape, .fz (rI .i64) v9 r2.Data, .fz (rI .i64) v7 ([(b1.length : Int)]), .box b2 [.bool r1.Char, v5, v6], .fz (rI .i64) v5 r1.Shape, .fz (rI .i64) v6 r1.Data, .fz (rI .i64) v4 ([(a1.length : Int)]), .fz (rI .i64) v1 a1, .fz (rI .i64) v2 b1, .fz (rI .i64) v3 c1]) Fr := (hS.put rfl _).withK hI
  clear hI hw'
  refine o_pure hS (.inl rfl) rfl rfl ?_; clear hS; try clear tm
  intro tm hS
  refine o_pure hS (.inl rfl) rfl rfl ?_; clear hS; try clear tm
  intro tm hS
  refine o_pure hS (.inl rfl) rfl rfl ?_; clear hS; try clear tm
  intro tm hS
  refine o_alloc hS (.inl rfl) rfl Fz27 (by decide) ?_; clear hS; try clear tm H
  intro b6 tm H hS
  refine o_st (k := 0) hS (.inl rfl) rfl rfl rfl Fs27 rfl rfl (all_cons rfl (all_cons (hS.one (k := 1) rfl (.inr (.inl rfl))) (all_cons (hS.one (k := 2) rfl (.inr (.inl rfl))) all_nil))) rfl ?_; clear hS; try clear H
  intro H hS
  refine o_pure hS (.inl rfl) rfl rfl ?_; clear hS; try clear tm
  intro tm hS
  refine o_nil (hR _ _ ?_)
  clear hR R
  refine c_reg fun R hR => ?_
  refine o_ldA (k := 10) hS (.inl rfl) rfl rfl rfl (.inl rfl) Fu27 rfl Fs27 rfl ?_; clear hS; try clear tm
  intro tm hS
  refine o_ldA (k := 6) hS (.inl rfl) rfl rfl rfl (.inl rfl) Fu27 rfl Fs27 rfl ?_; clear hS; try clear tm
  intro tm hS
  obtain ⟨⟨r8, r9⟩, hx6, h0⟩ := bindS h0
  refine o_call hS (.inl rfl) rfl (fun wm' hw1 hw2 => wk23  r2 r3 (-1)  v8 v9 v11 v12 (((((hS.sel hw2).ad 8 rfl).ad 7 rfl).ad 12 rfl).ad 11 rfl) hx6) (fun wm' res H hw' hp => ?_)
  obtain ⟨v17, v18, hres, hI⟩ := hp
  replace hres := hres.symm; subst hres
  replace hS : S wm 107 _ H ((62, .tuple #[.agg #[.bool r8.Char, v17, v18], .int .i64 r9]) :: _) ([.own (rI .i64) v17 r8.Shape, .own (rI .i64) v18 r8.Data] ++ _) Fr := hS.after rfl hw' hI
  clear hI hw'
  refine o_pure hS (.inl rfl) rfl rfl ?_; clear hS; try clear tm
  intro tm hS
  refine o_pure hS (.inl rfl) rfl rfl ?_; clear hS; try clear tm
  intro tm hS
  refine o_pure hS (.inl rfl) rfl rfl ?_; clear hS; try clear tm
  intro tm hS
  refine o_alloc hS (.inl rfl) rfl Fz27 (by decide) ?_; clear hS; try clear tm H
  intro b7 tm H hS
  refine o_st (k := 0) hS (.inl rfl) rfl rfl rfl Fs27 rfl rfl (all_cons rfl (all_cons (hS.one (k := 1) rfl (.inr (.inl rfl))) (all_cons (hS.one (k := 2) rfl (.inr (.inl rfl))) all_nil))) rfl ?_; clear hS; try clear H
  intro H hS
  refine o_pure hS (.inl rfl) rfl rfl ?_; clear hS; try clear tm
  intro tm hS
  refine o_nil (hR _ _ ?_)
  clear hR R
  refine c_reg fun R hR => ?_
  refine o_ldA (k := 17) hS (.inl rfl) rfl rfl rfl (.inl rfl) Fu27 rfl Fs27 rfl ?_; clear hS; try clear tm
  intro tm hS
  refine o_ldA (k := 0) hS (.inl rfl) rfl rfl rfl (.inl rfl) Fu27 rfl Fs27 rfl ?_; clear hS; try clear tm
  intro tm hS
  obtain ⟨⟨r10, r11⟩, hx7, h0⟩ := bindS h0
  refine o_call (Pc := fun _ res H => ∃ v19 v20, res = .tuple #[.agg #[.bool r10.Char, v19, v20], .int .i64 r11] ∧ Kn wm H ([.own (rI .i64) v19 r10.Shape, .own (rI .i64) v20 r10.Data] ++ [.box b7 [.bool r8.Char, v17, v18], .own (rI .i64) v17 r8.Shape, .own (rI .i64) v18 r8.Data, .box b6 [.bool r6.Char, v15, v16], .own (rI .i64) v15 r6.Shape, .own (rI .i64) v16 r6.Data, .box b5 [.bool r4.Char, v13, v14], .own (rI .i64) v13 r4.Shape, .own (rI .i64) v14 r4.Data, .box b4 [.bool r3.Char, v11, v12], .fz (rI .i64) v11 r3.Shape, .fz (rI .i64) v12 r3.Data, .fz (rI .i64) v10 ([(c1.length : Int)]), .box b3 [.bool r2.Char, v8, v9], .fz (rI .i64) v8 r2.Shape, .fz (rI .i64) v9 r2.Data, .fz (rI .i64) v7 ([(b1.length : Int)]), .box b2 [.bool r1.Char, v5, v6], .fz (rI .i64) v5 r1.Shape, .fz (rI .i64) v6 r1.Data, .fz (rI .i64) v4 ([(a1.length : Int)]), .fz (rI .i64) v1 a1, .fz (rI .i64) v2 b1, .fz (rI .i64) v3 c1]) Fr) hS (.inl rfl) rfl (fun wm' hw1 hw2 => by
   obtain ⟨F2, k1, k2⟩ := hS.inv.lendR (La := [.fz (rI .i64) v5 r1.Shape, .fz (rI .i64) v6 r1.Data, .fz (rI .i64) v17 r8.Shape, .fz (rI .i64) v18 r8.Data]) (List.forall_mem_cons.mpr ⟨(.inl ⟨rfl, List.mem_of_getElem? (i := 18) rfl⟩), (List.forall_mem_cons.mpr ⟨(.inl ⟨rfl, List.mem_of_getElem? (i := 19) rfl⟩), (List.forall_mem_cons.mpr ⟨(.inr ⟨_, _, _, _, rfl, .inl (List.mem_of_getElem? (i := 1) rfl)⟩), (List.forall_mem_cons.mpr ⟨(.inr ⟨_, _, _, _, rfl, .inl (List.mem_of_getElem? (i := 2) rfl)⟩), (fun _ h => by cases h)⟩)⟩)⟩)⟩) hw1 hw2
   exact (wk23  r1 r8 0  v5 v6 v17 v18 k1 hx7).mono fun res H2 ⟨v19, v20, q1, q2⟩ => ⟨v19, v20, q1, k2 _ _ (List.forall_mem_cons.mpr ⟨⟨_, _, _, _, rfl, fun _ _ _ _ h => h⟩, (List.forall_mem_cons.mpr ⟨⟨_, _, _, _, rfl, fun _ _ _ _ h => h⟩, (fun _ h => by cases h)⟩)⟩) q2⟩) (fun wm' res H hw' hp => ?_)
  obtain ⟨v19, v20, hres, hI⟩ := hp
  replace hres := hres.symm; subst hres
  replace hS : S wm 107 _ H ((68, .tuple #[.agg #[.bool r10.Char, v19, v20], .int .i64 r11]) :: _) ([.own (rI .i64) v19 r10.Shape, .own (rI .i64) v20 r10.Data] ++ [.box b7 [.bool r8.Char, v17, v18], .own (rI .i64) v17 r8.Shape, .own (rI .i64) v18 r8.Data, .box b6 [.bool r6.Char, v15, v16], .own (rI .i64) v15 r6.Shape, .own (rI .i64) v16 r6.Data, .box b5 [.bool r4.Char, v13, v14], .own (rI .i64) v13 r4.Shape, .own (rI .i64) v14 r4.Data, .box b4 [.bool r3.Char, v11, v12], .fz (rI .i64) v11 r3.Shape, .fz (rI .i64) v12 r3.Data, .fz (rI .i64) v10 ([(c1.length : Int)]), .box b3 [.bool r2.Char, v8, v9], .fz (rI .i64) v8 r2.Shape, .fz (rI .i64) v9 r2.Data, .fz (rI .i64) v7 ([(b1.length : Int)]), .box b2 [.bool r1.Char, v5, v6], .fz (rI .i64) v5 r1.Shape, .fz (rI .i64) v6 r1.Data, .fz (rI .i64) v4 ([(a1.length : Int)]), .fz (rI .i64) v1 a1, .fz (rI .i64) v2 b1, .fz (rI .i64) v3 c1]) Fr := (hS.put rfl _).withK hI
  clear hI hw'
  refine o_pure hS (.inl rfl) rfl rfl ?_; clear hS; try clear tm
  intro tm hS
  refine o_pure hS (.inl rfl) rfl rfl ?_; clear hS; try clear tm
  intro tm hS
  refine o_pure hS (.inl rfl) rfl rfl ?_; clear hS; try clear tm
  intro tm hS
  refine o_alloc hS (.inl rfl) rfl Fz27 (by decide) ?_; clear hS; try clear tm H
  intro b8 tm H hS
  refine o_st (k := 0) hS (.inl rfl) rfl rfl rfl Fs27 rfl rfl (all_cons rfl (all_cons (hS.one (k := 1) rfl (.inr (.inl rfl))) (all_cons (hS.one (k := 2) rfl (.inr (.inl rfl))) all_nil))) rfl ?_; clear hS; try clear H
  intro H hS
  refine o_pure hS (.inl rfl) rfl rfl ?_; clear hS; try clear tm
  intro tm hS
  refine o_nil (hR _ _ ?_)
  clear hR R
  refine c_reg fun R hR => ?_
  refine o_pure hS (.inl rfl) rfl rfl ?_; clear hS; try clear tm
  intro tm hS
  refine o_pure hS (.inl rfl) rfl rfl ?_; clear hS; try clear tm
  intro tm hS
  refine o_pure hS (.inl rfl) rfl rfl ?_; clear hS; try clear tm
  intro tm hS
  obtain ⟨c4, hc3⟩ : ∃ x : Bool, x = ((r5 == 0) && (r7 == 0)) := ⟨_, rfl⟩
  refine o_cutN 3 (J := fun tm H => S wm 107 tm H [(76, .bool c4), (0, v1), (1, v2), (2, v3), (12, .pointer (some ⟨b6, 0, none⟩)), (15, .int .i64 r9), (16, .pointer (some ⟨b8, 0, none⟩)), (17, .int .i64 r11)] [.box b8 [.bool r10.Char, v19, v20], .own (rI .i64) v19 r10.Shape, .own (rI .i64) v20 r10.Data, .box b6 [.bool r6.Char, v15, v16], .own (rI .i64) v15 r6.Shape, .own (rI .i64) v16 r6.Data, .fz (rI .i64) v1 a1, .fz (rI .i64) v2 b1, .fz (rI .i64) v3 c1] Fr) ?_ ?_
  ·rcases Bool.eq_false_or_eq_true (r5 == 0) with hg3 | hg3
   ·refine o_pure hS (.inr ⟨_, _, _, _, rfl, rfl, rfl, hg3⟩) rfl rfl ?_; clear hS; try clear tm
    intro tm hS
    refine o_pure hS (.inr ⟨_, _, _, _, rfl, rfl, rfl, hg3⟩) rfl rfl ?_; clear hS; try clear tm
    intro tm hS
    refine o_pickT hS (.inl rfl) rfl rfl hg3 rfl ?_; clear hS; try clear tm
    intro tm hS
    have hc3 : c4 = (r7 == 0) := hc3.trans (by rw [hg3]; first | rfl | simp)
    subst hc3
    exact o_nil (hS.keep (ka_cons rfl (ka_cons rfl (ka_cons rfl (ka_cons rfl (ka_cons rfl (ka_cons rfl (ka_cons rfl (ka_cons rfl ka_nil)))))))) (fun hI => (hI.sub (sc (sc (sc (sd (sd (sd (sc (sc (sc (sd (sd (sd (sd (sd (sd (sd (sd (sd (sd (sd (sd (sd (sd (sd (sc (sc (sc sn))))))))))))))))))))))))))))))
   ·refine o_skip hS rfl rfl rfl hg3 ?_; clear hS; try clear tm
    intro tm hS
    refine o_skip hS rfl rfl rfl hg3 ?_; clear hS; try clear tm
    intro tm hS
    refine o_pickF hS (.inl rfl) rfl rfl hg3 rfl ?_; clear hS; try clear tm
    intro tm hS
    have hc3 : c4 = false := hc3.trans (by rw [hg3]; first | rfl | simp)
    subst hc3
    exact o_nil (hS.keep (ka_cons rfl (ka_cons rfl (ka_cons rfl (ka_cons rfl (ka_cons rfl (ka_cons rfl (ka_cons rfl (ka_cons rfl ka_nil)))))))) (fun hI => (hI.sub (sc (sc (sc (sd (sd (sd (sc (sc (sc (sd (sd (sd (sd (sd (sd (sd (sd (sd (sd (sd (sd (sd (sd (sd (sc (sc (sc sn))))))))))))))))))))))))))))))
  intro tm H hS
  subst hc3
  refine o_pure hS (.inl rfl) rfl rfl ?_; clear hS; try clear tm
  intro tm hS
  obtain ⟨c5, hc4⟩ : ∃ x : Bool, x = (((r5 == 0) && (r7 == 0)) && (r9 == 0)) := ⟨_, rfl⟩
  refine o_cutN 3 (J := fun tm H => S wm 107 tm H [(80, .bool c5), (0, v1), (1, v2), (2, v3), (12, .pointer (some ⟨b6, 0, none⟩)), (16, .pointer (some ⟨b8, 0, none⟩)), (17, .int .i64 r11)] [.box b8 [.bool r10.Char, v19, v20], .own (rI .i64) v19 r10.Shape, .own (rI .i64) v20 r10.Data, .box b6 [.bool r6.Char, v15, v16], .own (rI .i64) v15 r6.Shape, .own (rI .i64) v16 r6.Data, .fz (rI .i64) v1 a1, .fz (rI .i64) v2 b1, .fz (rI .i64) v3 c1] Fr) ?_ ?_
  ·rcases Bool.eq_false_or_eq_true ((r5 == 0) && (r7 == 0)) with hg4 | hg4
   ·refine o_pure hS (.inr ⟨_, _, _, _, rfl, rfl, rfl, hg4⟩) rfl rfl ?_; clear hS; try clear tm
    intro tm hS
    refine o_pure hS (.inr ⟨_, _, _, _, rfl, rfl, rfl, hg4⟩) rfl rfl ?_; clear hS; try clear tm
    intro tm hS
    refine o_pickT hS (.inl rfl) rfl rfl hg4 rfl ?_; clear hS; try clear tm
    intro tm hS
    have hc4 : c5 = (r9 == 0) := hc4.trans (by rw [hg4]; first | rfl | simp)
    subst hc4
    exact o_nil (hS.keep (ka_cons rfl (ka_cons rfl (ka_cons rfl (ka_cons rfl (ka_cons rfl (ka_cons rfl (ka_cons rfl ka_nil))))))) (fun hI => (hI.sub (sc (sc (sc (sc (sc (sc (sc (sc (sc sn))))))))))))
   ·refine o_skip hS rfl rfl rfl hg4 ?_; clear hS; try clear tm
    intro tm hS
    refine o_skip hS rfl rfl rfl hg4 ?_; clear hS; try clear tm
    intro tm hS
    refine o_pickF hS (.inl rfl) rfl rfl hg4 rfl ?_; clear hS; try clear tm
    intro tm hS
    have hc4 : c5 = false := hc4.trans (by rw [hg4]; first | rfl | simp)
    subst hc4
    exact o_nil (hS.keep (ka_cons rfl (ka_cons rfl (ka_cons rfl (ka_cons rfl (ka_cons rfl (ka_cons rfl (ka_cons rfl ka_nil))))))) (fun hI => (hI.sub (sc (sc (sc (sc (sc (sc (sc (sc (sc sn))))))))))))
  intro tm H hS
  subst hc4
  refine o_pure hS (.inl rfl) rfl rfl ?_; clear hS; try clear tm
  intro tm hS
  obtain ⟨c6, hc5⟩ : ∃ x : Bool, x = ((((r5 == 0) && (r7 == 0)) && (r9 == 0)) && (r11 == 0)) := ⟨_, rfl⟩
  refine o_cutN 3 (J := fun tm H => S wm 107 tm H [(84, .bool c6), (0, v1), (1, v2), (2, v3), (12, .pointer (some ⟨b6, 0, none⟩)), (16, .pointer (some ⟨b8, 0, none⟩))] [.box b8 [.bool r10.Char, v19, v20], .own (rI .i64) v19 r10.Shape, .own (rI .i64) v20 r10.Data, .box b6 [.bool r6.Char, v15, v16], .own (rI .i64) v15 r6.Shape, .own (rI .i64) v16 r6.Data, .fz (rI .i64) v1 a1, .fz (rI .i64) v2 b1, .fz (rI .i64) v3 c1] Fr) ?_ ?_
  ·rcases Bool.eq_false_or_eq_true (((r5 == 0) && (r7 == 0)) && (r9 == 0)) with hg5 | hg5
   ·refine o_pure hS (.inr ⟨_, _, _, _, rfl, rfl, rfl, hg5⟩) rfl rfl ?_; clear hS; try clear tm
    intro tm hS
    refine o_pure hS (.inr ⟨_, _, _, _, rfl, rfl, rfl, hg5⟩) rfl rfl ?_; clear hS; try clear tm
    intro tm hS
    refine o_pickT hS (.inl rfl) rfl rfl hg5 rfl ?_; clear hS; try clear tm
    intro tm hS
    have hc5 : c6 = (r11 == 0) := hc5.trans (by rw [hg5]; first | rfl | simp)
    subst hc5
    exact o_nil (hS.keep (ka_cons rfl (ka_cons rfl (ka_cons rfl (ka_cons rfl (ka_cons rfl (ka_cons rfl ka_nil)))))) (fun hI => (hI.sub (sc (sc (sc (sc (sc (sc (sc (sc (sc sn))))))))))))
   ·refine o_skip hS rfl rfl rfl hg5 ?_; clear hS; try clear tm
    intro tm hS
    refine o_skip hS rfl rfl rfl hg5 ?_; clear hS; try clear tm
    intro tm hS
    refine o_pickF hS (.inl rfl) rfl rfl hg5 rfl ?_; clear hS; try clear tm
    intro tm hS
    have hc5 : c6 = false := hc5.trans (by rw [hg5]; first | rfl | simp)
    subst hc5
    exact o_nil (hS.keep (ka_cons rfl (ka_cons rfl (ka_cons rfl (ka_cons rfl (ka_cons rfl (ka_cons rfl ka_nil)))))) (fun hI => (hI.sub (sc (sc (sc (sc (sc (sc (sc (sc (sc sn))))))))))))
  intro tm H hS
  subst hc5
  refine o_pure hS (.inl rfl) rfl rfl ?_; clear hS; try clear tm
  intro tm hS
  obtain ⟨c7, hc6, h0⟩ := bindS h0
  refine o_cutN 4 (J := fun tm H => S wm 107 tm H [(89, .bool c7), (0, v1), (1, v2), (2, v3), (12, .pointer (some ⟨b6, 0, none⟩))] [.box b6 [.bool r6.Char, v15, v16], .own (rI .i64) v15 r6.Shape, .own (rI .i64) v16 r6.Data, .fz (rI .i64) v1 a1, .fz (rI .i64) v2 b1, .fz (rI .i64) v3 c1] Fr) ?_ ?_
  ·rcases Bool.eq_false_or_eq_true ((((r5 == 0) && (r7 == 0)) && (r9 == 0)) && (r11 == 0)) with hg6 | hg6
   ·replace hc6 := iteT hg6 hc6
    refine o_ldA (k := 3) hS (.inr ⟨_, _, _, _, rfl, rfl, rfl, hg6⟩) rfl rfl rfl (.inl rfl) Fu27 rfl Fs27 rfl ?_; clear hS; try clear tm
    intro tm hS
    refine o_ldA (k := 0) hS (.inr ⟨_, _, _, _, rfl, rfl, rfl, hg6⟩) rfl rfl rfl (.inl rfl) Fu27 rfl Fs27 rfl ?_; clear hS; try clear tm
    intro tm hS
    obtain ⟨r12, hx8, hc6⟩ := bindS hc6
    refine o_call (Pc := fun _ res H => res = .bool r12 ∧ Kn wm H ([.box b8 [.bool r10.Char, v19, v20], .own (rI .i64) v19 r10.Shape, .own (rI .i64) v20 r10.Data, .box b6 [.bool r6.Char, v15, v16], .own (rI .i64) v15 r6.Shape, .own (rI .i64) v16 r6.Data, .fz (rI .i64) v1 a1, .fz (rI .i64) v2 b1, .fz (rI .i64) v3 c1]) Fr) hS (.inr ⟨_, _, _, _, rfl, rfl, rfl, hg6⟩) rfl (fun wm' hw1 hw2 => by
     obtain ⟨F2, k1, k2⟩ := hS.inv.lend (La := [.fz (rI .i64) v15 r6.Shape, .fz (rI .i64) v16 r6.Data, .fz (rI .i64) v19 r10.Shape, .fz (rI .i64) v20 r10.Data]) (List.forall_mem_cons.mpr ⟨(.inr ⟨_, _, _, _, rfl, .inl (List.mem_of_getElem? (i := 4) rfl)⟩), (List.forall_mem_cons.mpr ⟨(.inr ⟨_, _, _, _, rfl, .inl (List.mem_of_getElem? (i := 5) rfl)⟩), (List.forall_mem_cons.mpr ⟨(.inr ⟨_, _, _, _, rfl, .inl (List.mem_of_getElem? (i := 1) rfl)⟩), (List.forall_mem_cons.mpr ⟨(.inr ⟨_, _, _, _, rfl, .inl (List.mem_of_getElem? (i := 2) rfl)⟩), (fun _ h => by cases h)⟩)⟩)⟩)⟩) hw1 hw2
     exact (wk26  r6 r10  v15 v16 v19 v20 k1 hx8).mono fun res H2 ⟨q1, q2⟩ => ⟨q1, k2 _ q2⟩) (fun wm' res H hw' hp => ?_)
    obtain ⟨hres, hI⟩ := hp
    replace hres := hres.symm; subst hres
    replace hS : S wm 107 _ H ((88, .bool r12) :: _) ([.box b8 [.bool r10.Char, v19, v20], .own (rI .i64) v19 r10.Shape, .own (rI .i64) v20 r10.Data, .box b6 [.bool r6.Char, v15, v16], .own (rI .i64) v15 r6.Shape, .own (rI .i64) v16 r6.Data, .fz (rI .i64) v1 a1, .fz (rI .i64) v2 b1, .fz (rI .i64) v3 c1]) Fr := (hS.put rfl _).withK hI
    clear hI hw'
    refine o_pickT hS (.inl rfl) rfl rfl hg6 rfl ?_; clear hS; try clear tm
    intro tm hS
    obtain rfl := Option.some.inj hc6
    exact o_nil (hS.keep (ka_cons rfl (ka_cons rfl (ka_cons rfl (ka_cons rfl (ka_cons rfl ka_nil))))) (fun hI => (hI.sub (sd (sd (sd (sc (sc (sc (sc (sc (sc sn))))))))))))
   ·replace hc6 := iteF hg6 hc6
    refine o_skip hS rfl rfl rfl hg6 ?_; clear hS; try clear tm
    intro tm hS
    refine o_skip hS rfl rfl rfl hg6 ?_; clear hS; try clear tm
    intro tm hS
    refine o_skip hS rfl rfl rfl hg6 ?_; clear hS; try clear tm
    intro tm hS
    refine o_pickF hS (.inl rfl) rfl rfl hg6 rfl ?_; clear hS; try clear tm
    intro tm hS
    obtain rfl := Option.some.inj hc6
    exact o_nil (hS.keep (ka_cons rfl (ka_cons rfl (ka_cons rfl (ka_cons rfl (ka_cons rfl ka_nil))))) (fun hI => (hI.sub (sd (sd (sd (sc (sc (sc (sc (sc (sc sn))))))))))))
  intro tm H hS
  refine o_pure hS (.inl rfl) rfl rfl ?_; clear hS; try clear tm
  intro tm hS
  obtain ⟨c8, hc7⟩ : ∃ x : Bool, x = (c7 && ((r6.Data.length : Int) == (IntKind.i64.wrap ((IntKind.i64.wrap ((a1.length : Int) + (b1.length : Int))) + (c1.length : Int))))) := ⟨_, rfl⟩
  refine o_cutN 13 (J := fun tm H => S wm 107 tm H [(103, .bool c8)] [] Fr) ?_ ?_
  ·rcases Bool.eq_false_or_eq_true c7 with hg7 | hg7
   ·refine o_pure hS (.inr ⟨_, _, _, _, rfl, rfl, rfl, hg7⟩) rfl rfl ?_; clear hS; try clear tm
    intro tm hS
    refine o_ld1 (k := 0) hS (.inr ⟨_, _, _, _, rfl, rfl, rfl, hg7⟩) rfl rfl rfl (.inl rfl) Fu23 rfl rfl ?_; clear hS; try clear tm
    intro tm hS
    refine o_len (k := 2) (r := (rI .i64)) hS (.inr ⟨_, _, _, _, rfl, rfl, rfl, hg7⟩) rfl rfl rfl (.inr (.inl rfl)) Fu23 rfl ?_; clear hS; try clear tm
    intro tm hS
    refine o_pure hS (.inr ⟨_, _, _, _, rfl, rfl, rfl, hg7⟩) rfl rfl ?_; clear hS; try clear tm
    intro tm hS
    refine o_len (k := 3) (r := (rI .i64)) hS (.inr ⟨_, _, _, _, rfl, rfl, rfl, hg7⟩) rfl rfl rfl (.inl rfl) Fu23 rfl ?_; clear hS; try clear tm
    intro tm hS
    refine o_pure hS (.inr ⟨_, _, _, _, rfl, rfl, rfl, hg7⟩) rfl rfl ?_; clear hS; try clear tm
    intro tm hS
    refine o_len (k := 4) (r := (rI .i64)) hS (.inr ⟨_, _, _, _, rfl, rfl, rfl, hg7⟩) rfl rfl rfl (.inl rfl) Fu23 rfl ?_; clear hS; try clear tm
    intro tm hS
    refine o_pure hS (.inr ⟨_, _, _, _, rfl, rfl, rfl, hg7⟩) rfl rfl ?_; clear hS; try clear tm
    intro tm hS
    refine o_pure hS (.inr ⟨_, _, _, _, rfl, rfl, rfl, hg7⟩) rfl rfl ?_; clear hS; try clear tm
    intro tm hS
    refine o_len (k := 5) (r := (rI .i64)) hS (.inr ⟨_, _, _, _, rfl, rfl, rfl, hg7⟩) rfl rfl rfl (.inl rfl) Fu23 rfl ?_; clear hS; try clear tm
    intro tm hS
    refine o_pure hS (.inr ⟨_, _, _, _, rfl, rfl, rfl, hg7⟩) rfl rfl ?_; clear hS; try clear tm
    intro tm hS
    refine o_pure hS (.inr ⟨_, _, _, _, rfl, rfl, rfl, hg7⟩) rfl rfl ?_; clear hS; try clear tm
    intro tm hS
    refine o_pickT hS (.inl rfl) rfl rfl hg7 rfl ?_; clear hS; try clear tm
    intro tm hS
    have hc7 : c8 = ((r6.Data.length : Int) == (IntKind.i64.wrap ((IntKind.i64.wrap ((a1.length : Int) + (b1.length : Int))) + (c1.length : Int)))) := hc7.trans (by rw [hg7]; first | rfl | simp)
    subst hc7
    exact o_nil (hS.keep (ka_cons rfl ka_nil) (fun hI => (hI.sub sn)))
   ·refine o_skip hS rfl rfl rfl hg7 ?_; clear hS; try clear tm
    intro tm hS
    refine o_skip hS rfl rfl rfl hg7 ?_; clear hS; try clear tm
    intro tm hS
    refine o_skip hS rfl rfl rfl hg7 ?_; clear hS; try clear tm
    intro tm hS
    refine o_skip hS rfl rfl rfl hg7 ?_; clear hS; try clear tm
    intro tm hS
    refine o_skip hS rfl rfl rfl hg7 ?_; clear hS; try clear tm
    intro tm hS
    refine o_skip hS rfl rfl rfl hg7 ?_; clear hS; try clear tm
    intro tm hS
    refine o_skip hS rfl rfl rfl hg7 ?_; clear hS; try clear tm
    intro tm hS
    refine o_skip hS rfl rfl rfl hg7 ?_; clear hS; try clear tm
    intro tm hS
    refine o_skip hS rfl rfl rfl hg7 ?_; clear hS; try clear tm
    intro tm hS
    refine o_skip hS rfl rfl rfl hg7 ?_; clear hS; try clear tm
    intro tm hS
    refine o_skip hS rfl rfl rfl hg7 ?_; clear hS; try clear tm
    intro tm hS
    refine o_skip hS rfl rfl rfl hg7 ?_; clear hS; try clear tm
    intro tm hS
    refine o_pickF hS (.inl rfl) rfl rfl hg7 rfl ?_; clear hS; try clear tm
    intro tm hS
    have hc7 : c8 = false := hc7.trans (by rw [hg7]; first | rfl | simp)
    subst hc7
    exact o_nil (hS.keep (ka_cons rfl ka_nil) (fun hI => (hI.sub sn)))
  intro tm H hS
  subst hc7
  refine o_pure hS (.inl rfl) rfl rfl ?_; clear hS; try clear tm
  intro tm hS
  obtain ⟨c9, hc8⟩ : ∃ x : Bool, x = ((c7 && ((r6.Data.length : Int) == (IntKind.i64.wrap ((IntKind.i64.wrap ((a1.length : Int) + (b1.length : Int))) + (c1.length : Int))))) && true) := ⟨_, rfl⟩
  refine o_cutN 2 (J := fun tm H => S wm 107 tm H [(106, .bool c9)] [] Fr) ?_ ?_
  ·rcases Bool.eq_false_or_eq_true (c7 && ((r6.Data.length : Int) == (IntKind.i64.wrap ((IntKind.i64.wrap ((a1.length : Int) + (b1.length : Int))) + (c1.length : Int))))) with hg8 | hg8
   ·refine o_call hS (.inr ⟨_, _, _, _, rfl, rfl, rfl, hg8⟩) rfl (fun wm' hw1 hw2 => wpF.told ho21 (Q := fun v H' => v = .bool true ∧ H' = H) ⟨rfl, rfl⟩) (fun wm' res H hw' hp => ?_)
    obtain ⟨rfl, rfl⟩ := hp
    replace hS := hS.put (d := 105) rfl (.bool true)
    clear hw'
    refine o_pickT hS (.inl rfl) rfl rfl hg8 rfl ?_; clear hS; try clear tm
    intro tm hS
    have hc8 : c9 = true := hc8.trans (by rw [hg8]; first | rfl | simp)
    subst hc8
    exact o_nil (hS.keep (ka_cons rfl ka_nil) (fun hI => (hI.sub sn)))
   ·refine o_skip hS rfl rfl rfl hg8 ?_; clear hS; try clear tm
    intro tm hS
    refine o_pickF hS (.inl rfl) rfl rfl hg8 rfl ?_; clear hS; try clear tm
    intro tm hS
    have hc8 : c9 = false := hc8.trans (by rw [hg8]; first | rfl | simp)
    subst hc8
    exact o_nil (hS.keep (ka_cons rfl ka_nil) (fun hI => (hI.sub sn)))
  intro tm H hS
  subst hc8
  refine o_pure hS (.inl rfl) rfl rfl ?_; clear hS; try clear tm
  intro tm hS
  refine o_nil (hR _ _ ?_)
  clear hR R
  refine wpC.ret ?_
  obtain rfl := Option.some.inj h0
  refine Exists.intro _ (And.intro (rs_tmp hS rfl rs_nil) ?_)
  have hI := hS.inv
  exact ⟨rfl, (hI.sub sn)⟩
end Go.Proofs.Ytaedfhikoamfeaa.joinThree
