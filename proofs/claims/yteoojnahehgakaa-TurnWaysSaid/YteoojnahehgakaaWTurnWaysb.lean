/- TurnWays: walks of the code: the run of each function comes to what its plain function says. -/
import Derived.Test.YteoojnahehgakaaWTurnWaysa
set_option maxHeartbeats 4000000
set_option linter.unusedVariables false
set_option linter.unusedSimpArgs false
set_option maxRecDepth 100000
open Go Go.Am Go.Proofs
namespace Go.Proofs.Yteoojnahehgakaa.turnWays
variable {ora : FuncId → Bool}
theorem wk6 {wm : Nat} {H : AHeap} {Fr : List Ent} (ho17 : ora 17 = true) (b1 : Val) (l1 : (List Int))  (v1 : Value) (v2 : Value) (v3 : Value) (hI : Kn wm H [.fz (rI .i64) v1 b1.Shape, .fz (rI .i64) v2 b1.Data, .fz (rI .u8) v3 l1] Fr) {r : Bool} (h0 : M.anamnesislaw08_TurnWays b1 l1 = some r) :
  wpF Try.prog ora wm 6 [.agg #[.bool b1.Char, v1, v2], v3] H (fun res H => res = .bool r ∧ Kn wm H [] Fr) := by
 unfold M.anamnesislaw08_TurnWays at h0
 refine f_enter (n := 186) Try.func6 rfl (by simp) hI rfl rfl rfl fun tm hS => ?_
 clear hI
 refine c_reg fun R hR => ?_
 refine o_box hS (.inl rfl) rfl rfl rfl (all_cons rfl (all_cons (hS.one (k := 0) rfl (.inl rfl)) (all_cons (hS.one (k := 1) rfl (.inl rfl)) all_nil))) ?_; clear hS; try clear tm H
 intro b2 tm H hS
 refine o_pure hS (.inl rfl) rfl rfl ?_; clear hS; try clear tm
 intro tm hS
 refine o_nil (hR _ _ ?_)
 clear hR R
 refine c_seqS ?_
 refine c_reg fun R hR => ?_
 refine o_ldA (k := 0) hS (.inl rfl) rfl rfl rfl (.inl rfl) Fu25 rfl Fs25 rfl ?_; clear hS; try clear tm
 intro tm hS
 obtain ⟨r1, hx1, h0⟩ := bindS h0
 refine o_call hS (.inl rfl) rfl (fun wm' hw1 hw2 => wk18  b1  v1 v2 (((hS.sel hw2).ad 2 rfl).ad 1 rfl) hx1) (fun wm' res H hw' hp => ?_)
 obtain ⟨hres, hI⟩ := hp
 replace hres := hres.symm; subst hres
 replace hS : S wm 186 _ H ((25, .bool r1) :: _) ([] ++ _) Fr := hS.after rfl hw' hI
 clear hI hw'
 refine o_pure hS (.inl rfl) rfl rfl ?_; clear hS; try clear tm
 intro tm hS
 obtain ⟨c1, hc1, h0⟩ := bindS h0
 refine o_cutN 4 (J := fun tm H => S wm 186 tm H [(30, .bool c1), (1, v3), (2, .pointer (some ⟨b2, 0, none⟩))] [.box b2 [.bool b1.Char, v1, v2], .fz (rI .i64) v1 b1.Shape, .fz (rI .i64) v2 b1.Data, .fz (rI .u8) v3 l1] Fr) ?_ ?_
 ·rcases Bool.eq_false_or_eq_true r1 with hg1 | hg1
  ·replace hc1 := iteT hg1 hc1
   refine o_skip hS rfl rfl rfl hg1 ?_; clear hS; try clear tm
   intro tm hS
   refine o_skip hS rfl rfl rfl hg1 ?_; clear hS; try clear tm
   intro tm hS
   refine o_skip hS rfl rfl rfl hg1 ?_; clear hS; try clear tm
   intro tm hS
   refine o_pickT hS (.inl rfl) rfl rfl hg1 rfl ?_; clear hS; try clear tm
   intro tm hS
   obtain rfl := Option.some.inj hc1
   exact o_nil (hS.keep (ka_cons rfl (ka_cons rfl (ka_cons rfl ka_nil))) (fun hI => (hI.sub (sc (sc (sc (sc sn)))))))
  ·replace hc1 := iteF hg1 hc1
   refine o_ldA (k := 0) hS (.inr ⟨_, _, _, _, rfl, rfl, rfl, hg1⟩) rfl rfl rfl (.inl rfl) Fu25 rfl Fs25 rfl ?_; clear hS; try clear tm
   intro tm hS
   obtain ⟨r2, hx2, hc1⟩ := bindS hc1
   refine o_call hS (.inr ⟨_, _, _, _, rfl, rfl, rfl, hg1⟩) rfl (fun wm' hw1 hw2 => wk25  b1  v1 v2 (((hS.sel hw2).ad 2 rfl).ad 1 rfl) hx2) (fun wm' res H hw' hp => ?_)
   obtain ⟨hres, hI⟩ := hp
   replace hres := hres.symm; subst hres
   replace hS : S wm 186 _ H ((28, .bool r2) :: _) ([] ++ _) Fr := hS.after rfl hw' hI
   clear hI hw'
   refine o_pure hS (.inr ⟨_, _, _, _, rfl, rfl, rfl, hg1⟩) rfl rfl ?_; clear hS; try clear tm
   intro tm hS
   refine o_pickF hS (.inl rfl) rfl rfl hg1 rfl ?_; clear hS; try clear tm
   intro tm hS
   obtain rfl := Option.some.inj hc1
   exact o_nil (hS.keep (ka_cons rfl (ka_cons rfl (ka_cons rfl ka_nil))) (fun hI => (hI.sub (sc (sc (sc (sc sn)))))))
 intro tm H hS
 refine o_nil (hR _ _ ?_)
 clear hR R
 refine c_cond hS rfl (fun hc => ?_) (fun hc => ?_)
 ·replace h0 := iteT hc h0
  refine c_reg fun R hR => ?_
  refine o_call hS (.inl rfl) rfl (fun wm' hw1 hw2 => wpF.told ho17 (Q := fun v H' => v = .bool true ∧ H' = H) ⟨rfl, rfl⟩) (fun wm' res H hw' hp => ?_)
  obtain ⟨rfl, rfl⟩ := hp
  replace hS := hS.put (d := 31) rfl (.bool true)
  clear hw'
  refine o_pure hS (.inl rfl) rfl rfl ?_; clear hS; try clear tm
  intro tm hS
  refine o_nil (hR _ _ ?_)
  clear hR R
  refine wpC.ret ?_
  obtain rfl := Option.some.inj h0
  refine Exists.intro _ (And.intro (rs_tmp hS rfl rs_nil) ?_)
  have hI := hS.inv
  exact ⟨rfl, (hI.sub sn)⟩
 ·replace h0 := iteF hc h0
  refine wpC.skip ?_
  refine c_reg fun R hR => ?_
  refine o_pure hS (.inl rfl) rfl rfl ?_; clear hS; try clear tm
  intro tm hS
  refine o_ld1 (k := 0) hS (.inl rfl) rfl rfl rfl (.inl rfl) Fu22 rfl rfl ?_; clear hS; try clear tm
  intro tm hS
  refine o_len (k := 1) (r := (rI .i64)) hS (.inl rfl) rfl rfl rfl (.inl rfl) Fu22 rfl ?_; clear hS; try clear tm
  intro tm hS
  refine o_pure hS (.inl rfl) rfl rfl ?_; clear hS; try clear tm
  intro tm hS
  refine o_nil (hR _ _ ?_)
  clear hR R
  refine c_reg fun R hR => ?_
  replace hS := hS.nilOwn (rI .i64)
  replace hS := hS.front 0 rfl
  obtain ⟨r3, hx3, h0⟩ := bindS h0
  refine o_callO hS (.inl rfl) rfl rfl (wk10o  ([])  (.slice none 0 0) (hS.selN 1) hx3) (fun res H hp => ?_)
  obtain ⟨v4, v5, hres, hI⟩ := hp
  replace hres := hres.symm; subst hres
  replace hS : S wm 186 _ H ((35, .agg #[.bool r3.Char, v4, v5]) :: _) ([.own (rI .i64) v4 r3.Shape, .own (rI .i64) v5 r3.Data] ++ _) Fr := hS.afterN rfl hI
  clear hI
  refine o_alloc hS (.inl rfl) rfl Fz25 (by decide) ?_; clear hS; try clear tm H
  intro b3 tm H hS
  refine o_st (k := 0) hS (.inl rfl) rfl rfl rfl Fs25 rfl rfl (all_cons rfl (all_cons (hS.one (k := 1) rfl (.inr (.inl rfl))) (all_cons (hS.one (k := 2) rfl (.inr (.inl rfl))) all_nil))) rfl ?_; clear hS; try clear H
  intro H hS
  refine o_nil (hR _ _ ?_)
  clear hR R
  refine c_reg fun R hR => ?_
  replace hS := hS.nilOwn (rI .i64)
  replace hS := hS.front 0 rfl
  obtain ⟨r4, hx4, h0⟩ := bindS h0
  refine o_callO hS (.inl rfl) rfl rfl (wk10o  ([])  (.slice none 0 0) (hS.selN 1) hx4) (fun res H hp => ?_)
  obtain ⟨v6, v7, hres, hI⟩ := hp
  replace hres := hres.symm; subst hres
  replace hS : S wm 186 _ H ((36, .agg #[.bool r4.Char, v6, v7]) :: _) ([.own (rI .i64) v6 r4.Shape, .own (rI .i64) v7 r4.Data] ++ _) Fr := hS.afterN rfl hI
  clear hI
  refine o_alloc hS (.inl rfl) rfl Fz25 (by decide) ?_; clear hS; try clear tm H
  intro b4 tm H hS
  refine o_st (k := 0) hS (.inl rfl) rfl rfl rfl Fs25 rfl rfl (all_cons rfl (all_cons (hS.one (k := 1) rfl (.inr (.inl rfl))) (all_cons (hS.one (k := 2) rfl (.inr (.inl rfl))) all_nil))) rfl ?_; clear hS; try clear H
  intro H hS
  refine o_nil (hR _ _ ?_)
  clear hR R
  refine c_seqS ?_
  refine c_reg fun R hR => ?_
  refine o_pure hS (.inl rfl) rfl rfl ?_; clear hS; try clear tm
  intro tm hS
  refine o_nil (hR _ _ ?_)
  clear hR R
  obtain ⟨k1, hw1, h0⟩ := bindS h0
  refine wpC.block ?_
  refine c_loop (I := fun (s : Int × (List Int) × (List Int)) tm H => match (generalizing := false) s with | (i1, Data1, Data2) => ∃ v8 v9, S wm 186 tm H [(1, v3), (2, .pointer (some ⟨b2, 0, none⟩)), (5, .int .i64 (b1.Shape.length : Int)), (6, .pointer (some ⟨b3, 0, none⟩)), (7, .pointer (some ⟨b4, 0, none⟩)), (8, .int .i64 i1)] [.box b2 [.bool b1.Char, v1, v2], .box b3 [.bool r3.Char, v4, v8], .box b4 [.bool r4.Char, v6, v9], .own (rI .i64) v8 Data1, .own (rI .i64) v9 Data2, .fz (rI .u8) v3 l1, .fz (rI .i64) v1 b1.Shape, .fz (rI .i64) v2 b1.Data, .own (rI .i64) v4 r3.Shape, .own (rI .i64) v6 r4.Shape] Fr) hw1 (by refine Exists.intro v5 ?_; refine Exists.intro v7 ?_; change S wm 186 _ _ _ _ Fr; exact hS.keep (ka_cons rfl (ka_cons rfl (ka_cons rfl (ka_cons rfl (ka_cons rfl (ka_cons rfl ka_nil)))))) (fun hI => (((((((((((hI.pull 1 rfl).pull 4 rfl).pull 8 rfl).pull 8 rfl).pull 9 rfl).pull 6 rfl).pull 8 rfl).pull 7 rfl).pull 8 rfl).pull 9 rfl).take 10))) ?_
  clear hS
  intro s1 tm H c2 hS h1 hq1
  obtain ⟨i1, Data1, Data2⟩ := s1
  obtain ⟨v8, v9, hS⟩ := hS
  change S wm 186 tm H [(1, v3), (2, .pointer (some ⟨b2, 0, none⟩)), (5, .int .i64 (b1.Shape.length : Int)), (6, .pointer (some ⟨b3, 0, none⟩)), (7, .pointer (some ⟨b4, 0, none⟩)), (8, .int .i64 i1)] [.box b2 [.bool b1.Char, v1, v2], .box b3 [.bool r3.Char, v4, v8], .box b4 [.bool r4.Char, v6, v9], .own (rI .i64) v8 Data1, .own (rI .i64) v9 Data2, .fz (rI .u8) v3 l1, .fz (rI .i64) v1 b1.Shape, .fz (rI .i64) v2 b1.Data, .own (rI .i64) v4 r3.Shape, .own (rI .i64) v6 r4.Shape] Fr at hS
  refine c_seqS ?_
  refine c_reg fun R hR => ?_
  refine o_pure hS (.inl rfl) rfl rfl ?_; clear hS; try clear tm
  intro tm hS
  refine o_pure hS (.inl rfl) rfl rfl ?_; clear hS; try clear tm
  intro tm hS
  refine o_pure hS (.inl rfl) rfl rfl ?_; clear hS; try clear tm
  intro tm hS
  refine o_nil (hR _ _ ?_)
  clear hR R
  refine c_cond hS rfl (fun hc => ?_) (fun hc => ?_)
  ·replace h1 := iteT hc h1
   refine wpC.skip ?_
   refine c_seqS ?_
   refine wpC.block ?_
   refine c_reg fun R hR => ?_
   refine o_pure hS (.inl rfl) rfl rfl ?_; clear hS; try clear tm
   intro tm hS
   refine o_ld1 (k := 1) hS (.inl rfl) rfl rfl rfl (.inl rfl) Fu23 rfl rfl ?_; clear hS; try clear tm
   intro tm hS
   refine o_pure hS (.inl rfl) rfl rfl ?_; clear hS; try clear tm
   intro tm hS
   refine o_pure hS (.inl rfl) rfl rfl ?_; clear hS; try clear tm
   intro tm hS
   refine o_pure hS (.inl rfl) rfl rfl ?_; clear hS; try clear tm
   intro tm hS
   refine o_lit (r := (rI .i64)) (l := [(IntKind.i64.wrap ((b1.Shape.length : Int) - i1))]) hS (.inl rfl) rfl Fl23 rfl rfl rfl (.cons rfl .nil) rfl rfl (ri_1 (rd_flat fun _ => rfl) ri_nil) rfl ?_; clear hS; try clear tm H
   intro v10 tm H hS
   obtain ⟨l2, hx5, h1⟩ := bindS h1
   refine o_app (k1 := 4) (k2 := 0) (r := (rI .i64)) hS (.inl rfl) rfl rfl rfl rfl rfl (.inr (.inr rfl)) rfl Fe23_23 rfl hx5 ?_; clear hS; try clear tm H
   intro v11 tm H hS
   refine o_pure hS (.inl rfl) rfl rfl ?_; clear hS; try clear tm
   intro tm hS
   refine o_st (k := 2) hS (.inl rfl) rfl rfl rfl Fs23 (cells_one (hS.one (k := 4) rfl (.inr (.inl rfl)))) rfl (all_cons (hS.one (k := 4) rfl (.inr (.inl rfl))) all_nil) rfl ?_; clear hS; try clear H
   intro H hS
   refine o_nil (hR _ _ ?_)
   clear hR R
   refine c_reg1 fun R hR => ?_
   refine o_pure hS (.inl rfl) rfl rfl ?_; clear hS; try clear tm
   intro tm hS
   refine o_ld1 (k := 3) hS (.inl rfl) rfl rfl rfl (.inl rfl) Fu23 rfl rfl ?_; clear hS; try clear tm
   intro tm hS
   refine o_pure hS (.inl rfl) rfl rfl ?_; clear hS; try clear tm
   intro tm hS
   refine o_pure hS (.inl rfl) rfl rfl ?_; clear hS; try clear tm
   intro tm hS
   refine o_lit (r := (rI .i64)) (l := [(IntKind.i64.wrap (i1 + 1))]) hS (.inl rfl) rfl Fl23 rfl rfl rfl (.cons rfl .nil) rfl rfl (ri_1 (rd_flat fun _ => rfl) ri_nil) rfl ?_; clear hS; try clear tm H
   intro v12 tm H hS
   obtain ⟨l3, hx6, h1⟩ := bindS h1
   refine o_app (k1 := 6) (k2 := 0) (r := (rI .i64)) hS (.inl rfl) rfl rfl rfl rfl rfl (.inr (.inr rfl)) rfl Fe23_23 rfl hx6 ?_; clear hS; try clear tm H
   intro v13 tm H hS
   refine o_pure hS (.inl rfl) rfl rfl ?_; clear hS; try clear tm
   intro tm hS
   refine o_st (k := 4) hS (.inl rfl) rfl rfl rfl Fs23 (cells_one (hS.one (k := 6) rfl (.inr (.inl rfl)))) rfl (all_cons (hS.one (k := 6) rfl (.inr (.inl rfl))) all_nil) rfl ?_; clear hS; try clear H
   intro H hS
   refine o_nil (hR _ _ ?_)
   clear hR R
   refine c_reg1 fun R hR => ?_
   refine o_pure hS (.inl rfl) rfl rfl ?_; clear hS; try clear tm
   intro tm hS
   refine o_pure hS (.inl rfl) rfl rfl ?_; clear hS; try clear tm
   intro tm hS
   refine o_pure hS (.inl rfl) rfl rfl ?_; clear hS; try clear tm
   intro tm hS
   refine o_nil (hR _ _ ?_)
   clear hR R
   obtain rfl := Option.some.inj h1
   refine ⟨_, rfl, ?_⟩
   refine Exists.intro v11 ?_; refine Exists.intro v13 ?_; change S wm 186 _ _ _ _ Fr; exact hS.keep (ka_cons rfl (ka_cons rfl (ka_cons rfl (ka_cons rfl (ka_cons rfl (ka_cons rfl ka_nil)))))) (fun hI => (hI.sub (sd (sd (sc (sc (sc (sc (sc (sc (sc (sc (sc (sc sn))))))))))))))
  ·replace h1 := iteF hc h1
   refine wpC.exit ?_
   refine seqX ?_
   obtain rfl := Option.some.inj h1
   obtain rfl := hq1 _ rfl
   refine And.intro rfl (blk_eq ?_)
   replace h0 := joinN h0
   refine c_reg fun R hR => ?_
   refine o_pure hS (.inl rfl) rfl rfl ?_; clear hS; try clear tm
   intro tm hS
   refine o_lit (r := (rI .i64)) (l := [(b1.Shape.length : Int)]) hS (.inl rfl) rfl Fl22 rfl rfl rfl (.cons rfl .nil) rfl rfl (ri_1 (rd_flat fun _ => rfl) ri_nil) rfl ?_; clear hS; try clear tm H
   intro v14 tm H hS
   refine o_pure hS (.inl rfl) rfl rfl ?_; clear hS; try clear tm
   intro tm hS
   refine o_st (k := 2) hS (.inl rfl) rfl rfl rfl Fs22 (cells_one (hS.one (k := 0) rfl (.inr (.inr rfl)))) rfl (all_cons (hS.one (k := 0) rfl (.inr (.inr rfl))) all_nil) rfl ?_; clear hS; try clear H
   intro H hS
   refine o_nil (hR _ _ ?_)
   clear hR R
   refine c_reg fun R hR => ?_
   refine o_pure hS (.inl rfl) rfl rfl ?_; clear hS; try clear tm
   intro tm hS
   refine o_lit (r := (rI .i64)) (l := [(b1.Shape.length : Int)]) hS (.inl rfl) rfl Fl22 rfl rfl rfl (.cons rfl .nil) rfl rfl (ri_1 (rd_flat fun _ => rfl) ri_nil) rfl ?_; clear hS; try clear tm H
   intro v15 tm H hS
   refine o_pure hS (.inl rfl) rfl rfl ?_; clear hS; try clear tm
   intro tm hS
   refine o_st (k := 4) hS (.inl rfl) rfl rfl rfl Fs22 (cells_one (hS.one (k := 0) rfl (.inr (.inr rfl)))) rfl (all_cons (hS.one (k := 0) rfl (.inr (.inr rfl))) all_nil) rfl ?_; clear hS; try clear H
   intro H hS
   refine o_nil (hR _ _ ?_)
   clear hR R
   refine c_reg fun R hR => ?_
   refine o_ldA (k := 2) hS (.inl rfl) rfl rfl rfl (.inl rfl) Fu25 rfl Fs25 rfl ?_; clear hS; try clear tm
   intro tm hS
   obtain ⟨⟨r5, r6⟩, hx7, h0⟩ := bindS h0
   refine o_call hS (.inl rfl) rfl (fun wm' hw1 hw2 => wk14  b1  v1 v2 (((hS.sel hw2).ad 9 rfl).ad 8 rfl) hx7) (fun wm' res H hw' hp => ?_)
   obtain ⟨v16, v17, hres, hI⟩ := hp
   replace hres := hres.symm; subst hres
   replace hS : S wm 186 _ H ((65, .tuple #[.agg #[.bool r5.Char, v16, v17], .int .i64 r6]) :: _) ([.own (rI .i64) v16 r5.Shape, .own (rI .i64) v17 r5.Data] ++ _) Fr := hS.after rfl hw' hI
   clear hI hw'
   refine o_pure hS (.inl rfl) rfl rfl ?_; clear hS; try clear tm
   intro tm hS
   refine o_pure hS (.inl rfl) rfl rfl ?_; clear hS; try clear tm
   intro tm hS
   refine o_pure hS (.inl rfl) rfl rfl ?_; clear hS; try clear tm
   intro tm hS
   refine o_alloc hS (.inl rfl) rfl Fz25 (by decide) ?_; clear hS; try clear tm H
   intro b5 tm H hS
   refine o_st (k := 0) hS (.inl rfl) rfl rfl rfl Fs25 rfl rfl (all_cons rfl (all_cons (hS.one (k := 1) rfl (.inr (.inl rfl))) (all_cons (hS.one (k := 2) rfl (.inr (.inl rfl))) all_nil))) rfl ?_; clear hS; try clear H
   intro H hS
   refine o_pure hS (.inl rfl) rfl rfl ?_; clear hS; try clear tm
   intro tm hS
   refine o_nil (hR _ _ ?_)
   clear hR R
   refine c_reg fun R hR => ?_
   refine o_ldA (k := 6) hS (.inl rfl) rfl rfl rfl (.inl rfl) Fu25 rfl Fs25 rfl ?_; clear hS; try clear tm
   intro tm hS
   refine o_ldA (k := 5) hS (.inl rfl) rfl rfl rfl (.inl rfl) Fu25 rfl Fs25 rfl ?_; clear hS; try clear tm
   intro tm hS
   obtain ⟨⟨r7, r8⟩, hx8, h0⟩ := bindS h0
   refine o_call (Pc := fun _ res H => ∃ v18 v19, res = .tuple #[.agg #[.bool r7.Char, v18, v19], .int .i64 r8] ∧ Kn wm H ([.own (rI .i64) v18 r7.Shape, .own (rI .i64) v19 r7.Data] ++ [.box b5 [.bool r5.Char, v16, v17], .own (rI .i64) v16 r5.Shape, .own (rI .i64) v17 r5.Data, .lit (rI .i64) v15 ([(b1.Shape.length : Int)]), .lit (rI .i64) v14 ([(b1.Shape.length : Int)]), .box b2 [.bool b1.Char, v1, v2], .box b3 [.bool r3.Char, v14, v8], .box b4 [.bool r4.Char, v15, v9], .own (rI .i64) v8 Data1, .own (rI .i64) v9 Data2, .fz (rI .u8) v3 l1, .fz (rI .i64) v1 b1.Shape, .fz (rI .i64) v2 b1.Data, .own (rI .i64) v4 r3.Shape, .own (rI .i64) v6 r4.Shape]) Fr) hS (.inl rfl) rfl (fun wm' hw1 hw2 => by
    obtain ⟨F2, k1, k2⟩ := hS.inv.lendR (La := [.fz (rI .i64) v14 ([(b1.Shape.length : Int)]), .fz (rI .i64) v8 Data1, .fz (rI .i64) v1 b1.Shape, .fz (rI .i64) v2 b1.Data]) (List.forall_mem_cons.mpr ⟨(.inr ⟨_, _, _, _, rfl, .inr (List.mem_of_getElem? (i := 4) rfl)⟩), (List.forall_mem_cons.mpr ⟨(.inr ⟨_, _, _, _, rfl, .inl (List.mem_of_getElem? (i := 8) rfl)⟩), (List.forall_mem_cons.mpr ⟨(.inl ⟨rfl, List.mem_of_getElem? (i := 11) rfl⟩), (List.forall_mem_cons.mpr ⟨(.inl ⟨rfl, List.mem_of_getElem? (i := 12) rfl⟩), (fun _ h => by cases h)⟩)⟩)⟩)⟩) hw1 hw2
    exact (wk13  (Val.mk r3.Char ([(b1.Shape.length : Int)]) Data1) b1  v14 v8 v1 v2 k1 hx8).mono fun res H2 ⟨v18, v19, q1, q2⟩ => ⟨v18, v19, q1, k2 _ _ (List.forall_mem_cons.mpr ⟨⟨_, _, _, _, rfl, fun _ _ _ _ h => h⟩, (List.forall_mem_cons.mpr ⟨⟨_, _, _, _, rfl, fun _ _ _ _ h => h⟩, (fun _ h => by cases h)⟩)⟩) q2⟩) (fun wm' res H hw' hp => ?_)
   obtain ⟨v18, v19, hres, hI⟩ := hp
   replace hres := hres.symm; subst hres
   replace hS : S wm 186 _ H ((71, .tuple #[.agg #[.bool r7.Char, v18, v19], .int .i64 r8]) :: _) ([.own (rI .i64) v18 r7.Shape, .own (rI .i64) v19 r7.Data] ++ [.box b5 [.bool r5.Char, v16, v17], .own (rI .i64) v16 r5.Shape, .own (rI .i64) v17 r5.Data, .lit (rI .i64) v15 ([(b1.Shape.length : Int)]), .lit (rI .i64) v14 ([(b1.Shape.length : Int)]), .box b2 [.bool b1.Char, v1, v2], .box b3 [.bool r3.Char, v14, v8], .box b4 [.bool r4.Char, v15, v9], .own (rI .i64) v8 Data1, .own (rI .i64) v9 Data2, .fz (rI .u8) v3 l1, .fz (rI .i64) v1 b1.Shape, .fz (rI .i64) v2 b1.Data, .own (rI .i64) v4 r3.Shape, .own (rI .i64) v6 r4.Shape]) Fr := (hS.put rfl _).withK hI
   clear hI hw'
   refine o_pure hS (.inl rfl) rfl rfl ?_; clear hS; try clear tm
   intro tm hS
   refine o_pure hS (.inl rfl) rfl rfl ?_; clear hS; try clear tm
   intro tm hS
   refine o_pure hS (.inl rfl) rfl rfl ?_; clear hS; try clear tm
   intro tm hS
   refine o_alloc hS (.inl rfl) rfl Fz25 (by decide) ?_; clear hS; try clear tm H
   intro b6 tm H hS
   refine o_st (k := 0) hS (.inl rfl) rfl rfl rfl Fs25 rfl rfl (all_cons rfl (all_cons (hS.one (k := 1) rfl (.inr (.inl rfl))) (all_cons (hS.one (k := 2) rfl (.inr (.inl rfl))) all_nil))) rfl ?_; clear hS; try clear H
   intro H hS
   refine o_pure hS (.inl rfl) rfl rfl ?_; clear hS; try clear tm
   intro tm hS
   refine o_nil (hR _ _ ?_)
   clear hR R
   refine c_reg fun R hR => ?_
   refine o_ldA (k := 10) hS (.inl rfl) rfl rfl rfl (.inl rfl) Fu25 rfl Fs25 rfl ?_; clear hS; try clear tm
   intro tm hS
   refine o_ldA (k := 8) hS (.inl rfl) rfl rfl rfl (.inl rfl) Fu25 rfl Fs25 rfl ?_; clear hS; try clear tm
   intro tm hS
   obtain ⟨⟨r9, r10⟩, hx9, h0⟩ := bindS h0
   refine o_call (Pc := fun _ res H => ∃ v20 v21, res = .tuple #[.agg #[.bool r9.Char, v20, v21], .int .i64 r10] ∧ Kn wm H ([.own (rI .i64) v20 r9.Shape, .own (rI .i64) v21 r9.Data] ++ [.box b6 [.bool r7.Char, v18, v19], .own (rI .i64) v18 r7.Shape, .own (rI .i64) v19 r7.Data, .box b5 [.bool r5.Char, v16, v17], .own (rI .i64) v16 r5.Shape, .own (rI .i64) v17 r5.Data, .lit (rI .i64) v15 ([(b1.Shape.length : Int)]), .lit (rI .i64) v14 ([(b1.Shape.length : Int)]), .box b2 [.bool b1.Char, v1, v2], .box b3 [.bool r3.Char, v14, v8], .box b4 [.bool r4.Char, v15, v9], .own (rI .i64) v8 Data1, .own (rI .i64) v9 Data2, .fz (rI .u8) v3 l1, .fz (rI .i64) v1 b1.Shape, .fz (rI .i64) v2 b1.Data, .own (rI .i64) v4 r3.Shape, .own (rI .i64) v6 r4.Shape]) Fr) hS (.inl rfl) rfl (fun wm' hw1 hw2 => by
    obtain ⟨F2, k1, k2⟩ := hS.inv.lendR (La := [.fz (rI .i64) v15 ([(b1.Shape.length : Int)]), .fz (rI .i64) v9 Data2, .fz (rI .i64) v1 b1.Shape, .fz (rI .i64) v2 b1.Data]) (List.forall_mem_cons.mpr ⟨(.inr ⟨_, _, _, _, rfl, .inr (List.mem_of_getElem? (i := 6) rfl)⟩), (List.forall_mem_cons.mpr ⟨(.inr ⟨_, _, _, _, rfl, .inl (List.mem_of_getElem? (i := 12) rfl)⟩), (List.forall_mem_cons.mpr ⟨(.inl ⟨rfl, List.mem_of_getElem? (i := 14) rfl⟩), (List.forall_mem_cons.mpr ⟨(.inl ⟨rfl, List.mem_of_getElem? (i := 15) rfl⟩), (fun _ h => by cases h)⟩)⟩)⟩)⟩) hw1 hw2
    exact (wk13  (Val.mk r4.Char ([(b1.Shape.length : Int)]) Data2) b1  v15 v9 v1 v2 k1 hx9).mono fun res H2 ⟨v20, v21, q1, q2⟩ => ⟨v20, v21, q1, k2 _ _ (List.forall_mem_cons.mpr ⟨⟨_, _, _, _, rfl, fun _ _ _ _ h => h⟩, (List.forall_mem_cons.mpr ⟨⟨_, _, _, _, rfl, fun _ _ _ _ h => h⟩, (fun _ h => by cases h)⟩)⟩) q2⟩) (fun wm' res H hw' hp => ?_)
   obtain ⟨v20, v21, hres, hI⟩ := hp
   replace hres := hres.symm; subst hres
   replace hS : S wm 186 _ H ((77, .tuple #[.agg #[.bool r9.Char, v20, v21], .int .i64 r10]) :: _) ([.own (rI .i64) v20 r9.Shape, .own (rI .i64) v21 r9.Data] ++ [.box b6 [.bool r7.Char, v18, v19], .own (rI .i64) v18 r7.Shape, .own (rI .i64) v19 r7.Data, .box b5 [.bool r5.Char, v16, v17], .own (rI .i64) v16 r5.Shape, .own (rI .i64) v17 r5.Data, .lit (rI .i64) v15 ([(b1.Shape.length : Int)]), .lit (rI .i64) v14 ([(b1.Shape.length : Int)]), .box b2 [.bool b1.Char, v1, v2], .box b3 [.bool r3.Char, v14, v8], .box b4 [.bool r4.Char, v15, v9], .own (rI .i64) v8 Data1, .own (rI .i64) v9 Data2, .fz (rI .u8) v3 l1, .fz (rI .i64) v1 b1.Shape, .fz (rI .i64) v2 b1.Data, .own (rI .i64) v4 r3.Shape, .own (rI .i64) v6 r4.Shape]) Fr := (hS.put rfl _).withK hI
   clear hI hw'
   refine o_pure hS (.inl rfl) rfl rfl ?_; clear hS; try clear tm
   intro tm hS
   refine o_pure hS (.inl rfl) rfl rfl ?_; clear hS; try clear tm
   intro tm hS
   refine o_pure hS (.inl rfl) rfl rfl ?_; clear hS; try clear tm
   intro tm hS
   refine o_alloc hS (.inl rfl) rfl Fz25 (by decide) ?_; clear hS; try clear tm H
   intro b7 tm H hS
   refine o_st (k := 0) hS (.inl rfl) rfl rfl rfl Fs25 rfl rfl (all_cons rfl (all_cons (hS.one (k := 1) rfl (.inr (.inl rfl))) (all_cons (hS.one (k := 2) rfl (.inr (.inl rfl))) all_nil))) rfl ?_; clear hS; try clear H
   intro H hS
   refine o_pure hS (.inl rfl) rfl rfl ?_; clear hS; try clear tm
   intro tm hS
   refine o_nil (hR _ _ ?_)
   clear hR R
   refine c_seqS ?_
   refine c_reg fun R hR => ?_
   refine o_pure hS (.inl rfl) rfl rfl ?_; clear hS; try clear tm
   intro tm hS
   refine o_pure hS (.inl rfl) rfl rfl ?_; clear hS; try clear tm
   intro tm hS
   refine o_pure hS (.inl rfl) rfl rfl ?_; clear hS; try clear tm
   intro tm hS
   obtain ⟨c3, hc2⟩ : ∃ x : Bool, x = ((r6 != 0) || (r8 != 0)) := ⟨_, rfl⟩
   refine o_cutN 3 (J := fun tm H => S wm 186 tm H [(85, .bool c3), (1, v3), (2, .pointer (some ⟨b2, 0, none⟩)), (5, .int .i64 (b1.Shape.length : Int)), (7, .pointer (some ⟨b4, 0, none⟩)), (9, .pointer (some ⟨b5, 0, none⟩)), (11, .pointer (some ⟨b6, 0, none⟩)), (13, .pointer (some ⟨b7, 0, none⟩)), (14, .int .i64 r10)] [.box b7 [.bool r9.Char, v20, v21], .own (rI .i64) v20 r9.Shape, .own (rI .i64) v21 r9.Data, .box b6 [.bool r7.Char, v18, v19], .own (rI .i64) v18 r7.Shape, .own (rI .i64) v19 r7.Data, .box b5 [.bool r5.Char, v16, v17], .own (rI .i64) v16 r5.Shape, .own (rI .i64) v17 r5.Data, .lit (rI .i64) v15 ([(b1.Shape.length : Int)]), .box b2 [.bool b1.Char, v1, v2], .box b4 [.bool r4.Char, v15, v9], .own (rI .i64) v9 Data2, .fz (rI .u8) v3 l1, .fz (rI .i64) v1 b1.Shape, .fz (rI .i64) v2 b1.Data] Fr) ?_ ?_
   ·rcases Bool.eq_false_or_eq_true (r6 != 0) with hg2 | hg2
    ·refine o_skip hS rfl rfl rfl hg2 ?_; clear hS; try clear tm
     intro tm hS
     refine o_skip hS rfl rfl rfl hg2 ?_; clear hS; try clear tm
     intro tm hS
     refine o_pickT hS (.inl rfl) rfl rfl hg2 rfl ?_; clear hS; try clear tm
     intro tm hS
     have hc2 : c3 = true := hc2.trans (by rw [hg2]; first | rfl | simp)
     subst hc2
     exact o_nil (hS.keep (ka_cons rfl (ka_cons rfl (ka_cons rfl (ka_cons rfl (ka_cons rfl (ka_cons rfl (ka_cons rfl (ka_cons rfl (ka_cons rfl ka_nil))))))))) (fun hI => (hI.sub (sc (sc (sc (sc (sc (sc (sc (sc (sc (sc (sd (sc (sd (sc (sd (sc (sc (sc (sc sn))))))))))))))))))))))
    ·refine o_pure hS (.inr ⟨_, _, _, _, rfl, rfl, rfl, hg2⟩) rfl rfl ?_; clear hS; try clear tm
     intro tm hS
     refine o_pure hS (.inr ⟨_, _, _, _, rfl, rfl, rfl, hg2⟩) rfl rfl ?_; clear hS; try clear tm
     intro tm hS
     refine o_pickF hS (.inl rfl) rfl rfl hg2 rfl ?_; clear hS; try clear tm
     intro tm hS
     have hc2 : c3 = (r8 != 0) := hc2.trans (by rw [hg2]; first | rfl | simp)
     subst hc2
     exact o_nil (hS.keep (ka_cons rfl (ka_cons rfl (ka_cons rfl (ka_cons rfl (ka_cons rfl (ka_cons rfl (ka_cons rfl (ka_cons rfl (ka_cons rfl ka_nil))))))))) (fun hI => (hI.sub (sc (sc (sc (sc (sc (sc (sc (sc (sc (sc (sd (sc (sd (sc (sd (sc (sc (sc (sc sn))))))))))))))))))))))
   intro tm H hS
   subst hc2
   refine o_pure hS (.inl rfl) rfl rfl ?_; clear hS; try clear tm
   intro tm hS
   obtain ⟨c4, hc3⟩ : ∃ x : Bool, x = (((r6 != 0) || (r8 != 0)) || (r10 != 0)) := ⟨_, rfl⟩
   refine o_cutN 3 (J := fun tm H => S wm 186 tm H [(89, .bool c4), (1, v3), (2, .pointer (some ⟨b2, 0, none⟩)), (5, .int .i64 (b1.Shape.length : Int)), (7, .pointer (some ⟨b4, 0, none⟩)), (9, .pointer (some ⟨b5, 0, none⟩)), (11, .pointer (some ⟨b6, 0, none⟩)), (13, .pointer (some ⟨b7, 0, none⟩))] [.box b7 [.bool r9.Char, v20, v21], .own (rI .i64) v20 r9.Shape, .own (rI .i64) v21 r9.Data, .box b6 [.bool r7.Char, v18, v19], .own (rI .i64) v18 r7.Shape, .own (rI .i64) v19 r7.Data, .box b5 [.bool r5.Char, v16, v17], .own (rI .i64) v16 r5.Shape, .own (rI .i64) v17 r5.Data, .lit (rI .i64) v15 ([(b1.Shape.length : Int)]), .box b2 [.bool b1.Char, v1, v2], .box b4 [.bool r4.Char, v15, v9], .own (rI .i64) v9 Data2, .fz (rI .u8) v3 l1, .fz (rI .i64) v1 b1.Shape, .fz (rI .i64) v2 b1.Data] Fr) ?_ ?_
   ·rcases Bool.eq_false_or_eq_true ((r6 != 0) || (r8 != 0)) with hg3 | hg3
    ·refine o_skip hS rfl rfl rfl hg3 ?_; clear hS; try clear tm
     intro tm hS
     refine o_skip hS rfl rfl rfl hg3 ?_; clear hS; try clear tm
     intro tm hS
     refine o_pickT hS (.inl rfl) rfl rfl hg3 rfl ?_; clear hS; try clear tm
     intro tm hS
     have hc3 : c4 = true := hc3.trans (by rw [hg3]; first | rfl | simp)
     subst hc3
     exact o_nil (hS.keep (ka_cons rfl (ka_cons rfl (ka_cons rfl (ka_cons rfl (ka_cons rfl (ka_cons rfl (ka_cons rfl (ka_cons rfl ka_nil)))))))) (fun hI => (hI.sub (sc (sc (sc (sc (sc (sc (sc (sc (sc (sc (sc (sc (sc (sc (sc (sc sn)))))))))))))))))))
    ·refine o_pure hS (.inr ⟨_, _, _, _, rfl, rfl, rfl, hg3⟩) rfl rfl ?_; clear hS; try clear tm
     intro tm hS
     refine o_pure hS (.inr ⟨_, _, _, _, rfl, rfl, rfl, hg3⟩) rfl rfl ?_; clear hS; try clear tm
     intro tm hS
     refine o_pickF hS (.inl rfl) rfl rfl hg3 rfl ?_; clear hS; try clear tm
     intro tm hS
     have hc3 : c4 = (r10 != 0) := hc3.trans (by rw [hg3]; first | rfl | simp)
     subst hc3
     exact o_nil (hS.keep (ka_cons rfl (ka_cons rfl (ka_cons rfl (ka_cons rfl (ka_cons rfl (ka_cons rfl (ka_cons rfl (ka_cons rfl ka_nil)))))))) (fun hI => (hI.sub (sc (sc (sc (sc (sc (sc (sc (sc (sc (sc (sc (sc (sc (sc (sc (sc sn)))))))))))))))))))
   intro tm H hS
   subst hc3
   refine o_pure hS (.inl rfl) rfl rfl ?_; clear hS; try clear tm
   intro tm hS
   obtain ⟨c5, hc4, h0⟩ := bindS h0
   refine o_cutN 5 (J := fun tm H => S wm 186 tm H [(95, .bool c5), (1, v3), (2, .pointer (some ⟨b2, 0, none⟩)), (5, .int .i64 (b1.Shape.length : Int)), (7, .pointer (some ⟨b4, 0, none⟩)), (13, .pointer (some ⟨b7, 0, none⟩))] [.box b7 [.bool r9.Char, v20, v21], .own (rI .i64) v20 r9.Shape, .own (rI .i64) v21 r9.Data, .lit (rI .i64) v15 ([(b1.Shape.length : Int)]), .box b2 [.bool b1.Char, v1, v2], .box b4 [.bool r4.Char, v15, v9], .own (rI .i64) v9 Data2, .fz (rI .u8) v3 l1, .fz (rI .i64) v1 b1.Shape, .fz (rI .i64) v2 b1.Data] Fr) ?_ ?_
   ·rcases Bool.eq_false_or_eq_true (((r6 != 0) || (r8 != 0)) || (r10 != 0)) with hg4 | hg4
    ·replace hc4 := iteT hg4 hc4
     refine o_skip hS rfl rfl rfl hg4 ?_; clear hS; try clear tm
     intro tm hS
     refine o_skip hS rfl rfl rfl hg4 ?_; clear hS; try clear tm
     intro tm hS
     refine o_skip hS rfl rfl rfl hg4 ?_; clear hS; try clear tm
     intro tm hS
     refine o_skip hS rfl rfl rfl hg4 ?_; clear hS; try clear tm
     intro tm hS
     refine o_pickT hS (.inl rfl) rfl rfl hg4 rfl ?_; clear hS; try clear tm
     intro tm hS
     obtain rfl := Option.some.inj hc4
     exact o_nil (hS.keep (ka_cons rfl (ka_cons rfl (ka_cons rfl (ka_cons rfl (ka_cons rfl (ka_cons rfl ka_nil)))))) (fun hI => (hI.sub (sc (sc (sc (sd (sd (sd (sd (sd (sd (sc (sc (sc (sc (sc (sc (sc sn)))))))))))))))))))
    ·replace hc4 := iteF hg4 hc4
     refine o_ldA (k := 6) hS (.inr ⟨_, _, _, _, rfl, rfl, rfl, hg4⟩) rfl rfl rfl (.inl rfl) Fu25 rfl Fs25 rfl ?_; clear hS; try clear tm
     intro tm hS
     refine o_ldA (k := 3) hS (.inr ⟨_, _, _, _, rfl, rfl, rfl, hg4⟩) rfl rfl rfl (.inl rfl) Fu25 rfl Fs25 rfl ?_; clear hS; try clear tm
     intro tm hS
     obtain ⟨r11, hx10, hc4⟩ := bindS hc4
     refine o_call (Pc := fun _ res H => res = .bool r11 ∧ Kn wm H ([.box b7 [.bool r9.Char, v20, v21], .own (rI .i64) v20 r9.Shape, .own (rI .i64) v21 r9.Data, .box b6 [.bool r7.Char, v18, v19], .own (rI .i64) v18 r7.Shape, .own (rI .i64) v19 r7.Data, .box b5 [.bool r5.Char, v16, v17], .own (rI .i64) v16 r5.Shape, .own (rI .i64) v17 r5.Data, .lit (rI .i64) v15 ([(b1.Shape.length : Int)]), .box b2 [.bool b1.Char, v1, v2], .box b4 [.bool r4.Char, v15, v9], .own (rI .i64) v9 Data2, .fz (rI .u8) v3 l1, .fz (rI .i64) v1 b1.Shape, .fz (rI .i64) v2 b1.Data]) Fr) hS (.inr ⟨_, _, _, _, rfl, rfl, rfl, hg4⟩) rfl (fun wm' hw1 hw2 => by
      obtain ⟨F2, k1, k2⟩ := hS.inv.lend (La := [.fz (rI .i64) v16 r5.Shape, .fz (rI .i64) v17 r5.Data, .fz (rI .i64) v18 r7.Shape, .fz (rI .i64) v19 r7.Data]) (List.forall_mem_cons.mpr ⟨(.inr ⟨_, _, _, _, rfl, .inl (List.mem_of_getElem? (i := 7) rfl)⟩), (List.forall_mem_cons.mpr ⟨(.inr ⟨_, _, _, _, rfl, .inl (List.mem_of_getElem? (i := 8) rfl)⟩), (List.forall_mem_cons.mpr ⟨(.inr ⟨_, _, _, _, rfl, .inl (List.mem_of_getElem? (i := 4) rfl)⟩), (List.forall_mem_cons.mpr ⟨(.inr ⟨_, _, _, _, rfl, .inl (List.mem_of_getElem? (i := 5) rfl)⟩), (fun _ h => by cases h)⟩)⟩)⟩)⟩) hw1 hw2
      exact (wk24  r5 r7  v16 v17 v18 v19 k1 hx10).mono fun res H2 ⟨q1, q2⟩ => ⟨q1, k2 _ q2⟩) (fun wm' res H hw' hp => ?_)
     obtain ⟨hres, hI⟩ := hp
     replace hres := hres.symm; subst hres
     replace hS : S wm 186 _ H ((93, .bool r11) :: _) ([.box b7 [.bool r9.Char, v20, v21], .own (rI .i64) v20 r9.Shape, .own (rI .i64) v21 r9.Data, .box b6 [.bool r7.Char, v18, v19], .own (rI .i64) v18 r7.Shape, .own (rI .i64) v19 r7.Data, .box b5 [.bool r5.Char, v16, v17], .own (rI .i64) v16 r5.Shape, .own (rI .i64) v17 r5.Data, .lit (rI .i64) v15 ([(b1.Shape.length : Int)]), .box b2 [.bool b1.Char, v1, v2], .box b4 [.bool r4.Char, v15, v9], .own (rI .i64) v9 Data2, .fz (rI .u8) v3 l1, .fz (rI .i64) v1 b1.Shape, .fz (rI .i64) v2 b1.Data]) Fr := (hS.put rfl _).withK hI
     clear hI hw'
     refine o_pure hS (.inr ⟨_, _, _, _, rfl, rfl, rfl, hg4⟩) rfl rfl ?_; clear hS; try clear tm
     intro tm hS
     refine o_pickF hS (.inl rfl) rfl rfl hg4 rfl ?_; clear hS; try clear tm
     intro tm hS
     obtain rfl := Option.some.inj hc4
     exact o_nil (hS.keep (ka_cons rfl (ka_cons rfl (ka_cons rfl (ka_cons rfl (ka_cons rfl (ka_cons rfl ka_nil)))))) (fun hI => (hI.sub (sc (sc (sc (sd (sd (sd (sd (sd (sd (sc (sc (sc (sc (sc (sc (sc sn)))))))))))))))))))
   intro tm H hS
   refine o_pure hS (.inl rfl) rfl rfl ?_; clear hS; try clear tm
   intro tm hS
   obtain ⟨c6, hc5, h0⟩ := bindS h0
   refine o_cutN 5 (J := fun tm H => S wm 186 tm H [(101, .bool c6), (1, v3), (2, .pointer (some ⟨b2, 0, none⟩)), (5, .int .i64 (b1.Shape.length : Int)), (7, .pointer (some ⟨b4, 0, none⟩))] [.lit (rI .i64) v15 ([(b1.Shape.length : Int)]), .box b2 [.bool b1.Char, v1, v2], .box b4 [.bool r4.Char, v15, v9], .own (rI .i64) v9 Data2, .fz (rI .u8) v3 l1, .fz (rI .i64) v1 b1.Shape, .fz (rI .i64) v2 b1.Data] Fr) ?_ ?_
   ·rcases Bool.eq_false_or_eq_true c5 with hg5 | hg5
    ·replace hc5 := iteT hg5 hc5
     refine o_skip hS rfl rfl rfl hg5 ?_; clear hS; try clear tm
     intro tm hS
     refine o_skip hS rfl rfl rfl hg5 ?_; clear hS; try clear tm
     intro tm hS
     refine o_skip hS rfl rfl rfl hg5 ?_; clear hS; try clear tm
     intro tm hS
     refine o_skip hS rfl rfl rfl hg5 ?_; clear hS; try clear tm
     intro tm hS
     refine o_pickT hS (.inl rfl) rfl rfl hg5 rfl ?_; clear hS; try clear tm
     intro tm hS
     obtain rfl := Option.some.inj hc5
     exact o_nil (hS.keep (ka_cons rfl (ka_cons rfl (ka_cons rfl (ka_cons rfl (ka_cons rfl ka_nil))))) (fun hI => (hI.sub (sd (sd (sd (sc (sc (sc (sc (sc (sc (sc sn)))))))))))))
    ·replace hc5 := iteF hg5 hc5
     refine o_ldA (k := 0) hS (.inr ⟨_, _, _, _, rfl, rfl, rfl, hg5⟩) rfl rfl rfl (.inl rfl) Fu25 rfl Fs25 rfl ?_; clear hS; try clear tm
     intro tm hS
     refine o_ldA (k := 4) hS (.inr ⟨_, _, _, _, rfl, rfl, rfl, hg5⟩) rfl rfl rfl (.inl rfl) Fu25 rfl Fs25 rfl ?_; clear hS; try clear tm
     intro tm hS
     obtain ⟨r12, hx11, hc5⟩ := bindS hc5
     refine o_call (Pc := fun _ res H => res = .bool r12 ∧ Kn wm H ([.box b7 [.bool r9.Char, v20, v21], .own (rI .i64) v20 r9.Shape, .own (rI .i64) v21 r9.Data, .lit (rI .i64) v15 ([(b1.Shape.length : Int)]), .box b2 [.bool b1.Char, v1, v2], .box b4 [.bool r4.Char, v15, v9], .own (rI .i64) v9 Data2, .fz (rI .u8) v3 l1, .fz (rI .i64) v1 b1.Shape, .fz (rI .i64) v2 b1.Data]) Fr) hS (.inr ⟨_, _, _, _, rfl, rfl, rfl, hg5⟩) rfl (fun wm' hw1 hw2 => by
      obtain ⟨F2, k1, k2⟩ := hS.inv.lend (La := [.fz (rI .i64) v20 r9.Shape, .fz (rI .i64) v21 r9.Data, .fz (rI .i64) v1 b1.Shape, .fz (rI .i64) v2 b1.Data]) (List.forall_mem_cons.mpr ⟨(.inr ⟨_, _, _, _, rfl, .inl (List.mem_of_getElem? (i := 1) rfl)⟩), (List.forall_mem_cons.mpr ⟨(.inr ⟨_, _, _, _, rfl, .inl (List.mem_of_getElem? (i := 2) rfl)⟩), (List.forall_mem_cons.mpr ⟨(.inl ⟨rfl, List.mem_of_getElem? (i := 8) rfl⟩), (List.forall_mem_cons.mpr ⟨(.inl ⟨rfl, List.mem_of_getElem? (i := 9) rfl⟩), (fun _ h => by cases h)⟩)⟩)⟩)⟩) hw1 hw2
      exact (wk24  r9 b1  v20 v21 v1 v2 k1 hx11).mono fun res H2 ⟨q1, q2⟩ => ⟨q1, k2 _ q2⟩) (fun wm' res H hw' hp => ?_)
     obtain ⟨hres, hI⟩ := hp
     replace hres := hres.symm; subst hres
     replace hS : S wm 186 _ H ((99, .bool r12) :: _) ([.box b7 [.bool r9.Char, v20, v21], .own (rI .i64) v20 r9.Shape, .own (rI .i64) v21 r9.Data, .lit (rI .i64) v15 ([(b1.Shape.length : Int)]), .box b2 [.bool b1.Char, v1, v2], .box b4 [.bool r4.Char, v15, v9], .own (rI .i64) v9 Data2, .fz (rI .u8) v3 l1, .fz (rI .i64) v1 b1.Shape, .fz (rI .i64) v2 b1.Data]) Fr := (hS.put rfl _).withK hI
     clear hI hw'
     refine o_pure hS (.inr ⟨_, _, _, _, rfl, rfl, rfl, hg5⟩) rfl rfl ?_; clear hS; try clear tm
     intro tm hS
     refine o_pickF hS (.inl rfl) rfl rfl hg5 rfl ?_; clear hS; try clear tm
     intro tm hS
     obtain rfl := Option.some.inj hc5
     exact o_nil (hS.keep (ka_cons rfl (ka_cons rfl (ka_cons rfl (ka_cons rfl (ka_cons rfl ka_nil))))) (fun hI => (hI.sub (sd (sd (sd (sc (sc (sc (sc (sc (sc (sc sn)))))))))))))
   intro tm H hS
   refine o_nil (hR _ _ ?_)
   clear hR R
   refine c_cond hS rfl (fun hc => ?_) (fun hc => ?_)
   ·replace h0 := iteT hc h0
    refine c_reg fun R hR => ?_
    refine o_pure hS (.inl rfl) rfl rfl ?_; clear hS; try clear tm
    intro tm hS
    refine o_nil (hR _ _ ?_)
    clear hR R
    refine wpC.ret ?_
    obtain rfl := Option.some.inj h0
    refine Exists.intro _ (And.intro (rs_tmp hS rfl rs_nil) ?_)
    have hI := hS.inv
    exact ⟨rfl, (hI.sub sn)⟩
   ·replace h0 := iteF hc h0
    refine wpC.skip ?_
    refine c_reg fun R hR => ?_
    refine o_lit (r := (rI .i64)) (l := ([] : List Int)) hS (.inl rfl) rfl Fl23 rfl rfl rfl .nil rfl rfl ri_nil rfl ?_; clear hS; try clear tm H
    intro v22 tm H hS
    refine o_pure hS (.inl rfl) rfl rfl ?_; clear hS; try clear tm
    intro tm hS
    refine o_ld1 (k := 3) hS (.inl rfl) rfl rfl rfl (.inl rfl) Fu23 rfl rfl ?_; clear hS; try clear tm
    intro tm hS
    obtain ⟨l4, hx12, h0⟩ := bindS h0
    refine o_appL (k1 := 0) (k2 := 4) (r := (rI .i64)) hS (.inl rfl) rfl rfl rfl rfl rfl (.inr (.inl rfl)) rfl Fe23_23 hx12 ?_; clear hS; try clear tm H
    intro v23 tm H hS
    refine o_pure hS (.inl rfl) rfl rfl ?_; clear hS; try clear tm
    intro tm hS
    refine o_nil (hR _ _ ?_)
    clear hR R
    refine c_seqS ?_
    refine c_reg fun R hR => ?_
    refine o_pure hS (.inl rfl) rfl rfl ?_; clear hS; try clear tm
    intro tm hS
    refine o_nil (hR _ _ ?_)
    clear hR R
    obtain ⟨k2, hw2, h0⟩ := bindS h0
    refine wpC.block ?_
    refine c_loop (I := fun (s : Int × (List Int)) tm H => match (generalizing := false) s with | (i2, l5) => S wm 186 tm H [(1, v3), (2, .pointer (some ⟨b2, 0, none⟩)), (5, .int .i64 (b1.Shape.length : Int)), (15, v23), (16, .int .i64 i2)] [.box b2 [.bool b1.Char, v1, v2], .fz (rI .u8) v3 l1, .fz (rI .i64) v1 b1.Shape, .fz (rI .i64) v2 b1.Data, .own (rI .i64) v23 l5] Fr) hw2 (by change S wm 186 _ _ _ _ Fr; exact hS.keep (ka_cons rfl (ka_cons rfl (ka_cons rfl (ka_cons rfl (ka_cons rfl ka_nil))))) (fun hI => ((((((hI.pull 0 rfl).pull 7 rfl).pull 7 rfl).pull 7 rfl).pull 5 rfl).take 5))) ?_
    clear hS
    intro s2 tm H c7 hS h5 hq5
    obtain ⟨i2, l5⟩ := s2
    change S wm 186 tm H [(1, v3), (2, .pointer (some ⟨b2, 0, none⟩)), (5, .int .i64 (b1.Shape.length : Int)), (15, v23), (16, .int .i64 i2)] [.box b2 [.bool b1.Char, v1, v2], .fz (rI .u8) v3 l1, .fz (rI .i64) v1 b1.Shape, .fz (rI .i64) v2 b1.Data, .own (rI .i64) v23 l5] Fr at hS
    refine c_seqS ?_
    refine c_reg fun R hR => ?_
    refine o_pure hS (.inl rfl) rfl rfl ?_; clear hS; try clear tm
    intro tm hS
    refine o_pure hS (.inl rfl) rfl rfl ?_; clear hS; try clear tm
    intro tm hS
    refine o_pure hS (.inl rfl) rfl rfl ?_; clear hS; try clear tm
    intro tm hS
    refine o_pure hS (.inl rfl) rfl rfl ?_; clear hS; try clear tm
    intro tm hS
    obtain ⟨c8, hc6⟩ : ∃ x : Bool, x = ((decide (i2 < (b1.Shape.length : Int))) && (decide (i2 < (l1.length : Int)))) := ⟨_, rfl⟩
    refine o_cutN 5 (J := fun tm H => S wm 186 tm H [(114, .bool c8), (1, v3), (2, .pointer (some ⟨b2, 0, none⟩)), (5, .int .i64 (b1.Shape.length : Int)), (15, v23), (16, .int .i64 i2)] [.box b2 [.bool b1.Char, v1, v2], .fz (rI .u8) v3 l1, .fz (rI .i64) v1 b1.Shape, .fz (rI .i64) v2 b1.Data, .own (rI .i64) v23 l5] Fr) ?_ ?_
    ·rcases Bool.eq_false_or_eq_true (decide (i2 < (b1.Shape.length : Int))) with hg6 | hg6
     ·refine o_pure hS (.inr ⟨_, _, _, _, rfl, rfl, rfl, hg6⟩) rfl rfl ?_; clear hS; try clear tm
      intro tm hS
      refine o_pure hS (.inr ⟨_, _, _, _, rfl, rfl, rfl, hg6⟩) rfl rfl ?_; clear hS; try clear tm
      intro tm hS
      refine o_len (k := 1) (r := (rI .u8)) hS (.inr ⟨_, _, _, _, rfl, rfl, rfl, hg6⟩) rfl rfl rfl (.inl rfl) Fu48 rfl ?_; clear hS; try clear tm
      intro tm hS
      refine o_pure hS (.inr ⟨_, _, _, _, rfl, rfl, rfl, hg6⟩) rfl rfl ?_; clear hS; try clear tm
      intro tm hS
      refine o_pickT hS (.inl rfl) rfl rfl hg6 rfl ?_; clear hS; try clear tm
      intro tm hS
      have hc6 : c8 = (decide (i2 < (l1.length : Int))) := hc6.trans (by rw [hg6]; first | rfl | simp)
      subst hc6
      exact o_nil (hS.keep (ka_cons rfl (ka_cons rfl (ka_cons rfl (ka_cons rfl (ka_cons rfl (ka_cons rfl ka_nil)))))) (fun hI => (hI.sub (sc (sc (sc (sc (sc sn))))))))
     ·refine o_skip hS rfl rfl rfl hg6 ?_; clear hS; try clear tm
      intro tm hS
      refine o_skip hS rfl rfl rfl hg6 ?_; clear hS; try clear tm
      intro tm hS
      refine o_skip hS rfl rfl rfl hg6 ?_; clear hS; try clear tm
      intro tm hS
      refine o_skip hS rfl rfl rfl hg6 ?_; clear hS; try clear tm
      intro tm hS
      refine o_pickF hS (.inl rfl) rfl rfl hg6 rfl ?_; clear hS; try clear tm
      intro tm hS
      have hc6 : c8 = false := hc6.trans (by rw [hg6]; first | rfl | simp)
      subst hc6
      exact o_nil (hS.keep (ka_cons rfl (ka_cons rfl (ka_cons rfl (ka_cons rfl (ka_cons rfl (ka_cons rfl ka_nil)))))) (fun hI => (hI.sub (sc (sc (sc (sc (sc sn))))))))
    intro tm H hS
    subst hc6
    refine o_nil (hR _ _ ?_)
    clear hR R
    refine c_cond hS rfl (fun hc => ?_) (fun hc => ?_)
    ·replace h5 := iteT hc h5
     refine wpC.skip ?_
     refine c_seqS ?_
     refine wpC.block ?_
     refine c_reg fun R hR => ?_
     refine o_pure hS (.inl rfl) rfl rfl ?_; clear hS; try clear tm
     intro tm hS
     refine o_pure hS (.inl rfl) rfl rfl ?_; clear hS; try clear tm
     intro tm hS
     obtain ⟨y1, hx13, h5⟩ := bindS h5
     refine o_ixA (k := 1) (r := (rI .u8)) hS (.inl rfl) rfl rfl rfl rfl (.inl rfl) Fu48 Fs5 hx13 ?_; clear hS; try clear tm
     intro tm hS
     refine o_ldF (r := (rI .u8)) (k := 1) hS (.inl rfl) rfl rfl rfl (.inl rfl) hx13 Fu5 rfl (flat_I _) rfl ?_; clear hS; try clear tm
     intro tm hS
     refine o_pure hS (.inl rfl) rfl rfl ?_; clear hS; try clear tm
     intro tm hS
     refine o_pure hS (.inl rfl) rfl rfl ?_; clear hS; try clear tm
     intro tm hS
     obtain ⟨q1, hx14, h5⟩ := bindS h5
     refine o_rem hS (.inl rfl) rfl rfl rfl hx14 ?_; clear hS; try clear tm
     intro tm hS
     refine o_pure hS (.inl rfl) rfl rfl ?_; clear hS; try clear tm
     intro tm hS
     refine o_nil (hR _ _ ?_)
     clear hR R
     refine c_reg1 fun R hR => ?_
     refine o_pure hS (.inl rfl) rfl rfl ?_; clear hS; try clear tm
     intro tm hS
     refine o_pure hS (.inl rfl) rfl rfl ?_; clear hS; try clear tm
     intro tm hS
     refine o_pure hS (.inl rfl) rfl rfl ?_; clear hS; try clear tm
     intro tm hS
     refine o_pure hS (.inl rfl) rfl rfl ?_; clear hS; try clear tm
     intro tm hS
     refine o_pure hS (.inl rfl) rfl rfl ?_; clear hS; try clear tm
     intro tm hS
     refine o_pure hS (.inl rfl) rfl rfl ?_; clear hS; try clear tm
     intro tm hS
     obtain ⟨y2, hx15, h5⟩ := bindS h5
     refine o_ixA (k := 4) (r := (rI .i64)) hS (.inl rfl) rfl rfl rfl rfl (.inr (.inl rfl)) Fu23 Fs2 hx15 ?_; clear hS; try clear tm
     intro tm hS
     refine o_ldF (r := (rI .i64)) (k := 4) hS (.inl rfl) rfl rfl rfl (.inr (.inl rfl)) hx15 Fu2 rfl (flat_I _) rfl ?_; clear hS; try clear tm
     intro tm hS
     refine o_pure hS (.inl rfl) rfl rfl ?_; clear hS; try clear tm
     intro tm hS
     refine o_pure hS (.inl rfl) rfl rfl ?_; clear hS; try clear tm
     intro tm hS
     obtain ⟨y3, hx16, h5⟩ := bindS h5
     refine o_ixA (k := 4) (r := (rI .i64)) hS (.inl rfl) rfl rfl rfl rfl (.inr (.inl rfl)) Fu23 Fs2 hx16 ?_; clear hS; try clear tm
     intro tm hS
     refine o_ldF (r := (rI .i64)) (k := 4) hS (.inl rfl) rfl rfl rfl (.inr (.inl rfl)) hx16 Fu2 rfl (flat_I _) rfl ?_; clear hS; try clear tm
     intro tm hS
     obtain ⟨y4, hx17, h5⟩ := bindS h5
     refine o_ixA (k := 4) (r := (rI .i64)) hS (.inl rfl) rfl rfl rfl rfl (.inr (.inl rfl)) Fu23 Fs2 hx17 ?_; clear hS; try clear tm
     intro tm hS
     obtain ⟨l6, hx18, h5⟩ := bindS h5
     refine o_stE (k := 4) (r := (rI .i64)) hS (.inl rfl) rfl rfl rfl Fs2 rfl rfl (rd_flat fun _ => rfl) hx18 ?_; clear hS; try clear H
     intro H hS
     obtain ⟨y5, hx19, h5⟩ := bindS h5
     refine o_ixA (k := 4) (r := (rI .i64)) hS (.inl rfl) rfl rfl rfl rfl (.inr (.inl rfl)) Fu23 Fs2 hx19 ?_; clear hS; try clear tm
     intro tm hS
     obtain ⟨l7, hx20, h5⟩ := bindS h5
     refine o_stE (k := 4) (r := (rI .i64)) hS (.inl rfl) rfl rfl rfl Fs2 rfl rfl (rd_flat fun _ => rfl) hx20 ?_; clear hS; try clear H
     intro H hS
     refine o_nil (hR _ _ ?_)
     clear hR R
     refine c_reg1 fun R hR => ?_
     refine o_pure hS (.inl rfl) rfl rfl ?_; clear hS; try clear tm
     intro tm hS
     refine o_pure hS (.inl rfl) rfl rfl ?_; clear hS; try clear tm
     intro tm hS
     refine o_pure hS (.inl rfl) rfl rfl ?_; clear hS; try clear tm
     intro tm hS
     refine o_nil (hR _ _ ?_)
     clear hR R
     obtain rfl := Option.some.inj h5
     refine ⟨_, rfl, ?_⟩
     change S wm 186 _ _ _ _ Fr; exact hS.keep (ka_cons rfl (ka_cons rfl (ka_cons rfl (ka_cons rfl (ka_cons rfl ka_nil))))) (fun hI => (hI.sub (sc (sc (sc (sc (sc sn)))))))
    ·replace h5 := iteF hc h5
     refine wpC.exit ?_
     refine seqX ?_
     obtain rfl := Option.some.inj h5
     obtain rfl := hq5 _ rfl
     refine And.intro rfl (blk_eq ?_)
     replace h0 := joinN h0
     refine c_reg fun R hR => ?_
     refine o_pure hS (.inl rfl) rfl rfl ?_; clear hS; try clear tm
     intro tm hS
     obtain ⟨l8, hx21, h0⟩ := bindS h0
     refine o_mk (r := (rI .i64)) hS (.inl rfl) rfl rfl rfl Fm23 rfl (fun _ => rfl) hx21 ?_; clear hS; try clear tm H
     intro v24 tm H hS
     refine o_pure hS (.inl rfl) rfl rfl ?_; clear hS; try clear tm
     intro tm hS
     refine o_nil (hR _ _ ?_)
     clear hR R
     refine c_seqS ?_
     refine c_reg fun R hR => ?_
     refine o_pure hS (.inl rfl) rfl rfl ?_; clear hS; try clear tm
     intro tm hS
     refine o_nil (hR _ _ ?_)
     clear hR R
     obtain ⟨k3, hw3, h0⟩ := bindS h0
     refine wpC.block ?_
     refine c_loop (I := fun (s : Int × (List Int)) tm H => match (generalizing := false) s with | (i3, l9) => S wm 186 tm H [(2, .pointer (some ⟨b2, 0, none⟩)), (5, .int .i64 (b1.Shape.length : Int)), (15, v23), (18, v24), (19, .int .i64 i3)] [.box b2 [.bool b1.Char, v1, v2], .fz (rI .i64) v1 b1.Shape, .fz (rI .i64) v2 b1.Data, .own (rI .i64) v23 l5, .own (rI .i64) v24 l9] Fr) hw3 (by change S wm 186 _ _ _ _ Fr; exact hS.keep (ka_cons rfl (ka_cons rfl (ka_cons rfl (ka_cons rfl (ka_cons rfl ka_nil))))) (fun hI => ((((((hI.pull 0 rfl).pull 5 rfl).pull 5 rfl).pull 5 rfl).pull 4 rfl).take 5))) ?_
     clear hS
     intro s3 tm H c9 hS h7 hq7
     obtain ⟨i3, l9⟩ := s3
     change S wm 186 tm H [(2, .pointer (some ⟨b2, 0, none⟩)), (5, .int .i64 (b1.Shape.length : Int)), (15, v23), (18, v24), (19, .int .i64 i3)] [.box b2 [.bool b1.Char, v1, v2], .fz (rI .i64) v1 b1.Shape, .fz (rI .i64) v2 b1.Data, .own (rI .i64) v23 l5, .own (rI .i64) v24 l9] Fr at hS
     refine c_seqS ?_
     refine c_reg fun R hR => ?_
     refine o_pure hS (.inl rfl) rfl rfl ?_; clear hS; try clear tm
     intro tm hS
     refine o_pure hS (.inl rfl) rfl rfl ?_; clear hS; try clear tm
     intro tm hS
     refine o_pure hS (.inl rfl) rfl rfl ?_; clear hS; try clear tm
     intro tm hS
     refine o_nil (hR _ _ ?_)
     clear hR R
     refine c_cond hS rfl (fun hc => ?_) (fun hc => ?_)
     ·replace h7 := iteT hc h7
      refine wpC.skip ?_
      refine c_seqS ?_
      refine wpC.block ?_
      refine c_reg1 fun R hR => ?_
      refine o_pure hS (.inl rfl) rfl rfl ?_; clear hS; try clear tm
      intro tm hS
      refine o_pure hS (.inl rfl) rfl rfl ?_; clear hS; try clear tm
      intro tm hS
      refine o_pure hS (.inl rfl) rfl rfl ?_; clear hS; try clear tm
      intro tm hS
      obtain ⟨y6, hx22, h7⟩ := bindS h7
      refine o_ixA (k := 3) (r := (rI .i64)) hS (.inl rfl) rfl rfl rfl rfl (.inr (.inl rfl)) Fu23 Fs2 hx22 ?_; clear hS; try clear tm
      intro tm hS
      refine o_ldF (r := (rI .i64)) (k := 3) hS (.inl rfl) rfl rfl rfl (.inr (.inl rfl)) hx22 Fu2 rfl (flat_I _) rfl ?_; clear hS; try clear tm
      intro tm hS
      refine o_pure hS (.inl rfl) rfl rfl ?_; clear hS; try clear tm
      intro tm hS
      refine o_pure hS (.inl rfl) rfl rfl ?_; clear hS; try clear tm
      intro tm hS
      refine o_pure hS (.inl rfl) rfl rfl ?_; clear hS; try clear tm
      intro tm hS
      obtain ⟨y7, hx23, h7⟩ := bindS h7
      refine o_ixA (k := 4) (r := (rI .i64)) hS (.inl rfl) rfl rfl rfl rfl (.inr (.inl rfl)) Fu23 Fs2 hx23 ?_; clear hS; try clear tm
      intro tm hS
      obtain ⟨l10, hx24, h7⟩ := bindS h7
      refine o_stE (k := 4) (r := (rI .i64)) hS (.inl rfl) rfl rfl rfl Fs2 rfl rfl (rd_flat fun _ => rfl) hx24 ?_; clear hS; try clear H
      intro H hS
      refine o_nil (hR _ _ ?_)
      clear hR R
      refine c_reg1 fun R hR => ?_
      refine o_pure hS (.inl rfl) rfl rfl ?_; clear hS; try clear tm
      intro tm hS
      refine o_pure hS (.inl rfl) rfl rfl ?_; clear hS; try clear tm
      intro tm hS
      refine o_pure hS (.inl rfl) rfl rfl ?_; clear hS; try clear tm
      intro tm hS
      refine o_nil (hR _ _ ?_)
      clear hR R
      obtain rfl := Option.some.inj h7
      refine ⟨_, rfl, ?_⟩
      change S wm 186 _ _ _ _ Fr; exact hS.keep (ka_cons rfl (ka_cons rfl (ka_cons rfl (ka_cons rfl (ka_cons rfl ka_nil))))) (fun hI => (hI.sub (sc (sc (sc (sc (sc sn)))))))
     ·replace h7 := iteF hc h7
      refine wpC.exit ?_
      refine seqX ?_
      obtain rfl := Option.some.inj h7
      obtain rfl := hq7 _ rfl
      refine And.intro rfl (blk_eq ?_)
      replace h0 := joinN h0
      refine c_reg fun R hR => ?_
      refine o_pure hS (.inl rfl) rfl rfl ?_; clear hS; try clear tm
      intro tm hS
      refine o_lit (r := (rI .i64)) (l := [(b1.Shape.length : Int)]) hS (.inl rfl) rfl Fl22 rfl rfl rfl (.cons rfl .nil) rfl rfl (ri_1 (rd_flat fun _ => rfl) ri_nil) rfl ?_; clear hS; try clear tm H
      intro v25 tm H hS
      refine o_pure hS (.inl rfl) rfl rfl ?_; clear hS; try clear tm
      intro tm hS
      replace hS := hS.litFrz (k := 0) rfl
      replace hS := hS.frz (k := 4) rfl
      obtain ⟨r13, hx25, h0⟩ := bindS h0
      refine o_call hS (.inl rfl) rfl (fun wm' hw1 hw2 => wk8  ([(b1.Shape.length : Int)]) l5  v25 v23 (((hS.sel hw2).ad 4 rfl).ad 0 rfl) hx25) (fun wm' res H hw' hp => ?_)
      obtain ⟨v26, v27, hres, hI⟩ := hp
      replace hres := hres.symm; subst hres
      replace hS : S wm 186 _ H ((158, .agg #[.bool r13.Char, v26, v27]) :: _) ([.fz (rI .i64) v26 r13.Shape, .fz (rI .i64) v27 r13.Data] ++ _) Fr := hS.after rfl hw' hI
      clear hI hw'
      refine o_ldA (k := 3) hS (.inl rfl) rfl rfl rfl (.inl rfl) Fu25 rfl Fs25 rfl ?_; clear hS; try clear tm
      intro tm hS
      obtain ⟨⟨r14, r15⟩, hx26, h0⟩ := bindS h0
      refine o_call hS (.inl rfl) rfl (fun wm' hw1 hw2 => wk13  r13 b1  v26 v27 v1 v2 (((((hS.sel hw2).ad 5 rfl).ad 4 rfl).ad 1 rfl).ad 0 rfl) hx26) (fun wm' res H hw' hp => ?_)
      obtain ⟨v28, v29, hres, hI⟩ := hp
      replace hres := hres.symm; subst hres
      replace hS : S wm 186 _ H ((160, .tuple #[.agg #[.bool r14.Char, v28, v29], .int .i64 r15]) :: _) ([.own (rI .i64) v28 r14.Shape, .own (rI .i64) v29 r14.Data] ++ _) Fr := hS.after rfl hw' hI
      clear hI hw'
      refine o_pure hS (.inl rfl) rfl rfl ?_; clear hS; try clear tm
      intro tm hS
      refine o_pure hS (.inl rfl) rfl rfl ?_; clear hS; try clear tm
      intro tm hS
      refine o_pure hS (.inl rfl) rfl rfl ?_; clear hS; try clear tm
      intro tm hS
      refine o_alloc hS (.inl rfl) rfl Fz25 (by decide) ?_; clear hS; try clear tm H
      intro b8 tm H hS
      refine o_st (k := 0) hS (.inl rfl) rfl rfl rfl Fs25 rfl rfl (all_cons rfl (all_cons (hS.one (k := 1) rfl (.inr (.inl rfl))) (all_cons (hS.one (k := 2) rfl (.inr (.inl rfl))) all_nil))) rfl ?_; clear hS; try clear H
      intro H hS
      refine o_pure hS (.inl rfl) rfl rfl ?_; clear hS; try clear tm
      intro tm hS
      refine o_nil (hR _ _ ?_)
      clear hR R
      refine c_reg fun R hR => ?_
      refine o_pure hS (.inl rfl) rfl rfl ?_; clear hS; try clear tm
      intro tm hS
      refine o_lit (r := (rI .i64)) (l := [(b1.Shape.length : Int)]) hS (.inl rfl) rfl Fl22 rfl rfl rfl (.cons rfl .nil) rfl rfl (ri_1 (rd_flat fun _ => rfl) ri_nil) rfl ?_; clear hS; try clear tm H
      intro v30 tm H hS
      refine o_pure hS (.inl rfl) rfl rfl ?_; clear hS; try clear tm
      intro tm hS
      replace hS := hS.litFrz (k := 0) rfl
      replace hS := hS.frz (k := 11) rfl
      obtain ⟨r16, hx27, h0⟩ := bindS h0
      refine o_call hS (.inl rfl) rfl (fun wm' hw1 hw2 => wk8  ([(b1.Shape.length : Int)]) l9  v30 v24 (((hS.sel hw2).ad 11 rfl).ad 0 rfl) hx27) (fun wm' res H hw' hp => ?_)
      obtain ⟨v31, v32, hres, hI⟩ := hp
      replace hres := hres.symm; subst hres
      replace hS : S wm 186 _ H ((167, .agg #[.bool r16.Char, v31, v32]) :: _) ([.fz (rI .i64) v31 r16.Shape, .fz (rI .i64) v32 r16.Data] ++ _) Fr := hS.after rfl hw' hI
      clear hI hw'
      refine o_ldA (k := 3) hS (.inl rfl) rfl rfl rfl (.inl rfl) Fu25 rfl Fs25 rfl ?_; clear hS; try clear tm
      intro tm hS
      obtain ⟨⟨r17, r18⟩, hx28, h0⟩ := bindS h0
      refine o_call (Pc := fun _ res H => ∃ v33 v34, res = .tuple #[.agg #[.bool r17.Char, v33, v34], .int .i64 r18] ∧ Kn wm H ([.own (rI .i64) v33 r17.Shape, .own (rI .i64) v34 r17.Data] ++ [.fz (rI .i64) v31 r16.Shape, .fz (rI .i64) v32 r16.Data, .fz (rI .i64) v30 ([(b1.Shape.length : Int)]), .box b8 [.bool r14.Char, v28, v29], .own (rI .i64) v28 r14.Shape, .own (rI .i64) v29 r14.Data, .fz (rI .i64) v26 r13.Shape, .fz (rI .i64) v27 r13.Data, .fz (rI .i64) v25 ([(b1.Shape.length : Int)]), .box b2 [.bool b1.Char, v1, v2], .fz (rI .i64) v1 b1.Shape, .fz (rI .i64) v2 b1.Data, .fz (rI .i64) v23 l5, .fz (rI .i64) v24 l9]) Fr) hS (.inl rfl) rfl (fun wm' hw1 hw2 => by
       obtain ⟨F2, k1, k2⟩ := hS.inv.lendR (La := [.fz (rI .i64) v31 r16.Shape, .fz (rI .i64) v32 r16.Data, .fz (rI .i64) v28 r14.Shape, .fz (rI .i64) v29 r14.Data]) (List.forall_mem_cons.mpr ⟨(.inl ⟨rfl, List.mem_of_getElem? (i := 0) rfl⟩), (List.forall_mem_cons.mpr ⟨(.inl ⟨rfl, List.mem_of_getElem? (i := 1) rfl⟩), (List.forall_mem_cons.mpr ⟨(.inr ⟨_, _, _, _, rfl, .inl (List.mem_of_getElem? (i := 4) rfl)⟩), (List.forall_mem_cons.mpr ⟨(.inr ⟨_, _, _, _, rfl, .inl (List.mem_of_getElem? (i := 5) rfl)⟩), (fun _ h => by cases h)⟩)⟩)⟩)⟩) hw1 hw2
       exact (wk13  r16 r14  v31 v32 v28 v29 k1 hx28).mono fun res H2 ⟨v33, v34, q1, q2⟩ => ⟨v33, v34, q1, k2 _ _ (List.forall_mem_cons.mpr ⟨⟨_, _, _, _, rfl, fun _ _ _ _ h => h⟩, (List.forall_mem_cons.mpr ⟨⟨_, _, _, _, rfl, fun _ _ _ _ h => h⟩, (fun _ h => by cases h)⟩)⟩) q2⟩) (fun wm' res H hw' hp => ?_)
      obtain ⟨v33, v34, hres, hI⟩ := hp
      replace hres := hres.symm; subst hres
      replace hS : S wm 186 _ H ((169, .tuple #[.agg #[.bool r17.Char, v33, v34], .int .i64 r18]) :: _) ([.own (rI .i64) v33 r17.Shape, .own (rI .i64) v34 r17.Data] ++ [.fz (rI .i64) v31 r16.Shape, .fz (rI .i64) v32 r16.Data, .fz (rI .i64) v30 ([(b1.Shape.length : Int)]), .box b8 [.bool r14.Char, v28, v29], .own (rI .i64) v28 r14.Shape, .own (rI .i64) v29 r14.Data, .fz (rI .i64) v26 r13.Shape, .fz (rI .i64) v27 r13.Data, .fz (rI .i64) v25 ([(b1.Shape.length : Int)]), .box b2 [.bool b1.Char, v1, v2], .fz (rI .i64) v1 b1.Shape, .fz (rI .i64) v2 b1.Data, .fz (rI .i64) v23 l5, .fz (rI .i64) v24 l9]) Fr := (hS.put rfl _).withK hI
      clear hI hw'
      refine o_pure hS (.inl rfl) rfl rfl ?_; clear hS; try clear tm
      intro tm hS
      refine o_pure hS (.inl rfl) rfl rfl ?_; clear hS; try clear tm
      intro tm hS
      refine o_pure hS (.inl rfl) rfl rfl ?_; clear hS; try clear tm
      intro tm hS
      refine o_alloc hS (.inl rfl) rfl Fz25 (by decide) ?_; clear hS; try clear tm H
      intro b9 tm H hS
      refine o_st (k := 0) hS (.inl rfl) rfl rfl rfl Fs25 rfl rfl (all_cons rfl (all_cons (hS.one (k := 1) rfl (.inr (.inl rfl))) (all_cons (hS.one (k := 2) rfl (.inr (.inl rfl))) all_nil))) rfl ?_; clear hS; try clear H
      intro H hS
      refine o_pure hS (.inl rfl) rfl rfl ?_; clear hS; try clear tm
      intro tm hS
      refine o_nil (hR _ _ ?_)
      clear hR R
      refine c_reg fun R hR => ?_
      refine o_pure hS (.inl rfl) rfl rfl ?_; clear hS; try clear tm
      intro tm hS
      refine o_pure hS (.inl rfl) rfl rfl ?_; clear hS; try clear tm
      intro tm hS
      refine o_pure hS (.inl rfl) rfl rfl ?_; clear hS; try clear tm
      intro tm hS
      obtain ⟨c10, hc7⟩ : ∃ x : Bool, x = ((r15 == 0) && (r18 == 0)) := ⟨_, rfl⟩
      refine o_cutN 3 (J := fun tm H => S wm 186 tm H [(177, .bool c10), (2, .pointer (some ⟨b2, 0, none⟩)), (22, .pointer (some ⟨b9, 0, none⟩))] [.box b9 [.bool r17.Char, v33, v34], .own (rI .i64) v33 r17.Shape, .own (rI .i64) v34 r17.Data, .box b2 [.bool b1.Char, v1, v2], .fz (rI .i64) v1 b1.Shape, .fz (rI .i64) v2 b1.Data] Fr) ?_ ?_
      ·rcases Bool.eq_false_or_eq_true (r15 == 0) with hg7 | hg7
       ·refine o_pure hS (.inr ⟨_, _, _, _, rfl, rfl, rfl, hg7⟩) rfl rfl ?_; clear hS; try clear tm
        intro tm hS
        refine o_pure hS (.inr ⟨_, _, _, _, rfl, rfl, rfl, hg7⟩) rfl rfl ?_; clear hS; try clear tm
        intro tm hS
        refine o_pickT hS (.inl rfl) rfl rfl hg7 rfl ?_; clear hS; try clear tm
        intro tm hS
        have hc7 : c10 = (r18 == 0) := hc7.trans (by rw [hg7]; first | rfl | simp)
        subst hc7
        exact o_nil (hS.keep (ka_cons rfl (ka_cons rfl (ka_cons rfl ka_nil))) (fun hI => (hI.sub (sc (sc (sc (sd (sd (sd (sd (sd (sd (sd (sd (sd (sc (sc (sc sn))))))))))))))))))
       ·refine o_skip hS rfl rfl rfl hg7 ?_; clear hS; try clear tm
        intro tm hS
        refine o_skip hS rfl rfl rfl hg7 ?_; clear hS; try clear tm
        intro tm hS
        refine o_pickF hS (.inl rfl) rfl rfl hg7 rfl ?_; clear hS; try clear tm
        intro tm hS
        have hc7 : c10 = false := hc7.trans (by rw [hg7]; first | rfl | simp)
        subst hc7
        exact o_nil (hS.keep (ka_cons rfl (ka_cons rfl (ka_cons rfl ka_nil))) (fun hI => (hI.sub (sc (sc (sc (sd (sd (sd (sd (sd (sd (sd (sd (sd (sc (sc (sc sn))))))))))))))))))
      intro tm H hS
      subst hc7
      refine o_pure hS (.inl rfl) rfl rfl ?_; clear hS; try clear tm
      intro tm hS
      obtain ⟨c11, hc8, h0⟩ := bindS h0
      refine o_cutN 4 (J := fun tm H => S wm 186 tm H [(182, .bool c11)] [] Fr) ?_ ?_
      ·rcases Bool.eq_false_or_eq_true ((r15 == 0) && (r18 == 0)) with hg8 | hg8
       ·replace hc8 := iteT hg8 hc8
        refine o_ldA (k := 0) hS (.inr ⟨_, _, _, _, rfl, rfl, rfl, hg8⟩) rfl rfl rfl (.inl rfl) Fu25 rfl Fs25 rfl ?_; clear hS; try clear tm
        intro tm hS
        refine o_ldA (k := 3) hS (.inr ⟨_, _, _, _, rfl, rfl, rfl, hg8⟩) rfl rfl rfl (.inl rfl) Fu25 rfl Fs25 rfl ?_; clear hS; try clear tm
        intro tm hS
        obtain ⟨r19, hx29, hc8⟩ := bindS hc8
        refine o_call (Pc := fun _ res H => res = .bool r19 ∧ Kn wm H ([.box b9 [.bool r17.Char, v33, v34], .own (rI .i64) v33 r17.Shape, .own (rI .i64) v34 r17.Data, .box b2 [.bool b1.Char, v1, v2], .fz (rI .i64) v1 b1.Shape, .fz (rI .i64) v2 b1.Data]) Fr) hS (.inr ⟨_, _, _, _, rfl, rfl, rfl, hg8⟩) rfl (fun wm' hw1 hw2 => by
         obtain ⟨F2, k1, k2⟩ := hS.inv.lend (La := [.fz (rI .i64) v33 r17.Shape, .fz (rI .i64) v34 r17.Data, .fz (rI .i64) v1 b1.Shape, .fz (rI .i64) v2 b1.Data]) (List.forall_mem_cons.mpr ⟨(.inr ⟨_, _, _, _, rfl, .inl (List.mem_of_getElem? (i := 1) rfl)⟩), (List.forall_mem_cons.mpr ⟨(.inr ⟨_, _, _, _, rfl, .inl (List.mem_of_getElem? (i := 2) rfl)⟩), (List.forall_mem_cons.mpr ⟨(.inl ⟨rfl, List.mem_of_getElem? (i := 4) rfl⟩), (List.forall_mem_cons.mpr ⟨(.inl ⟨rfl, List.mem_of_getElem? (i := 5) rfl⟩), (fun _ h => by cases h)⟩)⟩)⟩)⟩) hw1 hw2
         exact (wk24  r17 b1  v33 v34 v1 v2 k1 hx29).mono fun res H2 ⟨q1, q2⟩ => ⟨q1, k2 _ q2⟩) (fun wm' res H hw' hp => ?_)
        obtain ⟨hres, hI⟩ := hp
        replace hres := hres.symm; subst hres
        replace hS : S wm 186 _ H ((181, .bool r19) :: _) ([.box b9 [.bool r17.Char, v33, v34], .own (rI .i64) v33 r17.Shape, .own (rI .i64) v34 r17.Data, .box b2 [.bool b1.Char, v1, v2], .fz (rI .i64) v1 b1.Shape, .fz (rI .i64) v2 b1.Data]) Fr := (hS.put rfl _).withK hI
        clear hI hw'
        refine o_pickT hS (.inl rfl) rfl rfl hg8 rfl ?_; clear hS; try clear tm
        intro tm hS
        obtain rfl := Option.some.inj hc8
        exact o_nil (hS.keep (ka_cons rfl ka_nil) (fun hI => (hI.sub sn)))
       ·replace hc8 := iteF hg8 hc8
        refine o_skip hS rfl rfl rfl hg8 ?_; clear hS; try clear tm
        intro tm hS
        refine o_skip hS rfl rfl rfl hg8 ?_; clear hS; try clear tm
        intro tm hS
        refine o_skip hS rfl rfl rfl hg8 ?_; clear hS; try clear tm
        intro tm hS
        refine o_pickF hS (.inl rfl) rfl rfl hg8 rfl ?_; clear hS; try clear tm
        intro tm hS
        obtain rfl := Option.some.inj hc8
        exact o_nil (hS.keep (ka_cons rfl ka_nil) (fun hI => (hI.sub sn)))
      intro tm H hS
      refine o_pure hS (.inl rfl) rfl rfl ?_; clear hS; try clear tm
      intro tm hS
      obtain ⟨c12, hc9⟩ : ∃ x : Bool, x = (c11 && true) := ⟨_, rfl⟩
      refine o_cutN 2 (J := fun tm H => S wm 186 tm H [(185, .bool c12)] [] Fr) ?_ ?_
      ·rcases Bool.eq_false_or_eq_true c11 with hg9 | hg9
       ·refine o_call hS (.inr ⟨_, _, _, _, rfl, rfl, rfl, hg9⟩) rfl (fun wm' hw1 hw2 => wpF.told ho17 (Q := fun v H' => v = .bool true ∧ H' = H) ⟨rfl, rfl⟩) (fun wm' res H hw' hp => ?_)
        obtain ⟨rfl, rfl⟩ := hp
        replace hS := hS.put (d := 184) rfl (.bool true)
        clear hw'
        refine o_pickT hS (.inl rfl) rfl rfl hg9 rfl ?_; clear hS; try clear tm
        intro tm hS
        have hc9 : c12 = true := hc9.trans (by rw [hg9]; first | rfl | simp)
        subst hc9
        exact o_nil (hS.keep (ka_cons rfl ka_nil) (fun hI => (hI.sub sn)))
       ·refine o_skip hS rfl rfl rfl hg9 ?_; clear hS; try clear tm
        intro tm hS
        refine o_pickF hS (.inl rfl) rfl rfl hg9 rfl ?_; clear hS; try clear tm
        intro tm hS
        have hc9 : c12 = false := hc9.trans (by rw [hg9]; first | rfl | simp)
        subst hc9
        exact o_nil (hS.keep (ka_cons rfl ka_nil) (fun hI => (hI.sub sn)))
      intro tm H hS
      subst hc9
      refine o_pure hS (.inl rfl) rfl rfl ?_; clear hS; try clear tm
      intro tm hS
      refine o_nil (hR _ _ ?_)
      clear hR R
      refine wpC.ret ?_
      obtain rfl := Option.some.inj h0
      refine Exists.intro _ (And.intro (rs_tmp hS rfl rs_nil) ?_)
      have hI := hS.inv
      exact ⟨rfl, (hI.sub sn)⟩
end Go.Proofs.Yteoojnahehgakaa.turnWays
