/- PickKnown: walks of the code: the run of each function comes to what its plain function says. -/
import Derived.Test.YtmelmiffgkippaaWPickKnownb
set_option maxHeartbeats 4000000
set_option linter.unusedVariables false
set_option linter.unusedSimpArgs false
set_option maxRecDepth 100000
open Go Go.Am Go.Proofs
namespace Go.Proofs.Ytmelmiffgkippaa.pickKnown
variable {ora : FuncId → Bool}
theorem wk12 {wm : Nat} {H : AHeap} {Fr : List Ent} (ho12 : ora 12 = false) (ho15 : ora 15 = true) (ho55 : ora 55 = false)    (hI : Kn wm H [] Fr) {r : Bool} (h0 : M.anamnesislaw09_PickKnown = some r) :
  wpF Try.prog ora wm 12 [] H (fun res H => res = .bool r ∧ Kn wm H [] Fr) := by
 unfold M.anamnesislaw09_PickKnown at h0
 refine f_enter (n := 294) Try.func12 rfl (by simp [ho12]) hI rfl rfl rfl fun tm hS => ?_
 clear hI
 refine c_reg fun R hR => ?_
 refine o_pure hS (.inl rfl) rfl rfl ?_; clear hS; try clear tm
 intro tm hS
 refine o_nil (hR _ _ ?_)
 clear hR R
 refine c_reg fun R hR => ?_
 refine o_pure hS (.inl rfl) rfl rfl ?_; clear hS; try clear tm
 intro tm hS
 refine o_nil (hR _ _ ?_)
 clear hR R
 refine c_reg fun R hR => ?_
 refine o_pure hS (.inl rfl) rfl rfl ?_; clear hS; try clear tm
 intro tm hS
 refine o_nil (hR _ _ ?_)
 clear hR R
 refine c_reg fun R hR => ?_
 obtain ⟨r1, hx1, h0⟩ := bindS h0
 refine o_call hS (.inl rfl) rfl (fun wm' hw1 hw2 => wk52  (-2)   (hS.sel hw2) hx1) (fun wm' res H hw' hp => ?_)
 obtain ⟨v1, v2, hres, hI⟩ := hp
 replace hres := hres.symm; subst hres
 replace hS : S wm 294 _ H ((18, .agg #[.bool r1.Char, v1, v2]) :: _) ([.own (rI .i64) v1 r1.Shape, .own (rI .i64) v2 r1.Data] ++ _) Fr := hS.after rfl hw' hI
 clear hI hw'
 refine o_lit (r := (rI .i64)) (l := [1, 2, 3]) hS (.inl rfl) rfl Fl23 rfl rfl rfl (.cons rfl (.cons rfl (.cons rfl .nil))) rfl rfl (ri_1 (rd_flat fun _ => rfl) (ri_1 (rd_flat fun _ => rfl) (ri_1 (rd_flat fun _ => rfl) ri_nil))) rfl ?_; clear hS; try clear tm H
 intro v3 tm H hS
 obtain ⟨r2, hx2, h0⟩ := bindS h0
 refine o_call (Pc := fun _ res H => ∃ v4 v5, res = .agg #[.bool r2.Char, v4, v5] ∧ Kn wm H ([.own (rI .i64) v4 r2.Shape, .own (rI .i64) v5 r2.Data] ++ [.lit (rI .i64) v3 ([1, 2, 3]), .own (rI .i64) v1 r1.Shape, .own (rI .i64) v2 r1.Data]) Fr) hS (.inl rfl) rfl (fun wm' hw1 hw2 => by
  obtain ⟨F2, kk_1, kk_2⟩ := hS.inv.lendR (La := [.fz (rI .i64) v3 ([1, 2, 3])]) (List.forall_mem_cons.mpr ⟨(.inr ⟨_, _, _, _, rfl, .inr (List.mem_of_getElem? (i := 0) rfl)⟩), (fun _ h => by cases h)⟩) hw1 hw2
  exact (wk53  ([1, 2, 3])  v3 kk_1 hx2).mono fun res H2 ⟨v4, v5, qq_1, qq_2⟩ => ⟨v4, v5, qq_1, kk_2 _ _ (List.forall_mem_cons.mpr ⟨⟨_, _, _, _, rfl, fun _ _ _ _ h => h⟩, (List.forall_mem_cons.mpr ⟨⟨_, _, _, _, rfl, fun _ _ _ _ h => h⟩, (fun _ h => by cases h)⟩)⟩) qq_2⟩) (fun wm' res H hw' hp => ?_)
 obtain ⟨v4, v5, hres, hI⟩ := hp
 replace hres := hres.symm; subst hres
 replace hS : S wm 294 _ H ((20, .agg #[.bool r2.Char, v4, v5]) :: _) ([.own (rI .i64) v4 r2.Shape, .own (rI .i64) v5 r2.Data] ++ [.lit (rI .i64) v3 ([1, 2, 3]), .own (rI .i64) v1 r1.Shape, .own (rI .i64) v2 r1.Data]) Fr := (hS.put rfl _).withK hI
 clear hI hw'
 replace hS := hS.frz (k := 3) rfl
 replace hS := hS.frz (k := 4) rfl
 replace hS := hS.frz (k := 0) rfl
 replace hS := hS.frz (k := 1) rfl
 obtain ⟨⟨r3, r4⟩, hx3, h0⟩ := bindS h0
 refine o_call hS (.inl rfl) rfl (fun wm' hw1 hw2 => wk23  r1 r2  v1 v2 v4 v5 (((((hS.sel hw2).ad 1 rfl).ad 0 rfl).ad 4 rfl).ad 3 rfl) hx3) (fun wm' res H hw' hp => ?_)
 obtain ⟨v6, v7, hres, hI⟩ := hp
 replace hres := hres.symm; subst hres
 replace hS : S wm 294 _ H ((21, .tuple #[.agg #[.bool r3.Char, v6, v7], .int .i64 r4]) :: _) ([.fz (rI .i64) v6 r3.Shape, .own (rI .i64) v7 r3.Data] ++ _) Fr := hS.after rfl hw' hI
 clear hI hw'
 refine o_pure hS (.inl rfl) rfl rfl ?_; clear hS; try clear tm
 intro tm hS
 refine o_pure hS (.inl rfl) rfl rfl ?_; clear hS; try clear tm
 intro tm hS
 refine o_pure hS (.inl rfl) rfl rfl ?_; clear hS; try clear tm
 intro tm hS
 refine o_alloc hS (.inl rfl) rfl Fz25 (by decide) ?_; clear hS; try clear tm H
 intro b1 tm H hS
 refine o_st (k := 0) hS (.inl rfl) rfl rfl rfl Fs25 rfl rfl (all_cons rfl (all_cons (hS.one (k := 1) rfl (.inl rfl)) (all_cons (hS.one (k := 2) rfl (.inr (.inl rfl))) all_nil))) rfl ?_; clear hS; try clear H
 intro H hS
 refine o_pure hS (.inl rfl) rfl rfl ?_; clear hS; try clear tm
 intro tm hS
 refine o_nil (hR _ _ ?_)
 clear hR R
 refine c_reg fun R hR => ?_
 obtain ⟨r5, hx4, h0⟩ := bindS h0
 refine o_call hS (.inl rfl) rfl (fun wm' hw1 hw2 => wk52  5   (hS.sel hw2) hx4) (fun wm' res H hw' hp => ?_)
 obtain ⟨v8, v9, hres, hI⟩ := hp
 replace hres := hres.symm; subst hres
 replace hS : S wm 294 _ H ((25, .agg #[.bool r5.Char, v8, v9]) :: _) ([.own (rI .i64) v8 r5.Shape, .own (rI .i64) v9 r5.Data] ++ _) Fr := hS.after rfl hw' hI
 clear hI hw'
 obtain ⟨r6, hx5, h0⟩ := bindS h0
 refine o_call hS (.inl rfl) rfl (fun wm' hw1 hw2 => wk54  str_97_98   (hS.sel hw2) hx5) (fun wm' res H hw' hp => ?_)
 obtain ⟨v10, v11, hres, hI⟩ := hp
 replace hres := hres.symm; subst hres
 replace hS : S wm 294 _ H ((26, .agg #[.bool r6.Char, v10, v11]) :: _) ([.own (rI .i64) v10 r6.Shape, .own (rI .i64) v11 r6.Data] ++ _) Fr := hS.after rfl hw' hI
 clear hI hw'
 replace hS := hS.frz (k := 2) rfl
 replace hS := hS.frz (k := 3) rfl
 replace hS := hS.frz (k := 0) rfl
 replace hS := hS.frz (k := 1) rfl
 obtain ⟨⟨r7, r8⟩, hx6, h0⟩ := bindS h0
 refine o_call hS (.inl rfl) rfl (fun wm' hw1 hw2 => wk23  r5 r6  v8 v9 v10 v11 (((((hS.sel hw2).ad 1 rfl).ad 0 rfl).ad 3 rfl).ad 2 rfl) hx6) (fun wm' res H hw' hp => ?_)
 obtain ⟨v12, v13, hres, hI⟩ := hp
 replace hres := hres.symm; subst hres
 replace hS : S wm 294 _ H ((27, .tuple #[.agg #[.bool r7.Char, v12, v13], .int .i64 r8]) :: _) ([.fz (rI .i64) v12 r7.Shape, .own (rI .i64) v13 r7.Data] ++ _) Fr := hS.after rfl hw' hI
 clear hI hw'
 refine o_pure hS (.inl rfl) rfl rfl ?_; clear hS; try clear tm
 intro tm hS
 refine o_pure hS (.inl rfl) rfl rfl ?_; clear hS; try clear tm
 intro tm hS
 refine o_pure hS (.inl rfl) rfl rfl ?_; clear hS; try clear tm
 intro tm hS
 refine o_alloc hS (.inl rfl) rfl Fz25 (by decide) ?_; clear hS; try clear tm H
 intro b2 tm H hS
 refine o_st (k := 0) hS (.inl rfl) rfl rfl rfl Fs25 rfl rfl (all_cons rfl (all_cons (hS.one (k := 1) rfl (.inl rfl)) (all_cons (hS.one (k := 2) rfl (.inr (.inl rfl))) all_nil))) rfl ?_; clear hS; try clear H
 intro H hS
 refine o_pure hS (.inl rfl) rfl rfl ?_; clear hS; try clear tm
 intro tm hS
 refine o_nil (hR _ _ ?_)
 clear hR R
 refine c_reg fun R hR => ?_
 refine o_lit (r := (rI .i64)) (l := [2, (-2)]) hS (.inl rfl) rfl Fl23 rfl rfl rfl (.cons rfl (.cons rfl .nil)) rfl rfl (ri_1 (rd_flat fun _ => rfl) (ri_1 (rd_flat fun _ => rfl) ri_nil)) rfl ?_; clear hS; try clear tm H
 intro v14 tm H hS
 obtain ⟨r9, hx7, h0⟩ := bindS h0
 refine o_call (Pc := fun _ res H => ∃ v15 v16, res = .agg #[.bool r9.Char, v15, v16] ∧ Kn wm H ([.own (rI .i64) v15 r9.Shape, .own (rI .i64) v16 r9.Data] ++ [.lit (rI .i64) v14 ([2, (-2)]), .box b2 [.bool r7.Char, v12, v13], .fz (rI .i64) v12 r7.Shape, .own (rI .i64) v13 r7.Data, .fz (rI .i64) v10 r6.Shape, .fz (rI .i64) v11 r6.Data, .fz (rI .i64) v8 r5.Shape, .fz (rI .i64) v9 r5.Data, .box b1 [.bool r3.Char, v6, v7], .fz (rI .i64) v6 r3.Shape, .own (rI .i64) v7 r3.Data, .fz (rI .i64) v4 r2.Shape, .fz (rI .i64) v5 r2.Data, .lit (rI .i64) v3 ([1, 2, 3]), .fz (rI .i64) v1 r1.Shape, .fz (rI .i64) v2 r1.Data]) Fr) hS (.inl rfl) rfl (fun wm' hw1 hw2 => by
  obtain ⟨F2, kk_1, kk_2⟩ := hS.inv.lendR (La := [.fz (rI .i64) v14 ([2, (-2)])]) (List.forall_mem_cons.mpr ⟨(.inr ⟨_, _, _, _, rfl, .inr (List.mem_of_getElem? (i := 0) rfl)⟩), (fun _ h => by cases h)⟩) hw1 hw2
  exact (wk53  ([2, (-2)])  v14 kk_1 hx7).mono fun res H2 ⟨v15, v16, qq_1, qq_2⟩ => ⟨v15, v16, qq_1, kk_2 _ _ (List.forall_mem_cons.mpr ⟨⟨_, _, _, _, rfl, fun _ _ _ _ h => h⟩, (List.forall_mem_cons.mpr ⟨⟨_, _, _, _, rfl, fun _ _ _ _ h => h⟩, (fun _ h => by cases h)⟩)⟩) qq_2⟩) (fun wm' res H hw' hp => ?_)
 obtain ⟨v15, v16, hres, hI⟩ := hp
 replace hres := hres.symm; subst hres
 replace hS : S wm 294 _ H ((32, .agg #[.bool r9.Char, v15, v16]) :: _) ([.own (rI .i64) v15 r9.Shape, .own (rI .i64) v16 r9.Data] ++ [.lit (rI .i64) v14 ([2, (-2)]), .box b2 [.bool r7.Char, v12, v13], .fz (rI .i64) v12 r7.Shape, .own (rI .i64) v13 r7.Data, .fz (rI .i64) v10 r6.Shape, .fz (rI .i64) v11 r6.Data, .fz (rI .i64) v8 r5.Shape, .fz (rI .i64) v9 r5.Data, .box b1 [.bool r3.Char, v6, v7], .fz (rI .i64) v6 r3.Shape, .own (rI .i64) v7 r3.Data, .fz (rI .i64) v4 r2.Shape, .fz (rI .i64) v5 r2.Data, .lit (rI .i64) v3 ([1, 2, 3]), .fz (rI .i64) v1 r1.Shape, .fz (rI .i64) v2 r1.Data]) Fr := (hS.put rfl _).withK hI
 clear hI hw'
 obtain ⟨r10, hx8, h0⟩ := bindS h0
 refine o_call hS (.inl rfl) rfl (fun wm' hw1 hw2 => wk55 ho55    (hS.sel hw2) hx8) (fun wm' res H hw' hp => ?_)
 obtain ⟨v17, v18, hres, hI⟩ := hp
 replace hres := hres.symm; subst hres
 replace hS : S wm 294 _ H ((33, .agg #[.bool r10.Char, v17, v18]) :: _) ([.fz (rI .i64) v17 r10.Shape, .fz (rI .i64) v18 r10.Data] ++ _) Fr := hS.after rfl hw' hI
 clear hI hw'
 replace hS := hS.frz (k := 2) rfl
 replace hS := hS.frz (k := 3) rfl
 obtain ⟨⟨r11, r12⟩, hx9, h0⟩ := bindS h0
 refine o_call hS (.inl rfl) rfl (fun wm' hw1 hw2 => wk23  r9 r10  v15 v16 v17 v18 (((((hS.sel hw2).ad 1 rfl).ad 0 rfl).ad 3 rfl).ad 2 rfl) hx9) (fun wm' res H hw' hp => ?_)
 obtain ⟨v19, v20, hres, hI⟩ := hp
 replace hres := hres.symm; subst hres
 replace hS : S wm 294 _ H ((34, .tuple #[.agg #[.bool r11.Char, v19, v20], .int .i64 r12]) :: _) ([.fz (rI .i64) v19 r11.Shape, .own (rI .i64) v20 r11.Data] ++ _) Fr := hS.after rfl hw' hI
 clear hI hw'
 refine o_pure hS (.inl rfl) rfl rfl ?_; clear hS; try clear tm
 intro tm hS
 refine o_pure hS (.inl rfl) rfl rfl ?_; clear hS; try clear tm
 intro tm hS
 refine o_pure hS (.inl rfl) rfl rfl ?_; clear hS; try clear tm
 intro tm hS
 refine o_alloc hS (.inl rfl) rfl Fz25 (by decide) ?_; clear hS; try clear tm H
 intro b3 tm H hS
 refine o_st (k := 0) hS (.inl rfl) rfl rfl rfl Fs25 rfl rfl (all_cons rfl (all_cons (hS.one (k := 1) rfl (.inl rfl)) (all_cons (hS.one (k := 2) rfl (.inr (.inl rfl))) all_nil))) rfl ?_; clear hS; try clear H
 intro H hS
 refine o_pure hS (.inl rfl) rfl rfl ?_; clear hS; try clear tm
 intro tm hS
 refine o_nil (hR _ _ ?_)
 clear hR R
 refine c_reg fun R hR => ?_
 obtain ⟨r13, hx10, h0⟩ := bindS h0
 refine o_call hS (.inl rfl) rfl (fun wm' hw1 hw2 => wk52  (-5)   (hS.sel hw2) hx10) (fun wm' res H hw' hp => ?_)
 obtain ⟨v21, v22, hres, hI⟩ := hp
 replace hres := hres.symm; subst hres
 replace hS : S wm 294 _ H ((38, .agg #[.bool r13.Char, v21, v22]) :: _) ([.own (rI .i64) v21 r13.Shape, .own (rI .i64) v22 r13.Data] ++ _) Fr := hS.after rfl hw' hI
 clear hI hw'
 refine o_lit (r := (rI .i64)) (l := [1, 2, 3]) hS (.inl rfl) rfl Fl23 rfl rfl rfl (.cons rfl (.cons rfl (.cons rfl .nil))) rfl rfl (ri_1 (rd_flat fun _ => rfl) (ri_1 (rd_flat fun _ => rfl) (ri_1 (rd_flat fun _ => rfl) ri_nil))) rfl ?_; clear hS; try clear tm H
 intro v23 tm H hS
 obtain ⟨r14, hx11, h0⟩ := bindS h0
 refine o_call (Pc := fun _ res H => ∃ v24 v25, res = .agg #[.bool r14.Char, v24, v25] ∧ Kn wm H ([.own (rI .i64) v24 r14.Shape, .own (rI .i64) v25 r14.Data] ++ [.lit (rI .i64) v23 ([1, 2, 3]), .own (rI .i64) v21 r13.Shape, .own (rI .i64) v22 r13.Data, .box b3 [.bool r11.Char, v19, v20], .fz (rI .i64) v19 r11.Shape, .own (rI .i64) v20 r11.Data, .fz (rI .i64) v17 r10.Shape, .fz (rI .i64) v18 r10.Data, .fz (rI .i64) v15 r9.Shape, .fz (rI .i64) v16 r9.Data, .lit (rI .i64) v14 ([2, (-2)]), .box b2 [.bool r7.Char, v12, v13], .fz (rI .i64) v12 r7.Shape, .own (rI .i64) v13 r7.Data, .fz (rI .i64) v10 r6.Shape, .fz (rI .i64) v11 r6.Data, .fz (rI .i64) v8 r5.Shape, .fz (rI .i64) v9 r5.Data, .box b1 [.bool r3.Char, v6, v7], .fz (rI .i64) v6 r3.Shape, .own (rI .i64) v7 r3.Data, .fz (rI .i64) v4 r2.Shape, .fz (rI .i64) v5 r2.Data, .lit (rI .i64) v3 ([1, 2, 3]), .fz (rI .i64) v1 r1.Shape, .fz (rI .i64) v2 r1.Data]) Fr) hS (.inl rfl) rfl (fun wm' hw1 hw2 => by
  obtain ⟨F2, kk_1, kk_2⟩ := hS.inv.lendR (La := [.fz (rI .i64) v23 ([1, 2, 3])]) (List.forall_mem_cons.mpr ⟨(.inr ⟨_, _, _, _, rfl, .inr (List.mem_of_getElem? (i := 0) rfl)⟩), (fun _ h => by cases h)⟩) hw1 hw2
  exact (wk53  ([1, 2, 3])  v23 kk_1 hx11).mono fun res H2 ⟨v24, v25, qq_1, qq_2⟩ => ⟨v24, v25, qq_1, kk_2 _ _ (List.forall_mem_cons.mpr ⟨⟨_, _, _, _, rfl, fun _ _ _ _ h => h⟩, (List.forall_mem_cons.mpr ⟨⟨_, _, _, _, rfl, fun _ _ _ _ h => h⟩, (fun _ h => by cases h)⟩)⟩) qq_2⟩) (fun wm' res H hw' hp => ?_)
 obtain ⟨v24, v25, hres, hI⟩ := hp
 replace hres := hres.symm; subst hres
 replace hS : S wm 294 _ H ((40, .agg #[.bool r14.Char, v24, v25]) :: _) ([.own (rI .i64) v24 r14.Shape, .own (rI .i64) v25 r14.Data] ++ [.lit (rI .i64) v23 ([1, 2, 3]), .own (rI .i64) v21 r13.Shape, .own (rI .i64) v22 r13.Data, .box b3 [.bool r11.Char, v19, v20], .fz (rI .i64) v19 r11.Shape, .own (rI .i64) v20 r11.Data, .fz (rI .i64) v17 r10.Shape, .fz (rI .i64) v18 r10.Data, .fz (rI .i64) v15 r9.Shape, .fz (rI .i64) v16 r9.Data, .lit (rI .i64) v14 ([2, (-2)]), .box b2 [.bool r7.Char, v12, v13], .fz (rI .i64) v12 r7.Shape, .own (rI .i64) v13 r7.Data, .fz (rI .i64) v10 r6.Shape, .fz (rI .i64) v11 r6.Data, .fz (rI .i64) v8 r5.Shape, .fz (rI .i64) v9 r5.Data, .box b1 [.bool r3.Char, v6, v7], .fz (rI .i64) v6 r3.Shape, .own (rI .i64) v7 r3.Data, .fz (rI .i64) v4 r2.Shape, .fz (rI .i64) v5 r2.Data, .lit (rI .i64) v3 ([1, 2, 3]), .fz (rI .i64) v1 r1.Shape, .fz (rI .i64) v2 r1.Data]) Fr := (hS.put rfl _).withK hI
 clear hI hw'
 replace hS := hS.frz (k := 3) rfl
 replace hS := hS.frz (k := 4) rfl
 replace hS := hS.frz (k := 0) rfl
 replace hS := hS.frz (k := 1) rfl
 obtain ⟨⟨r15, r16⟩, hx12, h0⟩ := bindS h0
 refine o_call hS (.inl rfl) rfl (fun wm' hw1 hw2 => wk49  r13 r14  v21 v22 v24 v25 (((((hS.sel hw2).ad 1 rfl).ad 0 rfl).ad 4 rfl).ad 3 rfl) hx12) (fun wm' res H hw' hp => ?_)
 obtain ⟨v26, v27, hres, hI⟩ := hp
 replace hres := hres.symm; subst hres
 replace hS : S wm 294 _ H ((41, .tuple #[.agg #[.bool r15.Char, v26, v27], .int .i64 r16]) :: _) ([.fz (rI .i64) v26 r15.Shape, .own (rI .i64) v27 r15.Data] ++ _) Fr := hS.after rfl hw' hI
 clear hI hw'
 refine o_pure hS (.inl rfl) rfl rfl ?_; clear hS; try clear tm
 intro tm hS
 refine o_pure hS (.inl rfl) rfl rfl ?_; clear hS; try clear tm
 intro tm hS
 refine o_pure hS (.inl rfl) rfl rfl ?_; clear hS; try clear tm
 intro tm hS
 refine o_alloc hS (.inl rfl) rfl Fz25 (by decide) ?_; clear hS; try clear tm H
 intro b4 tm H hS
 refine o_st (k := 0) hS (.inl rfl) rfl rfl rfl Fs25 rfl rfl (all_cons rfl (all_cons (hS.one (k := 1) rfl (.inl rfl)) (all_cons (hS.one (k := 2) rfl (.inr (.inl rfl))) all_nil))) rfl ?_; clear hS; try clear H
 intro H hS
 refine o_pure hS (.inl rfl) rfl rfl ?_; clear hS; try clear tm
 intro tm hS
 refine o_nil (hR _ _ ?_)
 clear hR R
 refine c_reg fun R hR => ?_
 refine o_lit (r := (rI .i64)) (l := [1, 1]) hS (.inl rfl) rfl Fl23 rfl rfl rfl (.cons rfl (.cons rfl .nil)) rfl rfl (ri_1 (rd_flat fun _ => rfl) (ri_1 (rd_flat fun _ => rfl) ri_nil)) rfl ?_; clear hS; try clear tm H
 intro v28 tm H hS
 obtain ⟨r17, hx13, h0⟩ := bindS h0
 refine o_call (Pc := fun _ res H => ∃ v29 v30, res = .agg #[.bool r17.Char, v29, v30] ∧ Kn wm H ([.own (rI .i64) v29 r17.Shape, .own (rI .i64) v30 r17.Data] ++ [.lit (rI .i64) v28 ([1, 1]), .box b4 [.bool r15.Char, v26, v27], .fz (rI .i64) v26 r15.Shape, .own (rI .i64) v27 r15.Data, .fz (rI .i64) v24 r14.Shape, .fz (rI .i64) v25 r14.Data, .lit (rI .i64) v23 ([1, 2, 3]), .fz (rI .i64) v21 r13.Shape, .fz (rI .i64) v22 r13.Data, .box b3 [.bool r11.Char, v19, v20], .fz (rI .i64) v19 r11.Shape, .own (rI .i64) v20 r11.Data, .fz (rI .i64) v17 r10.Shape, .fz (rI .i64) v18 r10.Data, .fz (rI .i64) v15 r9.Shape, .fz (rI .i64) v16 r9.Data, .lit (rI .i64) v14 ([2, (-2)]), .box b2 [.bool r7.Char, v12, v13], .fz (rI .i64) v12 r7.Shape, .own (rI .i64) v13 r7.Data, .fz (rI .i64) v10 r6.Shape, .fz (rI .i64) v11 r6.Data, .fz (rI .i64) v8 r5.Shape, .fz (rI .i64) v9 r5.Data, .box b1 [.bool r3.Char, v6, v7], .fz (rI .i64) v6 r3.Shape, .own (rI .i64) v7 r3.Data, .fz (rI .i64) v4 r2.Shape, .fz (rI .i64) v5 r2.Data, .lit (rI .i64) v3 ([1, 2, 3]), .fz (rI .i64) v1 r1.Shape, .fz (rI .i64) v2 r1.Data]) Fr) hS (.inl rfl) rfl (fun wm' hw1 hw2 => by
  obtain ⟨F2, kk_1, kk_2⟩ := hS.inv.lendR (La := [.fz (rI .i64) v28 ([1, 1])]) (List.forall_mem_cons.mpr ⟨(.inr ⟨_, _, _, _, rfl, .inr (List.mem_of_getElem? (i := 0) rfl)⟩), (fun _ h => by cases h)⟩) hw1 hw2
  exact (wk53  ([1, 1])  v28 kk_1 hx13).mono fun res H2 ⟨v29, v30, qq_1, qq_2⟩ => ⟨v29, v30, qq_1, kk_2 _ _ (List.forall_mem_cons.mpr ⟨⟨_, _, _, _, rfl, fun _ _ _ _ h => h⟩, (List.forall_mem_cons.mpr ⟨⟨_, _, _, _, rfl, fun _ _ _ _ h => h⟩, (fun _ h => by cases h)⟩)⟩) qq_2⟩) (fun wm' res H hw' hp => ?_)
 obtain ⟨v29, v30, hres, hI⟩ := hp
 replace hres := hres.symm; subst hres
 replace hS : S wm 294 _ H ((46, .agg #[.bool r17.Char, v29, v30]) :: _) ([.own (rI .i64) v29 r17.Shape, .own (rI .i64) v30 r17.Data] ++ [.lit (rI .i64) v28 ([1, 1]), .box b4 [.bool r15.Char, v26, v27], .fz (rI .i64) v26 r15.Shape, .own (rI .i64) v27 r15.Data, .fz (rI .i64) v24 r14.Shape, .fz (rI .i64) v25 r14.Data, .lit (rI .i64) v23 ([1, 2, 3]), .fz (rI .i64) v21 r13.Shape, .fz (rI .i64) v22 r13.Data, .box b3 [.bool r11.Char, v19, v20], .fz (rI .i64) v19 r11.Shape, .own (rI .i64) v20 r11.Data, .fz (rI .i64) v17 r10.Shape, .fz (rI .i64) v18 r10.Data, .fz (rI .i64) v15 r9.Shape, .fz (rI .i64) v16 r9.Data, .lit (rI .i64) v14 ([2, (-2)]), .box b2 [.bool r7.Char, v12, v13], .fz (rI .i64) v12 r7.Shape, .own (rI .i64) v13 r7.Data, .fz (rI .i64) v10 r6.Shape, .fz (rI .i64) v11 r6.Data, .fz (rI .i64) v8 r5.Shape, .fz (rI .i64) v9 r5.Data, .box b1 [.bool r3.Char, v6, v7], .fz (rI .i64) v6 r3.Shape, .own (rI .i64) v7 r3.Data, .fz (rI .i64) v4 r2.Shape, .fz (rI .i64) v5 r2.Data, .lit (rI .i64) v3 ([1, 2, 3]), .fz (rI .i64) v1 r1.Shape, .fz (rI .i64) v2 r1.Data]) Fr := (hS.put rfl _).withK hI
 clear hI hw'
 obtain ⟨r18, hx14, h0⟩ := bindS h0
 refine o_call hS (.inl rfl) rfl (fun wm' hw1 hw2 => wk55 ho55    (hS.sel hw2) hx14) (fun wm' res H hw' hp => ?_)
 obtain ⟨v31, v32, hres, hI⟩ := hp
 replace hres := hres.symm; subst hres
 replace hS : S wm 294 _ H ((47, .agg #[.bool r18.Char, v31, v32]) :: _) ([.fz (rI .i64) v31 r18.Shape, .fz (rI .i64) v32 r18.Data] ++ _) Fr := hS.after rfl hw' hI
 clear hI hw'
 replace hS := hS.frz (k := 2) rfl
 replace hS := hS.frz (k := 3) rfl
 obtain ⟨⟨r19, r20⟩, hx15, h0⟩ := bindS h0
 refine o_call hS (.inl rfl) rfl (fun wm' hw1 hw2 => wk49  r17 r18  v29 v30 v31 v32 (((((hS.sel hw2).ad 1 rfl).ad 0 rfl).ad 3 rfl).ad 2 rfl) hx15) (fun wm' res H hw' hp => ?_)
 obtain ⟨v33, v34, hres, hI⟩ := hp
 replace hres := hres.symm; subst hres
 replace hS : S wm 294 _ H ((48, .tuple #[.agg #[.bool r19.Char, v33, v34], .int .i64 r20]) :: _) ([.fz (rI .i64) v33 r19.Shape, .own (rI .i64) v34 r19.Data] ++ _) Fr := hS.after rfl hw' hI
 clear hI hw'
 refine o_pure hS (.inl rfl) rfl rfl ?_; clear hS; try clear tm
 intro tm hS
 refine o_pure hS (.inl rfl) rfl rfl ?_; clear hS; try clear tm
 intro tm hS
 refine o_pure hS (.inl rfl) rfl rfl ?_; clear hS; try clear tm
 intro tm hS
 refine o_alloc hS (.inl rfl) rfl Fz25 (by decide) ?_; clear hS; try clear tm H
 intro b5 tm H hS
 refine o_st (k := 0) hS (.inl rfl) rfl rfl rfl Fs25 rfl rfl (all_cons rfl (all_cons (hS.one (k := 1) rfl (.inl rfl)) (all_cons (hS.one (k := 2) rfl (.inr (.inl rfl))) all_nil))) rfl ?_; clear hS; try clear H
 intro H hS
 refine o_pure hS (.inl rfl) rfl rfl ?_; clear hS; try clear tm
 intro tm hS
 refine o_nil (hR _ _ ?_)
 clear hR R
 refine c_reg fun R hR => ?_
 refine o_lit (r := (rI .i64)) (l := [2, 2]) hS (.inl rfl) rfl Fl23 rfl rfl rfl (.cons rfl (.cons rfl .nil)) rfl rfl (ri_1 (rd_flat fun _ => rfl) (ri_1 (rd_flat fun _ => rfl) ri_nil)) rfl ?_; clear hS; try clear tm H
 intro v35 tm H hS
 obtain ⟨r21, hx16, h0⟩ := bindS h0
 refine o_call (Pc := fun _ res H => ∃ v36 v37, res = .agg #[.bool r21.Char, v36, v37] ∧ Kn wm H ([.own (rI .i64) v36 r21.Shape, .own (rI .i64) v37 r21.Data] ++ [.lit (rI .i64) v35 ([2, 2]), .box b5 [.bool r19.Char, v33, v34], .fz (rI .i64) v33 r19.Shape, .own (rI .i64) v34 r19.Data, .fz (rI .i64) v31 r18.Shape, .fz (rI .i64) v32 r18.Data, .fz (rI .i64) v29 r17.Shape, .fz (rI .i64) v30 r17.Data, .lit (rI .i64) v28 ([1, 1]), .box b4 [.bool r15.Char, v26, v27], .fz (rI .i64) v26 r15.Shape, .own (rI .i64) v27 r15.Data, .fz (rI .i64) v24 r14.Shape, .fz (rI .i64) v25 r14.Data, .lit (rI .i64) v23 ([1, 2, 3]), .fz (rI .i64) v21 r13.Shape, .fz (rI .i64) v22 r13.Data, .box b3 [.bool r11.Char, v19, v20], .fz (rI .i64) v19 r11.Shape, .own (rI .i64) v20 r11.Data, .fz (rI .i64) v17 r10.Shape, .fz (rI .i64) v18 r10.Data, .fz (rI .i64) v15 r9.Shape, .fz (rI .i64) v16 r9.Data, .lit (rI .i64) v14 ([2, (-2)]), .box b2 [.bool r7.Char, v12, v13], .fz (rI .i64) v12 r7.Shape, .own (rI .i64) v13 r7.Data, .fz (rI .i64) v10 r6.Shape, .fz (rI .i64) v11 r6.Data, .fz (rI .i64) v8 r5.Shape, .fz (rI .i64) v9 r5.Data, .box b1 [.bool r3.Char, v6, v7], .fz (rI .i64) v6 r3.Shape, .own (rI .i64) v7 r3.Data, .fz (rI .i64) v4 r2.Shape, .fz (rI .i64) v5 r2.Data, .lit (rI .i64) v3 ([1, 2, 3]), .fz (rI .i64) v1 r1.Shape, .fz (rI .i64) v2 r1.Data]) Fr) hS (.inl rfl) rfl (fun wm' hw1 hw2 => by
  obtain ⟨F2, kk_1, kk_2⟩ := hS.inv.lendR (La := [.fz (rI .i64) v35 ([2, 2])]) (List.forall_mem_cons.mpr ⟨(.inr ⟨_, _, _, _, rfl, .inr (List.mem_of_getElem? (i := 0) rfl)⟩), (fun _ h => by cases h)⟩) hw1 hw2
  exact (wk53  ([2, 2])  v35 kk_1 hx16).mono fun res H2 ⟨v36, v37, qq_1, qq_2⟩ => ⟨v36, v37, qq_1, kk_2 _ _ (List.forall_mem_cons.mpr ⟨⟨_, _, _, _, rfl, fun _ _ _ _ h => h⟩, (List.forall_mem_cons.mpr ⟨⟨_, _, _, _, rfl, fun _ _ _ _ h => h⟩, (fun _ h => by cases h)⟩)⟩) qq_2⟩) (fun wm' res H hw' hp => ?_)
 obtain ⟨v36, v37, hres, hI⟩ := hp
 replace hres := hres.symm; subst hres
 replace hS : S wm 294 _ H ((53, .agg #[.bool r21.Char, v36, v37]) :: _) ([.own (rI .i64) v36 r21.Shape, .own (rI .i64) v37 r21.Data] ++ [.lit (rI .i64) v35 ([2, 2]), .box b5 [.bool r19.Char, v33, v34], .fz (rI .i64) v33 r19.Shape, .own (rI .i64) v34 r19.Data, .fz (rI .i64) v31 r18.Shape, .fz (rI .i64) v32 r18.Data, .fz (rI .i64) v29 r17.Shape, .fz (rI .i64) v30 r17.Data, .lit (rI .i64) v28 ([1, 1]), .box b4 [.bool r15.Char, v26, v27], .fz (rI .i64) v26 r15.Shape, .own (rI .i64) v27 r15.Data, .fz (rI .i64) v24 r14.Shape, .fz (rI .i64) v25 r14.Data, .lit (rI .i64) v23 ([1, 2, 3]), .fz (rI .i64) v21 r13.Shape, .fz (rI .i64) v22 r13.Data, .box b3 [.bool r11.Char, v19, v20], .fz (rI .i64) v19 r11.Shape, .own (rI .i64) v20 r11.Data, .fz (rI .i64) v17 r10.Shape, .fz (rI .i64) v18 r10.Data, .fz (rI .i64) v15 r9.Shape, .fz (rI .i64) v16 r9.Data, .lit (rI .i64) v14 ([2, (-2)]), .box b2 [.bool r7.Char, v12, v13], .fz (rI .i64) v12 r7.Shape, .own (rI .i64) v13 r7.Data, .fz (rI .i64) v10 r6.Shape, .fz (rI .i64) v11 r6.Data, .fz (rI .i64) v8 r5.Shape, .fz (rI .i64) v9 r5.Data, .box b1 [.bool r3.Char, v6, v7], .fz (rI .i64) v6 r3.Shape, .own (rI .i64) v7 r3.Data, .fz (rI .i64) v4 r2.Shape, .fz (rI .i64) v5 r2.Data, .lit (rI .i64) v3 ([1, 2, 3]), .fz (rI .i64) v1 r1.Shape, .fz (rI .i64) v2 r1.Data]) Fr := (hS.put rfl _).withK hI
 clear hI hw'
 obtain ⟨r22, hx17, h0⟩ := bindS h0
 refine o_call hS (.inl rfl) rfl (fun wm' hw1 hw2 => wk52  9   (hS.sel hw2) hx17) (fun wm' res H hw' hp => ?_)
 obtain ⟨v38, v39, hres, hI⟩ := hp
 replace hres := hres.symm; subst hres
 replace hS : S wm 294 _ H ((54, .agg #[.bool r22.Char, v38, v39]) :: _) ([.own (rI .i64) v38 r22.Shape, .own (rI .i64) v39 r22.Data] ++ _) Fr := hS.after rfl hw' hI
 clear hI hw'
 replace hS := hS.frz (k := 2) rfl
 replace hS := hS.frz (k := 3) rfl
 replace hS := hS.frz (k := 0) rfl
 replace hS := hS.frz (k := 1) rfl
 obtain ⟨⟨r23, r24⟩, hx18, h0⟩ := bindS h0
 refine o_call hS (.inl rfl) rfl (fun wm' hw1 hw2 => wk23  r21 r22  v36 v37 v38 v39 (((((hS.sel hw2).ad 1 rfl).ad 0 rfl).ad 3 rfl).ad 2 rfl) hx18) (fun wm' res H hw' hp => ?_)
 obtain ⟨v40, v41, hres, hI⟩ := hp
 replace hres := hres.symm; subst hres
 replace hS : S wm 294 _ H ((55, .tuple #[.agg #[.bool r23.Char, v40, v41], .int .i64 r24]) :: _) ([.fz (rI .i64) v40 r23.Shape, .own (rI .i64) v41 r23.Data] ++ _) Fr := hS.after rfl hw' hI
 clear hI hw'
 refine o_pure hS (.inl rfl) rfl rfl ?_; clear hS; try clear tm
 intro tm hS
 refine o_pure hS (.inl rfl) rfl rfl ?_; clear hS; try clear tm
 intro tm hS
 refine o_pure hS (.inl rfl) rfl rfl ?_; clear hS; try clear tm
 intro tm hS
 refine o_alloc hS (.inl rfl) rfl Fz25 (by decide) ?_; clear hS; try clear tm H
 intro b6 tm H hS
 refine o_st (k := 0) hS (.inl rfl) rfl rfl rfl Fs25 rfl rfl (all_cons rfl (all_cons (hS.one (k := 1) rfl (.inl rfl)) (all_cons (hS.one (k := 2) rfl (.inr (.inl rfl))) all_nil))) rfl ?_; clear hS; try clear H
 intro H hS
 refine o_pure hS (.inl rfl) rfl rfl ?_; clear hS; try clear tm
 intro tm hS
 refine o_nil (hR _ _ ?_)
 clear hR R
 refine c_reg fun R hR => ?_
 obtain ⟨r25, hx19, h0⟩ := bindS h0
 refine o_call hS (.inl rfl) rfl (fun wm' hw1 hw2 => wk53  ([])  (.slice none 0 0) ((hS.sel hw2).adNil (rI .i64)) hx19) (fun wm' res H hw' hp => ?_)
 obtain ⟨v42, v43, hres, hI⟩ := hp
 replace hres := hres.symm; subst hres
 replace hS : S wm 294 _ H ((59, .agg #[.bool r25.Char, v42, v43]) :: _) ([.own (rI .i64) v42 r25.Shape, .own (rI .i64) v43 r25.Data] ++ _) Fr := hS.after rfl hw' hI
 clear hI hw'
 obtain ⟨r26, hx20, h0⟩ := bindS h0
 refine o_call hS (.inl rfl) rfl (fun wm' hw1 hw2 => wk52  9   (hS.sel hw2) hx20) (fun wm' res H hw' hp => ?_)
 obtain ⟨v44, v45, hres, hI⟩ := hp
 replace hres := hres.symm; subst hres
 replace hS : S wm 294 _ H ((60, .agg #[.bool r26.Char, v44, v45]) :: _) ([.own (rI .i64) v44 r26.Shape, .own (rI .i64) v45 r26.Data] ++ _) Fr := hS.after rfl hw' hI
 clear hI hw'
 replace hS := hS.frz (k := 2) rfl
 replace hS := hS.frz (k := 3) rfl
 replace hS := hS.frz (k := 0) rfl
 replace hS := hS.frz (k := 1) rfl
 obtain ⟨⟨r27, r28⟩, hx21, h0⟩ := bindS h0
 refine o_call hS (.inl rfl) rfl (fun wm' hw1 hw2 => wk49  r25 r26  v42 v43 v44 v45 (((((hS.sel hw2).ad 1 rfl).ad 0 rfl).ad 3 rfl).ad 2 rfl) hx21) (fun wm' res H hw' hp => ?_)
 obtain ⟨v46, v47, hres, hI⟩ := hp
 replace hres := hres.symm; subst hres
 replace hS : S wm 294 _ H ((61, .tuple #[.agg #[.bool r27.Char, v46, v47], .int .i64 r28]) :: _) ([.fz (rI .i64) v46 r27.Shape, .own (rI .i64) v47 r27.Data] ++ _) Fr := hS.after rfl hw' hI
 clear hI hw'
 refine o_pure hS (.inl rfl) rfl rfl ?_; clear hS; try clear tm
 intro tm hS
 refine o_pure hS (.inl rfl) rfl rfl ?_; clear hS; try clear tm
 intro tm hS
 refine o_pure hS (.inl rfl) rfl rfl ?_; clear hS; try clear tm
 intro tm hS
 refine o_alloc hS (.inl rfl) rfl Fz25 (by decide) ?_; clear hS; try clear tm H
 intro b7 tm H hS
 refine o_st (k := 0) hS (.inl rfl) rfl rfl rfl Fs25 rfl rfl (all_cons rfl (all_cons (hS.one (k := 1) rfl (.inl rfl)) (all_cons (hS.one (k := 2) rfl (.inr (.inl rfl))) all_nil))) rfl ?_; clear hS; try clear H
 intro H hS
 refine o_pure hS (.inl rfl) rfl rfl ?_; clear hS; try clear tm
 intro tm hS
 refine o_nil (hR _ _ ?_)
 clear hR R
 refine c_seqS ?_
 refine c_reg fun R hR => ?_
 refine o_pure hS (.inl rfl) rfl rfl ?_; clear hS; try clear tm
 intro tm hS
 refine o_ldA (k := 46) hS (.inl rfl) rfl rfl rfl (.inl rfl) Fu25 rfl Fs25 rfl ?_; clear hS; try clear tm
 intro tm hS
 refine o_pure hS (.inl rfl) rfl rfl ?_; clear hS; try clear tm
 intro tm hS
 refine o_lit (r := (rI .i64)) (l := [2, 3]) hS (.inl rfl) rfl Fl23 rfl rfl rfl (.cons rfl (.cons rfl .nil)) rfl rfl (ri_1 (rd_flat fun _ => rfl) (ri_1 (rd_flat fun _ => rfl) ri_nil)) rfl ?_; clear hS; try clear tm H
 intro v48 tm H hS
 obtain ⟨r29, hx22, h0⟩ := bindS h0
 refine o_call (Pc := fun _ res H => ∃ v49 v50, res = .agg #[.bool r29.Char, v49, v50] ∧ Kn wm H ([.own (rI .i64) v49 r29.Shape, .own (rI .i64) v50 r29.Data] ++ [.lit (rI .i64) v48 ([2, 3]), .box b7 [.bool r27.Char, v46, v47], .fz (rI .i64) v46 r27.Shape, .own (rI .i64) v47 r27.Data, .fz (rI .i64) v44 r26.Shape, .fz (rI .i64) v45 r26.Data, .fz (rI .i64) v42 r25.Shape, .fz (rI .i64) v43 r25.Data, .box b6 [.bool r23.Char, v40, v41], .fz (rI .i64) v40 r23.Shape, .own (rI .i64) v41 r23.Data, .fz (rI .i64) v38 r22.Shape, .fz (rI .i64) v39 r22.Data, .fz (rI .i64) v36 r21.Shape, .fz (rI .i64) v37 r21.Data, .lit (rI .i64) v35 ([2, 2]), .box b5 [.bool r19.Char, v33, v34], .fz (rI .i64) v33 r19.Shape, .own (rI .i64) v34 r19.Data, .fz (rI .i64) v31 r18.Shape, .fz (rI .i64) v32 r18.Data, .fz (rI .i64) v29 r17.Shape, .fz (rI .i64) v30 r17.Data, .lit (rI .i64) v28 ([1, 1]), .box b4 [.bool r15.Char, v26, v27], .fz (rI .i64) v26 r15.Shape, .own (rI .i64) v27 r15.Data, .fz (rI .i64) v24 r14.Shape, .fz (rI .i64) v25 r14.Data, .lit (rI .i64) v23 ([1, 2, 3]), .fz (rI .i64) v21 r13.Shape, .fz (rI .i64) v22 r13.Data, .box b3 [.bool r11.Char, v19, v20], .fz (rI .i64) v19 r11.Shape, .own (rI .i64) v20 r11.Data, .fz (rI .i64) v17 r10.Shape, .fz (rI .i64) v18 r10.Data, .fz (rI .i64) v15 r9.Shape, .fz (rI .i64) v16 r9.Data, .lit (rI .i64) v14 ([2, (-2)]), .box b2 [.bool r7.Char, v12, v13], .fz (rI .i64) v12 r7.Shape, .own (rI .i64) v13 r7.Data, .fz (rI .i64) v10 r6.Shape, .fz (rI .i64) v11 r6.Data, .fz (rI .i64) v8 r5.Shape, .fz (rI .i64) v9 r5.Data, .box b1 [.bool r3.Char, v6, v7], .fz (rI .i64) v6 r3.Shape, .own (rI .i64) v7 r3.Data, .fz (rI .i64) v4 r2.Shape, .fz (rI .i64) v5 r2.Data, .lit (rI .i64) v3 ([1, 2, 3]), .fz (rI .i64) v1 r1.Shape, .fz (rI .i64) v2 r1.Data]) Fr) hS (.inl rfl) rfl (fun wm' hw1 hw2 => by
  obtain ⟨F2, kk_1, kk_2⟩ := hS.inv.lendR (La := [.fz (rI .i64) v48 ([2, 3])]) (List.forall_mem_cons.mpr ⟨(.inr ⟨_, _, _, _, rfl, .inr (List.mem_of_getElem? (i := 0) rfl)⟩), (fun _ h => by cases h)⟩) hw1 hw2
  exact (wk53  ([2, 3])  v48 kk_1 hx22).mono fun res H2 ⟨v49, v50, qq_1, qq_2⟩ => ⟨v49, v50, qq_1, kk_2 _ _ (List.forall_mem_cons.mpr ⟨⟨_, _, _, _, rfl, fun _ _ _ _ h => h⟩, (List.forall_mem_cons.mpr ⟨⟨_, _, _, _, rfl, fun _ _ _ _ h => h⟩, (fun _ h => by cases h)⟩)⟩) qq_2⟩) (fun wm' res H hw' hp => ?_)
 obtain ⟨v49, v50, hres, hI⟩ := hp
 replace hres := hres.symm; subst hres
 replace hS : S wm 294 _ H ((68, .agg #[.bool r29.Char, v49, v50]) :: _) ([.own (rI .i64) v49 r29.Shape, .own (rI .i64) v50 r29.Data] ++ [.lit (rI .i64) v48 ([2, 3]), .box b7 [.bool r27.Char, v46, v47], .fz (rI .i64) v46 r27.Shape, .own (rI .i64) v47 r27.Data, .fz (rI .i64) v44 r26.Shape, .fz (rI .i64) v45 r26.Data, .fz (rI .i64) v42 r25.Shape, .fz (rI .i64) v43 r25.Data, .box b6 [.bool r23.Char, v40, v41], .fz (rI .i64) v40 r23.Shape, .own (rI .i64) v41 r23.Data, .fz (rI .i64) v38 r22.Shape, .fz (rI .i64) v39 r22.Data, .fz (rI .i64) v36 r21.Shape, .fz (rI .i64) v37 r21.Data, .lit (rI .i64) v35 ([2, 2]), .box b5 [.bool r19.Char, v33, v34], .fz (rI .i64) v33 r19.Shape, .own (rI .i64) v34 r19.Data, .fz (rI .i64) v31 r18.Shape, .fz (rI .i64) v32 r18.Data, .fz (rI .i64) v29 r17.Shape, .fz (rI .i64) v30 r17.Data, .lit (rI .i64) v28 ([1, 1]), .box b4 [.bool r15.Char, v26, v27], .fz (rI .i64) v26 r15.Shape, .own (rI .i64) v27 r15.Data, .fz (rI .i64) v24 r14.Shape, .fz (rI .i64) v25 r14.Data, .lit (rI .i64) v23 ([1, 2, 3]), .fz (rI .i64) v21 r13.Shape, .fz (rI .i64) v22 r13.Data, .box b3 [.bool r11.Char, v19, v20], .fz (rI .i64) v19 r11.Shape, .own (rI .i64) v20 r11.Data, .fz (rI .i64) v17 r10.Shape, .fz (rI .i64) v18 r10.Data, .fz (rI .i64) v15 r9.Shape, .fz (rI .i64) v16 r9.Data, .lit (rI .i64) v14 ([2, (-2)]), .box b2 [.bool r7.Char, v12, v13], .fz (rI .i64) v12 r7.Shape, .own (rI .i64) v13 r7.Data, .fz (rI .i64) v10 r6.Shape, .fz (rI .i64) v11 r6.Data, .fz (rI .i64) v8 r5.Shape, .fz (rI .i64) v9 r5.Data, .box b1 [.bool r3.Char, v6, v7], .fz (rI .i64) v6 r3.Shape, .own (rI .i64) v7 r3.Data, .fz (rI .i64) v4 r2.Shape, .fz (rI .i64) v5 r2.Data, .lit (rI .i64) v3 ([1, 2, 3]), .fz (rI .i64) v1 r1.Shape, .fz (rI .i64) v2 r1.Data]) Fr := (hS.put rfl _).withK hI
 clear hI hw'
 obtain ⟨r30, hx23, h0⟩ := bindS h0
 refine o_call (Pc := fun _ res H => res = .bool r30 ∧ Kn wm H ([.own (rI .i64) v49 r29.Shape, .own (rI .i64) v50 r29.Data, .lit (rI .i64) v48 ([2, 3]), .box b7 [.bool r27.Char, v46, v47], .fz (rI .i64) v46 r27.Shape, .own (rI .i64) v47 r27.Data, .fz (rI .i64) v44 r26.Shape, .fz (rI .i64) v45 r26.Data, .fz (rI .i64) v42 r25.Shape, .fz (rI .i64) v43 r25.Data, .box b6 [.bool r23.Char, v40, v41], .fz (rI .i64) v40 r23.Shape, .own (rI .i64) v41 r23.Data, .fz (rI .i64) v38 r22.Shape, .fz (rI .i64) v39 r22.Data, .fz (rI .i64) v36 r21.Shape, .fz (rI .i64) v37 r21.Data, .lit (rI .i64) v35 ([2, 2]), .box b5 [.bool r19.Char, v33, v34], .fz (rI .i64) v33 r19.Shape, .own (rI .i64) v34 r19.Data, .fz (rI .i64) v31 r18.Shape, .fz (rI .i64) v32 r18.Data, .fz (rI .i64) v29 r17.Shape, .fz (rI .i64) v30 r17.Data, .lit (rI .i64) v28 ([1, 1]), .box b4 [.bool r15.Char, v26, v27], .fz (rI .i64) v26 r15.Shape, .own (rI .i64) v27 r15.Data, .fz (rI .i64) v24 r14.Shape, .fz (rI .i64) v25 r14.Data, .lit (rI .i64) v23 ([1, 2, 3]), .fz (rI .i64) v21 r13.Shape, .fz (rI .i64) v22 r13.Data, .box b3 [.bool r11.Char, v19, v20], .fz (rI .i64) v19 r11.Shape, .own (rI .i64) v20 r11.Data, .fz (rI .i64) v17 r10.Shape, .fz (rI .i64) v18 r10.Data, .fz (rI .i64) v15 r9.Shape, .fz (rI .i64) v16 r9.Data, .lit (rI .i64) v14 ([2, (-2)]), .box b2 [.bool r7.Char, v12, v13], .fz (rI .i64) v12 r7.Shape, .own (rI .i64) v13 r7.Data, .fz (rI .i64) v10 r6.Shape, .fz (rI .i64) v11 r6.Data, .fz (rI .i64) v8 r5.Shape, .fz (rI .i64) v9 r5.Data, .box b1 [.bool r3.Char, v6, v7], .fz (rI .i64) v6 r3.Shape, .own (rI .i64) v7 r3.Data, .fz (rI .i64) v4 r2.Shape, .fz (rI .i64) v5 r2.Data, .lit (rI .i64) v3 ([1, 2, 3]), .fz (rI .i64) v1 r1.Shape, .fz (rI .i64) v2 r1.Data]) Fr) hS (.inl rfl) rfl (fun wm' hw1 hw2 => by
  obtain ⟨F2, kk_1, kk_2⟩ := hS.inv.lend (La := [.fz (rI .i64) v6 r3.Shape, .fz (rI .i64) v7 r3.Data, .fz (rI .i64) v49 r29.Shape, .fz (rI .i64) v50 r29.Data]) (List.forall_mem_cons.mpr ⟨(.inl ⟨rfl, List.mem_of_getElem? (i := 50) rfl⟩), (List.forall_mem_cons.mpr ⟨(.inr ⟨_, _, _, _, rfl, .inl (List.mem_of_getElem? (i := 51) rfl)⟩), (List.forall_mem_cons.mpr ⟨(.inr ⟨_, _, _, _, rfl, .inl (List.mem_of_getElem? (i := 0) rfl)⟩), (List.forall_mem_cons.mpr ⟨(.inr ⟨_, _, _, _, rfl, .inl (List.mem_of_getElem? (i := 1) rfl)⟩), (fun _ h => by cases h)⟩)⟩)⟩)⟩) hw1 hw2
  exact (wk22  r3 r4 r29  v6 v7 v49 v50 kk_1 hx23).mono fun res H2 ⟨qq_1, qq_2⟩ => ⟨qq_1, kk_2 _ qq_2⟩) (fun wm' res H hw' hp => ?_)
 obtain ⟨hres, hI⟩ := hp
 replace hres := hres.symm; subst hres
 replace hS : S wm 294 _ H ((69, .bool r30) :: _) ([.own (rI .i64) v49 r29.Shape, .own (rI .i64) v50 r29.Data, .lit (rI .i64) v48 ([2, 3]), .box b7 [.bool r27.Char, v46, v47], .fz (rI .i64) v46 r27.Shape, .own (rI .i64) v47 r27.Data, .fz (rI .i64) v44 r26.Shape, .fz (rI .i64) v45 r26.Data, .fz (rI .i64) v42 r25.Shape, .fz (rI .i64) v43 r25.Data, .box b6 [.bool r23.Char, v40, v41], .fz (rI .i64) v40 r23.Shape, .own (rI .i64) v41 r23.Data, .fz (rI .i64) v38 r22.Shape, .fz (rI .i64) v39 r22.Data, .fz (rI .i64) v36 r21.Shape, .fz (rI .i64) v37 r21.Data, .lit (rI .i64) v35 ([2, 2]), .box b5 [.bool r19.Char, v33, v34], .fz (rI .i64) v33 r19.Shape, .own (rI .i64) v34 r19.Data, .fz (rI .i64) v31 r18.Shape, .fz (rI .i64) v32 r18.Data, .fz (rI .i64) v29 r17.Shape, .fz (rI .i64) v30 r17.Data, .lit (rI .i64) v28 ([1, 1]), .box b4 [.bool r15.Char, v26, v27], .fz (rI .i64) v26 r15.Shape, .own (rI .i64) v27 r15.Data, .fz (rI .i64) v24 r14.Shape, .fz (rI .i64) v25 r14.Data, .lit (rI .i64) v23 ([1, 2, 3]), .fz (rI .i64) v21 r13.Shape, .fz (rI .i64) v22 r13.Data, .box b3 [.bool r11.Char, v19, v20], .fz (rI .i64) v19 r11.Shape, .own (rI .i64) v20 r11.Data, .fz (rI .i64) v17 r10.Shape, .fz (rI .i64) v18 r10.Data, .fz (rI .i64) v15 r9.Shape, .fz (rI .i64) v16 r9.Data, .lit (rI .i64) v14 ([2, (-2)]), .box b2 [.bool r7.Char, v12, v13], .fz (rI .i64) v12 r7.Shape, .own (rI .i64) v13 r7.Data, .fz (rI .i64) v10 r6.Shape, .fz (rI .i64) v11 r6.Data, .fz (rI .i64) v8 r5.Shape, .fz (rI .i64) v9 r5.Data, .box b1 [.bool r3.Char, v6, v7], .fz (rI .i64) v6 r3.Shape, .own (rI .i64) v7 r3.Data, .fz (rI .i64) v4 r2.Shape, .fz (rI .i64) v5 r2.Data, .lit (rI .i64) v3 ([1, 2, 3]), .fz (rI .i64) v1 r1.Shape, .fz (rI .i64) v2 r1.Data]) Fr := (hS.put rfl _).withK hI
 clear hI hw'
 refine o_pure hS (.inl rfl) rfl rfl ?_; clear hS; try clear tm
 intro tm hS
 refine o_pure hS (.inl rfl) rfl rfl ?_; clear hS; try clear tm
 intro tm hS
 obtain ⟨c1, hc1, h0⟩ := bindS h0
 refine o_cutN 7 (J := fun tm H => S wm 294 tm H [(78, .bool c1), (1, .func (.func 22) #[] #[]), (2, .func (.func 21) #[] #[]), (3, .pointer (some ⟨b1, 0, none⟩)), (5, .pointer (some ⟨b2, 0, none⟩)), (7, .pointer (some ⟨b3, 0, none⟩)), (8, .int .i64 r12), (9, .pointer (some ⟨b4, 0, none⟩)), (10, .int .i64 r16), (11, .pointer (some ⟨b5, 0, none⟩)), (12, .int .i64 r20), (13, .pointer (some ⟨b6, 0, none⟩)), (14, .int .i64 r24), (15, .pointer (some ⟨b7, 0, none⟩)), (16, .int .i64 r28)] [.box b7 [.bool r27.Char, v46, v47], .fz (rI .i64) v46 r27.Shape, .own (rI .i64) v47 r27.Data, .box b6 [.bool r23.Char, v40, v41], .fz (rI .i64) v40 r23.Shape, .own (rI .i64) v41 r23.Data, .box b5 [.bool r19.Char, v33, v34], .fz (rI .i64) v33 r19.Shape, .own (rI .i64) v34 r19.Data, .box b4 [.bool r15.Char, v26, v27], .fz (rI .i64) v26 r15.Shape, .own (rI .i64) v27 r15.Data, .box b3 [.bool r11.Char, v19, v20], .fz (rI .i64) v19 r11.Shape, .own (rI .i64) v20 r11.Data, .box b2 [.bool r7.Char, v12, v13], .fz (rI .i64) v12 r7.Shape, .own (rI .i64) v13 r7.Data, .box b1 [.bool r3.Char, v6, v7], .fz (rI .i64) v6 r3.Shape, .own (rI .i64) v7 r3.Data] Fr) ?_ ?_
 ·rcases Bool.eq_false_or_eq_true (!r30) with hg1 | hg1
  ·replace hc1 := iteT hg1 hc1
   refine o_skip hS rfl rfl rfl hg1 ?_; clear hS; try clear tm
   intro tm hS
   refine o_skip hS rfl rfl rfl hg1 ?_; clear hS; try clear tm
   intro tm hS
   refine o_skip hS rfl rfl rfl hg1 ?_; clear hS; try clear tm
   intro tm hS
   refine o_skip hS rfl rfl rfl hg1 ?_; clear hS; try clear tm
   intro tm hS
   refine o_skip hS rfl rfl rfl hg1 ?_; clear hS; try clear tm
   intro tm hS
   refine o_skip hS rfl rfl rfl hg1 ?_; clear hS; try clear tm
   intro tm hS
   refine o_pickT hS (.inl rfl) rfl rfl hg1 rfl ?_; clear hS; try clear tm
   intro tm hS
   obtain rfl := Option.some.inj hc1
   exact o_nil (hS.keep (ka_cons rfl (ka_cons rfl (ka_cons rfl (ka_cons rfl (ka_cons rfl (ka_cons rfl (ka_cons rfl (ka_cons rfl (ka_cons rfl (ka_cons rfl (ka_cons rfl (ka_cons rfl (ka_cons rfl (ka_cons rfl (ka_cons rfl ka_nil))))))))))))))) (fun hI => (hI.sub (sd (sd (sd (sc (sc (sc (sd (sd (sd (sd (sc (sc (sc (sd (sd (sd (sd (sd (sc (sc (sc (sd (sd (sd (sd (sd (sc (sc (sc (sd (sd (sd (sd (sd (sc (sc (sc (sd (sd (sd (sd (sd (sc (sc (sc (sd (sd (sd (sd (sc (sc (sc sn)))))))))))))))))))))))))))))))))))))))))))))))))))))))
  ·replace hc1 := iteF hg1 hc1
   refine o_pure hS (.inr ⟨_, _, _, _, rfl, rfl, rfl, hg1⟩) rfl rfl ?_; clear hS; try clear tm
   intro tm hS
   refine o_ldA (k := 42) hS (.inr ⟨_, _, _, _, rfl, rfl, rfl, hg1⟩) rfl rfl rfl (.inl rfl) Fu25 rfl Fs25 rfl ?_; clear hS; try clear tm
   intro tm hS
   refine o_pure hS (.inr ⟨_, _, _, _, rfl, rfl, rfl, hg1⟩) rfl rfl ?_; clear hS; try clear tm
   intro tm hS
   obtain ⟨r31, hx24, hc1⟩ := bindS hc1
   refine o_call hS (.inr ⟨_, _, _, _, rfl, rfl, rfl, hg1⟩) rfl (fun wm' hw1 hw2 => wk54  str_97_98_32_32_32   (hS.sel hw2) hx24) (fun wm' res H hw' hp => ?_)
   obtain ⟨v51, v52, hres, hI⟩ := hp
   replace hres := hres.symm; subst hres
   replace hS : S wm 294 _ H ((75, .agg #[.bool r31.Char, v51, v52]) :: _) ([.own (rI .i64) v51 r31.Shape, .own (rI .i64) v52 r31.Data] ++ _) Fr := hS.after rfl hw' hI
   clear hI hw'
   obtain ⟨r32, hx25, hc1⟩ := bindS hc1
   refine o_call (Pc := fun _ res H => res = .bool r32 ∧ Kn wm H ([.own (rI .i64) v51 r31.Shape, .own (rI .i64) v52 r31.Data, .own (rI .i64) v49 r29.Shape, .own (rI .i64) v50 r29.Data, .lit (rI .i64) v48 ([2, 3]), .box b7 [.bool r27.Char, v46, v47], .fz (rI .i64) v46 r27.Shape, .own (rI .i64) v47 r27.Data, .fz (rI .i64) v44 r26.Shape, .fz (rI .i64) v45 r26.Data, .fz (rI .i64) v42 r25.Shape, .fz (rI .i64) v43 r25.Data, .box b6 [.bool r23.Char, v40, v41], .fz (rI .i64) v40 r23.Shape, .own (rI .i64) v41 r23.Data, .fz (rI .i64) v38 r22.Shape, .fz (rI .i64) v39 r22.Data, .fz (rI .i64) v36 r21.Shape, .fz (rI .i64) v37 r21.Data, .lit (rI .i64) v35 ([2, 2]), .box b5 [.bool r19.Char, v33, v34], .fz (rI .i64) v33 r19.Shape, .own (rI .i64) v34 r19.Data, .fz (rI .i64) v31 r18.Shape, .fz (rI .i64) v32 r18.Data, .fz (rI .i64) v29 r17.Shape, .fz (rI .i64) v30 r17.Data, .lit (rI .i64) v28 ([1, 1]), .box b4 [.bool r15.Char, v26, v27], .fz (rI .i64) v26 r15.Shape, .own (rI .i64) v27 r15.Data, .fz (rI .i64) v24 r14.Shape, .fz (rI .i64) v25 r14.Data, .lit (rI .i64) v23 ([1, 2, 3]), .fz (rI .i64) v21 r13.Shape, .fz (rI .i64) v22 r13.Data, .box b3 [.bool r11.Char, v19, v20], .fz (rI .i64) v19 r11.Shape, .own (rI .i64) v20 r11.Data, .fz (rI .i64) v17 r10.Shape, .fz (rI .i64) v18 r10.Data, .fz (rI .i64) v15 r9.Shape, .fz (rI .i64) v16 r9.Data, .lit (rI .i64) v14 ([2, (-2)]), .box b2 [.bool r7.Char, v12, v13], .fz (rI .i64) v12 r7.Shape, .own (rI .i64) v13 r7.Data, .fz (rI .i64) v10 r6.Shape, .fz (rI .i64) v11 r6.Data, .fz (rI .i64) v8 r5.Shape, .fz (rI .i64) v9 r5.Data, .box b1 [.bool r3.Char, v6, v7], .fz (rI .i64) v6 r3.Shape, .own (rI .i64) v7 r3.Data, .fz (rI .i64) v4 r2.Shape, .fz (rI .i64) v5 r2.Data, .lit (rI .i64) v3 ([1, 2, 3]), .fz (rI .i64) v1 r1.Shape, .fz (rI .i64) v2 r1.Data]) Fr) hS (.inr ⟨_, _, _, _, rfl, rfl, rfl, hg1⟩) rfl (fun wm' hw1 hw2 => by
    obtain ⟨F2, kk_1, kk_2⟩ := hS.inv.lend (La := [.fz (rI .i64) v12 r7.Shape, .fz (rI .i64) v13 r7.Data, .fz (rI .i64) v51 r31.Shape, .fz (rI .i64) v52 r31.Data]) (List.forall_mem_cons.mpr ⟨(.inl ⟨rfl, List.mem_of_getElem? (i := 45) rfl⟩), (List.forall_mem_cons.mpr ⟨(.inr ⟨_, _, _, _, rfl, .inl (List.mem_of_getElem? (i := 46) rfl)⟩), (List.forall_mem_cons.mpr ⟨(.inr ⟨_, _, _, _, rfl, .inl (List.mem_of_getElem? (i := 0) rfl)⟩), (List.forall_mem_cons.mpr ⟨(.inr ⟨_, _, _, _, rfl, .inl (List.mem_of_getElem? (i := 1) rfl)⟩), (fun _ h => by cases h)⟩)⟩)⟩)⟩) hw1 hw2
    exact (wk22  r7 r8 r31  v12 v13 v51 v52 kk_1 hx25).mono fun res H2 ⟨qq_1, qq_2⟩ => ⟨qq_1, kk_2 _ qq_2⟩) (fun wm' res H hw' hp => ?_)
   obtain ⟨hres, hI⟩ := hp
   replace hres := hres.symm; subst hres
   replace hS : S wm 294 _ H ((76, .bool r32) :: _) ([.own (rI .i64) v51 r31.Shape, .own (rI .i64) v52 r31.Data, .own (rI .i64) v49 r29.Shape, .own (rI .i64) v50 r29.Data, .lit (rI .i64) v48 ([2, 3]), .box b7 [.bool r27.Char, v46, v47], .fz (rI .i64) v46 r27.Shape, .own (rI .i64) v47 r27.Data, .fz (rI .i64) v44 r26.Shape, .fz (rI .i64) v45 r26.Data, .fz (rI .i64) v42 r25.Shape, .fz (rI .i64) v43 r25.Data, .box b6 [.bool r23.Char, v40, v41], .fz (rI .i64) v40 r23.Shape, .own (rI .i64) v41 r23.Data, .fz (rI .i64) v38 r22.Shape, .fz (rI .i64) v39 r22.Data, .fz (rI .i64) v36 r21.Shape, .fz (rI .i64) v37 r21.Data, .lit (rI .i64) v35 ([2, 2]), .box b5 [.bool r19.Char, v33, v34], .fz (rI .i64) v33 r19.Shape, .own (rI .i64) v34 r19.Data, .fz (rI .i64) v31 r18.Shape, .fz (rI .i64) v32 r18.Data, .fz (rI .i64) v29 r17.Shape, .fz (rI .i64) v30 r17.Data, .lit (rI .i64) v28 ([1, 1]), .box b4 [.bool r15.Char, v26, v27], .fz (rI .i64) v26 r15.Shape, .own (rI .i64) v27 r15.Data, .fz (rI .i64) v24 r14.Shape, .fz (rI .i64) v25 r14.Data, .lit (rI .i64) v23 ([1, 2, 3]), .fz (rI .i64) v21 r13.Shape, .fz (rI .i64) v22 r13.Data, .box b3 [.bool r11.Char, v19, v20], .fz (rI .i64) v19 r11.Shape, .own (rI .i64) v20 r11.Data, .fz (rI .i64) v17 r10.Shape, .fz (rI .i64) v18 r10.Data, .fz (rI .i64) v15 r9.Shape, .fz (rI .i64) v16 r9.Data, .lit (rI .i64) v14 ([2, (-2)]), .box b2 [.bool r7.Char, v12, v13], .fz (rI .i64) v12 r7.Shape, .own (rI .i64) v13 r7.Data, .fz (rI .i64) v10 r6.Shape, .fz (rI .i64) v11 r6.Data, .fz (rI .i64) v8 r5.Shape, .fz (rI .i64) v9 r5.Data, .box b1 [.bool r3.Char, v6, v7], .fz (rI .i64) v6 r3.Shape, .own (rI .i64) v7 r3.Data, .fz (rI .i64) v4 r2.Shape, .fz (rI .i64) v5 r2.Data, .lit (rI .i64) v3 ([1, 2, 3]), .fz (rI .i64) v1 r1.Shape, .fz (rI .i64) v2 r1.Data]) Fr := (hS.put rfl _).withK hI
   clear hI hw'
   refine o_pure hS (.inr ⟨_, _, _, _, rfl, rfl, rfl, hg1⟩) rfl rfl ?_; clear hS; try clear tm
   intro tm hS
   refine o_pickF hS (.inl rfl) rfl rfl hg1 rfl ?_; clear hS; try clear tm
   intro tm hS
   obtain rfl := Option.some.inj hc1
   exact o_nil (hS.keep (ka_cons rfl (ka_cons rfl (ka_cons rfl (ka_cons rfl (ka_cons rfl (ka_cons rfl (ka_cons rfl (ka_cons rfl (ka_cons rfl (ka_cons rfl (ka_cons rfl (ka_cons rfl (ka_cons rfl (ka_cons rfl (ka_cons rfl ka_nil))))))))))))))) (fun hI => (hI.sub (sd (sd (sd (sd (sd (sc (sc (sc (sd (sd (sd (sd (sc (sc (sc (sd (sd (sd (sd (sd (sc (sc (sc (sd (sd (sd (sd (sd (sc (sc (sc (sd (sd (sd (sd (sd (sc (sc (sc (sd (sd (sd (sd (sd (sc (sc (sc (sd (sd (sd (sd (sc (sc (sc sn)))))))))))))))))))))))))))))))))))))))))))))))))))))))))
 intro tm H hS
 refine o_pure hS (.inl rfl) rfl rfl ?_; clear hS; try clear tm
 intro tm hS
 obtain ⟨c2, hc2, h0⟩ := bindS h0
 refine o_cutN 9 (J := fun tm H => S wm 294 tm H [(88, .bool c2), (1, .func (.func 22) #[] #[]), (2, .func (.func 21) #[] #[]), (3, .pointer (some ⟨b1, 0, none⟩)), (5, .pointer (some ⟨b2, 0, none⟩)), (7, .pointer (some ⟨b3, 0, none⟩)), (9, .pointer (some ⟨b4, 0, none⟩)), (10, .int .i64 r16), (11, .pointer (some ⟨b5, 0, none⟩)), (12, .int .i64 r20), (13, .pointer (some ⟨b6, 0, none⟩)), (14, .int .i64 r24), (15, .pointer (some ⟨b7, 0, none⟩)), (16, .int .i64 r28)] [.box b7 [.bool r27.Char, v46, v47], .fz (rI .i64) v46 r27.Shape, .own (rI .i64) v47 r27.Data, .box b6 [.bool r23.Char, v40, v41], .fz (rI .i64) v40 r23.Shape, .own (rI .i64) v41 r23.Data, .box b5 [.bool r19.Char, v33, v34], .fz (rI .i64) v33 r19.Shape, .own (rI .i64) v34 r19.Data, .box b4 [.bool r15.Char, v26, v27], .fz (rI .i64) v26 r15.Shape, .own (rI .i64) v27 r15.Data, .box b3 [.bool r11.Char, v19, v20], .fz (rI .i64) v19 r11.Shape, .own (rI .i64) v20 r11.Data, .box b2 [.bool r7.Char, v12, v13], .fz (rI .i64) v12 r7.Shape, .own (rI .i64) v13 r7.Data, .box b1 [.bool r3.Char, v6, v7], .fz (rI .i64) v6 r3.Shape, .own (rI .i64) v7 r3.Data] Fr) ?_ ?_
 ·rcases Bool.eq_false_or_eq_true c1 with hg2 | hg2
  ·replace hc2 := iteT hg2 hc2
   refine o_skip hS rfl rfl rfl hg2 ?_; clear hS; try clear tm
   intro tm hS
   refine o_skip hS rfl rfl rfl hg2 ?_; clear hS; try clear tm
   intro tm hS
   refine o_skip hS rfl rfl rfl hg2 ?_; clear hS; try clear tm
   intro tm hS
   refine o_skip hS rfl rfl rfl hg2 ?_; clear hS; try clear tm
   intro tm hS
   refine o_skip hS rfl rfl rfl hg2 ?_; clear hS; try clear tm
   intro tm hS
   refine o_skip hS rfl rfl rfl hg2 ?_; clear hS; try clear tm
   intro tm hS
   refine o_skip hS rfl rfl rfl hg2 ?_; clear hS; try clear tm
   intro tm hS
   refine o_skip hS rfl rfl rfl hg2 ?_; clear hS; try clear tm
   intro tm hS
   refine o_pickT hS (.inl rfl) rfl rfl hg2 rfl ?_; clear hS; try clear tm
   intro tm hS
   obtain rfl := Option.some.inj hc2
   exact o_nil (hS.keep (ka_cons rfl (ka_cons rfl (ka_cons rfl (ka_cons rfl (ka_cons rfl (ka_cons rfl (ka_cons rfl (ka_cons rfl (ka_cons rfl (ka_cons rfl (ka_cons rfl (ka_cons rfl (ka_cons rfl (ka_cons rfl ka_nil)))))))))))))) (fun hI => (hI.sub (sc (sc (sc (sc (sc (sc (sc (sc (sc (sc (sc (sc (sc (sc (sc (sc (sc (sc (sc (sc (sc sn))))))))))))))))))))))))
  ·replace hc2 := iteF hg2 hc2
   refine o_pure hS (.inr ⟨_, _, _, _, rfl, rfl, rfl, hg2⟩) rfl rfl ?_; clear hS; try clear tm
   intro tm hS
   refine o_ldA (k := 12) hS (.inr ⟨_, _, _, _, rfl, rfl, rfl, hg2⟩) rfl rfl rfl (.inl rfl) Fu25 rfl Fs25 rfl ?_; clear hS; try clear tm
   intro tm hS
   refine o_pure hS (.inr ⟨_, _, _, _, rfl, rfl, rfl, hg2⟩) rfl rfl ?_; clear hS; try clear tm
   intro tm hS
   refine o_lit (r := (rI .i64)) (l := [2, 2]) hS (.inr ⟨_, _, _, _, rfl, rfl, rfl, hg2⟩) rfl Fl22 rfl rfl rfl (.cons rfl (.cons rfl .nil)) rfl rfl (ri_1 (rd_flat fun _ => rfl) (ri_1 (rd_flat fun _ => rfl) ri_nil)) rfl ?_; clear hS; try clear tm H
   intro v53 tm H hS
   refine o_lit (r := (rI .i64)) (l := [2, 3, 5, 6]) hS (.inr ⟨_, _, _, _, rfl, rfl, rfl, hg2⟩) rfl Fl23 rfl rfl rfl (.cons rfl (.cons rfl (.cons rfl (.cons rfl .nil)))) rfl rfl (ri_1 (rd_flat fun _ => rfl) (ri_1 (rd_flat fun _ => rfl) (ri_1 (rd_flat fun _ => rfl) (ri_1 (rd_flat fun _ => rfl) ri_nil)))) rfl ?_; clear hS; try clear tm H
   intro v54 tm H hS
   replace hS := hS.litFrz (k := 1) rfl
   replace hS := hS.litFrz (k := 0) rfl
   obtain ⟨r33, hx26, hc2⟩ := bindS hc2
   refine o_call hS (.inr ⟨_, _, _, _, rfl, rfl, rfl, hg2⟩) rfl (fun wm' hw1 hw2 => wk56  ([2, 2]) ([2, 3, 5, 6])  v53 v54 (((hS.sel hw2).ad 0 rfl).ad 1 rfl) hx26) (fun wm' res H hw' hp => ?_)
   obtain ⟨v55, v56, hres, hI⟩ := hp
   replace hres := hres.symm; subst hres
   replace hS : S wm 294 _ H ((85, .agg #[.bool r33.Char, v55, v56]) :: _) ([.fz (rI .i64) v55 r33.Shape, .fz (rI .i64) v56 r33.Data] ++ _) Fr := hS.after rfl hw' hI
   clear hI hw'
   obtain ⟨r34, hx27, hc2⟩ := bindS hc2
   refine o_call (Pc := fun _ res H => res = .bool r34 ∧ Kn wm H ([.fz (rI .i64) v55 r33.Shape, .fz (rI .i64) v56 r33.Data, .fz (rI .i64) v54 ([2, 3, 5, 6]), .fz (rI .i64) v53 ([2, 2]), .box b7 [.bool r27.Char, v46, v47], .fz (rI .i64) v46 r27.Shape, .own (rI .i64) v47 r27.Data, .box b6 [.bool r23.Char, v40, v41], .fz (rI .i64) v40 r23.Shape, .own (rI .i64) v41 r23.Data, .box b5 [.bool r19.Char, v33, v34], .fz (rI .i64) v33 r19.Shape, .own (rI .i64) v34 r19.Data, .box b4 [.bool r15.Char, v26, v27], .fz (rI .i64) v26 r15.Shape, .own (rI .i64) v27 r15.Data, .box b3 [.bool r11.Char, v19, v20], .fz (rI .i64) v19 r11.Shape, .own (rI .i64) v20 r11.Data, .box b2 [.bool r7.Char, v12, v13], .fz (rI .i64) v12 r7.Shape, .own (rI .i64) v13 r7.Data, .box b1 [.bool r3.Char, v6, v7], .fz (rI .i64) v6 r3.Shape, .own (rI .i64) v7 r3.Data]) Fr) hS (.inr ⟨_, _, _, _, rfl, rfl, rfl, hg2⟩) rfl (fun wm' hw1 hw2 => by
    obtain ⟨F2, kk_1, kk_2⟩ := hS.inv.lend (La := [.fz (rI .i64) v19 r11.Shape, .fz (rI .i64) v20 r11.Data, .fz (rI .i64) v55 r33.Shape, .fz (rI .i64) v56 r33.Data]) (List.forall_mem_cons.mpr ⟨(.inl ⟨rfl, List.mem_of_getElem? (i := 17) rfl⟩), (List.forall_mem_cons.mpr ⟨(.inr ⟨_, _, _, _, rfl, .inl (List.mem_of_getElem? (i := 18) rfl)⟩), (List.forall_mem_cons.mpr ⟨(.inl ⟨rfl, List.mem_of_getElem? (i := 0) rfl⟩), (List.forall_mem_cons.mpr ⟨(.inl ⟨rfl, List.mem_of_getElem? (i := 1) rfl⟩), (fun _ h => by cases h)⟩)⟩)⟩)⟩) hw1 hw2
    exact (wk22  r11 r12 r33  v19 v20 v55 v56 kk_1 hx27).mono fun res H2 ⟨qq_1, qq_2⟩ => ⟨qq_1, kk_2 _ qq_2⟩) (fun wm' res H hw' hp => ?_)
   obtain ⟨hres, hI⟩ := hp
   replace hres := hres.symm; subst hres
   replace hS : S wm 294 _ H ((86, .bool r34) :: _) ([.fz (rI .i64) v55 r33.Shape, .fz (rI .i64) v56 r33.Data, .fz (rI .i64) v54 ([2, 3, 5, 6]), .fz (rI .i64) v53 ([2, 2]), .box b7 [.bool r27.Char, v46, v47], .fz (rI .i64) v46 r27.Shape, .own (rI .i64) v47 r27.Data, .box b6 [.bool r23.Char, v40, v41], .fz (rI .i64) v40 r23.Shape, .own (rI .i64) v41 r23.Data, .box b5 [.bool r19.Char, v33, v34], .fz (rI .i64) v33 r19.Shape, .own (rI .i64) v34 r19.Data, .box b4 [.bool r15.Char, v26, v27], .fz (rI .i64) v26 r15.Shape, .own (rI .i64) v27 r15.Data, .box b3 [.bool r11.Char, v19, v20], .fz (rI .i64) v19 r11.Shape, .own (rI .i64) v20 r11.Data, .box b2 [.bool r7.Char, v12, v13], .fz (rI .i64) v12 r7.Shape, .own (rI .i64) v13 r7.Data, .box b1 [.bool r3.Char, v6, v7], .fz (rI .i64) v6 r3.Shape, .own (rI .i64) v7 r3.Data]) Fr := (hS.put rfl _).withK hI
   clear hI hw'
   refine o_pure hS (.inr ⟨_, _, _, _, rfl, rfl, rfl, hg2⟩) rfl rfl ?_; clear hS; try clear tm
   intro tm hS
   refine o_pickF hS (.inl rfl) rfl rfl hg2 rfl ?_; clear hS; try clear tm
   intro tm hS
   obtain rfl := Option.some.inj hc2
   exact o_nil (hS.keep (ka_cons rfl (ka_cons rfl (ka_cons rfl (ka_cons rfl (ka_cons rfl (ka_cons rfl (ka_cons rfl (ka_cons rfl (ka_cons rfl (ka_cons rfl (ka_cons rfl (ka_cons rfl (ka_cons rfl (ka_cons rfl ka_nil)))))))))))))) (fun hI => (hI.sub (sd (sd (sd (sd (sc (sc (sc (sc (sc (sc (sc (sc (sc (sc (sc (sc (sc (sc (sc (sc (sc (sc (sc (sc (sc sn))))))))))))))))))))))))))))
 intro tm H hS
 refine o_pure hS (.inl rfl) rfl rfl ?_; clear hS; try clear tm
 intro tm hS
 obtain ⟨c3, hc3, h0⟩ := bindS h0
 refine o_cutN 7 (J := fun tm H => S wm 294 tm H [(96, .bool c3), (1, .func (.func 22) #[] #[]), (2, .func (.func 21) #[] #[]), (3, .pointer (some ⟨b1, 0, none⟩)), (5, .pointer (some ⟨b2, 0, none⟩)), (7, .pointer (some ⟨b3, 0, none⟩)), (9, .pointer (some ⟨b4, 0, none⟩)), (11, .pointer (some ⟨b5, 0, none⟩)), (12, .int .i64 r20), (13, .pointer (some ⟨b6, 0, none⟩)), (14, .int .i64 r24), (15, .pointer (some ⟨b7, 0, none⟩)), (16, .int .i64 r28)] [.box b7 [.bool r27.Char, v46, v47], .fz (rI .i64) v46 r27.Shape, .own (rI .i64) v47 r27.Data, .box b6 [.bool r23.Char, v40, v41], .fz (rI .i64) v40 r23.Shape, .own (rI .i64) v41 r23.Data, .box b5 [.bool r19.Char, v33, v34], .fz (rI .i64) v33 r19.Shape, .own (rI .i64) v34 r19.Data, .box b4 [.bool r15.Char, v26, v27], .fz (rI .i64) v26 r15.Shape, .own (rI .i64) v27 r15.Data, .box b3 [.bool r11.Char, v19, v20], .fz (rI .i64) v19 r11.Shape, .own (rI .i64) v20 r11.Data, .box b2 [.bool r7.Char, v12, v13], .fz (rI .i64) v12 r7.Shape, .own (rI .i64) v13 r7.Data, .box b1 [.bool r3.Char, v6, v7], .fz (rI .i64) v6 r3.Shape, .own (rI .i64) v7 r3.Data] Fr) ?_ ?_
 ·rcases Bool.eq_false_or_eq_true c2 with hg3 | hg3
  ·replace hc3 := iteT hg3 hc3
   refine o_skip hS rfl rfl rfl hg3 ?_; clear hS; try clear tm
   intro tm hS
   refine o_skip hS rfl rfl rfl hg3 ?_; clear hS; try clear tm
   intro tm hS
   refine o_skip hS rfl rfl rfl hg3 ?_; clear hS; try clear tm
   intro tm hS
   refine o_skip hS rfl rfl rfl hg3 ?_; clear hS; try clear tm
   intro tm hS
   refine o_skip hS rfl rfl rfl hg3 ?_; clear hS; try clear tm
   intro tm hS
   refine o_skip hS rfl rfl rfl hg3 ?_; clear hS; try clear tm
   intro tm hS
   refine o_pickT hS (.inl rfl) rfl rfl hg3 rfl ?_; clear hS; try clear tm
   intro tm hS
   obtain rfl := Option.some.inj hc3
   exact o_nil (hS.keep (ka_cons rfl (ka_cons rfl (ka_cons rfl (ka_cons rfl (ka_cons rfl (ka_cons rfl (ka_cons rfl (ka_cons rfl (ka_cons rfl (ka_cons rfl (ka_cons rfl (ka_cons rfl (ka_cons rfl ka_nil))))))))))))) (fun hI => (hI.sub (sc (sc (sc (sc (sc (sc (sc (sc (sc (sc (sc (sc (sc (sc (sc (sc (sc (sc (sc (sc (sc sn))))))))))))))))))))))))
  ·replace hc3 := iteF hg3 hc3
   refine o_pure hS (.inr ⟨_, _, _, _, rfl, rfl, rfl, hg3⟩) rfl rfl ?_; clear hS; try clear tm
   intro tm hS
   refine o_ldA (k := 9) hS (.inr ⟨_, _, _, _, rfl, rfl, rfl, hg3⟩) rfl rfl rfl (.inl rfl) Fu25 rfl Fs25 rfl ?_; clear hS; try clear tm
   intro tm hS
   refine o_pure hS (.inr ⟨_, _, _, _, rfl, rfl, rfl, hg3⟩) rfl rfl ?_; clear hS; try clear tm
   intro tm hS
   obtain ⟨r35, hx28, hc3⟩ := bindS hc3
   refine o_call hS (.inr ⟨_, _, _, _, rfl, rfl, rfl, hg3⟩) rfl (fun wm' hw1 hw2 => wk53  ([])  (.slice none 0 0) ((hS.sel hw2).adNil (rI .i64)) hx28) (fun wm' res H hw' hp => ?_)
   obtain ⟨v57, v58, hres, hI⟩ := hp
   replace hres := hres.symm; subst hres
   replace hS : S wm 294 _ H ((93, .agg #[.bool r35.Char, v57, v58]) :: _) ([.own (rI .i64) v57 r35.Shape, .own (rI .i64) v58 r35.Data] ++ _) Fr := hS.after rfl hw' hI
   clear hI hw'
   obtain ⟨r36, hx29, hc3⟩ := bindS hc3
   refine o_call (Pc := fun _ res H => res = .bool r36 ∧ Kn wm H ([.own (rI .i64) v57 r35.Shape, .own (rI .i64) v58 r35.Data, .box b7 [.bool r27.Char, v46, v47], .fz (rI .i64) v46 r27.Shape, .own (rI .i64) v47 r27.Data, .box b6 [.bool r23.Char, v40, v41], .fz (rI .i64) v40 r23.Shape, .own (rI .i64) v41 r23.Data, .box b5 [.bool r19.Char, v33, v34], .fz (rI .i64) v33 r19.Shape, .own (rI .i64) v34 r19.Data, .box b4 [.bool r15.Char, v26, v27], .fz (rI .i64) v26 r15.Shape, .own (rI .i64) v27 r15.Data, .box b3 [.bool r11.Char, v19, v20], .fz (rI .i64) v19 r11.Shape, .own (rI .i64) v20 r11.Data, .box b2 [.bool r7.Char, v12, v13], .fz (rI .i64) v12 r7.Shape, .own (rI .i64) v13 r7.Data, .box b1 [.bool r3.Char, v6, v7], .fz (rI .i64) v6 r3.Shape, .own (rI .i64) v7 r3.Data]) Fr) hS (.inr ⟨_, _, _, _, rfl, rfl, rfl, hg3⟩) rfl (fun wm' hw1 hw2 => by
    obtain ⟨F2, kk_1, kk_2⟩ := hS.inv.lend (La := [.fz (rI .i64) v26 r15.Shape, .fz (rI .i64) v27 r15.Data, .fz (rI .i64) v57 r35.Shape, .fz (rI .i64) v58 r35.Data]) (List.forall_mem_cons.mpr ⟨(.inl ⟨rfl, List.mem_of_getElem? (i := 12) rfl⟩), (List.forall_mem_cons.mpr ⟨(.inr ⟨_, _, _, _, rfl, .inl (List.mem_of_getElem? (i := 13) rfl)⟩), (List.forall_mem_cons.mpr ⟨(.inr ⟨_, _, _, _, rfl, .inl (List.mem_of_getElem? (i := 0) rfl)⟩), (List.forall_mem_cons.mpr ⟨(.inr ⟨_, _, _, _, rfl, .inl (List.mem_of_getElem? (i := 1) rfl)⟩), (fun _ h => by cases h)⟩)⟩)⟩)⟩) hw1 hw2
    exact (wk22  r15 r16 r35  v26 v27 v57 v58 kk_1 hx29).mono fun res H2 ⟨qq_1, qq_2⟩ => ⟨qq_1, kk_2 _ qq_2⟩) (fun wm' res H hw' hp => ?_)
   obtain ⟨hres, hI⟩ := hp
   replace hres := hres.symm; subst hres
   replace hS : S wm 294 _ H ((94, .bool r36) :: _) ([.own (rI .i64) v57 r35.Shape, .own (rI .i64) v58 r35.Data, .box b7 [.bool r27.Char, v46, v47], .fz (rI .i64) v46 r27.Shape, .own (rI .i64) v47 r27.Data, .box b6 [.bool r23.Char, v40, v41], .fz (rI .i64) v40 r23.Shape, .own (rI .i64) v41 r23.Data, .box b5 [.bool r19.Char, v33, v34], .fz (rI .i64) v33 r19.Shape, .own (rI .i64) v34 r19.Data, .box b4 [.bool r15.Char, v26, v27], .fz (rI .i64) v26 r15.Shape, .own (rI .i64) v27 r15.Data, .box b3 [.bool r11.Char, v19, v20], .fz (rI .i64) v19 r11.Shape, .own (rI .i64) v20 r11.Data, .box b2 [.bool r7.Char, v12, v13], .fz (rI .i64) v12 r7.Shape, .own (rI .i64) v13 r7.Data, .box b1 [.bool r3.Char, v6, v7], .fz (rI .i64) v6 r3.Shape, .own (rI .i64) v7 r3.Data]) Fr := (hS.put rfl _).withK hI
   clear hI hw'
   refine o_pure hS (.inr ⟨_, _, _, _, rfl, rfl, rfl, hg3⟩) rfl rfl ?_; clear hS; try clear tm
   intro tm hS
   refine o_pickF hS (.inl rfl) rfl rfl hg3 rfl ?_; clear hS; try clear tm
   intro tm hS
   obtain rfl := Option.some.inj hc3
   exact o_nil (hS.keep (ka_cons rfl (ka_cons rfl (ka_cons rfl (ka_cons rfl (ka_cons rfl (ka_cons rfl (ka_cons rfl (ka_cons rfl (ka_cons rfl (ka_cons rfl (ka_cons rfl (ka_cons rfl (ka_cons rfl ka_nil))))))))))))) (fun hI => (hI.sub (sd (sd (sc (sc (sc (sc (sc (sc (sc (sc (sc (sc (sc (sc (sc (sc (sc (sc (sc (sc (sc (sc (sc sn))))))))))))))))))))))))))
 intro tm H hS
 refine o_pure hS (.inl rfl) rfl rfl ?_; clear hS; try clear tm
 intro tm hS
 obtain ⟨c4, hc4, h0⟩ := bindS h0
 refine o_cutN 9 (J := fun tm H => S wm 294 tm H [(106, .bool c4), (1, .func (.func 22) #[] #[]), (2, .func (.func 21) #[] #[]), (3, .pointer (some ⟨b1, 0, none⟩)), (5, .pointer (some ⟨b2, 0, none⟩)), (7, .pointer (some ⟨b3, 0, none⟩)), (9, .pointer (some ⟨b4, 0, none⟩)), (11, .pointer (some ⟨b5, 0, none⟩)), (13, .pointer (some ⟨b6, 0, none⟩)), (14, .int .i64 r24), (15, .pointer (some ⟨b7, 0, none⟩)), (16, .int .i64 r28)] [.box b7 [.bool r27.Char, v46, v47], .fz (rI .i64) v46 r27.Shape, .own (rI .i64) v47 r27.Data, .box b6 [.bool r23.Char, v40, v41], .fz (rI .i64) v40 r23.Shape, .own (rI .i64) v41 r23.Data, .box b5 [.bool r19.Char, v33, v34], .fz (rI .i64) v33 r19.Shape, .own (rI .i64) v34 r19.Data, .box b4 [.bool r15.Char, v26, v27], .fz (rI .i64) v26 r15.Shape, .own (rI .i64) v27 r15.Data, .box b3 [.bool r11.Char, v19, v20], .fz (rI .i64) v19 r11.Shape, .own (rI .i64) v20 r11.Data, .box b2 [.bool r7.Char, v12, v13], .fz (rI .i64) v12 r7.Shape, .own (rI .i64) v13 r7.Data, .box b1 [.bool r3.Char, v6, v7], .fz (rI .i64) v6 r3.Shape, .own (rI .i64) v7 r3.Data] Fr) ?_ ?_
 ·rcases Bool.eq_false_or_eq_true c3 with hg4 | hg4
  ·replace hc4 := iteT hg4 hc4
   refine o_skip hS rfl rfl rfl hg4 ?_; clear hS; try clear tm
   intro tm hS
   refine o_skip hS rfl rfl rfl hg4 ?_; clear hS; try clear tm
   intro tm hS
   refine o_skip hS rfl rfl rfl hg4 ?_; clear hS; try clear tm
   intro tm hS
   refine o_skip hS rfl rfl rfl hg4 ?_; clear hS; try clear tm
   intro tm hS
   refine o_skip hS rfl rfl rfl hg4 ?_; clear hS; try clear tm
   intro tm hS
   refine o_skip hS rfl rfl rfl hg4 ?_; clear hS; try clear tm
   intro tm hS
   refine o_skip hS rfl rfl rfl hg4 ?_; clear hS; try clear tm
   intro tm hS
   refine o_skip hS rfl rfl rfl hg4 ?_; clear hS; try clear tm
   intro tm hS
   refine o_pickT hS (.inl rfl) rfl rfl hg4 rfl ?_; clear hS; try clear tm
   intro tm hS
   obtain rfl := Option.some.inj hc4
   exact o_nil (hS.keep (ka_cons rfl (ka_cons rfl (ka_cons rfl (ka_cons rfl (ka_cons rfl (ka_cons rfl (ka_cons rfl (ka_cons rfl (ka_cons rfl (ka_cons rfl (ka_cons rfl (ka_cons rfl ka_nil)))))))))))) (fun hI => (hI.sub (sc (sc (sc (sc (sc (sc (sc (sc (sc (sc (sc (sc (sc (sc (sc (sc (sc (sc (sc (sc (sc sn))))))))))))))))))))))))
  ·replace hc4 := iteF hg4 hc4
   refine o_pure hS (.inr ⟨_, _, _, _, rfl, rfl, rfl, hg4⟩) rfl rfl ?_; clear hS; try clear tm
   intro tm hS
   refine o_ldA (k := 6) hS (.inr ⟨_, _, _, _, rfl, rfl, rfl, hg4⟩) rfl rfl rfl (.inl rfl) Fu25 rfl Fs25 rfl ?_; clear hS; try clear tm
   intro tm hS
   refine o_pure hS (.inr ⟨_, _, _, _, rfl, rfl, rfl, hg4⟩) rfl rfl ?_; clear hS; try clear tm
   intro tm hS
   refine o_lit (r := (rI .i64)) (l := [1, 2]) hS (.inr ⟨_, _, _, _, rfl, rfl, rfl, hg4⟩) rfl Fl22 rfl rfl rfl (.cons rfl (.cons rfl .nil)) rfl rfl (ri_1 (rd_flat fun _ => rfl) (ri_1 (rd_flat fun _ => rfl) ri_nil)) rfl ?_; clear hS; try clear tm H
   intro v59 tm H hS
   refine o_lit (r := (rI .i64)) (l := [5, 6]) hS (.inr ⟨_, _, _, _, rfl, rfl, rfl, hg4⟩) rfl Fl23 rfl rfl rfl (.cons rfl (.cons rfl .nil)) rfl rfl (ri_1 (rd_flat fun _ => rfl) (ri_1 (rd_flat fun _ => rfl) ri_nil)) rfl ?_; clear hS; try clear tm H
   intro v60 tm H hS
   replace hS := hS.litFrz (k := 1) rfl
   replace hS := hS.litFrz (k := 0) rfl
   obtain ⟨r37, hx30, hc4⟩ := bindS hc4
   refine o_call hS (.inr ⟨_, _, _, _, rfl, rfl, rfl, hg4⟩) rfl (fun wm' hw1 hw2 => wk56  ([1, 2]) ([5, 6])  v59 v60 (((hS.sel hw2).ad 0 rfl).ad 1 rfl) hx30) (fun wm' res H hw' hp => ?_)
   obtain ⟨v61, v62, hres, hI⟩ := hp
   replace hres := hres.symm; subst hres
   replace hS : S wm 294 _ H ((103, .agg #[.bool r37.Char, v61, v62]) :: _) ([.fz (rI .i64) v61 r37.Shape, .fz (rI .i64) v62 r37.Data] ++ _) Fr := hS.after rfl hw' hI
   clear hI hw'
   obtain ⟨r38, hx31, hc4⟩ := bindS hc4
   refine o_call (Pc := fun _ res H => res = .bool r38 ∧ Kn wm H ([.fz (rI .i64) v61 r37.Shape, .fz (rI .i64) v62 r37.Data, .fz (rI .i64) v60 ([5, 6]), .fz (rI .i64) v59 ([1, 2]), .box b7 [.bool r27.Char, v46, v47], .fz (rI .i64) v46 r27.Shape, .own (rI .i64) v47 r27.Data, .box b6 [.bool r23.Char, v40, v41], .fz (rI .i64) v40 r23.Shape, .own (rI .i64) v41 r23.Data, .box b5 [.bool r19.Char, v33, v34], .fz (rI .i64) v33 r19.Shape, .own (rI .i64) v34 r19.Data, .box b4 [.bool r15.Char, v26, v27], .fz (rI .i64) v26 r15.Shape, .own (rI .i64) v27 r15.Data, .box b3 [.bool r11.Char, v19, v20], .fz (rI .i64) v19 r11.Shape, .own (rI .i64) v20 r11.Data, .box b2 [.bool r7.Char, v12, v13], .fz (rI .i64) v12 r7.Shape, .own (rI .i64) v13 r7.Data, .box b1 [.bool r3.Char, v6, v7], .fz (rI .i64) v6 r3.Shape, .own (rI .i64) v7 r3.Data]) Fr) hS (.inr ⟨_, _, _, _, rfl, rfl, rfl, hg4⟩) rfl (fun wm' hw1 hw2 => by
    obtain ⟨F2, kk_1, kk_2⟩ := hS.inv.lend (La := [.fz (rI .i64) v33 r19.Shape, .fz (rI .i64) v34 r19.Data, .fz (rI .i64) v61 r37.Shape, .fz (rI .i64) v62 r37.Data]) (List.forall_mem_cons.mpr ⟨(.inl ⟨rfl, List.mem_of_getElem? (i := 11) rfl⟩), (List.forall_mem_cons.mpr ⟨(.inr ⟨_, _, _, _, rfl, .inl (List.mem_of_getElem? (i := 12) rfl)⟩), (List.forall_mem_cons.mpr ⟨(.inl ⟨rfl, List.mem_of_getElem? (i := 0) rfl⟩), (List.forall_mem_cons.mpr ⟨(.inl ⟨rfl, List.mem_of_getElem? (i := 1) rfl⟩), (fun _ h => by cases h)⟩)⟩)⟩)⟩) hw1 hw2
    exact (wk22  r19 r20 r37  v33 v34 v61 v62 kk_1 hx31).mono fun res H2 ⟨qq_1, qq_2⟩ => ⟨qq_1, kk_2 _ qq_2⟩) (fun wm' res H hw' hp => ?_)
   obtain ⟨hres, hI⟩ := hp
   replace hres := hres.symm; subst hres
   replace hS : S wm 294 _ H ((104, .bool r38) :: _) ([.fz (rI .i64) v61 r37.Shape, .fz (rI .i64) v62 r37.Data, .fz (rI .i64) v60 ([5, 6]), .fz (rI .i64) v59 ([1, 2]), .box b7 [.bool r27.Char, v46, v47], .fz (rI .i64) v46 r27.Shape, .own (rI .i64) v47 r27.Data, .box b6 [.bool r23.Char, v40, v41], .fz (rI .i64) v40 r23.Shape, .own (rI .i64) v41 r23.Data, .box b5 [.bool r19.Char, v33, v34], .fz (rI .i64) v33 r19.Shape, .own (rI .i64) v34 r19.Data, .box b4 [.bool r15.Char, v26, v27], .fz (rI .i64) v26 r15.Shape, .own (rI .i64) v27 r15.Data, .box b3 [.bool r11.Char, v19, v20], .fz (rI .i64) v19 r11.Shape, .own (rI .i64) v20 r11.Data, .box b2 [.bool r7.Char, v12, v13], .fz (rI .i64) v12 r7.Shape, .own (rI .i64) v13 r7.Data, .box b1 [.bool r3.Char, v6, v7], .fz (rI .i64) v6 r3.Shape, .own (rI .i64) v7 r3.Data]) Fr := (hS.put rfl _).withK hI
   clear hI hw'
   refine o_pure hS (.inr ⟨_, _, _, _, rfl, rfl, rfl, hg4⟩) rfl rfl ?_; clear hS; try clear tm
   intro tm hS
   refine o_pickF hS (.inl rfl) rfl rfl hg4 rfl ?_; clear hS; try clear tm
   intro tm hS
   obtain rfl := Option.some.inj hc4
   exact o_nil (hS.keep (ka_cons rfl (ka_cons rfl (ka_cons rfl (ka_cons rfl (ka_cons rfl (ka_cons rfl (ka_cons rfl (ka_cons rfl (ka_cons rfl (ka_cons rfl (ka_cons rfl (ka_cons rfl ka_nil)))))))))))) (fun hI => (hI.sub (sd (sd (sd (sd (sc (sc (sc (sc (sc (sc (sc (sc (sc (sc (sc (sc (sc (sc (sc (sc (sc (sc (sc (sc (sc sn))))))))))))))))))))))))))))
 intro tm H hS
 refine o_pure hS (.inl rfl) rfl rfl ?_; clear hS; try clear tm
 intro tm hS
 obtain ⟨c5, hc5, h0⟩ := bindS h0
 refine o_cutN 9 (J := fun tm H => S wm 294 tm H [(116, .bool c5), (1, .func (.func 22) #[] #[]), (2, .func (.func 21) #[] #[]), (3, .pointer (some ⟨b1, 0, none⟩)), (5, .pointer (some ⟨b2, 0, none⟩)), (7, .pointer (some ⟨b3, 0, none⟩)), (9, .pointer (some ⟨b4, 0, none⟩)), (11, .pointer (some ⟨b5, 0, none⟩)), (13, .pointer (some ⟨b6, 0, none⟩)), (15, .pointer (some ⟨b7, 0, none⟩)), (16, .int .i64 r28)] [.box b7 [.bool r27.Char, v46, v47], .fz (rI .i64) v46 r27.Shape, .own (rI .i64) v47 r27.Data, .box b6 [.bool r23.Char, v40, v41], .fz (rI .i64) v40 r23.Shape, .own (rI .i64) v41 r23.Data, .box b5 [.bool r19.Char, v33, v34], .fz (rI .i64) v33 r19.Shape, .own (rI .i64) v34 r19.Data, .box b4 [.bool r15.Char, v26, v27], .fz (rI .i64) v26 r15.Shape, .own (rI .i64) v27 r15.Data, .box b3 [.bool r11.Char, v19, v20], .fz (rI .i64) v19 r11.Shape, .own (rI .i64) v20 r11.Data, .box b2 [.bool r7.Char, v12, v13], .fz (rI .i64) v12 r7.Shape, .own (rI .i64) v13 r7.Data, .box b1 [.bool r3.Char, v6, v7], .fz (rI .i64) v6 r3.Shape, .own (rI .i64) v7 r3.Data] Fr) ?_ ?_
 ·rcases Bool.eq_false_or_eq_true c4 with hg5 | hg5
  ·replace hc5 := iteT hg5 hc5
   refine o_skip hS rfl rfl rfl hg5 ?_; clear hS; try clear tm
   intro tm hS
   refine o_skip hS rfl rfl rfl hg5 ?_; clear hS; try clear tm
   intro tm hS
   refine o_skip hS rfl rfl rfl hg5 ?_; clear hS; try clear tm
   intro tm hS
   refine o_skip hS rfl rfl rfl hg5 ?_; clear hS; try clear tm
   intro tm hS
   refine o_skip hS rfl rfl rfl hg5 ?_; clear hS; try clear tm
   intro tm hS
   refine o_skip hS rfl rfl rfl hg5 ?_; clear hS; try clear tm
   intro tm hS
   refine o_skip hS rfl rfl rfl hg5 ?_; clear hS; try clear tm
   intro tm hS
   refine o_skip hS rfl rfl rfl hg5 ?_; clear hS; try clear tm
   intro tm hS
   refine o_pickT hS (.inl rfl) rfl rfl hg5 rfl ?_; clear hS; try clear tm
   intro tm hS
   obtain rfl := Option.some.inj hc5
   exact o_nil (hS.keep (ka_cons rfl (ka_cons rfl (ka_cons rfl (ka_cons rfl (ka_cons rfl (ka_cons rfl (ka_cons rfl (ka_cons rfl (ka_cons rfl (ka_cons rfl (ka_cons rfl ka_nil))))))))))) (fun hI => (hI.sub (sc (sc (sc (sc (sc (sc (sc (sc (sc (sc (sc (sc (sc (sc (sc (sc (sc (sc (sc (sc (sc sn))))))))))))))))))))))))
  ·replace hc5 := iteF hg5 hc5
   refine o_pure hS (.inr ⟨_, _, _, _, rfl, rfl, rfl, hg5⟩) rfl rfl ?_; clear hS; try clear tm
   intro tm hS
   refine o_ldA (k := 3) hS (.inr ⟨_, _, _, _, rfl, rfl, rfl, hg5⟩) rfl rfl rfl (.inl rfl) Fu25 rfl Fs25 rfl ?_; clear hS; try clear tm
   intro tm hS
   refine o_pure hS (.inr ⟨_, _, _, _, rfl, rfl, rfl, hg5⟩) rfl rfl ?_; clear hS; try clear tm
   intro tm hS
   refine o_lit (r := (rI .i64)) (l := [2, 2]) hS (.inr ⟨_, _, _, _, rfl, rfl, rfl, hg5⟩) rfl Fl22 rfl rfl rfl (.cons rfl (.cons rfl .nil)) rfl rfl (ri_1 (rd_flat fun _ => rfl) (ri_1 (rd_flat fun _ => rfl) ri_nil)) rfl ?_; clear hS; try clear tm H
   intro v63 tm H hS
   refine o_lit (r := (rI .i64)) (l := [9, 0, 0, 0]) hS (.inr ⟨_, _, _, _, rfl, rfl, rfl, hg5⟩) rfl Fl23 rfl rfl rfl (.cons rfl (.cons rfl (.cons rfl (.cons rfl .nil)))) rfl rfl (ri_1 (rd_flat fun _ => rfl) (ri_1 (rd_flat fun _ => rfl) (ri_1 (rd_flat fun _ => rfl) (ri_1 (rd_flat fun _ => rfl) ri_nil)))) rfl ?_; clear hS; try clear tm H
   intro v64 tm H hS
   replace hS := hS.litFrz (k := 1) rfl
   replace hS := hS.litFrz (k := 0) rfl
   obtain ⟨r39, hx32, hc5⟩ := bindS hc5
   refine o_call hS (.inr ⟨_, _, _, _, rfl, rfl, rfl, hg5⟩) rfl (fun wm' hw1 hw2 => wk56  ([2, 2]) ([9, 0, 0, 0])  v63 v64 (((hS.sel hw2).ad 0 rfl).ad 1 rfl) hx32) (fun wm' res H hw' hp => ?_)
   obtain ⟨v65, v66, hres, hI⟩ := hp
   replace hres := hres.symm; subst hres
   replace hS : S wm 294 _ H ((113, .agg #[.bool r39.Char, v65, v66]) :: _) ([.fz (rI .i64) v65 r39.Shape, .fz (rI .i64) v66 r39.Data] ++ _) Fr := hS.after rfl hw' hI
   clear hI hw'
   obtain ⟨r40, hx33, hc5⟩ := bindS hc5
   refine o_call (Pc := fun _ res H => res = .bool r40 ∧ Kn wm H ([.fz (rI .i64) v65 r39.Shape, .fz (rI .i64) v66 r39.Data, .fz (rI .i64) v64 ([9, 0, 0, 0]), .fz (rI .i64) v63 ([2, 2]), .box b7 [.bool r27.Char, v46, v47], .fz (rI .i64) v46 r27.Shape, .own (rI .i64) v47 r27.Data, .box b6 [.bool r23.Char, v40, v41], .fz (rI .i64) v40 r23.Shape, .own (rI .i64) v41 r23.Data, .box b5 [.bool r19.Char, v33, v34], .fz (rI .i64) v33 r19.Shape, .own (rI .i64) v34 r19.Data, .box b4 [.bool r15.Char, v26, v27], .fz (rI .i64) v26 r15.Shape, .own (rI .i64) v27 r15.Data, .box b3 [.bool r11.Char, v19, v20], .fz (rI .i64) v19 r11.Shape, .own (rI .i64) v20 r11.Data, .box b2 [.bool r7.Char, v12, v13], .fz (rI .i64) v12 r7.Shape, .own (rI .i64) v13 r7.Data, .box b1 [.bool r3.Char, v6, v7], .fz (rI .i64) v6 r3.Shape, .own (rI .i64) v7 r3.Data]) Fr) hS (.inr ⟨_, _, _, _, rfl, rfl, rfl, hg5⟩) rfl (fun wm' hw1 hw2 => by
    obtain ⟨F2, kk_1, kk_2⟩ := hS.inv.lend (La := [.fz (rI .i64) v40 r23.Shape, .fz (rI .i64) v41 r23.Data, .fz (rI .i64) v65 r39.Shape, .fz (rI .i64) v66 r39.Data]) (List.forall_mem_cons.mpr ⟨(.inl ⟨rfl, List.mem_of_getElem? (i := 8) rfl⟩), (List.forall_mem_cons.mpr ⟨(.inr ⟨_, _, _, _, rfl, .inl (List.mem_of_getElem? (i := 9) rfl)⟩), (List.forall_mem_cons.mpr ⟨(.inl ⟨rfl, List.mem_of_getElem? (i := 0) rfl⟩), (List.forall_mem_cons.mpr ⟨(.inl ⟨rfl, List.mem_of_getElem? (i := 1) rfl⟩), (fun _ h => by cases h)⟩)⟩)⟩)⟩) hw1 hw2
    exact (wk22  r23 r24 r39  v40 v41 v65 v66 kk_1 hx33).mono fun res H2 ⟨qq_1, qq_2⟩ => ⟨qq_1, kk_2 _ qq_2⟩) (fun wm' res H hw' hp => ?_)
   obtain ⟨hres, hI⟩ := hp
   replace hres := hres.symm; subst hres
   replace hS : S wm 294 _ H ((114, .bool r40) :: _) ([.fz (rI .i64) v65 r39.Shape, .fz (rI .i64) v66 r39.Data, .fz (rI .i64) v64 ([9, 0, 0, 0]), .fz (rI .i64) v63 ([2, 2]), .box b7 [.bool r27.Char, v46, v47], .fz (rI .i64) v46 r27.Shape, .own (rI .i64) v47 r27.Data, .box b6 [.bool r23.Char, v40, v41], .fz (rI .i64) v40 r23.Shape, .own (rI .i64) v41 r23.Data, .box b5 [.bool r19.Char, v33, v34], .fz (rI .i64) v33 r19.Shape, .own (rI .i64) v34 r19.Data, .box b4 [.bool r15.Char, v26, v27], .fz (rI .i64) v26 r15.Shape, .own (rI .i64) v27 r15.Data, .box b3 [.bool r11.Char, v19, v20], .fz (rI .i64) v19 r11.Shape, .own (rI .i64) v20 r11.Data, .box b2 [.bool r7.Char, v12, v13], .fz (rI .i64) v12 r7.Shape, .own (rI .i64) v13 r7.Data, .box b1 [.bool r3.Char, v6, v7], .fz (rI .i64) v6 r3.Shape, .own (rI .i64) v7 r3.Data]) Fr := (hS.put rfl _).withK hI
   clear hI hw'
   refine o_pure hS (.inr ⟨_, _, _, _, rfl, rfl, rfl, hg5⟩) rfl rfl ?_; clear hS; try clear tm
   intro tm hS
   refine o_pickF hS (.inl rfl) rfl rfl hg5 rfl ?_; clear hS; try clear tm
   intro tm hS
   obtain rfl := Option.some.inj hc5
   exact o_nil (hS.keep (ka_cons rfl (ka_cons rfl (ka_cons rfl (ka_cons rfl (ka_cons rfl (ka_cons rfl (ka_cons rfl (ka_cons rfl (ka_cons rfl (ka_cons rfl (ka_cons rfl ka_nil))))))))))) (fun hI => (hI.sub (sd (sd (sd (sd (sc (sc (sc (sc (sc (sc (sc (sc (sc (sc (sc (sc (sc (sc (sc (sc (sc (sc (sc (sc (sc sn))))))))))))))))))))))))))))
 intro tm H hS
 refine o_pure hS (.inl rfl) rfl rfl ?_; clear hS; try clear tm
 intro tm hS
 obtain ⟨c6, hc6, h0⟩ := bindS h0
 refine o_cutN 7 (J := fun tm H => S wm 294 tm H [(124, .bool c6), (1, .func (.func 22) #[] #[]), (2, .func (.func 21) #[] #[]), (3, .pointer (some ⟨b1, 0, none⟩)), (5, .pointer (some ⟨b2, 0, none⟩)), (7, .pointer (some ⟨b3, 0, none⟩)), (9, .pointer (some ⟨b4, 0, none⟩)), (11, .pointer (some ⟨b5, 0, none⟩)), (13, .pointer (some ⟨b6, 0, none⟩)), (15, .pointer (some ⟨b7, 0, none⟩))] [.box b7 [.bool r27.Char, v46, v47], .fz (rI .i64) v46 r27.Shape, .own (rI .i64) v47 r27.Data, .box b6 [.bool r23.Char, v40, v41], .fz (rI .i64) v40 r23.Shape, .own (rI .i64) v41 r23.Data, .box b5 [.bool r19.Char, v33, v34], .fz (rI .i64) v33 r19.Shape, .own (rI .i64) v34 r19.Data, .box b4 [.bool r15.Char, v26, v27], .fz (rI .i64) v26 r15.Shape, .own (rI .i64) v27 r15.Data, .box b3 [.bool r11.Char, v19, v20], .fz (rI .i64) v19 r11.Shape, .own (rI .i64) v20 r11.Data, .box b2 [.bool r7.Char, v12, v13], .fz (rI .i64) v12 r7.Shape, .own (rI .i64) v13 r7.Data, .box b1 [.bool r3.Char, v6, v7], .fz (rI .i64) v6 r3.Shape, .own (rI .i64) v7 r3.Data] Fr) ?_ ?_
 ·rcases Bool.eq_false_or_eq_true c5 with hg6 | hg6
  ·replace hc6 := iteT hg6 hc6
   refine o_skip hS rfl rfl rfl hg6 ?_; clear hS; try clear tm
   intro tm hS
   refine o_skip hS rfl rfl rfl hg6 ?_; clear hS; try clear tm
   intro tm hS
   refine o_skip hS rfl rfl rfl hg6 ?_; clear hS; try clear tm
   intro tm hS
   refine o_skip hS rfl rfl rfl hg6 ?_; clear hS; try clear tm
   intro tm hS
   refine o_skip hS rfl rfl rfl hg6 ?_; clear hS; try clear tm
   intro tm hS
   refine o_skip hS rfl rfl rfl hg6 ?_; clear hS; try clear tm
   intro tm hS
   refine o_pickT hS (.inl rfl) rfl rfl hg6 rfl ?_; clear hS; try clear tm
   intro tm hS
   obtain rfl := Option.some.inj hc6
   exact o_nil (hS.keep (ka_cons rfl (ka_cons rfl (ka_cons rfl (ka_cons rfl (ka_cons rfl (ka_cons rfl (ka_cons rfl (ka_cons rfl (ka_cons rfl (ka_cons rfl ka_nil)))))))))) (fun hI => (hI.sub (sc (sc (sc (sc (sc (sc (sc (sc (sc (sc (sc (sc (sc (sc (sc (sc (sc (sc (sc (sc (sc sn))))))))))))))))))))))))
  ·replace hc6 := iteF hg6 hc6
   refine o_pure hS (.inr ⟨_, _, _, _, rfl, rfl, rfl, hg6⟩) rfl rfl ?_; clear hS; try clear tm
   intro tm hS
   refine o_ldA (k := 0) hS (.inr ⟨_, _, _, _, rfl, rfl, rfl, hg6⟩) rfl rfl rfl (.inl rfl) Fu25 rfl Fs25 rfl ?_; clear hS; try clear tm
   intro tm hS
   refine o_pure hS (.inr ⟨_, _, _, _, rfl, rfl, rfl, hg6⟩) rfl rfl ?_; clear hS; try clear tm
   intro tm hS
   obtain ⟨r41, hx34, hc6⟩ := bindS hc6
   refine o_call hS (.inr ⟨_, _, _, _, rfl, rfl, rfl, hg6⟩) rfl (fun wm' hw1 hw2 => wk52  9   (hS.sel hw2) hx34) (fun wm' res H hw' hp => ?_)
   obtain ⟨v67, v68, hres, hI⟩ := hp
   replace hres := hres.symm; subst hres
   replace hS : S wm 294 _ H ((121, .agg #[.bool r41.Char, v67, v68]) :: _) ([.own (rI .i64) v67 r41.Shape, .own (rI .i64) v68 r41.Data] ++ _) Fr := hS.after rfl hw' hI
   clear hI hw'
   obtain ⟨r42, hx35, hc6⟩ := bindS hc6
   refine o_call (Pc := fun _ res H => res = .bool r42 ∧ Kn wm H ([.own (rI .i64) v67 r41.Shape, .own (rI .i64) v68 r41.Data, .box b7 [.bool r27.Char, v46, v47], .fz (rI .i64) v46 r27.Shape, .own (rI .i64) v47 r27.Data, .box b6 [.bool r23.Char, v40, v41], .fz (rI .i64) v40 r23.Shape, .own (rI .i64) v41 r23.Data, .box b5 [.bool r19.Char, v33, v34], .fz (rI .i64) v33 r19.Shape, .own (rI .i64) v34 r19.Data, .box b4 [.bool r15.Char, v26, v27], .fz (rI .i64) v26 r15.Shape, .own (rI .i64) v27 r15.Data, .box b3 [.bool r11.Char, v19, v20], .fz (rI .i64) v19 r11.Shape, .own (rI .i64) v20 r11.Data, .box b2 [.bool r7.Char, v12, v13], .fz (rI .i64) v12 r7.Shape, .own (rI .i64) v13 r7.Data, .box b1 [.bool r3.Char, v6, v7], .fz (rI .i64) v6 r3.Shape, .own (rI .i64) v7 r3.Data]) Fr) hS (.inr ⟨_, _, _, _, rfl, rfl, rfl, hg6⟩) rfl (fun wm' hw1 hw2 => by
    obtain ⟨F2, kk_1, kk_2⟩ := hS.inv.lend (La := [.fz (rI .i64) v46 r27.Shape, .fz (rI .i64) v47 r27.Data, .fz (rI .i64) v67 r41.Shape, .fz (rI .i64) v68 r41.Data]) (List.forall_mem_cons.mpr ⟨(.inl ⟨rfl, List.mem_of_getElem? (i := 3) rfl⟩), (List.forall_mem_cons.mpr ⟨(.inr ⟨_, _, _, _, rfl, .inl (List.mem_of_getElem? (i := 4) rfl)⟩), (List.forall_mem_cons.mpr ⟨(.inr ⟨_, _, _, _, rfl, .inl (List.mem_of_getElem? (i := 0) rfl)⟩), (List.forall_mem_cons.mpr ⟨(.inr ⟨_, _, _, _, rfl, .inl (List.mem_of_getElem? (i := 1) rfl)⟩), (fun _ h => by cases h)⟩)⟩)⟩)⟩) hw1 hw2
    exact (wk22  r27 r28 r41  v46 v47 v67 v68 kk_1 hx35).mono fun res H2 ⟨qq_1, qq_2⟩ => ⟨qq_1, kk_2 _ qq_2⟩) (fun wm' res H hw' hp => ?_)
   obtain ⟨hres, hI⟩ := hp
   replace hres := hres.symm; subst hres
   replace hS : S wm 294 _ H ((122, .bool r42) :: _) ([.own (rI .i64) v67 r41.Shape, .own (rI .i64) v68 r41.Data, .box b7 [.bool r27.Char, v46, v47], .fz (rI .i64) v46 r27.Shape, .own (rI .i64) v47 r27.Data, .box b6 [.bool r23.Char, v40, v41], .fz (rI .i64) v40 r23.Shape, .own (rI .i64) v41 r23.Data, .box b5 [.bool r19.Char, v33, v34], .fz (rI .i64) v33 r19.Shape, .own (rI .i64) v34 r19.Data, .box b4 [.bool r15.Char, v26, v27], .fz (rI .i64) v26 r15.Shape, .own (rI .i64) v27 r15.Data, .box b3 [.bool r11.Char, v19, v20], .fz (rI .i64) v19 r11.Shape, .own (rI .i64) v20 r11.Data, .box b2 [.bool r7.Char, v12, v13], .fz (rI .i64) v12 r7.Shape, .own (rI .i64) v13 r7.Data, .box b1 [.bool r3.Char, v6, v7], .fz (rI .i64) v6 r3.Shape, .own (rI .i64) v7 r3.Data]) Fr := (hS.put rfl _).withK hI
   clear hI hw'
   refine o_pure hS (.inr ⟨_, _, _, _, rfl, rfl, rfl, hg6⟩) rfl rfl ?_; clear hS; try clear tm
   intro tm hS
   refine o_pickF hS (.inl rfl) rfl rfl hg6 rfl ?_; clear hS; try clear tm
   intro tm hS
   obtain rfl := Option.some.inj hc6
   exact o_nil (hS.keep (ka_cons rfl (ka_cons rfl (ka_cons rfl (ka_cons rfl (ka_cons rfl (ka_cons rfl (ka_cons rfl (ka_cons rfl (ka_cons rfl (ka_cons rfl ka_nil)))))))))) (fun hI => (hI.sub (sd (sd (sc (sc (sc (sc (sc (sc (sc (sc (sc (sc (sc (sc (sc (sc (sc (sc (sc (sc (sc (sc (sc sn))))))))))))))))))))))))))
 intro tm H hS
 refine o_nil (hR _ _ ?_)
 clear hR R
 refine c_cond hS rfl (fun hc => ?_) (fun hc => ?_)
 ·replace h0 := iteT hc h0
  refine c_reg fun R hR => ?_
  refine o_pure hS (.inl rfl) rfl rfl ?_; clear hS; try clear tm
  intro tm hS
  refine o_nil (hR _ _ ?_)
  clear hR R
  refine wpC.ret ?_
  obtain rfl := Option.some.inj h0
  refine Exists.intro _ (And.intro (rs_tmp hS rfl rs_nil) ?_)
  have hI := hS.inv
  exact ⟨rfl, (hI.sub sn)⟩
 ·replace h0 := iteF hc h0
  refine wpC.skip ?_
  refine c_reg fun R hR => ?_
  obtain ⟨r43, hx36, h0⟩ := bindS h0
  refine o_call hS (.inl rfl) rfl (fun wm' hw1 hw2 => wk52  2   (hS.sel hw2) hx36) (fun wm' res H hw' hp => ?_)
  obtain ⟨v69, v70, hres, hI⟩ := hp
  replace hres := hres.symm; subst hres
  replace hS : S wm 294 _ H ((126, .agg #[.bool r43.Char, v69, v70]) :: _) ([.own (rI .i64) v69 r43.Shape, .own (rI .i64) v70 r43.Data] ++ _) Fr := hS.after rfl hw' hI
  clear hI hw'
  refine o_lit (r := (rI .i64)) (l := [4, 5]) hS (.inl rfl) rfl Fl23 rfl rfl rfl (.cons rfl (.cons rfl .nil)) rfl rfl (ri_1 (rd_flat fun _ => rfl) (ri_1 (rd_flat fun _ => rfl) ri_nil)) rfl ?_; clear hS; try clear tm H
  intro v71 tm H hS
  obtain ⟨r44, hx37, h0⟩ := bindS h0
  refine o_call (Pc := fun _ res H => ∃ v72 v73, res = .agg #[.bool r44.Char, v72, v73] ∧ Kn wm H ([.own (rI .i64) v72 r44.Shape, .own (rI .i64) v73 r44.Data] ++ [.lit (rI .i64) v71 ([4, 5]), .own (rI .i64) v69 r43.Shape, .own (rI .i64) v70 r43.Data, .box b7 [.bool r27.Char, v46, v47], .fz (rI .i64) v46 r27.Shape, .own (rI .i64) v47 r27.Data, .box b6 [.bool r23.Char, v40, v41], .fz (rI .i64) v40 r23.Shape, .own (rI .i64) v41 r23.Data, .box b5 [.bool r19.Char, v33, v34], .fz (rI .i64) v33 r19.Shape, .own (rI .i64) v34 r19.Data, .box b4 [.bool r15.Char, v26, v27], .fz (rI .i64) v26 r15.Shape, .own (rI .i64) v27 r15.Data, .box b3 [.bool r11.Char, v19, v20], .fz (rI .i64) v19 r11.Shape, .own (rI .i64) v20 r11.Data, .box b2 [.bool r7.Char, v12, v13], .fz (rI .i64) v12 r7.Shape, .own (rI .i64) v13 r7.Data, .box b1 [.bool r3.Char, v6, v7], .fz (rI .i64) v6 r3.Shape, .own (rI .i64) v7 r3.Data]) Fr) hS (.inl rfl) rfl (fun wm' hw1 hw2 => by
   obtain ⟨F2, kk_1, kk_2⟩ := hS.inv.lendR (La := [.fz (rI .i64) v71 ([4, 5])]) (List.forall_mem_cons.mpr ⟨(.inr ⟨_, _, _, _, rfl, .inr (List.mem_of_getElem? (i := 0) rfl)⟩), (fun _ h => by cases h)⟩) hw1 hw2
   exact (wk53  ([4, 5])  v71 kk_1 hx37).mono fun res H2 ⟨v72, v73, qq_1, qq_2⟩ => ⟨v72, v73, qq_1, kk_2 _ _ (List.forall_mem_cons.mpr ⟨⟨_, _, _, _, rfl, fun _ _ _ _ h => h⟩, (List.forall_mem_cons.mpr ⟨⟨_, _, _, _, rfl, fun _ _ _ _ h => h⟩, (fun _ h => by cases h)⟩)⟩) qq_2⟩) (fun wm' res H hw' hp => ?_)
  obtain ⟨v72, v73, hres, hI⟩ := hp
  replace hres := hres.symm; subst hres
  replace hS : S wm 294 _ H ((128, .agg #[.bool r44.Char, v72, v73]) :: _) ([.own (rI .i64) v72 r44.Shape, .own (rI .i64) v73 r44.Data] ++ [.lit (rI .i64) v71 ([4, 5]), .own (rI .i64) v69 r43.Shape, .own (rI .i64) v70 r43.Data, .box b7 [.bool r27.Char, v46, v47], .fz (rI .i64) v46 r27.Shape, .own (rI .i64) v47 r27.Data, .box b6 [.bool r23.Char, v40, v41], .fz (rI .i64) v40 r23.Shape, .own (rI .i64) v41 r23.Data, .box b5 [.bool r19.Char, v33, v34], .fz (rI .i64) v33 r19.Shape, .own (rI .i64) v34 r19.Data, .box b4 [.bool r15.Char, v26, v27], .fz (rI .i64) v26 r15.Shape, .own (rI .i64) v27 r15.Data, .box b3 [.bool r11.Char, v19, v20], .fz (rI .i64) v19 r11.Shape, .own (rI .i64) v20 r11.Data, .box b2 [.bool r7.Char, v12, v13], .fz (rI .i64) v12 r7.Shape, .own (rI .i64) v13 r7.Data, .box b1 [.bool r3.Char, v6, v7], .fz (rI .i64) v6 r3.Shape, .own (rI .i64) v7 r3.Data]) Fr := (hS.put rfl _).withK hI
  clear hI hw'
  obtain ⟨⟨r45, r46⟩, hx38, h0⟩ := bindS h0
  refine o_call (Pc := fun _ res H => ∃ v74 v75, res = .tuple #[.agg #[.bool r45.Char, v74, v75], .int .i64 r46] ∧ Kn wm H ([.own (rI .i64) v74 r45.Shape, .own (rI .i64) v75 r45.Data] ++ [.own (rI .i64) v72 r44.Shape, .own (rI .i64) v73 r44.Data, .lit (rI .i64) v71 ([4, 5]), .own (rI .i64) v69 r43.Shape, .own (rI .i64) v70 r43.Data, .box b7 [.bool r27.Char, v46, v47], .fz (rI .i64) v46 r27.Shape, .own (rI .i64) v47 r27.Data, .box b6 [.bool r23.Char, v40, v41], .fz (rI .i64) v40 r23.Shape, .own (rI .i64) v41 r23.Data, .box b5 [.bool r19.Char, v33, v34], .fz (rI .i64) v33 r19.Shape, .own (rI .i64) v34 r19.Data, .box b4 [.bool r15.Char, v26, v27], .fz (rI .i64) v26 r15.Shape, .own (rI .i64) v27 r15.Data, .box b3 [.bool r11.Char, v19, v20], .fz (rI .i64) v19 r11.Shape, .own (rI .i64) v20 r11.Data, .box b2 [.bool r7.Char, v12, v13], .fz (rI .i64) v12 r7.Shape, .own (rI .i64) v13 r7.Data, .box b1 [.bool r3.Char, v6, v7], .fz (rI .i64) v6 r3.Shape, .own (rI .i64) v7 r3.Data]) Fr) hS (.inl rfl) rfl (fun wm' hw1 hw2 => by
   obtain ⟨F2, kk_1, kk_2⟩ := hS.inv.lendR (La := [.fz (rI .i64) v69 r43.Shape, .fz (rI .i64) v70 r43.Data, .fz (rI .i64) v72 r44.Shape, .fz (rI .i64) v73 r44.Data]) (List.forall_mem_cons.mpr ⟨(.inr ⟨_, _, _, _, rfl, .inl (List.mem_of_getElem? (i := 3) rfl)⟩), (List.forall_mem_cons.mpr ⟨(.inr ⟨_, _, _, _, rfl, .inl (List.mem_of_getElem? (i := 4) rfl)⟩), (List.forall_mem_cons.mpr ⟨(.inr ⟨_, _, _, _, rfl, .inl (List.mem_of_getElem? (i := 0) rfl)⟩), (List.forall_mem_cons.mpr ⟨(.inr ⟨_, _, _, _, rfl, .inl (List.mem_of_getElem? (i := 1) rfl)⟩), (fun _ h => by cases h)⟩)⟩)⟩)⟩) hw1 hw2
   exact (wk16  r43 r44 (-1)  v69 v70 v72 v73 kk_1 hx38).mono fun res H2 ⟨v74, v75, qq_1, qq_2⟩ => ⟨v74, v75, qq_1, kk_2 _ _ (List.forall_mem_cons.mpr ⟨⟨_, _, _, _, rfl, fun _ _ _ _ h => h⟩, (List.forall_mem_cons.mpr ⟨⟨_, _, _, _, rfl, fun _ _ _ _ h => h⟩, (fun _ h => by cases h)⟩)⟩) qq_2⟩) (fun wm' res H hw' hp => ?_)
  obtain ⟨v74, v75, hres, hI⟩ := hp
  replace hres := hres.symm; subst hres
  replace hS : S wm 294 _ H ((129, .tuple #[.agg #[.bool r45.Char, v74, v75], .int .i64 r46]) :: _) ([.own (rI .i64) v74 r45.Shape, .own (rI .i64) v75 r45.Data] ++ [.own (rI .i64) v72 r44.Shape, .own (rI .i64) v73 r44.Data, .lit (rI .i64) v71 ([4, 5]), .own (rI .i64) v69 r43.Shape, .own (rI .i64) v70 r43.Data, .box b7 [.bool r27.Char, v46, v47], .fz (rI .i64) v46 r27.Shape, .own (rI .i64) v47 r27.Data, .box b6 [.bool r23.Char, v40, v41], .fz (rI .i64) v40 r23.Shape, .own (rI .i64) v41 r23.Data, .box b5 [.bool r19.Char, v33, v34], .fz (rI .i64) v33 r19.Shape, .own (rI .i64) v34 r19.Data, .box b4 [.bool r15.Char, v26, v27], .fz (rI .i64) v26 r15.Shape, .own (rI .i64) v27 r15.Data, .box b3 [.bool r11.Char, v19, v20], .fz (rI .i64) v19 r11.Shape, .own (rI .i64) v20 r11.Data, .box b2 [.bool r7.Char, v12, v13], .fz (rI .i64) v12 r7.Shape, .own (rI .i64) v13 r7.Data, .box b1 [.bool r3.Char, v6, v7], .fz (rI .i64) v6 r3.Shape, .own (rI .i64) v7 r3.Data]) Fr := (hS.put rfl _).withK hI
  clear hI hw'
  refine o_pure hS (.inl rfl) rfl rfl ?_; clear hS; try clear tm
  intro tm hS
  refine o_pure hS (.inl rfl) rfl rfl ?_; clear hS; try clear tm
  intro tm hS
  refine o_pure hS (.inl rfl) rfl rfl ?_; clear hS; try clear tm
  intro tm hS
  refine o_st (k := 25) hS (.inl rfl) rfl rfl rfl Fs25 rfl rfl (all_cons rfl (all_cons (hS.one (k := 0) rfl (.inr (.inl rfl))) (all_cons (hS.one (k := 1) rfl (.inr (.inl rfl))) all_nil))) rfl ?_; clear hS; try clear H
  intro H hS
  refine o_pure hS (.inl rfl) rfl rfl ?_; clear hS; try clear tm
  intro tm hS
  refine o_nil (hR _ _ ?_)
  clear hR R
  refine c_reg fun R hR => ?_
  refine o_lit (r := (rI .i64)) (l := [1, 0]) hS (.inl rfl) rfl Fl23 rfl rfl rfl (.cons rfl (.cons rfl .nil)) rfl rfl (ri_1 (rd_flat fun _ => rfl) (ri_1 (rd_flat fun _ => rfl) ri_nil)) rfl ?_; clear hS; try clear tm H
  intro v76 tm H hS
  obtain ⟨r47, hx39, h0⟩ := bindS h0
  refine o_call (Pc := fun _ res H => ∃ v77 v78, res = .agg #[.bool r47.Char, v77, v78] ∧ Kn wm H ([.own (rI .i64) v77 r47.Shape, .own (rI .i64) v78 r47.Data] ++ [.lit (rI .i64) v76 ([1, 0]), .own (rI .i64) v74 r45.Shape, .own (rI .i64) v75 r45.Data, .own (rI .i64) v72 r44.Shape, .own (rI .i64) v73 r44.Data, .lit (rI .i64) v71 ([4, 5]), .own (rI .i64) v69 r43.Shape, .own (rI .i64) v70 r43.Data, .box b7 [.bool r27.Char, v46, v47], .fz (rI .i64) v46 r27.Shape, .own (rI .i64) v47 r27.Data, .box b6 [.bool r23.Char, v40, v41], .fz (rI .i64) v40 r23.Shape, .own (rI .i64) v41 r23.Data, .box b5 [.bool r19.Char, v33, v34], .fz (rI .i64) v33 r19.Shape, .own (rI .i64) v34 r19.Data, .box b4 [.bool r15.Char, v26, v27], .fz (rI .i64) v26 r15.Shape, .own (rI .i64) v27 r15.Data, .box b3 [.bool r11.Char, v19, v20], .fz (rI .i64) v19 r11.Shape, .own (rI .i64) v20 r11.Data, .box b2 [.bool r7.Char, v12, v13], .fz (rI .i64) v12 r7.Shape, .own (rI .i64) v13 r7.Data, .box b1 [.bool r45.Char, v74, v75], .fz (rI .i64) v6 r3.Shape, .own (rI .i64) v7 r3.Data]) Fr) hS (.inl rfl) rfl (fun wm' hw1 hw2 => by
   obtain ⟨F2, kk_1, kk_2⟩ := hS.inv.lendR (La := [.fz (rI .i64) v76 ([1, 0])]) (List.forall_mem_cons.mpr ⟨(.inr ⟨_, _, _, _, rfl, .inr (List.mem_of_getElem? (i := 0) rfl)⟩), (fun _ h => by cases h)⟩) hw1 hw2
   exact (wk53  ([1, 0])  v76 kk_1 hx39).mono fun res H2 ⟨v77, v78, qq_1, qq_2⟩ => ⟨v77, v78, qq_1, kk_2 _ _ (List.forall_mem_cons.mpr ⟨⟨_, _, _, _, rfl, fun _ _ _ _ h => h⟩, (List.forall_mem_cons.mpr ⟨⟨_, _, _, _, rfl, fun _ _ _ _ h => h⟩, (fun _ h => by cases h)⟩)⟩) qq_2⟩) (fun wm' res H hw' hp => ?_)
  obtain ⟨v77, v78, hres, hI⟩ := hp
  replace hres := hres.symm; subst hres
  replace hS : S wm 294 _ H ((134, .agg #[.bool r47.Char, v77, v78]) :: _) ([.own (rI .i64) v77 r47.Shape, .own (rI .i64) v78 r47.Data] ++ [.lit (rI .i64) v76 ([1, 0]), .own (rI .i64) v74 r45.Shape, .own (rI .i64) v75 r45.Data, .own (rI .i64) v72 r44.Shape, .own (rI .i64) v73 r44.Data, .lit (rI .i64) v71 ([4, 5]), .own (rI .i64) v69 r43.Shape, .own (rI .i64) v70 r43.Data, .box b7 [.bool r27.Char, v46, v47], .fz (rI .i64) v46 r27.Shape, .own (rI .i64) v47 r27.Data, .box b6 [.bool r23.Char, v40, v41], .fz (rI .i64) v40 r23.Shape, .own (rI .i64) v41 r23.Data, .box b5 [.bool r19.Char, v33, v34], .fz (rI .i64) v33 r19.Shape, .own (rI .i64) v34 r19.Data, .box b4 [.bool r15.Char, v26, v27], .fz (rI .i64) v26 r15.Shape, .own (rI .i64) v27 r15.Data, .box b3 [.bool r11.Char, v19, v20], .fz (rI .i64) v19 r11.Shape, .own (rI .i64) v20 r11.Data, .box b2 [.bool r7.Char, v12, v13], .fz (rI .i64) v12 r7.Shape, .own (rI .i64) v13 r7.Data, .box b1 [.bool r45.Char, v74, v75], .fz (rI .i64) v6 r3.Shape, .own (rI .i64) v7 r3.Data]) Fr := (hS.put rfl _).withK hI
  clear hI hw'
  obtain ⟨r48, hx40, h0⟩ := bindS h0
  refine o_call hS (.inl rfl) rfl (fun wm' hw1 hw2 => wk55 ho55    (hS.sel hw2) hx40) (fun wm' res H hw' hp => ?_)
  obtain ⟨v79, v80, hres, hI⟩ := hp
  replace hres := hres.symm; subst hres
  replace hS : S wm 294 _ H ((135, .agg #[.bool r48.Char, v79, v80]) :: _) ([.fz (rI .i64) v79 r48.Shape, .fz (rI .i64) v80 r48.Data] ++ _) Fr := hS.after rfl hw' hI
  clear hI hw'
  obtain ⟨⟨r49, r50⟩, hx41, h0⟩ := bindS h0
  refine o_call (Pc := fun _ res H => ∃ v81 v82, res = .tuple #[.agg #[.bool r49.Char, v81, v82], .int .i64 r50] ∧ Kn wm H ([.own (rI .i64) v81 r49.Shape, .own (rI .i64) v82 r49.Data] ++ [.fz (rI .i64) v79 r48.Shape, .fz (rI .i64) v80 r48.Data, .own (rI .i64) v77 r47.Shape, .own (rI .i64) v78 r47.Data, .lit (rI .i64) v76 ([1, 0]), .own (rI .i64) v74 r45.Shape, .own (rI .i64) v75 r45.Data, .own (rI .i64) v72 r44.Shape, .own (rI .i64) v73 r44.Data, .lit (rI .i64) v71 ([4, 5]), .own (rI .i64) v69 r43.Shape, .own (rI .i64) v70 r43.Data, .box b7 [.bool r27.Char, v46, v47], .fz (rI .i64) v46 r27.Shape, .own (rI .i64) v47 r27.Data, .box b6 [.bool r23.Char, v40, v41], .fz (rI .i64) v40 r23.Shape, .own (rI .i64) v41 r23.Data, .box b5 [.bool r19.Char, v33, v34], .fz (rI .i64) v33 r19.Shape, .own (rI .i64) v34 r19.Data, .box b4 [.bool r15.Char, v26, v27], .fz (rI .i64) v26 r15.Shape, .own (rI .i64) v27 r15.Data, .box b3 [.bool r11.Char, v19, v20], .fz (rI .i64) v19 r11.Shape, .own (rI .i64) v20 r11.Data, .box b2 [.bool r7.Char, v12, v13], .fz (rI .i64) v12 r7.Shape, .own (rI .i64) v13 r7.Data, .box b1 [.bool r45.Char, v74, v75], .fz (rI .i64) v6 r3.Shape, .own (rI .i64) v7 r3.Data]) Fr) hS (.inl rfl) rfl (fun wm' hw1 hw2 => by
   obtain ⟨F2, kk_1, kk_2⟩ := hS.inv.lendR (La := [.fz (rI .i64) v77 r47.Shape, .fz (rI .i64) v78 r47.Data, .fz (rI .i64) v79 r48.Shape, .fz (rI .i64) v80 r48.Data]) (List.forall_mem_cons.mpr ⟨(.inr ⟨_, _, _, _, rfl, .inl (List.mem_of_getElem? (i := 2) rfl)⟩), (List.forall_mem_cons.mpr ⟨(.inr ⟨_, _, _, _, rfl, .inl (List.mem_of_getElem? (i := 3) rfl)⟩), (List.forall_mem_cons.mpr ⟨(.inl ⟨rfl, List.mem_of_getElem? (i := 0) rfl⟩), (List.forall_mem_cons.mpr ⟨(.inl ⟨rfl, List.mem_of_getElem? (i := 1) rfl⟩), (fun _ h => by cases h)⟩)⟩)⟩)⟩) hw1 hw2
   exact (wk16  r47 r48 0  v77 v78 v79 v80 kk_1 hx41).mono fun res H2 ⟨v81, v82, qq_1, qq_2⟩ => ⟨v81, v82, qq_1, kk_2 _ _ (List.forall_mem_cons.mpr ⟨⟨_, _, _, _, rfl, fun _ _ _ _ h => h⟩, (List.forall_mem_cons.mpr ⟨⟨_, _, _, _, rfl, fun _ _ _ _ h => h⟩, (fun _ h => by cases h)⟩)⟩) qq_2⟩) (fun wm' res H hw' hp => ?_)
  obtain ⟨v81, v82, hres, hI⟩ := hp
  replace hres := hres.symm; subst hres
  replace hS : S wm 294 _ H ((136, .tuple #[.agg #[.bool r49.Char, v81, v82], .int .i64 r50]) :: _) ([.own (rI .i64) v81 r49.Shape, .own (rI .i64) v82 r49.Data] ++ [.fz (rI .i64) v79 r48.Shape, .fz (rI .i64) v80 r48.Data, .own (rI .i64) v77 r47.Shape, .own (rI .i64) v78 r47.Data, .lit (rI .i64) v76 ([1, 0]), .own (rI .i64) v74 r45.Shape, .own (rI .i64) v75 r45.Data, .own (rI .i64) v72 r44.Shape, .own (rI .i64) v73 r44.Data, .lit (rI .i64) v71 ([4, 5]), .own (rI .i64) v69 r43.Shape, .own (rI .i64) v70 r43.Data, .box b7 [.bool r27.Char, v46, v47], .fz (rI .i64) v46 r27.Shape, .own (rI .i64) v47 r27.Data, .box b6 [.bool r23.Char, v40, v41], .fz (rI .i64) v40 r23.Shape, .own (rI .i64) v41 r23.Data, .box b5 [.bool r19.Char, v33, v34], .fz (rI .i64) v33 r19.Shape, .own (rI .i64) v34 r19.Data, .box b4 [.bool r15.Char, v26, v27], .fz (rI .i64) v26 r15.Shape, .own (rI .i64) v27 r15.Data, .box b3 [.bool r11.Char, v19, v20], .fz (rI .i64) v19 r11.Shape, .own (rI .i64) v20 r11.Data, .box b2 [.bool r7.Char, v12, v13], .fz (rI .i64) v12 r7.Shape, .own (rI .i64) v13 r7.Data, .box b1 [.bool r45.Char, v74, v75], .fz (rI .i64) v6 r3.Shape, .own (rI .i64) v7 r3.Data]) Fr := (hS.put rfl _).withK hI
  clear hI hw'
  refine o_pure hS (.inl rfl) rfl rfl ?_; clear hS; try clear tm
  intro tm hS
  refine o_pure hS (.inl rfl) rfl rfl ?_; clear hS; try clear tm
  intro tm hS
  refine o_pure hS (.inl rfl) rfl rfl ?_; clear hS; try clear tm
  intro tm hS
  refine o_st (k := 29) hS (.inl rfl) rfl rfl rfl Fs25 rfl rfl (all_cons rfl (all_cons (hS.one (k := 0) rfl (.inr (.inl rfl))) (all_cons (hS.one (k := 1) rfl (.inr (.inl rfl))) all_nil))) rfl ?_; clear hS; try clear H
  intro H hS
  refine o_pure hS (.inl rfl) rfl rfl ?_; clear hS; try clear tm
  intro tm hS
  refine o_nil (hR _ _ ?_)
  clear hR R
  refine c_reg fun R hR => ?_
  refine o_lit (r := (rI .i64)) (l := [1, 0, 1]) hS (.inl rfl) rfl Fl23 rfl rfl rfl (.cons rfl (.cons rfl (.cons rfl .nil))) rfl rfl (ri_1 (rd_flat fun _ => rfl) (ri_1 (rd_flat fun _ => rfl) (ri_1 (rd_flat fun _ => rfl) ri_nil))) rfl ?_; clear hS; try clear tm H
  intro v83 tm H hS
  obtain ⟨r51, hx42, h0⟩ := bindS h0
  refine o_call (Pc := fun _ res H => ∃ v84 v85, res = .agg #[.bool r51.Char, v84, v85] ∧ Kn wm H ([.own (rI .i64) v84 r51.Shape, .own (rI .i64) v85 r51.Data] ++ [.lit (rI .i64) v83 ([1, 0, 1]), .own (rI .i64) v81 r49.Shape, .own (rI .i64) v82 r49.Data, .fz (rI .i64) v79 r48.Shape, .fz (rI .i64) v80 r48.Data, .own (rI .i64) v77 r47.Shape, .own (rI .i64) v78 r47.Data, .lit (rI .i64) v76 ([1, 0]), .own (rI .i64) v74 r45.Shape, .own (rI .i64) v75 r45.Data, .own (rI .i64) v72 r44.Shape, .own (rI .i64) v73 r44.Data, .lit (rI .i64) v71 ([4, 5]), .own (rI .i64) v69 r43.Shape, .own (rI .i64) v70 r43.Data, .box b7 [.bool r27.Char, v46, v47], .fz (rI .i64) v46 r27.Shape, .own (rI .i64) v47 r27.Data, .box b6 [.bool r23.Char, v40, v41], .fz (rI .i64) v40 r23.Shape, .own (rI .i64) v41 r23.Data, .box b5 [.bool r19.Char, v33, v34], .fz (rI .i64) v33 r19.Shape, .own (rI .i64) v34 r19.Data, .box b4 [.bool r15.Char, v26, v27], .fz (rI .i64) v26 r15.Shape, .own (rI .i64) v27 r15.Data, .box b3 [.bool r11.Char, v19, v20], .fz (rI .i64) v19 r11.Shape, .own (rI .i64) v20 r11.Data, .box b2 [.bool r49.Char, v81, v82], .fz (rI .i64) v12 r7.Shape, .own (rI .i64) v13 r7.Data, .box b1 [.bool r45.Char, v74, v75], .fz (rI .i64) v6 r3.Shape, .own (rI .i64) v7 r3.Data]) Fr) hS (.inl rfl) rfl (fun wm' hw1 hw2 => by
   obtain ⟨F2, kk_1, kk_2⟩ := hS.inv.lendR (La := [.fz (rI .i64) v83 ([1, 0, 1])]) (List.forall_mem_cons.mpr ⟨(.inr ⟨_, _, _, _, rfl, .inr (List.mem_of_getElem? (i := 0) rfl)⟩), (fun _ h => by cases h)⟩) hw1 hw2
   exact (wk53  ([1, 0, 1])  v83 kk_1 hx42).mono fun res H2 ⟨v84, v85, qq_1, qq_2⟩ => ⟨v84, v85, qq_1, kk_2 _ _ (List.forall_mem_cons.mpr ⟨⟨_, _, _, _, rfl, fun _ _ _ _ h => h⟩, (List.forall_mem_cons.mpr ⟨⟨_, _, _, _, rfl, fun _ _ _ _ h => h⟩, (fun _ h => by cases h)⟩)⟩) qq_2⟩) (fun wm' res H hw' hp => ?_)
  obtain ⟨v84, v85, hres, hI⟩ := hp
  replace hres := hres.symm; subst hres
  replace hS : S wm 294 _ H ((141, .agg #[.bool r51.Char, v84, v85]) :: _) ([.own (rI .i64) v84 r51.Shape, .own (rI .i64) v85 r51.Data] ++ [.lit (rI .i64) v83 ([1, 0, 1]), .own (rI .i64) v81 r49.Shape, .own (rI .i64) v82 r49.Data, .fz (rI .i64) v79 r48.Shape, .fz (rI .i64) v80 r48.Data, .own (rI .i64) v77 r47.Shape, .own (rI .i64) v78 r47.Data, .lit (rI .i64) v76 ([1, 0]), .own (rI .i64) v74 r45.Shape, .own (rI .i64) v75 r45.Data, .own (rI .i64) v72 r44.Shape, .own (rI .i64) v73 r44.Data, .lit (rI .i64) v71 ([4, 5]), .own (rI .i64) v69 r43.Shape, .own (rI .i64) v70 r43.Data, .box b7 [.bool r27.Char, v46, v47], .fz (rI .i64) v46 r27.Shape, .own (rI .i64) v47 r27.Data, .box b6 [.bool r23.Char, v40, v41], .fz (rI .i64) v40 r23.Shape, .own (rI .i64) v41 r23.Data, .box b5 [.bool r19.Char, v33, v34], .fz (rI .i64) v33 r19.Shape, .own (rI .i64) v34 r19.Data, .box b4 [.bool r15.Char, v26, v27], .fz (rI .i64) v26 r15.Shape, .own (rI .i64) v27 r15.Data, .box b3 [.bool r11.Char, v19, v20], .fz (rI .i64) v19 r11.Shape, .own (rI .i64) v20 r11.Data, .box b2 [.bool r49.Char, v81, v82], .fz (rI .i64) v12 r7.Shape, .own (rI .i64) v13 r7.Data, .box b1 [.bool r45.Char, v74, v75], .fz (rI .i64) v6 r3.Shape, .own (rI .i64) v7 r3.Data]) Fr := (hS.put rfl _).withK hI
  clear hI hw'
  obtain ⟨r52, hx43, h0⟩ := bindS h0
  refine o_call hS (.inl rfl) rfl (fun wm' hw1 hw2 => wk54  str_97_98   (hS.sel hw2) hx43) (fun wm' res H hw' hp => ?_)
  obtain ⟨v86, v87, hres, hI⟩ := hp
  replace hres := hres.symm; subst hres
  replace hS : S wm 294 _ H ((142, .agg #[.bool r52.Char, v86, v87]) :: _) ([.own (rI .i64) v86 r52.Shape, .own (rI .i64) v87 r52.Data] ++ _) Fr := hS.after rfl hw' hI
  clear hI hw'
  obtain ⟨⟨r53, r54⟩, hx44, h0⟩ := bindS h0
  refine o_call (Pc := fun _ res H => ∃ v88 v89, res = .tuple #[.agg #[.bool r53.Char, v88, v89], .int .i64 r54] ∧ Kn wm H ([.own (rI .i64) v88 r53.Shape, .own (rI .i64) v89 r53.Data] ++ [.own (rI .i64) v86 r52.Shape, .own (rI .i64) v87 r52.Data, .own (rI .i64) v84 r51.Shape, .own (rI .i64) v85 r51.Data, .lit (rI .i64) v83 ([1, 0, 1]), .own (rI .i64) v81 r49.Shape, .own (rI .i64) v82 r49.Data, .fz (rI .i64) v79 r48.Shape, .fz (rI .i64) v80 r48.Data, .own (rI .i64) v77 r47.Shape, .own (rI .i64) v78 r47.Data, .lit (rI .i64) v76 ([1, 0]), .own (rI .i64) v74 r45.Shape, .own (rI .i64) v75 r45.Data, .own (rI .i64) v72 r44.Shape, .own (rI .i64) v73 r44.Data, .lit (rI .i64) v71 ([4, 5]), .own (rI .i64) v69 r43.Shape, .own (rI .i64) v70 r43.Data, .box b7 [.bool r27.Char, v46, v47], .fz (rI .i64) v46 r27.Shape, .own (rI .i64) v47 r27.Data, .box b6 [.bool r23.Char, v40, v41], .fz (rI .i64) v40 r23.Shape, .own (rI .i64) v41 r23.Data, .box b5 [.bool r19.Char, v33, v34], .fz (rI .i64) v33 r19.Shape, .own (rI .i64) v34 r19.Data, .box b4 [.bool r15.Char, v26, v27], .fz (rI .i64) v26 r15.Shape, .own (rI .i64) v27 r15.Data, .box b3 [.bool r11.Char, v19, v20], .fz (rI .i64) v19 r11.Shape, .own (rI .i64) v20 r11.Data, .box b2 [.bool r49.Char, v81, v82], .fz (rI .i64) v12 r7.Shape, .own (rI .i64) v13 r7.Data, .box b1 [.bool r45.Char, v74, v75], .fz (rI .i64) v6 r3.Shape, .own (rI .i64) v7 r3.Data]) Fr) hS (.inl rfl) rfl (fun wm' hw1 hw2 => by
   obtain ⟨F2, kk_1, kk_2⟩ := hS.inv.lendR (La := [.fz (rI .i64) v84 r51.Shape, .fz (rI .i64) v85 r51.Data, .fz (rI .i64) v86 r52.Shape, .fz (rI .i64) v87 r52.Data]) (List.forall_mem_cons.mpr ⟨(.inr ⟨_, _, _, _, rfl, .inl (List.mem_of_getElem? (i := 2) rfl)⟩), (List.forall_mem_cons.mpr ⟨(.inr ⟨_, _, _, _, rfl, .inl (List.mem_of_getElem? (i := 3) rfl)⟩), (List.forall_mem_cons.mpr ⟨(.inr ⟨_, _, _, _, rfl, .inl (List.mem_of_getElem? (i := 0) rfl)⟩), (List.forall_mem_cons.mpr ⟨(.inr ⟨_, _, _, _, rfl, .inl (List.mem_of_getElem? (i := 1) rfl)⟩), (fun _ h => by cases h)⟩)⟩)⟩)⟩) hw1 hw2
   exact (wk18  r51 r52 (-1)  v84 v85 v86 v87 kk_1 hx44).mono fun res H2 ⟨v88, v89, qq_1, qq_2⟩ => ⟨v88, v89, qq_1, kk_2 _ _ (List.forall_mem_cons.mpr ⟨⟨_, _, _, _, rfl, fun _ _ _ _ h => h⟩, (List.forall_mem_cons.mpr ⟨⟨_, _, _, _, rfl, fun _ _ _ _ h => h⟩, (fun _ h => by cases h)⟩)⟩) qq_2⟩) (fun wm' res H hw' hp => ?_)
  obtain ⟨v88, v89, hres, hI⟩ := hp
  replace hres := hres.symm; subst hres
  replace hS : S wm 294 _ H ((143, .tuple #[.agg #[.bool r53.Char, v88, v89], .int .i64 r54]) :: _) ([.own (rI .i64) v88 r53.Shape, .own (rI .i64) v89 r53.Data] ++ [.own (rI .i64) v86 r52.Shape, .own (rI .i64) v87 r52.Data, .own (rI .i64) v84 r51.Shape, .own (rI .i64) v85 r51.Data, .lit (rI .i64) v83 ([1, 0, 1]), .own (rI .i64) v81 r49.Shape, .own (rI .i64) v82 r49.Data, .fz (rI .i64) v79 r48.Shape, .fz (rI .i64) v80 r48.Data, .own (rI .i64) v77 r47.Shape, .own (rI .i64) v78 r47.Data, .lit (rI .i64) v76 ([1, 0]), .own (rI .i64) v74 r45.Shape, .own (rI .i64) v75 r45.Data, .own (rI .i64) v72 r44.Shape, .own (rI .i64) v73 r44.Data, .lit (rI .i64) v71 ([4, 5]), .own (rI .i64) v69 r43.Shape, .own (rI .i64) v70 r43.Data, .box b7 [.bool r27.Char, v46, v47], .fz (rI .i64) v46 r27.Shape, .own (rI .i64) v47 r27.Data, .box b6 [.bool r23.Char, v40, v41], .fz (rI .i64) v40 r23.Shape, .own (rI .i64) v41 r23.Data, .box b5 [.bool r19.Char, v33, v34], .fz (rI .i64) v33 r19.Shape, .own (rI .i64) v34 r19.Data, .box b4 [.bool r15.Char, v26, v27], .fz (rI .i64) v26 r15.Shape, .own (rI .i64) v27 r15.Data, .box b3 [.bool r11.Char, v19, v20], .fz (rI .i64) v19 r11.Shape, .own (rI .i64) v20 r11.Data, .box b2 [.bool r49.Char, v81, v82], .fz (rI .i64) v12 r7.Shape, .own (rI .i64) v13 r7.Data, .box b1 [.bool r45.Char, v74, v75], .fz (rI .i64) v6 r3.Shape, .own (rI .i64) v7 r3.Data]) Fr := (hS.put rfl _).withK hI
  clear hI hw'
  refine o_pure hS (.inl rfl) rfl rfl ?_; clear hS; try clear tm
  intro tm hS
  refine o_pure hS (.inl rfl) rfl rfl ?_; clear hS; try clear tm
  intro tm hS
  refine o_pure hS (.inl rfl) rfl rfl ?_; clear hS; try clear tm
  intro tm hS
  refine o_st (k := 33) hS (.inl rfl) rfl rfl rfl Fs25 rfl rfl (all_cons rfl (all_cons (hS.one (k := 0) rfl (.inr (.inl rfl))) (all_cons (hS.one (k := 1) rfl (.inr (.inl rfl))) all_nil))) rfl ?_; clear hS; try clear H
  intro H hS
  refine o_pure hS (.inl rfl) rfl rfl ?_; clear hS; try clear tm
  intro tm hS
  refine o_nil (hR _ _ ?_)
  clear hR R
  refine c_reg fun R hR => ?_
  refine o_lit (r := (rI .i64)) (l := [1, 1]) hS (.inl rfl) rfl Fl23 rfl rfl rfl (.cons rfl (.cons rfl .nil)) rfl rfl (ri_1 (rd_flat fun _ => rfl) (ri_1 (rd_flat fun _ => rfl) ri_nil)) rfl ?_; clear hS; try clear tm H
  intro v90 tm H hS
  obtain ⟨r55, hx45, h0⟩ := bindS h0
  refine o_call (Pc := fun _ res H => ∃ v91 v92, res = .agg #[.bool r55.Char, v91, v92] ∧ Kn wm H ([.own (rI .i64) v91 r55.Shape, .own (rI .i64) v92 r55.Data] ++ [.lit (rI .i64) v90 ([1, 1]), .own (rI .i64) v88 r53.Shape, .own (rI .i64) v89 r53.Data, .own (rI .i64) v86 r52.Shape, .own (rI .i64) v87 r52.Data, .own (rI .i64) v84 r51.Shape, .own (rI .i64) v85 r51.Data, .lit (rI .i64) v83 ([1, 0, 1]), .own (rI .i64) v81 r49.Shape, .own (rI .i64) v82 r49.Data, .fz (rI .i64) v79 r48.Shape, .fz (rI .i64) v80 r48.Data, .own (rI .i64) v77 r47.Shape, .own (rI .i64) v78 r47.Data, .lit (rI .i64) v76 ([1, 0]), .own (rI .i64) v74 r45.Shape, .own (rI .i64) v75 r45.Data, .own (rI .i64) v72 r44.Shape, .own (rI .i64) v73 r44.Data, .lit (rI .i64) v71 ([4, 5]), .own (rI .i64) v69 r43.Shape, .own (rI .i64) v70 r43.Data, .box b7 [.bool r27.Char, v46, v47], .fz (rI .i64) v46 r27.Shape, .own (rI .i64) v47 r27.Data, .box b6 [.bool r23.Char, v40, v41], .fz (rI .i64) v40 r23.Shape, .own (rI .i64) v41 r23.Data, .box b5 [.bool r19.Char, v33, v34], .fz (rI .i64) v33 r19.Shape, .own (rI .i64) v34 r19.Data, .box b4 [.bool r15.Char, v26, v27], .fz (rI .i64) v26 r15.Shape, .own (rI .i64) v27 r15.Data, .box b3 [.bool r53.Char, v88, v89], .fz (rI .i64) v19 r11.Shape, .own (rI .i64) v20 r11.Data, .box b2 [.bool r49.Char, v81, v82], .fz (rI .i64) v12 r7.Shape, .own (rI .i64) v13 r7.Data, .box b1 [.bool r45.Char, v74, v75], .fz (rI .i64) v6 r3.Shape, .own (rI .i64) v7 r3.Data]) Fr) hS (.inl rfl) rfl (fun wm' hw1 hw2 => by
   obtain ⟨F2, kk_1, kk_2⟩ := hS.inv.lendR (La := [.fz (rI .i64) v90 ([1, 1])]) (List.forall_mem_cons.mpr ⟨(.inr ⟨_, _, _, _, rfl, .inr (List.mem_of_getElem? (i := 0) rfl)⟩), (fun _ h => by cases h)⟩) hw1 hw2
   exact (wk53  ([1, 1])  v90 kk_1 hx45).mono fun res H2 ⟨v91, v92, qq_1, qq_2⟩ => ⟨v91, v92, qq_1, kk_2 _ _ (List.forall_mem_cons.mpr ⟨⟨_, _, _, _, rfl, fun _ _ _ _ h => h⟩, (List.forall_mem_cons.mpr ⟨⟨_, _, _, _, rfl, fun _ _ _ _ h => h⟩, (fun _ h => by cases h)⟩)⟩) qq_2⟩) (fun wm' res H hw' hp => ?_)
  obtain ⟨v91, v92, hres, hI⟩ := hp
  replace hres := hres.symm; subst hres
  replace hS : S wm 294 _ H ((148, .agg #[.bool r55.Char, v91, v92]) :: _) ([.own (rI .i64) v91 r55.Shape, .own (rI .i64) v92 r55.Data] ++ [.lit (rI .i64) v90 ([1, 1]), .own (rI .i64) v88 r53.Shape, .own (rI .i64) v89 r53.Data, .own (rI .i64) v86 r52.Shape, .own (rI .i64) v87 r52.Data, .own (rI .i64) v84 r51.Shape, .own (rI .i64) v85 r51.Data, .lit (rI .i64) v83 ([1, 0, 1]), .own (rI .i64) v81 r49.Shape, .own (rI .i64) v82 r49.Data, .fz (rI .i64) v79 r48.Shape, .fz (rI .i64) v80 r48.Data, .own (rI .i64) v77 r47.Shape, .own (rI .i64) v78 r47.Data, .lit (rI .i64) v76 ([1, 0]), .own (rI .i64) v74 r45.Shape, .own (rI .i64) v75 r45.Data, .own (rI .i64) v72 r44.Shape, .own (rI .i64) v73 r44.Data, .lit (rI .i64) v71 ([4, 5]), .own (rI .i64) v69 r43.Shape, .own (rI .i64) v70 r43.Data, .box b7 [.bool r27.Char, v46, v47], .fz (rI .i64) v46 r27.Shape, .own (rI .i64) v47 r27.Data, .box b6 [.bool r23.Char, v40, v41], .fz (rI .i64) v40 r23.Shape, .own (rI .i64) v41 r23.Data, .box b5 [.bool r19.Char, v33, v34], .fz (rI .i64) v33 r19.Shape, .own (rI .i64) v34 r19.Data, .box b4 [.bool r15.Char, v26, v27], .fz (rI .i64) v26 r15.Shape, .own (rI .i64) v27 r15.Data, .box b3 [.bool r53.Char, v88, v89], .fz (rI .i64) v19 r11.Shape, .own (rI .i64) v20 r11.Data, .box b2 [.bool r49.Char, v81, v82], .fz (rI .i64) v12 r7.Shape, .own (rI .i64) v13 r7.Data, .box b1 [.bool r45.Char, v74, v75], .fz (rI .i64) v6 r3.Shape, .own (rI .i64) v7 r3.Data]) Fr := (hS.put rfl _).withK hI
  clear hI hw'
  obtain ⟨r56, hx46, h0⟩ := bindS h0
  refine o_call hS (.inl rfl) rfl (fun wm' hw1 hw2 => wk52  7   (hS.sel hw2) hx46) (fun wm' res H hw' hp => ?_)
  obtain ⟨v93, v94, hres, hI⟩ := hp
  replace hres := hres.symm; subst hres
  replace hS : S wm 294 _ H ((149, .agg #[.bool r56.Char, v93, v94]) :: _) ([.own (rI .i64) v93 r56.Shape, .own (rI .i64) v94 r56.Data] ++ _) Fr := hS.after rfl hw' hI
  clear hI hw'
  obtain ⟨⟨r57, r58⟩, hx47, h0⟩ := bindS h0
  refine o_call (Pc := fun _ res H => ∃ v95 v96, res = .tuple #[.agg #[.bool r57.Char, v95, v96], .int .i64 r58] ∧ Kn wm H ([.own (rI .i64) v95 r57.Shape, .own (rI .i64) v96 r57.Data] ++ [.own (rI .i64) v93 r56.Shape, .own (rI .i64) v94 r56.Data, .own (rI .i64) v91 r55.Shape, .own (rI .i64) v92 r55.Data, .lit (rI .i64) v90 ([1, 1]), .own (rI .i64) v88 r53.Shape, .own (rI .i64) v89 r53.Data, .own (rI .i64) v86 r52.Shape, .own (rI .i64) v87 r52.Data, .own (rI .i64) v84 r51.Shape, .own (rI .i64) v85 r51.Data, .lit (rI .i64) v83 ([1, 0, 1]), .own (rI .i64) v81 r49.Shape, .own (rI .i64) v82 r49.Data, .fz (rI .i64) v79 r48.Shape, .fz (rI .i64) v80 r48.Data, .own (rI .i64) v77 r47.Shape, .own (rI .i64) v78 r47.Data, .lit (rI .i64) v76 ([1, 0]), .own (rI .i64) v74 r45.Shape, .own (rI .i64) v75 r45.Data, .own (rI .i64) v72 r44.Shape, .own (rI .i64) v73 r44.Data, .lit (rI .i64) v71 ([4, 5]), .own (rI .i64) v69 r43.Shape, .own (rI .i64) v70 r43.Data, .box b7 [.bool r27.Char, v46, v47], .fz (rI .i64) v46 r27.Shape, .own (rI .i64) v47 r27.Data, .box b6 [.bool r23.Char, v40, v41], .fz (rI .i64) v40 r23.Shape, .own (rI .i64) v41 r23.Data, .box b5 [.bool r19.Char, v33, v34], .fz (rI .i64) v33 r19.Shape, .own (rI .i64) v34 r19.Data, .box b4 [.bool r15.Char, v26, v27], .fz (rI .i64) v26 r15.Shape, .own (rI .i64) v27 r15.Data, .box b3 [.bool r53.Char, v88, v89], .fz (rI .i64) v19 r11.Shape, .own (rI .i64) v20 r11.Data, .box b2 [.bool r49.Char, v81, v82], .fz (rI .i64) v12 r7.Shape, .own (rI .i64) v13 r7.Data, .box b1 [.bool r45.Char, v74, v75], .fz (rI .i64) v6 r3.Shape, .own (rI .i64) v7 r3.Data]) Fr) hS (.inl rfl) rfl (fun wm' hw1 hw2 => by
   obtain ⟨F2, kk_1, kk_2⟩ := hS.inv.lendR (La := [.fz (rI .i64) v91 r55.Shape, .fz (rI .i64) v92 r55.Data, .fz (rI .i64) v93 r56.Shape, .fz (rI .i64) v94 r56.Data]) (List.forall_mem_cons.mpr ⟨(.inr ⟨_, _, _, _, rfl, .inl (List.mem_of_getElem? (i := 2) rfl)⟩), (List.forall_mem_cons.mpr ⟨(.inr ⟨_, _, _, _, rfl, .inl (List.mem_of_getElem? (i := 3) rfl)⟩), (List.forall_mem_cons.mpr ⟨(.inr ⟨_, _, _, _, rfl, .inl (List.mem_of_getElem? (i := 0) rfl)⟩), (List.forall_mem_cons.mpr ⟨(.inr ⟨_, _, _, _, rfl, .inl (List.mem_of_getElem? (i := 1) rfl)⟩), (fun _ h => by cases h)⟩)⟩)⟩)⟩) hw1 hw2
   exact (wk18  r55 r56 (-1)  v91 v92 v93 v94 kk_1 hx47).mono fun res H2 ⟨v95, v96, qq_1, qq_2⟩ => ⟨v95, v96, qq_1, kk_2 _ _ (List.forall_mem_cons.mpr ⟨⟨_, _, _, _, rfl, fun _ _ _ _ h => h⟩, (List.forall_mem_cons.mpr ⟨⟨_, _, _, _, rfl, fun _ _ _ _ h => h⟩, (fun _ h => by cases h)⟩)⟩) qq_2⟩) (fun wm' res H hw' hp => ?_)
  obtain ⟨v95, v96, hres, hI⟩ := hp
  replace hres := hres.symm; subst hres
  replace hS : S wm 294 _ H ((150, .tuple #[.agg #[.bool r57.Char, v95, v96], .int .i64 r58]) :: _) ([.own (rI .i64) v95 r57.Shape, .own (rI .i64) v96 r57.Data] ++ [.own (rI .i64) v93 r56.Shape, .own (rI .i64) v94 r56.Data, .own (rI .i64) v91 r55.Shape, .own (rI .i64) v92 r55.Data, .lit (rI .i64) v90 ([1, 1]), .own (rI .i64) v88 r53.Shape, .own (rI .i64) v89 r53.Data, .own (rI .i64) v86 r52.Shape, .own (rI .i64) v87 r52.Data, .own (rI .i64) v84 r51.Shape, .own (rI .i64) v85 r51.Data, .lit (rI .i64) v83 ([1, 0, 1]), .own (rI .i64) v81 r49.Shape, .own (rI .i64) v82 r49.Data, .fz (rI .i64) v79 r48.Shape, .fz (rI .i64) v80 r48.Data, .own (rI .i64) v77 r47.Shape, .own (rI .i64) v78 r47.Data, .lit (rI .i64) v76 ([1, 0]), .own (rI .i64) v74 r45.Shape, .own (rI .i64) v75 r45.Data, .own (rI .i64) v72 r44.Shape, .own (rI .i64) v73 r44.Data, .lit (rI .i64) v71 ([4, 5]), .own (rI .i64) v69 r43.Shape, .own (rI .i64) v70 r43.Data, .box b7 [.bool r27.Char, v46, v47], .fz (rI .i64) v46 r27.Shape, .own (rI .i64) v47 r27.Data, .box b6 [.bool r23.Char, v40, v41], .fz (rI .i64) v40 r23.Shape, .own (rI .i64) v41 r23.Data, .box b5 [.bool r19.Char, v33, v34], .fz (rI .i64) v33 r19.Shape, .own (rI .i64) v34 r19.Data, .box b4 [.bool r15.Char, v26, v27], .fz (rI .i64) v26 r15.Shape, .own (rI .i64) v27 r15.Data, .box b3 [.bool r53.Char, v88, v89], .fz (rI .i64) v19 r11.Shape, .own (rI .i64) v20 r11.Data, .box b2 [.bool r49.Char, v81, v82], .fz (rI .i64) v12 r7.Shape, .own (rI .i64) v13 r7.Data, .box b1 [.bool r45.Char, v74, v75], .fz (rI .i64) v6 r3.Shape, .own (rI .i64) v7 r3.Data]) Fr := (hS.put rfl _).withK hI
  clear hI hw'
  refine o_pure hS (.inl rfl) rfl rfl ?_; clear hS; try clear tm
  intro tm hS
  refine o_pure hS (.inl rfl) rfl rfl ?_; clear hS; try clear tm
  intro tm hS
  refine o_pure hS (.inl rfl) rfl rfl ?_; clear hS; try clear tm
  intro tm hS
  refine o_st (k := 37) hS (.inl rfl) rfl rfl rfl Fs25 rfl rfl (all_cons rfl (all_cons (hS.one (k := 0) rfl (.inr (.inl rfl))) (all_cons (hS.one (k := 1) rfl (.inr (.inl rfl))) all_nil))) rfl ?_; clear hS; try clear H
  intro H hS
  refine o_pure hS (.inl rfl) rfl rfl ?_; clear hS; try clear tm
  intro tm hS
  refine o_nil (hR _ _ ?_)
  clear hR R
  refine c_reg fun R hR => ?_
  refine o_lit (r := (rI .i64)) (l := [1, 0, 2]) hS (.inl rfl) rfl Fl23 rfl rfl rfl (.cons rfl (.cons rfl (.cons rfl .nil))) rfl rfl (ri_1 (rd_flat fun _ => rfl) (ri_1 (rd_flat fun _ => rfl) (ri_1 (rd_flat fun _ => rfl) ri_nil))) rfl ?_; clear hS; try clear tm H
  intro v97 tm H hS
  obtain ⟨r59, hx48, h0⟩ := bindS h0
  refine o_call (Pc := fun _ res H => ∃ v98 v99, res = .agg #[.bool r59.Char, v98, v99] ∧ Kn wm H ([.own (rI .i64) v98 r59.Shape, .own (rI .i64) v99 r59.Data] ++ [.lit (rI .i64) v97 ([1, 0, 2]), .own (rI .i64) v95 r57.Shape, .own (rI .i64) v96 r57.Data, .own (rI .i64) v93 r56.Shape, .own (rI .i64) v94 r56.Data, .own (rI .i64) v91 r55.Shape, .own (rI .i64) v92 r55.Data, .lit (rI .i64) v90 ([1, 1]), .own (rI .i64) v88 r53.Shape, .own (rI .i64) v89 r53.Data, .own (rI .i64) v86 r52.Shape, .own (rI .i64) v87 r52.Data, .own (rI .i64) v84 r51.Shape, .own (rI .i64) v85 r51.Data, .lit (rI .i64) v83 ([1, 0, 1]), .own (rI .i64) v81 r49.Shape, .own (rI .i64) v82 r49.Data, .fz (rI .i64) v79 r48.Shape, .fz (rI .i64) v80 r48.Data, .own (rI .i64) v77 r47.Shape, .own (rI .i64) v78 r47.Data, .lit (rI .i64) v76 ([1, 0]), .own (rI .i64) v74 r45.Shape, .own (rI .i64) v75 r45.Data, .own (rI .i64) v72 r44.Shape, .own (rI .i64) v73 r44.Data, .lit (rI .i64) v71 ([4, 5]), .own (rI .i64) v69 r43.Shape, .own (rI .i64) v70 r43.Data, .box b7 [.bool r27.Char, v46, v47], .fz (rI .i64) v46 r27.Shape, .own (rI .i64) v47 r27.Data, .box b6 [.bool r23.Char, v40, v41], .fz (rI .i64) v40 r23.Shape, .own (rI .i64) v41 r23.Data, .box b5 [.bool r19.Char, v33, v34], .fz (rI .i64) v33 r19.Shape, .own (rI .i64) v34 r19.Data, .box b4 [.bool r57.Char, v95, v96], .fz (rI .i64) v26 r15.Shape, .own (rI .i64) v27 r15.Data, .box b3 [.bool r53.Char, v88, v89], .fz (rI .i64) v19 r11.Shape, .own (rI .i64) v20 r11.Data, .box b2 [.bool r49.Char, v81, v82], .fz (rI .i64) v12 r7.Shape, .own (rI .i64) v13 r7.Data, .box b1 [.bool r45.Char, v74, v75], .fz (rI .i64) v6 r3.Shape, .own (rI .i64) v7 r3.Data]) Fr) hS (.inl rfl) rfl (fun wm' hw1 hw2 => by
   obtain ⟨F2, kk_1, kk_2⟩ := hS.inv.lendR (La := [.fz (rI .i64) v97 ([1, 0, 2])]) (List.forall_mem_cons.mpr ⟨(.inr ⟨_, _, _, _, rfl, .inr (List.mem_of_getElem? (i := 0) rfl)⟩), (fun _ h => by cases h)⟩) hw1 hw2
   exact (wk53  ([1, 0, 2])  v97 kk_1 hx48).mono fun res H2 ⟨v98, v99, qq_1, qq_2⟩ => ⟨v98, v99, qq_1, kk_2 _ _ (List.forall_mem_cons.mpr ⟨⟨_, _, _, _, rfl, fun _ _ _ _ h => h⟩, (List.forall_mem_cons.mpr ⟨⟨_, _, _, _, rfl, fun _ _ _ _ h => h⟩, (fun _ h => by cases h)⟩)⟩) qq_2⟩) (fun wm' res H hw' hp => ?_)
  obtain ⟨v98, v99, hres, hI⟩ := hp
  replace hres := hres.symm; subst hres
  replace hS : S wm 294 _ H ((155, .agg #[.bool r59.Char, v98, v99]) :: _) ([.own (rI .i64) v98 r59.Shape, .own (rI .i64) v99 r59.Data] ++ [.lit (rI .i64) v97 ([1, 0, 2]), .own (rI .i64) v95 r57.Shape, .own (rI .i64) v96 r57.Data, .own (rI .i64) v93 r56.Shape, .own (rI .i64) v94 r56.Data, .own (rI .i64) v91 r55.Shape, .own (rI .i64) v92 r55.Data, .lit (rI .i64) v90 ([1, 1]), .own (rI .i64) v88 r53.Shape, .own (rI .i64) v89 r53.Data, .own (rI .i64) v86 r52.Shape, .own (rI .i64) v87 r52.Data, .own (rI .i64) v84 r51.Shape, .own (rI .i64) v85 r51.Data, .lit (rI .i64) v83 ([1, 0, 1]), .own (rI .i64) v81 r49.Shape, .own (rI .i64) v82 r49.Data, .fz (rI .i64) v79 r48.Shape, .fz (rI .i64) v80 r48.Data, .own (rI .i64) v77 r47.Shape, .own (rI .i64) v78 r47.Data, .lit (rI .i64) v76 ([1, 0]), .own (rI .i64) v74 r45.Shape, .own (rI .i64) v75 r45.Data, .own (rI .i64) v72 r44.Shape, .own (rI .i64) v73 r44.Data, .lit (rI .i64) v71 ([4, 5]), .own (rI .i64) v69 r43.Shape, .own (rI .i64) v70 r43.Data, .box b7 [.bool r27.Char, v46, v47], .fz (rI .i64) v46 r27.Shape, .own (rI .i64) v47 r27.Data, .box b6 [.bool r23.Char, v40, v41], .fz (rI .i64) v40 r23.Shape, .own (rI .i64) v41 r23.Data, .box b5 [.bool r19.Char, v33, v34], .fz (rI .i64) v33 r19.Shape, .own (rI .i64) v34 r19.Data, .box b4 [.bool r57.Char, v95, v96], .fz (rI .i64) v26 r15.Shape, .own (rI .i64) v27 r15.Data, .box b3 [.bool r53.Char, v88, v89], .fz (rI .i64) v19 r11.Shape, .own (rI .i64) v20 r11.Data, .box b2 [.bool r49.Char, v81, v82], .fz (rI .i64) v12 r7.Shape, .own (rI .i64) v13 r7.Data, .box b1 [.bool r45.Char, v74, v75], .fz (rI .i64) v6 r3.Shape, .own (rI .i64) v7 r3.Data]) Fr := (hS.put rfl _).withK hI
  clear hI hw'
  obtain ⟨r60, hx49, h0⟩ := bindS h0
  refine o_call hS (.inl rfl) rfl (fun wm' hw1 hw2 => wk52  7   (hS.sel hw2) hx49) (fun wm' res H hw' hp => ?_)
  obtain ⟨v100, v101, hres, hI⟩ := hp
  replace hres := hres.symm; subst hres
  replace hS : S wm 294 _ H ((156, .agg #[.bool r60.Char, v100, v101]) :: _) ([.own (rI .i64) v100 r60.Shape, .own (rI .i64) v101 r60.Data] ++ _) Fr := hS.after rfl hw' hI
  clear hI hw'
  obtain ⟨⟨r61, r62⟩, hx50, h0⟩ := bindS h0
  refine o_call (Pc := fun _ res H => ∃ v102 v103, res = .tuple #[.agg #[.bool r61.Char, v102, v103], .int .i64 r62] ∧ Kn wm H ([.own (rI .i64) v102 r61.Shape, .own (rI .i64) v103 r61.Data] ++ [.own (rI .i64) v100 r60.Shape, .own (rI .i64) v101 r60.Data, .own (rI .i64) v98 r59.Shape, .own (rI .i64) v99 r59.Data, .lit (rI .i64) v97 ([1, 0, 2]), .own (rI .i64) v95 r57.Shape, .own (rI .i64) v96 r57.Data, .own (rI .i64) v93 r56.Shape, .own (rI .i64) v94 r56.Data, .own (rI .i64) v91 r55.Shape, .own (rI .i64) v92 r55.Data, .lit (rI .i64) v90 ([1, 1]), .own (rI .i64) v88 r53.Shape, .own (rI .i64) v89 r53.Data, .own (rI .i64) v86 r52.Shape, .own (rI .i64) v87 r52.Data, .own (rI .i64) v84 r51.Shape, .own (rI .i64) v85 r51.Data, .lit (rI .i64) v83 ([1, 0, 1]), .own (rI .i64) v81 r49.Shape, .own (rI .i64) v82 r49.Data, .fz (rI .i64) v79 r48.Shape, .fz (rI .i64) v80 r48.Data, .own (rI .i64) v77 r47.Shape, .own (rI .i64) v78 r47.Data, .lit (rI .i64) v76 ([1, 0]), .own (rI .i64) v74 r45.Shape, .own (rI .i64) v75 r45.Data, .own (rI .i64) v72 r44.Shape, .own (rI .i64) v73 r44.Data, .lit (rI .i64) v71 ([4, 5]), .own (rI .i64) v69 r43.Shape, .own (rI .i64) v70 r43.Data, .box b7 [.bool r27.Char, v46, v47], .fz (rI .i64) v46 r27.Shape, .own (rI .i64) v47 r27.Data, .box b6 [.bool r23.Char, v40, v41], .fz (rI .i64) v40 r23.Shape, .own (rI .i64) v41 r23.Data, .box b5 [.bool r19.Char, v33, v34], .fz (rI .i64) v33 r19.Shape, .own (rI .i64) v34 r19.Data, .box b4 [.bool r57.Char, v95, v96], .fz (rI .i64) v26 r15.Shape, .own (rI .i64) v27 r15.Data, .box b3 [.bool r53.Char, v88, v89], .fz (rI .i64) v19 r11.Shape, .own (rI .i64) v20 r11.Data, .box b2 [.bool r49.Char, v81, v82], .fz (rI .i64) v12 r7.Shape, .own (rI .i64) v13 r7.Data, .box b1 [.bool r45.Char, v74, v75], .fz (rI .i64) v6 r3.Shape, .own (rI .i64) v7 r3.Data]) Fr) hS (.inl rfl) rfl (fun wm' hw1 hw2 => by
   obtain ⟨F2, kk_1, kk_2⟩ := hS.inv.lendR (La := [.fz (rI .i64) v98 r59.Shape, .fz (rI .i64) v99 r59.Data, .fz (rI .i64) v100 r60.Shape, .fz (rI .i64) v101 r60.Data]) (List.forall_mem_cons.mpr ⟨(.inr ⟨_, _, _, _, rfl, .inl (List.mem_of_getElem? (i := 2) rfl)⟩), (List.forall_mem_cons.mpr ⟨(.inr ⟨_, _, _, _, rfl, .inl (List.mem_of_getElem? (i := 3) rfl)⟩), (List.forall_mem_cons.mpr ⟨(.inr ⟨_, _, _, _, rfl, .inl (List.mem_of_getElem? (i := 0) rfl)⟩), (List.forall_mem_cons.mpr ⟨(.inr ⟨_, _, _, _, rfl, .inl (List.mem_of_getElem? (i := 1) rfl)⟩), (fun _ h => by cases h)⟩)⟩)⟩)⟩) hw1 hw2
   exact (wk16  r59 r60 0  v98 v99 v100 v101 kk_1 hx50).mono fun res H2 ⟨v102, v103, qq_1, qq_2⟩ => ⟨v102, v103, qq_1, kk_2 _ _ (List.forall_mem_cons.mpr ⟨⟨_, _, _, _, rfl, fun _ _ _ _ h => h⟩, (List.forall_mem_cons.mpr ⟨⟨_, _, _, _, rfl, fun _ _ _ _ h => h⟩, (fun _ h => by cases h)⟩)⟩) qq_2⟩) (fun wm' res H hw' hp => ?_)
  obtain ⟨v102, v103, hres, hI⟩ := hp
  replace hres := hres.symm; subst hres
  replace hS : S wm 294 _ H ((157, .tuple #[.agg #[.bool r61.Char, v102, v103], .int .i64 r62]) :: _) ([.own (rI .i64) v102 r61.Shape, .own (rI .i64) v103 r61.Data] ++ [.own (rI .i64) v100 r60.Shape, .own (rI .i64) v101 r60.Data, .own (rI .i64) v98 r59.Shape, .own (rI .i64) v99 r59.Data, .lit (rI .i64) v97 ([1, 0, 2]), .own (rI .i64) v95 r57.Shape, .own (rI .i64) v96 r57.Data, .own (rI .i64) v93 r56.Shape, .own (rI .i64) v94 r56.Data, .own (rI .i64) v91 r55.Shape, .own (rI .i64) v92 r55.Data, .lit (rI .i64) v90 ([1, 1]), .own (rI .i64) v88 r53.Shape, .own (rI .i64) v89 r53.Data, .own (rI .i64) v86 r52.Shape, .own (rI .i64) v87 r52.Data, .own (rI .i64) v84 r51.Shape, .own (rI .i64) v85 r51.Data, .lit (rI .i64) v83 ([1, 0, 1]), .own (rI .i64) v81 r49.Shape, .own (rI .i64) v82 r49.Data, .fz (rI .i64) v79 r48.Shape, .fz (rI .i64) v80 r48.Data, .own (rI .i64) v77 r47.Shape, .own (rI .i64) v78 r47.Data, .lit (rI .i64) v76 ([1, 0]), .own (rI .i64) v74 r45.Shape, .own (rI .i64) v75 r45.Data, .own (rI .i64) v72 r44.Shape, .own (rI .i64) v73 r44.Data, .lit (rI .i64) v71 ([4, 5]), .own (rI .i64) v69 r43.Shape, .own (rI .i64) v70 r43.Data, .box b7 [.bool r27.Char, v46, v47], .fz (rI .i64) v46 r27.Shape, .own (rI .i64) v47 r27.Data, .box b6 [.bool r23.Char, v40, v41], .fz (rI .i64) v40 r23.Shape, .own (rI .i64) v41 r23.Data, .box b5 [.bool r19.Char, v33, v34], .fz (rI .i64) v33 r19.Shape, .own (rI .i64) v34 r19.Data, .box b4 [.bool r57.Char, v95, v96], .fz (rI .i64) v26 r15.Shape, .own (rI .i64) v27 r15.Data, .box b3 [.bool r53.Char, v88, v89], .fz (rI .i64) v19 r11.Shape, .own (rI .i64) v20 r11.Data, .box b2 [.bool r49.Char, v81, v82], .fz (rI .i64) v12 r7.Shape, .own (rI .i64) v13 r7.Data, .box b1 [.bool r45.Char, v74, v75], .fz (rI .i64) v6 r3.Shape, .own (rI .i64) v7 r3.Data]) Fr := (hS.put rfl _).withK hI
  clear hI hw'
  refine o_pure hS (.inl rfl) rfl rfl ?_; clear hS; try clear tm
  intro tm hS
  refine o_pure hS (.inl rfl) rfl rfl ?_; clear hS; try clear tm
  intro tm hS
  refine o_pure hS (.inl rfl) rfl rfl ?_; clear hS; try clear tm
  intro tm hS
  refine o_st (k := 41) hS (.inl rfl) rfl rfl rfl Fs25 rfl rfl (all_cons rfl (all_cons (hS.one (k := 0) rfl (.inr (.inl rfl))) (all_cons (hS.one (k := 1) rfl (.inr (.inl rfl))) all_nil))) rfl ?_; clear hS; try clear H
  intro H hS
  refine o_pure hS (.inl rfl) rfl rfl ?_; clear hS; try clear tm
  intro tm hS
  refine o_nil (hR _ _ ?_)
  clear hR R
  refine c_seqS ?_
  refine c_reg fun R hR => ?_
  refine o_pure hS (.inl rfl) rfl rfl ?_; clear hS; try clear tm
  intro tm hS
  refine o_ldA (k := 53) hS (.inl rfl) rfl rfl rfl (.inl rfl) Fu25 rfl Fs25 rfl ?_; clear hS; try clear tm
  intro tm hS
  refine o_pure hS (.inl rfl) rfl rfl ?_; clear hS; try clear tm
  intro tm hS
  refine o_lit (r := (rI .i64)) (l := [4, 4, 5, 5]) hS (.inl rfl) rfl Fl23 rfl rfl rfl (.cons rfl (.cons rfl (.cons rfl (.cons rfl .nil)))) rfl rfl (ri_1 (rd_flat fun _ => rfl) (ri_1 (rd_flat fun _ => rfl) (ri_1 (rd_flat fun _ => rfl) (ri_1 (rd_flat fun _ => rfl) ri_nil)))) rfl ?_; clear hS; try clear tm H
  intro v104 tm H hS
  obtain ⟨r63, hx51, h0⟩ := bindS h0
  refine o_call (Pc := fun _ res H => ∃ v105 v106, res = .agg #[.bool r63.Char, v105, v106] ∧ Kn wm H ([.own (rI .i64) v105 r63.Shape, .own (rI .i64) v106 r63.Data] ++ [.lit (rI .i64) v104 ([4, 4, 5, 5]), .own (rI .i64) v102 r61.Shape, .own (rI .i64) v103 r61.Data, .own (rI .i64) v100 r60.Shape, .own (rI .i64) v101 r60.Data, .own (rI .i64) v98 r59.Shape, .own (rI .i64) v99 r59.Data, .lit (rI .i64) v97 ([1, 0, 2]), .own (rI .i64) v95 r57.Shape, .own (rI .i64) v96 r57.Data, .own (rI .i64) v93 r56.Shape, .own (rI .i64) v94 r56.Data, .own (rI .i64) v91 r55.Shape, .own (rI .i64) v92 r55.Data, .lit (rI .i64) v90 ([1, 1]), .own (rI .i64) v88 r53.Shape, .own (rI .i64) v89 r53.Data, .own (rI .i64) v86 r52.Shape, .own (rI .i64) v87 r52.Data, .own (rI .i64) v84 r51.Shape, .own (rI .i64) v85 r51.Data, .lit (rI .i64) v83 ([1, 0, 1]), .own (rI .i64) v81 r49.Shape, .own (rI .i64) v82 r49.Data, .fz (rI .i64) v79 r48.Shape, .fz (rI .i64) v80 r48.Data, .own (rI .i64) v77 r47.Shape, .own (rI .i64) v78 r47.Data, .lit (rI .i64) v76 ([1, 0]), .own (rI .i64) v74 r45.Shape, .own (rI .i64) v75 r45.Data, .own (rI .i64) v72 r44.Shape, .own (rI .i64) v73 r44.Data, .lit (rI .i64) v71 ([4, 5]), .own (rI .i64) v69 r43.Shape, .own (rI .i64) v70 r43.Data, .box b7 [.bool r27.Char, v46, v47], .fz (rI .i64) v46 r27.Shape, .own (rI .i64) v47 r27.Data, .box b6 [.bool r23.Char, v40, v41], .fz (rI .i64) v40 r23.Shape, .own (rI .i64) v41 r23.Data, .box b5 [.bool r61.Char, v102, v103], .fz (rI .i64) v33 r19.Shape, .own (rI .i64) v34 r19.Data, .box b4 [.bool r57.Char, v95, v96], .fz (rI .i64) v26 r15.Shape, .own (rI .i64) v27 r15.Data, .box b3 [.bool r53.Char, v88, v89], .fz (rI .i64) v19 r11.Shape, .own (rI .i64) v20 r11.Data, .box b2 [.bool r49.Char, v81, v82], .fz (rI .i64) v12 r7.Shape, .own (rI .i64) v13 r7.Data, .box b1 [.bool r45.Char, v74, v75], .fz (rI .i64) v6 r3.Shape, .own (rI .i64) v7 r3.Data]) Fr) hS (.inl rfl) rfl (fun wm' hw1 hw2 => by
   obtain ⟨F2, kk_1, kk_2⟩ := hS.inv.lendR (La := [.fz (rI .i64) v104 ([4, 4, 5, 5])]) (List.forall_mem_cons.mpr ⟨(.inr ⟨_, _, _, _, rfl, .inr (List.mem_of_getElem? (i := 0) rfl)⟩), (fun _ h => by cases h)⟩) hw1 hw2
   exact (wk53  ([4, 4, 5, 5])  v104 kk_1 hx51).mono fun res H2 ⟨v105, v106, qq_1, qq_2⟩ => ⟨v105, v106, qq_1, kk_2 _ _ (List.forall_mem_cons.mpr ⟨⟨_, _, _, _, rfl, fun _ _ _ _ h => h⟩, (List.forall_mem_cons.mpr ⟨⟨_, _, _, _, rfl, fun _ _ _ _ h => h⟩, (fun _ h => by cases h)⟩)⟩) qq_2⟩) (fun wm' res H hw' hp => ?_)
  obtain ⟨v105, v106, hres, hI⟩ := hp
  replace hres := hres.symm; subst hres
  replace hS : S wm 294 _ H ((164, .agg #[.bool r63.Char, v105, v106]) :: _) ([.own (rI .i64) v105 r63.Shape, .own (rI .i64) v106 r63.Data] ++ [.lit (rI .i64) v104 ([4, 4, 5, 5]), .own (rI .i64) v102 r61.Shape, .own (rI .i64) v103 r61.Data, .own (rI .i64) v100 r60.Shape, .own (rI .i64) v101 r60.Data, .own (rI .i64) v98 r59.Shape, .own (rI .i64) v99 r59.Data, .lit (rI .i64) v97 ([1, 0, 2]), .own (rI .i64) v95 r57.Shape, .own (rI .i64) v96 r57.Data, .own (rI .i64) v93 r56.Shape, .own (rI .i64) v94 r56.Data, .own (rI .i64) v91 r55.Shape, .own (rI .i64) v92 r55.Data, .lit (rI .i64) v90 ([1, 1]), .own (rI .i64) v88 r53.Shape, .own (rI .i64) v89 r53.Data, .own (rI .i64) v86 r52.Shape, .own (rI .i64) v87 r52.Data, .own (rI .i64) v84 r51.Shape, .own (rI .i64) v85 r51.Data, .lit (rI .i64) v83 ([1, 0, 1]), .own (rI .i64) v81 r49.Shape, .own (rI .i64) v82 r49.Data, .fz (rI .i64) v79 r48.Shape, .fz (rI .i64) v80 r48.Data, .own (rI .i64) v77 r47.Shape, .own (rI .i64) v78 r47.Data, .lit (rI .i64) v76 ([1, 0]), .own (rI .i64) v74 r45.Shape, .own (rI .i64) v75 r45.Data, .own (rI .i64) v72 r44.Shape, .own (rI .i64) v73 r44.Data, .lit (rI .i64) v71 ([4, 5]), .own (rI .i64) v69 r43.Shape, .own (rI .i64) v70 r43.Data, .box b7 [.bool r27.Char, v46, v47], .fz (rI .i64) v46 r27.Shape, .own (rI .i64) v47 r27.Data, .box b6 [.bool r23.Char, v40, v41], .fz (rI .i64) v40 r23.Shape, .own (rI .i64) v41 r23.Data, .box b5 [.bool r61.Char, v102, v103], .fz (rI .i64) v33 r19.Shape, .own (rI .i64) v34 r19.Data, .box b4 [.bool r57.Char, v95, v96], .fz (rI .i64) v26 r15.Shape, .own (rI .i64) v27 r15.Data, .box b3 [.bool r53.Char, v88, v89], .fz (rI .i64) v19 r11.Shape, .own (rI .i64) v20 r11.Data, .box b2 [.bool r49.Char, v81, v82], .fz (rI .i64) v12 r7.Shape, .own (rI .i64) v13 r7.Data, .box b1 [.bool r45.Char, v74, v75], .fz (rI .i64) v6 r3.Shape, .own (rI .i64) v7 r3.Data]) Fr := (hS.put rfl _).withK hI
  clear hI hw'
  obtain ⟨r64, hx52, h0⟩ := bindS h0
  refine o_call (Pc := fun _ res H => res = .bool r64 ∧ Kn wm H ([.own (rI .i64) v105 r63.Shape, .own (rI .i64) v106 r63.Data, .lit (rI .i64) v104 ([4, 4, 5, 5]), .own (rI .i64) v102 r61.Shape, .own (rI .i64) v103 r61.Data, .own (rI .i64) v100 r60.Shape, .own (rI .i64) v101 r60.Data, .own (rI .i64) v98 r59.Shape, .own (rI .i64) v99 r59.Data, .lit (rI .i64) v97 ([1, 0, 2]), .own (rI .i64) v95 r57.Shape, .own (rI .i64) v96 r57.Data, .own (rI .i64) v93 r56.Shape, .own (rI .i64) v94 r56.Data, .own (rI .i64) v91 r55.Shape, .own (rI .i64) v92 r55.Data, .lit (rI .i64) v90 ([1, 1]), .own (rI .i64) v88 r53.Shape, .own (rI .i64) v89 r53.Data, .own (rI .i64) v86 r52.Shape, .own (rI .i64) v87 r52.Data, .own (rI .i64) v84 r51.Shape, .own (rI .i64) v85 r51.Data, .lit (rI .i64) v83 ([1, 0, 1]), .own (rI .i64) v81 r49.Shape, .own (rI .i64) v82 r49.Data, .fz (rI .i64) v79 r48.Shape, .fz (rI .i64) v80 r48.Data, .own (rI .i64) v77 r47.Shape, .own (rI .i64) v78 r47.Data, .lit (rI .i64) v76 ([1, 0]), .own (rI .i64) v74 r45.Shape, .own (rI .i64) v75 r45.Data, .own (rI .i64) v72 r44.Shape, .own (rI .i64) v73 r44.Data, .lit (rI .i64) v71 ([4, 5]), .own (rI .i64) v69 r43.Shape, .own (rI .i64) v70 r43.Data, .box b7 [.bool r27.Char, v46, v47], .fz (rI .i64) v46 r27.Shape, .own (rI .i64) v47 r27.Data, .box b6 [.bool r23.Char, v40, v41], .fz (rI .i64) v40 r23.Shape, .own (rI .i64) v41 r23.Data, .box b5 [.bool r61.Char, v102, v103], .fz (rI .i64) v33 r19.Shape, .own (rI .i64) v34 r19.Data, .box b4 [.bool r57.Char, v95, v96], .fz (rI .i64) v26 r15.Shape, .own (rI .i64) v27 r15.Data, .box b3 [.bool r53.Char, v88, v89], .fz (rI .i64) v19 r11.Shape, .own (rI .i64) v20 r11.Data, .box b2 [.bool r49.Char, v81, v82], .fz (rI .i64) v12 r7.Shape, .own (rI .i64) v13 r7.Data, .box b1 [.bool r45.Char, v74, v75], .fz (rI .i64) v6 r3.Shape, .own (rI .i64) v7 r3.Data]) Fr) hS (.inl rfl) rfl (fun wm' hw1 hw2 => by
   obtain ⟨F2, kk_1, kk_2⟩ := hS.inv.lend (La := [.fz (rI .i64) v74 r45.Shape, .fz (rI .i64) v75 r45.Data, .fz (rI .i64) v105 r63.Shape, .fz (rI .i64) v106 r63.Data]) (List.forall_mem_cons.mpr ⟨(.inr ⟨_, _, _, _, rfl, .inl (List.mem_of_getElem? (i := 31) rfl)⟩), (List.forall_mem_cons.mpr ⟨(.inr ⟨_, _, _, _, rfl, .inl (List.mem_of_getElem? (i := 32) rfl)⟩), (List.forall_mem_cons.mpr ⟨(.inr ⟨_, _, _, _, rfl, .inl (List.mem_of_getElem? (i := 0) rfl)⟩), (List.forall_mem_cons.mpr ⟨(.inr ⟨_, _, _, _, rfl, .inl (List.mem_of_getElem? (i := 1) rfl)⟩), (fun _ h => by cases h)⟩)⟩)⟩)⟩) hw1 hw2
   exact (wk22  r45 r46 r63  v74 v75 v105 v106 kk_1 hx52).mono fun res H2 ⟨qq_1, qq_2⟩ => ⟨qq_1, kk_2 _ qq_2⟩) (fun wm' res H hw' hp => ?_)
  obtain ⟨hres, hI⟩ := hp
  replace hres := hres.symm; subst hres
  replace hS : S wm 294 _ H ((165, .bool r64) :: _) ([.own (rI .i64) v105 r63.Shape, .own (rI .i64) v106 r63.Data, .lit (rI .i64) v104 ([4, 4, 5, 5]), .own (rI .i64) v102 r61.Shape, .own (rI .i64) v103 r61.Data, .own (rI .i64) v100 r60.Shape, .own (rI .i64) v101 r60.Data, .own (rI .i64) v98 r59.Shape, .own (rI .i64) v99 r59.Data, .lit (rI .i64) v97 ([1, 0, 2]), .own (rI .i64) v95 r57.Shape, .own (rI .i64) v96 r57.Data, .own (rI .i64) v93 r56.Shape, .own (rI .i64) v94 r56.Data, .own (rI .i64) v91 r55.Shape, .own (rI .i64) v92 r55.Data, .lit (rI .i64) v90 ([1, 1]), .own (rI .i64) v88 r53.Shape, .own (rI .i64) v89 r53.Data, .own (rI .i64) v86 r52.Shape, .own (rI .i64) v87 r52.Data, .own (rI .i64) v84 r51.Shape, .own (rI .i64) v85 r51.Data, .lit (rI .i64) v83 ([1, 0, 1]), .own (rI .i64) v81 r49.Shape, .own (rI .i64) v82 r49.Data, .fz (rI .i64) v79 r48.Shape, .fz (rI .i64) v80 r48.Data, .own (rI .i64) v77 r47.Shape, .own (rI .i64) v78 r47.Data, .lit (rI .i64) v76 ([1, 0]), .own (rI .i64) v74 r45.Shape, .own (rI .i64) v75 r45.Data, .own (rI .i64) v72 r44.Shape, .own (rI .i64) v73 r44.Data, .lit (rI .i64) v71 ([4, 5]), .own (rI .i64) v69 r43.Shape, .own (rI .i64) v70 r43.Data, .box b7 [.bool r27.Char, v46, v47], .fz (rI .i64) v46 r27.Shape, .own (rI .i64) v47 r27.Data, .box b6 [.bool r23.Char, v40, v41], .fz (rI .i64) v40 r23.Shape, .own (rI .i64) v41 r23.Data, .box b5 [.bool r61.Char, v102, v103], .fz (rI .i64) v33 r19.Shape, .own (rI .i64) v34 r19.Data, .box b4 [.bool r57.Char, v95, v96], .fz (rI .i64) v26 r15.Shape, .own (rI .i64) v27 r15.Data, .box b3 [.bool r53.Char, v88, v89], .fz (rI .i64) v19 r11.Shape, .own (rI .i64) v20 r11.Data, .box b2 [.bool r49.Char, v81, v82], .fz (rI .i64) v12 r7.Shape, .own (rI .i64) v13 r7.Data, .box b1 [.bool r45.Char, v74, v75], .fz (rI .i64) v6 r3.Shape, .own (rI .i64) v7 r3.Data]) Fr := (hS.put rfl _).withK hI
  clear hI hw'
  refine o_pure hS (.inl rfl) rfl rfl ?_; clear hS; try clear tm
  intro tm hS
  refine o_pure hS (.inl rfl) rfl rfl ?_; clear hS; try clear tm
  intro tm hS
  obtain ⟨c7, hc7, h0⟩ := bindS h0
  refine o_cutN 9 (J := fun tm H => S wm 294 tm H [(176, .bool c7), (1, .func (.func 22) #[] #[]), (2, .func (.func 21) #[] #[]), (3, .pointer (some ⟨b1, 0, none⟩)), (5, .pointer (some ⟨b2, 0, none⟩)), (7, .pointer (some ⟨b3, 0, none⟩)), (9, .pointer (some ⟨b4, 0, none⟩)), (11, .pointer (some ⟨b5, 0, none⟩)), (13, .pointer (some ⟨b6, 0, none⟩)), (15, .pointer (some ⟨b7, 0, none⟩)), (8, .int .i64 r54), (10, .int .i64 r58), (12, .int .i64 r62)] [.own (rI .i64) v102 r61.Shape, .own (rI .i64) v103 r61.Data, .own (rI .i64) v95 r57.Shape, .own (rI .i64) v96 r57.Data, .own (rI .i64) v88 r53.Shape, .own (rI .i64) v89 r53.Data, .own (rI .i64) v81 r49.Shape, .own (rI .i64) v82 r49.Data, .own (rI .i64) v74 r45.Shape, .own (rI .i64) v75 r45.Data, .box b7 [.bool r27.Char, v46, v47], .fz (rI .i64) v46 r27.Shape, .own (rI .i64) v47 r27.Data, .box b6 [.bool r23.Char, v40, v41], .fz (rI .i64) v40 r23.Shape, .own (rI .i64) v41 r23.Data, .box b5 [.bool r61.Char, v102, v103], .box b4 [.bool r57.Char, v95, v96], .box b3 [.bool r53.Char, v88, v89], .box b2 [.bool r49.Char, v81, v82], .box b1 [.bool r45.Char, v74, v75]] Fr) ?_ ?_
  ·rcases Bool.eq_false_or_eq_true (!r64) with hg7 | hg7
   ·replace hc7 := iteT hg7 hc7
    refine o_skip hS rfl rfl rfl hg7 ?_; clear hS; try clear tm
    intro tm hS
    refine o_skip hS rfl rfl rfl hg7 ?_; clear hS; try clear tm
    intro tm hS
    refine o_skip hS rfl rfl rfl hg7 ?_; clear hS; try clear tm
    intro tm hS
    refine o_skip hS rfl rfl rfl hg7 ?_; clear hS; try clear tm
    intro tm hS
    refine o_skip hS rfl rfl rfl hg7 ?_; clear hS; try clear tm
    intro tm hS
    refine o_skip hS rfl rfl rfl hg7 ?_; clear hS; try clear tm
    intro tm hS
    refine o_skip hS rfl rfl rfl hg7 ?_; clear hS; try clear tm
    intro tm hS
    refine o_skip hS rfl rfl rfl hg7 ?_; clear hS; try clear tm
    intro tm hS
    refine o_pickT hS (.inl rfl) rfl rfl hg7 rfl ?_; clear hS; try clear tm
    intro tm hS
    obtain rfl := Option.some.inj hc7
    exact o_nil (hS.keep (ka_cons rfl (ka_cons rfl (ka_cons rfl (ka_cons rfl (ka_cons rfl (ka_cons rfl (ka_cons rfl (ka_cons rfl (ka_cons rfl (ka_cons rfl (ka_cons rfl (ka_cons rfl (ka_cons rfl ka_nil))))))))))))) (fun hI => (hI.sub (sd (sd (sd (sc (sc (sd (sd (sd (sd (sd (sc (sc (sd (sd (sd (sd (sd (sc (sc (sd (sd (sd (sd (sd (sc (sc (sd (sd (sd (sd (sd (sc (sc (sd (sd (sd (sd (sd (sc (sc (sc (sc (sc (sc (sc (sd (sd (sc (sd (sd (sc (sd (sd (sc (sd (sd (sc sn))))))))))))))))))))))))))))))))))))))))))))))))))))))))))))
   ·replace hc7 := iteF hg7 hc7
    refine o_pure hS (.inr ⟨_, _, _, _, rfl, rfl, rfl, hg7⟩) rfl rfl ?_; clear hS; try clear tm
    intro tm hS
    refine o_ldA (k := 53) hS (.inr ⟨_, _, _, _, rfl, rfl, rfl, hg7⟩) rfl rfl rfl (.inl rfl) Fu25 rfl Fs25 rfl ?_; clear hS; try clear tm
    intro tm hS
    refine o_pure hS (.inr ⟨_, _, _, _, rfl, rfl, rfl, hg7⟩) rfl rfl ?_; clear hS; try clear tm
    intro tm hS
    refine o_lit (r := (rI .i64)) (l := [1, 3]) hS (.inr ⟨_, _, _, _, rfl, rfl, rfl, hg7⟩) rfl Fl22 rfl rfl rfl (.cons rfl (.cons rfl .nil)) rfl rfl (ri_1 (rd_flat fun _ => rfl) (ri_1 (rd_flat fun _ => rfl) ri_nil)) rfl ?_; clear hS; try clear tm H
    intro v107 tm H hS
    refine o_lit (r := (rI .i64)) (l := [1, 2, 3]) hS (.inr ⟨_, _, _, _, rfl, rfl, rfl, hg7⟩) rfl Fl23 rfl rfl rfl (.cons rfl (.cons rfl (.cons rfl .nil))) rfl rfl (ri_1 (rd_flat fun _ => rfl) (ri_1 (rd_flat fun _ => rfl) (ri_1 (rd_flat fun _ => rfl) ri_nil))) rfl ?_; clear hS; try clear tm H
    intro v108 tm H hS
    replace hS := hS.litFrz (k := 1) rfl
    replace hS := hS.litFrz (k := 0) rfl
    obtain ⟨r65, hx53, hc7⟩ := bindS hc7
    refine o_call hS (.inr ⟨_, _, _, _, rfl, rfl, rfl, hg7⟩) rfl (fun wm' hw1 hw2 => wk56  ([1, 3]) ([1, 2, 3])  v107 v108 (((hS.sel hw2).ad 0 rfl).ad 1 rfl) hx53) (fun wm' res H hw' hp => ?_)
    obtain ⟨v109, v110, hres, hI⟩ := hp
    replace hres := hres.symm; subst hres
    replace hS : S wm 294 _ H ((173, .agg #[.bool r65.Char, v109, v110]) :: _) ([.fz (rI .i64) v109 r65.Shape, .fz (rI .i64) v110 r65.Data] ++ _) Fr := hS.after rfl hw' hI
    clear hI hw'
    obtain ⟨r66, hx54, hc7⟩ := bindS hc7
    refine o_call (Pc := fun _ res H => res = .bool r66 ∧ Kn wm H ([.fz (rI .i64) v109 r65.Shape, .fz (rI .i64) v110 r65.Data, .fz (rI .i64) v108 ([1, 2, 3]), .fz (rI .i64) v107 ([1, 3]), .own (rI .i64) v105 r63.Shape, .own (rI .i64) v106 r63.Data, .lit (rI .i64) v104 ([4, 4, 5, 5]), .own (rI .i64) v102 r61.Shape, .own (rI .i64) v103 r61.Data, .own (rI .i64) v100 r60.Shape, .own (rI .i64) v101 r60.Data, .own (rI .i64) v98 r59.Shape, .own (rI .i64) v99 r59.Data, .lit (rI .i64) v97 ([1, 0, 2]), .own (rI .i64) v95 r57.Shape, .own (rI .i64) v96 r57.Data, .own (rI .i64) v93 r56.Shape, .own (rI .i64) v94 r56.Data, .own (rI .i64) v91 r55.Shape, .own (rI .i64) v92 r55.Data, .lit (rI .i64) v90 ([1, 1]), .own (rI .i64) v88 r53.Shape, .own (rI .i64) v89 r53.Data, .own (rI .i64) v86 r52.Shape, .own (rI .i64) v87 r52.Data, .own (rI .i64) v84 r51.Shape, .own (rI .i64) v85 r51.Data, .lit (rI .i64) v83 ([1, 0, 1]), .own (rI .i64) v81 r49.Shape, .own (rI .i64) v82 r49.Data, .fz (rI .i64) v79 r48.Shape, .fz (rI .i64) v80 r48.Data, .own (rI .i64) v77 r47.Shape, .own (rI .i64) v78 r47.Data, .lit (rI .i64) v76 ([1, 0]), .own (rI .i64) v74 r45.Shape, .own (rI .i64) v75 r45.Data, .own (rI .i64) v72 r44.Shape, .own (rI .i64) v73 r44.Data, .lit (rI .i64) v71 ([4, 5]), .own (rI .i64) v69 r43.Shape, .own (rI .i64) v70 r43.Data, .box b7 [.bool r27.Char, v46, v47], .fz (rI .i64) v46 r27.Shape, .own (rI .i64) v47 r27.Data, .box b6 [.bool r23.Char, v40, v41], .fz (rI .i64) v40 r23.Shape, .own (rI .i64) v41 r23.Data, .box b5 [.bool r61.Char, v102, v103], .fz (rI .i64) v33 r19.Shape, .own (rI .i64) v34 r19.Data, .box b4 [.bool r57.Char, v95, v96], .fz (rI .i64) v26 r15.Shape, .own (rI .i64) v27 r15.Data, .box b3 [.bool r53.Char, v88, v89], .fz (rI .i64) v19 r11.Shape, .own (rI .i64) v20 r11.Data, .box b2 [.bool r49.Char, v81, v82], .fz (rI .i64) v12 r7.Shape, .own (rI .i64) v13 r7.Data, .box b1 [.bool r45.Char, v74, v75], .fz (rI .i64) v6 r3.Shape, .own (rI .i64) v7 r3.Data]) Fr) hS (.inr ⟨_, _, _, _, rfl, rfl, rfl, hg7⟩) rfl (fun wm' hw1 hw2 => by
     obtain ⟨F2, kk_1, kk_2⟩ := hS.inv.lend (La := [.fz (rI .i64) v81 r49.Shape, .fz (rI .i64) v82 r49.Data, .fz (rI .i64) v109 r65.Shape, .fz (rI .i64) v110 r65.Data]) (List.forall_mem_cons.mpr ⟨(.inr ⟨_, _, _, _, rfl, .inl (List.mem_of_getElem? (i := 28) rfl)⟩), (List.forall_mem_cons.mpr ⟨(.inr ⟨_, _, _, _, rfl, .inl (List.mem_of_getElem? (i := 29) rfl)⟩), (List.forall_mem_cons.mpr ⟨(.inl ⟨rfl, List.mem_of_getElem? (i := 0) rfl⟩), (List.forall_mem_cons.mpr ⟨(.inl ⟨rfl, List.mem_of_getElem? (i := 1) rfl⟩), (fun _ h => by cases h)⟩)⟩)⟩)⟩) hw1 hw2
     exact (wk22  r49 r50 r65  v81 v82 v109 v110 kk_1 hx54).mono fun res H2 ⟨qq_1, qq_2⟩ => ⟨qq_1, kk_2 _ qq_2⟩) (fun wm' res H hw' hp => ?_)
    obtain ⟨hres, hI⟩ := hp
    replace hres := hres.symm; subst hres
    replace hS : S wm 294 _ H ((174, .bool r66) :: _) ([.fz (rI .i64) v109 r65.Shape, .fz (rI .i64) v110 r65.Data, .fz (rI .i64) v108 ([1, 2, 3]), .fz (rI .i64) v107 ([1, 3]), .own (rI .i64) v105 r63.Shape, .own (rI .i64) v106 r63.Data, .lit (rI .i64) v104 ([4, 4, 5, 5]), .own (rI .i64) v102 r61.Shape, .own (rI .i64) v103 r61.Data, .own (rI .i64) v100 r60.Shape, .own (rI .i64) v101 r60.Data, .own (rI .i64) v98 r59.Shape, .own (rI .i64) v99 r59.Data, .lit (rI .i64) v97 ([1, 0, 2]), .own (rI .i64) v95 r57.Shape, .own (rI .i64) v96 r57.Data, .own (rI .i64) v93 r56.Shape, .own (rI .i64) v94 r56.Data, .own (rI .i64) v91 r55.Shape, .own (rI .i64) v92 r55.Data, .lit (rI .i64) v90 ([1, 1]), .own (rI .i64) v88 r53.Shape, .own (rI .i64) v89 r53.Data, .own (rI .i64) v86 r52.Shape, .own (rI .i64) v87 r52.Data, .own (rI .i64) v84 r51.Shape, .own (rI .i64) v85 r51.Data, .lit (rI .i64) v83 ([1, 0, 1]), .own (rI .i64) v81 r49.Shape, .own (rI .i64) v82 r49.Data, .fz (rI .i64) v79 r48.Shape, .fz (rI .i64) v80 r48.Data, .own (rI .i64) v77 r47.Shape, .own (rI .i64) v78 r47.Data, .lit (rI .i64) v76 ([1, 0]), .own (rI .i64) v74 r45.Shape, .own (rI .i64) v75 r45.Data, .own (rI .i64) v72 r44.Shape, .own (rI .i64) v73 r44.Data, .lit (rI .i64) v71 ([4, 5]), .own (rI .i64) v69 r43.Shape, .own (rI .i64) v70 r43.Data, .box b7 [.bool r27.Char, v46, v47], .fz (rI .i64) v46 r27.Shape, .own (rI .i64) v47 r27.Data, .box b6 [.bool r23.Char, v40, v41], .fz (rI .i64) v40 r23.Shape, .own (rI .i64) v41 r23.Data, .box b5 [.bool r61.Char, v102, v103], .fz (rI .i64) v33 r19.Shape, .own (rI .i64) v34 r19.Data, .box b4 [.bool r57.Char, v95, v96], .fz (rI .i64) v26 r15.Shape, .own (rI .i64) v27 r15.Data, .box b3 [.bool r53.Char, v88, v89], .fz (rI .i64) v19 r11.Shape, .own (rI .i64) v20 r11.Data, .box b2 [.bool r49.Char, v81, v82], .fz (rI .i64) v12 r7.Shape, .own (rI .i64) v13 r7.Data, .box b1 [.bool r45.Char, v74, v75], .fz (rI .i64) v6 r3.Shape, .own (rI .i64) v7 r3.Data]) Fr := (hS.put rfl _).withK hI
    clear hI hw'
    refine o_pure hS (.inr ⟨_, _, _, _, rfl, rfl, rfl, hg7⟩) rfl rfl ?_; clear hS; try clear tm
    intro tm hS
    refine o_pickF hS (.inl rfl) rfl rfl hg7 rfl ?_; clear hS; try clear tm
    intro tm hS
    obtain rfl := Option.some.inj hc7
    exact o_nil (hS.keep (ka_cons rfl (ka_cons rfl (ka_cons rfl (ka_cons rfl (ka_cons rfl (ka_cons rfl (ka_cons rfl (ka_cons rfl (ka_cons rfl (ka_cons rfl (ka_cons rfl (ka_cons rfl (ka_cons rfl ka_nil))))))))))))) (fun hI => (hI.sub (sd (sd (sd (sd (sd (sd (sd (sc (sc (sd (sd (sd (sd (sd (sc (sc (sd (sd (sd (sd (sd (sc (sc (sd (sd (sd (sd (sd (sc (sc (sd (sd (sd (sd (sd (sc (sc (sd (sd (sd (sd (sd (sc (sc (sc (sc (sc (sc (sc (sd (sd (sc (sd (sd (sc (sd (sd (sc (sd (sd (sc sn))))))))))))))))))))))))))))))))))))))))))))))))))))))))))))))))
  intro tm H hS
  refine o_pure hS (.inl rfl) rfl rfl ?_; clear hS; try clear tm
  intro tm hS
  obtain ⟨c8, hc8, h0⟩ := bindS h0
  refine o_cutN 7 (J := fun tm H => S wm 294 tm H [(184, .bool c8), (1, .func (.func 22) #[] #[]), (2, .func (.func 21) #[] #[]), (3, .pointer (some ⟨b1, 0, none⟩)), (5, .pointer (some ⟨b2, 0, none⟩)), (7, .pointer (some ⟨b3, 0, none⟩)), (9, .pointer (some ⟨b4, 0, none⟩)), (11, .pointer (some ⟨b5, 0, none⟩)), (13, .pointer (some ⟨b6, 0, none⟩)), (15, .pointer (some ⟨b7, 0, none⟩)), (10, .int .i64 r58), (12, .int .i64 r62)] [.own (rI .i64) v102 r61.Shape, .own (rI .i64) v103 r61.Data, .own (rI .i64) v95 r57.Shape, .own (rI .i64) v96 r57.Data, .own (rI .i64) v88 r53.Shape, .own (rI .i64) v89 r53.Data, .own (rI .i64) v81 r49.Shape, .own (rI .i64) v82 r49.Data, .own (rI .i64) v74 r45.Shape, .own (rI .i64) v75 r45.Data, .box b7 [.bool r27.Char, v46, v47], .fz (rI .i64) v46 r27.Shape, .own (rI .i64) v47 r27.Data, .box b6 [.bool r23.Char, v40, v41], .fz (rI .i64) v40 r23.Shape, .own (rI .i64) v41 r23.Data, .box b5 [.bool r61.Char, v102, v103], .box b4 [.bool r57.Char, v95, v96], .box b3 [.bool r53.Char, v88, v89], .box b2 [.bool r49.Char, v81, v82], .box b1 [.bool r45.Char, v74, v75]] Fr) ?_ ?_
  ·rcases Bool.eq_false_or_eq_true c7 with hg8 | hg8
   ·replace hc8 := iteT hg8 hc8
    refine o_skip hS rfl rfl rfl hg8 ?_; clear hS; try clear tm
    intro tm hS
    refine o_skip hS rfl rfl rfl hg8 ?_; clear hS; try clear tm
    intro tm hS
    refine o_skip hS rfl rfl rfl hg8 ?_; clear hS; try clear tm
    intro tm hS
    refine o_skip hS rfl rfl rfl hg8 ?_; clear hS; try clear tm
    intro tm hS
    refine o_skip hS rfl rfl rfl hg8 ?_; clear hS; try clear tm
    intro tm hS
    refine o_skip hS rfl rfl rfl hg8 ?_; clear hS; try clear tm
    intro tm hS
    refine o_pickT hS (.inl rfl) rfl rfl hg8 rfl ?_; clear hS; try clear tm
    intro tm hS
    obtain rfl := Option.some.inj hc8
    exact o_nil (hS.keep (ka_cons rfl (ka_cons rfl (ka_cons rfl (ka_cons rfl (ka_cons rfl (ka_cons rfl (ka_cons rfl (ka_cons rfl (ka_cons rfl (ka_cons rfl (ka_cons rfl (ka_cons rfl ka_nil)))))))))))) (fun hI => (hI.sub (sc (sc (sc (sc (sc (sc (sc (sc (sc (sc (sc (sc (sc (sc (sc (sc (sc (sc (sc (sc (sc sn))))))))))))))))))))))))
   ·replace hc8 := iteF hg8 hc8
    refine o_pure hS (.inr ⟨_, _, _, _, rfl, rfl, rfl, hg8⟩) rfl rfl ?_; clear hS; try clear tm
    intro tm hS
    refine o_ldA (k := 18) hS (.inr ⟨_, _, _, _, rfl, rfl, rfl, hg8⟩) rfl rfl rfl (.inl rfl) Fu25 rfl Fs25 rfl ?_; clear hS; try clear tm
    intro tm hS
    refine o_pure hS (.inr ⟨_, _, _, _, rfl, rfl, rfl, hg8⟩) rfl rfl ?_; clear hS; try clear tm
    intro tm hS
    obtain ⟨r67, hx55, hc8⟩ := bindS hc8
    refine o_call hS (.inr ⟨_, _, _, _, rfl, rfl, rfl, hg8⟩) rfl (fun wm' hw1 hw2 => wk54  str_97_32_98   (hS.sel hw2) hx55) (fun wm' res H hw' hp => ?_)
    obtain ⟨v111, v112, hres, hI⟩ := hp
    replace hres := hres.symm; subst hres
    replace hS : S wm 294 _ H ((181, .agg #[.bool r67.Char, v111, v112]) :: _) ([.own (rI .i64) v111 r67.Shape, .own (rI .i64) v112 r67.Data] ++ _) Fr := hS.after rfl hw' hI
    clear hI hw'
    obtain ⟨r68, hx56, hc8⟩ := bindS hc8
    refine o_call (Pc := fun _ res H => res = .bool r68 ∧ Kn wm H ([.own (rI .i64) v111 r67.Shape, .own (rI .i64) v112 r67.Data, .own (rI .i64) v102 r61.Shape, .own (rI .i64) v103 r61.Data, .own (rI .i64) v95 r57.Shape, .own (rI .i64) v96 r57.Data, .own (rI .i64) v88 r53.Shape, .own (rI .i64) v89 r53.Data, .own (rI .i64) v81 r49.Shape, .own (rI .i64) v82 r49.Data, .own (rI .i64) v74 r45.Shape, .own (rI .i64) v75 r45.Data, .box b7 [.bool r27.Char, v46, v47], .fz (rI .i64) v46 r27.Shape, .own (rI .i64) v47 r27.Data, .box b6 [.bool r23.Char, v40, v41], .fz (rI .i64) v40 r23.Shape, .own (rI .i64) v41 r23.Data, .box b5 [.bool r61.Char, v102, v103], .box b4 [.bool r57.Char, v95, v96], .box b3 [.bool r53.Char, v88, v89], .box b2 [.bool r49.Char, v81, v82], .box b1 [.bool r45.Char, v74, v75]]) Fr) hS (.inr ⟨_, _, _, _, rfl, rfl, rfl, hg8⟩) rfl (fun wm' hw1 hw2 => by
     obtain ⟨F2, kk_1, kk_2⟩ := hS.inv.lend (La := [.fz (rI .i64) v88 r53.Shape, .fz (rI .i64) v89 r53.Data, .fz (rI .i64) v111 r67.Shape, .fz (rI .i64) v112 r67.Data]) (List.forall_mem_cons.mpr ⟨(.inr ⟨_, _, _, _, rfl, .inl (List.mem_of_getElem? (i := 6) rfl)⟩), (List.forall_mem_cons.mpr ⟨(.inr ⟨_, _, _, _, rfl, .inl (List.mem_of_getElem? (i := 7) rfl)⟩), (List.forall_mem_cons.mpr ⟨(.inr ⟨_, _, _, _, rfl, .inl (List.mem_of_getElem? (i := 0) rfl)⟩), (List.forall_mem_cons.mpr ⟨(.inr ⟨_, _, _, _, rfl, .inl (List.mem_of_getElem? (i := 1) rfl)⟩), (fun _ h => by cases h)⟩)⟩)⟩)⟩) hw1 hw2
     exact (wk22  r53 r54 r67  v88 v89 v111 v112 kk_1 hx56).mono fun res H2 ⟨qq_1, qq_2⟩ => ⟨qq_1, kk_2 _ qq_2⟩) (fun wm' res H hw' hp => ?_)
    obtain ⟨hres, hI⟩ := hp
    replace hres := hres.symm; subst hres
    replace hS : S wm 294 _ H ((182, .bool r68) :: _) ([.own (rI .i64) v111 r67.Shape, .own (rI .i64) v112 r67.Data, .own (rI .i64) v102 r61.Shape, .own (rI .i64) v103 r61.Data, .own (rI .i64) v95 r57.Shape, .own (rI .i64) v96 r57.Data, .own (rI .i64) v88 r53.Shape, .own (rI .i64) v89 r53.Data, .own (rI .i64) v81 r49.Shape, .own (rI .i64) v82 r49.Data, .own (rI .i64) v74 r45.Shape, .own (rI .i64) v75 r45.Data, .box b7 [.bool r27.Char, v46, v47], .fz (rI .i64) v46 r27.Shape, .own (rI .i64) v47 r27.Data, .box b6 [.bool r23.Char, v40, v41], .fz (rI .i64) v40 r23.Shape, .own (rI .i64) v41 r23.Data, .box b5 [.bool r61.Char, v102, v103], .box b4 [.bool r57.Char, v95, v96], .box b3 [.bool r53.Char, v88, v89], .box b2 [.bool r49.Char, v81, v82], .box b1 [.bool r45.Char, v74, v75]]) Fr := (hS.put rfl _).withK hI
    clear hI hw'
    refine o_pure hS (.inr ⟨_, _, _, _, rfl, rfl, rfl, hg8⟩) rfl rfl ?_; clear hS; try clear tm
    intro tm hS
    refine o_pickF hS (.inl rfl) rfl rfl hg8 rfl ?_; clear hS; try clear tm
    intro tm hS
    obtain rfl := Option.some.inj hc8
    exact o_nil (hS.keep (ka_cons rfl (ka_cons rfl (ka_cons rfl (ka_cons rfl (ka_cons rfl (ka_cons rfl (ka_cons rfl (ka_cons rfl (ka_cons rfl (ka_cons rfl (ka_cons rfl (ka_cons rfl ka_nil)))))))))))) (fun hI => (hI.sub (sd (sd (sc (sc (sc (sc (sc (sc (sc (sc (sc (sc (sc (sc (sc (sc (sc (sc (sc (sc (sc (sc (sc sn))))))))))))))))))))))))))
  intro tm H hS
  refine o_pure hS (.inl rfl) rfl rfl ?_; clear hS; try clear tm
  intro tm hS
  obtain ⟨c9, hc9, h0⟩ := bindS h0
  refine o_cutN 8 (J := fun tm H => S wm 294 tm H [(193, .bool c9), (1, .func (.func 22) #[] #[]), (2, .func (.func 21) #[] #[]), (3, .pointer (some ⟨b1, 0, none⟩)), (5, .pointer (some ⟨b2, 0, none⟩)), (7, .pointer (some ⟨b3, 0, none⟩)), (9, .pointer (some ⟨b4, 0, none⟩)), (11, .pointer (some ⟨b5, 0, none⟩)), (13, .pointer (some ⟨b6, 0, none⟩)), (15, .pointer (some ⟨b7, 0, none⟩)), (12, .int .i64 r62)] [.own (rI .i64) v102 r61.Shape, .own (rI .i64) v103 r61.Data, .own (rI .i64) v95 r57.Shape, .own (rI .i64) v96 r57.Data, .own (rI .i64) v88 r53.Shape, .own (rI .i64) v89 r53.Data, .own (rI .i64) v81 r49.Shape, .own (rI .i64) v82 r49.Data, .own (rI .i64) v74 r45.Shape, .own (rI .i64) v75 r45.Data, .box b7 [.bool r27.Char, v46, v47], .fz (rI .i64) v46 r27.Shape, .own (rI .i64) v47 r27.Data, .box b6 [.bool r23.Char, v40, v41], .fz (rI .i64) v40 r23.Shape, .own (rI .i64) v41 r23.Data, .box b5 [.bool r61.Char, v102, v103], .box b4 [.bool r57.Char, v95, v96], .box b3 [.bool r53.Char, v88, v89], .box b2 [.bool r49.Char, v81, v82], .box b1 [.bool r45.Char, v74, v75]] Fr) ?_ ?_
  ·rcases Bool.eq_false_or_eq_true c8 with hg9 | hg9
   ·replace hc9 := iteT hg9 hc9
    refine o_skip hS rfl rfl rfl hg9 ?_; clear hS; try clear tm
    intro tm hS
    refine o_skip hS rfl rfl rfl hg9 ?_; clear hS; try clear tm
    intro tm hS
    refine o_skip hS rfl rfl rfl hg9 ?_; clear hS; try clear tm
    intro tm hS
    refine o_skip hS rfl rfl rfl hg9 ?_; clear hS; try clear tm
    intro tm hS
    refine o_skip hS rfl rfl rfl hg9 ?_; clear hS; try clear tm
    intro tm hS
    refine o_skip hS rfl rfl rfl hg9 ?_; clear hS; try clear tm
    intro tm hS
    refine o_skip hS rfl rfl rfl hg9 ?_; clear hS; try clear tm
    intro tm hS
    refine o_pickT hS (.inl rfl) rfl rfl hg9 rfl ?_; clear hS; try clear tm
    intro tm hS
    obtain rfl := Option.some.inj hc9
    exact o_nil (hS.keep (ka_cons rfl (ka_cons rfl (ka_cons rfl (ka_cons rfl (ka_cons rfl (ka_cons rfl (ka_cons rfl (ka_cons rfl (ka_cons rfl (ka_cons rfl (ka_cons rfl ka_nil))))))))))) (fun hI => (hI.sub (sc (sc (sc (sc (sc (sc (sc (sc (sc (sc (sc (sc (sc (sc (sc (sc (sc (sc (sc (sc (sc sn))))))))))))))))))))))))
   ·replace hc9 := iteF hg9 hc9
    refine o_pure hS (.inr ⟨_, _, _, _, rfl, rfl, rfl, hg9⟩) rfl rfl ?_; clear hS; try clear tm
    intro tm hS
    refine o_ldA (k := 17) hS (.inr ⟨_, _, _, _, rfl, rfl, rfl, hg9⟩) rfl rfl rfl (.inl rfl) Fu25 rfl Fs25 rfl ?_; clear hS; try clear tm
    intro tm hS
    refine o_pure hS (.inr ⟨_, _, _, _, rfl, rfl, rfl, hg9⟩) rfl rfl ?_; clear hS; try clear tm
    intro tm hS
    refine o_lit (r := (rI .i64)) (l := [7, 7]) hS (.inr ⟨_, _, _, _, rfl, rfl, rfl, hg9⟩) rfl Fl23 rfl rfl rfl (.cons rfl (.cons rfl .nil)) rfl rfl (ri_1 (rd_flat fun _ => rfl) (ri_1 (rd_flat fun _ => rfl) ri_nil)) rfl ?_; clear hS; try clear tm H
    intro v113 tm H hS
    obtain ⟨r69, hx57, hc9⟩ := bindS hc9
    refine o_call (Pc := fun _ res H => ∃ v114 v115, res = .agg #[.bool r69.Char, v114, v115] ∧ Kn wm H ([.own (rI .i64) v114 r69.Shape, .own (rI .i64) v115 r69.Data] ++ [.lit (rI .i64) v113 ([7, 7]), .own (rI .i64) v102 r61.Shape, .own (rI .i64) v103 r61.Data, .own (rI .i64) v95 r57.Shape, .own (rI .i64) v96 r57.Data, .own (rI .i64) v88 r53.Shape, .own (rI .i64) v89 r53.Data, .own (rI .i64) v81 r49.Shape, .own (rI .i64) v82 r49.Data, .own (rI .i64) v74 r45.Shape, .own (rI .i64) v75 r45.Data, .box b7 [.bool r27.Char, v46, v47], .fz (rI .i64) v46 r27.Shape, .own (rI .i64) v47 r27.Data, .box b6 [.bool r23.Char, v40, v41], .fz (rI .i64) v40 r23.Shape, .own (rI .i64) v41 r23.Data, .box b5 [.bool r61.Char, v102, v103], .box b4 [.bool r57.Char, v95, v96], .box b3 [.bool r53.Char, v88, v89], .box b2 [.bool r49.Char, v81, v82], .box b1 [.bool r45.Char, v74, v75]]) Fr) hS (.inr ⟨_, _, _, _, rfl, rfl, rfl, hg9⟩) rfl (fun wm' hw1 hw2 => by
     obtain ⟨F2, kk_1, kk_2⟩ := hS.inv.lendR (La := [.fz (rI .i64) v113 ([7, 7])]) (List.forall_mem_cons.mpr ⟨(.inr ⟨_, _, _, _, rfl, .inr (List.mem_of_getElem? (i := 0) rfl)⟩), (fun _ h => by cases h)⟩) hw1 hw2
     exact (wk53  ([7, 7])  v113 kk_1 hx57).mono fun res H2 ⟨v114, v115, qq_1, qq_2⟩ => ⟨v114, v115, qq_1, kk_2 _ _ (List.forall_mem_cons.mpr ⟨⟨_, _, _, _, rfl, fun _ _ _ _ h => h⟩, (List.forall_mem_cons.mpr ⟨⟨_, _, _, _, rfl, fun _ _ _ _ h => h⟩, (fun _ h => by cases h)⟩)⟩) qq_2⟩) (fun wm' res H hw' hp => ?_)
    obtain ⟨v114, v115, hres, hI⟩ := hp
    replace hres := hres.symm; subst hres
    replace hS : S wm 294 _ H ((190, .agg #[.bool r69.Char, v114, v115]) :: _) ([.own (rI .i64) v114 r69.Shape, .own (rI .i64) v115 r69.Data] ++ [.lit (rI .i64) v113 ([7, 7]), .own (rI .i64) v102 r61.Shape, .own (rI .i64) v103 r61.Data, .own (rI .i64) v95 r57.Shape, .own (rI .i64) v96 r57.Data, .own (rI .i64) v88 r53.Shape, .own (rI .i64) v89 r53.Data, .own (rI .i64) v81 r49.Shape, .own (rI .i64) v82 r49.Data, .own (rI .i64) v74 r45.Shape, .own (rI .i64) v75 r45.Data, .box b7 [.bool r27.Char, v46, v47], .fz (rI .i64) v46 r27.Shape, .own (rI .i64) v47 r27.Data, .box b6 [.bool r23.Char, v40, v41], .fz (rI .i64) v40 r23.Shape, .own (rI .i64) v41 r23.Data, .box b5 [.bool r61.Char, v102, v103], .box b4 [.bool r57.Char, v95, v96], .box b3 [.bool r53.Char, v88, v89], .box b2 [.bool r49.Char, v81, v82], .box b1 [.bool r45.Char, v74, v75]]) Fr := (hS.put rfl _).withK hI
    clear hI hw'
    obtain ⟨r70, hx58, hc9⟩ := bindS hc9
    refine o_call (Pc := fun _ res H => res = .bool r70 ∧ Kn wm H ([.own (rI .i64) v114 r69.Shape, .own (rI .i64) v115 r69.Data, .lit (rI .i64) v113 ([7, 7]), .own (rI .i64) v102 r61.Shape, .own (rI .i64) v103 r61.Data, .own (rI .i64) v95 r57.Shape, .own (rI .i64) v96 r57.Data, .own (rI .i64) v88 r53.Shape, .own (rI .i64) v89 r53.Data, .own (rI .i64) v81 r49.Shape, .own (rI .i64) v82 r49.Data, .own (rI .i64) v74 r45.Shape, .own (rI .i64) v75 r45.Data, .box b7 [.bool r27.Char, v46, v47], .fz (rI .i64) v46 r27.Shape, .own (rI .i64) v47 r27.Data, .box b6 [.bool r23.Char, v40, v41], .fz (rI .i64) v40 r23.Shape, .own (rI .i64) v41 r23.Data, .box b5 [.bool r61.Char, v102, v103], .box b4 [.bool r57.Char, v95, v96], .box b3 [.bool r53.Char, v88, v89], .box b2 [.bool r49.Char, v81, v82], .box b1 [.bool r45.Char, v74, v75]]) Fr) hS (.inr ⟨_, _, _, _, rfl, rfl, rfl, hg9⟩) rfl (fun wm' hw1 hw2 => by
     obtain ⟨F2, kk_1, kk_2⟩ := hS.inv.lend (La := [.fz (rI .i64) v95 r57.Shape, .fz (rI .i64) v96 r57.Data, .fz (rI .i64) v114 r69.Shape, .fz (rI .i64) v115 r69.Data]) (List.forall_mem_cons.mpr ⟨(.inr ⟨_, _, _, _, rfl, .inl (List.mem_of_getElem? (i := 5) rfl)⟩), (List.forall_mem_cons.mpr ⟨(.inr ⟨_, _, _, _, rfl, .inl (List.mem_of_getElem? (i := 6) rfl)⟩), (List.forall_mem_cons.mpr ⟨(.inr ⟨_, _, _, _, rfl, .inl (List.mem_of_getElem? (i := 0) rfl)⟩), (List.forall_mem_cons.mpr ⟨(.inr ⟨_, _, _, _, rfl, .inl (List.mem_of_getElem? (i := 1) rfl)⟩), (fun _ h => by cases h)⟩)⟩)⟩)⟩) hw1 hw2
     exact (wk22  r57 r58 r69  v95 v96 v114 v115 kk_1 hx58).mono fun res H2 ⟨qq_1, qq_2⟩ => ⟨qq_1, kk_2 _ qq_2⟩) (fun wm' res H hw' hp => ?_)
    obtain ⟨hres, hI⟩ := hp
    replace hres := hres.symm; subst hres
    replace hS : S wm 294 _ H ((191, .bool r70) :: _) ([.own (rI .i64) v114 r69.Shape, .own (rI .i64) v115 r69.Data, .lit (rI .i64) v113 ([7, 7]), .own (rI .i64) v102 r61.Shape, .own (rI .i64) v103 r61.Data, .own (rI .i64) v95 r57.Shape, .own (rI .i64) v96 r57.Data, .own (rI .i64) v88 r53.Shape, .own (rI .i64) v89 r53.Data, .own (rI .i64) v81 r49.Shape, .own (rI .i64) v82 r49.Data, .own (rI .i64) v74 r45.Shape, .own (rI .i64) v75 r45.Data, .box b7 [.bool r27.Char, v46, v47], .fz (rI .i64) v46 r27.Shape, .own (rI .i64) v47 r27.Data, .box b6 [.bool r23.Char, v40, v41], .fz (rI .i64) v40 r23.Shape, .own (rI .i64) v41 r23.Data, .box b5 [.bool r61.Char, v102, v103], .box b4 [.bool r57.Char, v95, v96], .box b3 [.bool r53.Char, v88, v89], .box b2 [.bool r49.Char, v81, v82], .box b1 [.bool r45.Char, v74, v75]]) Fr := (hS.put rfl _).withK hI
    clear hI hw'
    refine o_pure hS (.inr ⟨_, _, _, _, rfl, rfl, rfl, hg9⟩) rfl rfl ?_; clear hS; try clear tm
    intro tm hS
    refine o_pickF hS (.inl rfl) rfl rfl hg9 rfl ?_; clear hS; try clear tm
    intro tm hS
    obtain rfl := Option.some.inj hc9
    exact o_nil (hS.keep (ka_cons rfl (ka_cons rfl (ka_cons rfl (ka_cons rfl (ka_cons rfl (ka_cons rfl (ka_cons rfl (ka_cons rfl (ka_cons rfl (ka_cons rfl (ka_cons rfl ka_nil))))))))))) (fun hI => (hI.sub (sd (sd (sd (sc (sc (sc (sc (sc (sc (sc (sc (sc (sc (sc (sc (sc (sc (sc (sc (sc (sc (sc (sc (sc sn)))))))))))))))))))))))))))
  intro tm H hS
  refine o_pure hS (.inl rfl) rfl rfl ?_; clear hS; try clear tm
  intro tm hS
  obtain ⟨c10, hc10, h0⟩ := bindS h0
  refine o_cutN 8 (J := fun tm H => S wm 294 tm H [(202, .bool c10), (2, .func (.func 21) #[] #[]), (3, .pointer (some ⟨b1, 0, none⟩)), (5, .pointer (some ⟨b2, 0, none⟩)), (7, .pointer (some ⟨b3, 0, none⟩)), (9, .pointer (some ⟨b4, 0, none⟩)), (11, .pointer (some ⟨b5, 0, none⟩)), (13, .pointer (some ⟨b6, 0, none⟩)), (15, .pointer (some ⟨b7, 0, none⟩))] [.own (rI .i64) v102 r61.Shape, .own (rI .i64) v103 r61.Data, .own (rI .i64) v95 r57.Shape, .own (rI .i64) v96 r57.Data, .own (rI .i64) v88 r53.Shape, .own (rI .i64) v89 r53.Data, .own (rI .i64) v81 r49.Shape, .own (rI .i64) v82 r49.Data, .own (rI .i64) v74 r45.Shape, .own (rI .i64) v75 r45.Data, .box b7 [.bool r27.Char, v46, v47], .fz (rI .i64) v46 r27.Shape, .own (rI .i64) v47 r27.Data, .box b6 [.bool r23.Char, v40, v41], .fz (rI .i64) v40 r23.Shape, .own (rI .i64) v41 r23.Data, .box b5 [.bool r61.Char, v102, v103], .box b4 [.bool r57.Char, v95, v96], .box b3 [.bool r53.Char, v88, v89], .box b2 [.bool r49.Char, v81, v82], .box b1 [.bool r45.Char, v74, v75]] Fr) ?_ ?_
  ·rcases Bool.eq_false_or_eq_true c9 with hg10 | hg10
   ·replace hc10 := iteT hg10 hc10
    refine o_skip hS rfl rfl rfl hg10 ?_; clear hS; try clear tm
    intro tm hS
    refine o_skip hS rfl rfl rfl hg10 ?_; clear hS; try clear tm
    intro tm hS
    refine o_skip hS rfl rfl rfl hg10 ?_; clear hS; try clear tm
    intro tm hS
    refine o_skip hS rfl rfl rfl hg10 ?_; clear hS; try clear tm
    intro tm hS
    refine o_skip hS rfl rfl rfl hg10 ?_; clear hS; try clear tm
    intro tm hS
    refine o_skip hS rfl rfl rfl hg10 ?_; clear hS; try clear tm
    intro tm hS
    refine o_skip hS rfl rfl rfl hg10 ?_; clear hS; try clear tm
    intro tm hS
    refine o_pickT hS (.inl rfl) rfl rfl hg10 rfl ?_; clear hS; try clear tm
    intro tm hS
    obtain rfl := Option.some.inj hc10
    exact o_nil (hS.keep (ka_cons rfl (ka_cons rfl (ka_cons rfl (ka_cons rfl (ka_cons rfl (ka_cons rfl (ka_cons rfl (ka_cons rfl (ka_cons rfl ka_nil))))))))) (fun hI => (hI.sub (sc (sc (sc (sc (sc (sc (sc (sc (sc (sc (sc (sc (sc (sc (sc (sc (sc (sc (sc (sc (sc sn))))))))))))))))))))))))
   ·replace hc10 := iteF hg10 hc10
    refine o_pure hS (.inr ⟨_, _, _, _, rfl, rfl, rfl, hg10⟩) rfl rfl ?_; clear hS; try clear tm
    intro tm hS
    refine o_ldA (k := 16) hS (.inr ⟨_, _, _, _, rfl, rfl, rfl, hg10⟩) rfl rfl rfl (.inl rfl) Fu25 rfl Fs25 rfl ?_; clear hS; try clear tm
    intro tm hS
    refine o_pure hS (.inr ⟨_, _, _, _, rfl, rfl, rfl, hg10⟩) rfl rfl ?_; clear hS; try clear tm
    intro tm hS
    refine o_lit (r := (rI .i64)) (l := [7, 7, 7]) hS (.inr ⟨_, _, _, _, rfl, rfl, rfl, hg10⟩) rfl Fl23 rfl rfl rfl (.cons rfl (.cons rfl (.cons rfl .nil))) rfl rfl (ri_1 (rd_flat fun _ => rfl) (ri_1 (rd_flat fun _ => rfl) (ri_1 (rd_flat fun _ => rfl) ri_nil))) rfl ?_; clear hS; try clear tm H
    intro v116 tm H hS
    obtain ⟨r71, hx59, hc10⟩ := bindS hc10
    refine o_call (Pc := fun _ res H => ∃ v117 v118, res = .agg #[.bool r71.Char, v117, v118] ∧ Kn wm H ([.own (rI .i64) v117 r71.Shape, .own (rI .i64) v118 r71.Data] ++ [.lit (rI .i64) v116 ([7, 7, 7]), .own (rI .i64) v102 r61.Shape, .own (rI .i64) v103 r61.Data, .own (rI .i64) v95 r57.Shape, .own (rI .i64) v96 r57.Data, .own (rI .i64) v88 r53.Shape, .own (rI .i64) v89 r53.Data, .own (rI .i64) v81 r49.Shape, .own (rI .i64) v82 r49.Data, .own (rI .i64) v74 r45.Shape, .own (rI .i64) v75 r45.Data, .box b7 [.bool r27.Char, v46, v47], .fz (rI .i64) v46 r27.Shape, .own (rI .i64) v47 r27.Data, .box b6 [.bool r23.Char, v40, v41], .fz (rI .i64) v40 r23.Shape, .own (rI .i64) v41 r23.Data, .box b5 [.bool r61.Char, v102, v103], .box b4 [.bool r57.Char, v95, v96], .box b3 [.bool r53.Char, v88, v89], .box b2 [.bool r49.Char, v81, v82], .box b1 [.bool r45.Char, v74, v75]]) Fr) hS (.inr ⟨_, _, _, _, rfl, rfl, rfl, hg10⟩) rfl (fun wm' hw1 hw2 => by
     obtain ⟨F2, kk_1, kk_2⟩ := hS.inv.lendR (La := [.fz (rI .i64) v116 ([7, 7, 7])]) (List.forall_mem_cons.mpr ⟨(.inr ⟨_, _, _, _, rfl, .inr (List.mem_of_getElem? (i := 0) rfl)⟩), (fun _ h => by cases h)⟩) hw1 hw2
     exact (wk53  ([7, 7, 7])  v116 kk_1 hx59).mono fun res H2 ⟨v117, v118, qq_1, qq_2⟩ => ⟨v117, v118, qq_1, kk_2 _ _ (List.forall_mem_cons.mpr ⟨⟨_, _, _, _, rfl, fun _ _ _ _ h => h⟩, (List.forall_mem_cons.mpr ⟨⟨_, _, _, _, rfl, fun _ _ _ _ h => h⟩, (fun _ h => by cases h)⟩)⟩) qq_2⟩) (fun wm' res H hw' hp => ?_)
    obtain ⟨v117, v118, hres, hI⟩ := hp
    replace hres := hres.symm; subst hres
    replace hS : S wm 294 _ H ((199, .agg #[.bool r71.Char, v117, v118]) :: _) ([.own (rI .i64) v117 r71.Shape, .own (rI .i64) v118 r71.Data] ++ [.lit (rI .i64) v116 ([7, 7, 7]), .own (rI .i64) v102 r61.Shape, .own (rI .i64) v103 r61.Data, .own (rI .i64) v95 r57.Shape, .own (rI .i64) v96 r57.Data, .own (rI .i64) v88 r53.Shape, .own (rI .i64) v89 r53.Data, .own (rI .i64) v81 r49.Shape, .own (rI .i64) v82 r49.Data, .own (rI .i64) v74 r45.Shape, .own (rI .i64) v75 r45.Data, .box b7 [.bool r27.Char, v46, v47], .fz (rI .i64) v46 r27.Shape, .own (rI .i64) v47 r27.Data, .box b6 [.bool r23.Char, v40, v41], .fz (rI .i64) v40 r23.Shape, .own (rI .i64) v41 r23.Data, .box b5 [.bool r61.Char, v102, v103], .box b4 [.bool r57.Char, v95, v96], .box b3 [.bool r53.Char, v88, v89], .box b2 [.bool r49.Char, v81, v82], .box b1 [.bool r45.Char, v74, v75]]) Fr := (hS.put rfl _).withK hI
    clear hI hw'
    obtain ⟨r72, hx60, hc10⟩ := bindS hc10
    refine o_call (Pc := fun _ res H => res = .bool r72 ∧ Kn wm H ([.own (rI .i64) v117 r71.Shape, .own (rI .i64) v118 r71.Data, .lit (rI .i64) v116 ([7, 7, 7]), .own (rI .i64) v102 r61.Shape, .own (rI .i64) v103 r61.Data, .own (rI .i64) v95 r57.Shape, .own (rI .i64) v96 r57.Data, .own (rI .i64) v88 r53.Shape, .own (rI .i64) v89 r53.Data, .own (rI .i64) v81 r49.Shape, .own (rI .i64) v82 r49.Data, .own (rI .i64) v74 r45.Shape, .own (rI .i64) v75 r45.Data, .box b7 [.bool r27.Char, v46, v47], .fz (rI .i64) v46 r27.Shape, .own (rI .i64) v47 r27.Data, .box b6 [.bool r23.Char, v40, v41], .fz (rI .i64) v40 r23.Shape, .own (rI .i64) v41 r23.Data, .box b5 [.bool r61.Char, v102, v103], .box b4 [.bool r57.Char, v95, v96], .box b3 [.bool r53.Char, v88, v89], .box b2 [.bool r49.Char, v81, v82], .box b1 [.bool r45.Char, v74, v75]]) Fr) hS (.inr ⟨_, _, _, _, rfl, rfl, rfl, hg10⟩) rfl (fun wm' hw1 hw2 => by
     obtain ⟨F2, kk_1, kk_2⟩ := hS.inv.lend (La := [.fz (rI .i64) v102 r61.Shape, .fz (rI .i64) v103 r61.Data, .fz (rI .i64) v117 r71.Shape, .fz (rI .i64) v118 r71.Data]) (List.forall_mem_cons.mpr ⟨(.inr ⟨_, _, _, _, rfl, .inl (List.mem_of_getElem? (i := 3) rfl)⟩), (List.forall_mem_cons.mpr ⟨(.inr ⟨_, _, _, _, rfl, .inl (List.mem_of_getElem? (i := 4) rfl)⟩), (List.forall_mem_cons.mpr ⟨(.inr ⟨_, _, _, _, rfl, .inl (List.mem_of_getElem? (i := 0) rfl)⟩), (List.forall_mem_cons.mpr ⟨(.inr ⟨_, _, _, _, rfl, .inl (List.mem_of_getElem? (i := 1) rfl)⟩), (fun _ h => by cases h)⟩)⟩)⟩)⟩) hw1 hw2
     exact (wk22  r61 r62 r71  v102 v103 v117 v118 kk_1 hx60).mono fun res H2 ⟨qq_1, qq_2⟩ => ⟨qq_1, kk_2 _ qq_2⟩) (fun wm' res H hw' hp => ?_)
    obtain ⟨hres, hI⟩ := hp
    replace hres := hres.symm; subst hres
    replace hS : S wm 294 _ H ((200, .bool r72) :: _) ([.own (rI .i64) v117 r71.Shape, .own (rI .i64) v118 r71.Data, .lit (rI .i64) v116 ([7, 7, 7]), .own (rI .i64) v102 r61.Shape, .own (rI .i64) v103 r61.Data, .own (rI .i64) v95 r57.Shape, .own (rI .i64) v96 r57.Data, .own (rI .i64) v88 r53.Shape, .own (rI .i64) v89 r53.Data, .own (rI .i64) v81 r49.Shape, .own (rI .i64) v82 r49.Data, .own (rI .i64) v74 r45.Shape, .own (rI .i64) v75 r45.Data, .box b7 [.bool r27.Char, v46, v47], .fz (rI .i64) v46 r27.Shape, .own (rI .i64) v47 r27.Data, .box b6 [.bool r23.Char, v40, v41], .fz (rI .i64) v40 r23.Shape, .own (rI .i64) v41 r23.Data, .box b5 [.bool r61.Char, v102, v103], .box b4 [.bool r57.Char, v95, v96], .box b3 [.bool r53.Char, v88, v89], .box b2 [.bool r49.Char, v81, v82], .box b1 [.bool r45.Char, v74, v75]]) Fr := (hS.put rfl _).withK hI
    clear hI hw'
    refine o_pure hS (.inr ⟨_, _, _, _, rfl, rfl, rfl, hg10⟩) rfl rfl ?_; clear hS; try clear tm
    intro tm hS
    refine o_pickF hS (.inl rfl) rfl rfl hg10 rfl ?_; clear hS; try clear tm
    intro tm hS
    obtain rfl := Option.some.inj hc10
    exact o_nil (hS.keep (ka_cons rfl (ka_cons rfl (ka_cons rfl (ka_cons rfl (ka_cons rfl (ka_cons rfl (ka_cons rfl (ka_cons rfl (ka_cons rfl ka_nil))))))))) (fun hI => (hI.sub (sd (sd (sd (sc (sc (sc (sc (sc (sc (sc (sc (sc (sc (sc (sc (sc (sc (sc (sc (sc (sc (sc (sc (sc sn)))))))))))))))))))))))))))
  intro tm H hS
  refine o_nil (hR _ _ ?_)
  clear hR R
  refine c_cond hS rfl (fun hc => ?_) (fun hc => ?_)
  ·replace h0 := iteT hc h0
   refine c_reg fun R hR => ?_
   refine o_pure hS (.inl rfl) rfl rfl ?_; clear hS; try clear tm
   intro tm hS
   refine o_nil (hR _ _ ?_)
   clear hR R
   refine wpC.ret ?_
   obtain rfl := Option.some.inj h0
   refine Exists.intro _ (And.intro (rs_tmp hS rfl rs_nil) ?_)
   have hI := hS.inv
   exact ⟨rfl, (hI.sub sn)⟩
  ·replace h0 := iteF hc h0
   refine wpC.skip ?_
   refine c_reg fun R hR => ?_
   refine o_lit (r := (rI .i64)) (l := [1, 2]) hS (.inl rfl) rfl Fl23 rfl rfl rfl (.cons rfl (.cons rfl .nil)) rfl rfl (ri_1 (rd_flat fun _ => rfl) (ri_1 (rd_flat fun _ => rfl) ri_nil)) rfl ?_; clear hS; try clear tm H
   intro v119 tm H hS
   obtain ⟨r73, hx61, h0⟩ := bindS h0
   refine o_call (Pc := fun _ res H => ∃ v120 v121, res = .agg #[.bool r73.Char, v120, v121] ∧ Kn wm H ([.own (rI .i64) v120 r73.Shape, .own (rI .i64) v121 r73.Data] ++ [.lit (rI .i64) v119 ([1, 2]), .own (rI .i64) v102 r61.Shape, .own (rI .i64) v103 r61.Data, .own (rI .i64) v95 r57.Shape, .own (rI .i64) v96 r57.Data, .own (rI .i64) v88 r53.Shape, .own (rI .i64) v89 r53.Data, .own (rI .i64) v81 r49.Shape, .own (rI .i64) v82 r49.Data, .own (rI .i64) v74 r45.Shape, .own (rI .i64) v75 r45.Data, .box b7 [.bool r27.Char, v46, v47], .fz (rI .i64) v46 r27.Shape, .own (rI .i64) v47 r27.Data, .box b6 [.bool r23.Char, v40, v41], .fz (rI .i64) v40 r23.Shape, .own (rI .i64) v41 r23.Data, .box b5 [.bool r61.Char, v102, v103], .box b4 [.bool r57.Char, v95, v96], .box b3 [.bool r53.Char, v88, v89], .box b2 [.bool r49.Char, v81, v82], .box b1 [.bool r45.Char, v74, v75]]) Fr) hS (.inl rfl) rfl (fun wm' hw1 hw2 => by
    obtain ⟨F2, kk_1, kk_2⟩ := hS.inv.lendR (La := [.fz (rI .i64) v119 ([1, 2])]) (List.forall_mem_cons.mpr ⟨(.inr ⟨_, _, _, _, rfl, .inr (List.mem_of_getElem? (i := 0) rfl)⟩), (fun _ h => by cases h)⟩) hw1 hw2
    exact (wk53  ([1, 2])  v119 kk_1 hx61).mono fun res H2 ⟨v120, v121, qq_1, qq_2⟩ => ⟨v120, v121, qq_1, kk_2 _ _ (List.forall_mem_cons.mpr ⟨⟨_, _, _, _, rfl, fun _ _ _ _ h => h⟩, (List.forall_mem_cons.mpr ⟨⟨_, _, _, _, rfl, fun _ _ _ _ h => h⟩, (fun _ h => by cases h)⟩)⟩) qq_2⟩) (fun wm' res H hw' hp => ?_)
   obtain ⟨v120, v121, hres, hI⟩ := hp
   replace hres := hres.symm; subst hres
   replace hS : S wm 294 _ H ((205, .agg #[.bool r73.Char, v120, v121]) :: _) ([.own (rI .i64) v120 r73.Shape, .own (rI .i64) v121 r73.Data] ++ [.lit (rI .i64) v119 ([1, 2]), .own (rI .i64) v102 r61.Shape, .own (rI .i64) v103 r61.Data, .own (rI .i64) v95 r57.Shape, .own (rI .i64) v96 r57.Data, .own (rI .i64) v88 r53.Shape, .own (rI .i64) v89 r53.Data, .own (rI .i64) v81 r49.Shape, .own (rI .i64) v82 r49.Data, .own (rI .i64) v74 r45.Shape, .own (rI .i64) v75 r45.Data, .box b7 [.bool r27.Char, v46, v47], .fz (rI .i64) v46 r27.Shape, .own (rI .i64) v47 r27.Data, .box b6 [.bool r23.Char, v40, v41], .fz (rI .i64) v40 r23.Shape, .own (rI .i64) v41 r23.Data, .box b5 [.bool r61.Char, v102, v103], .box b4 [.bool r57.Char, v95, v96], .box b3 [.bool r53.Char, v88, v89], .box b2 [.bool r49.Char, v81, v82], .box b1 [.bool r45.Char, v74, v75]]) Fr := (hS.put rfl _).withK hI
   clear hI hw'
   refine o_lit (r := (rI .i64)) (l := [1, 2, 3]) hS (.inl rfl) rfl Fl23 rfl rfl rfl (.cons rfl (.cons rfl (.cons rfl .nil))) rfl rfl (ri_1 (rd_flat fun _ => rfl) (ri_1 (rd_flat fun _ => rfl) (ri_1 (rd_flat fun _ => rfl) ri_nil))) rfl ?_; clear hS; try clear tm H
   intro v122 tm H hS
   obtain ⟨r74, hx62, h0⟩ := bindS h0
   refine o_call (Pc := fun _ res H => ∃ v123 v124, res = .agg #[.bool r74.Char, v123, v124] ∧ Kn wm H ([.own (rI .i64) v123 r74.Shape, .own (rI .i64) v124 r74.Data] ++ [.lit (rI .i64) v122 ([1, 2, 3]), .own (rI .i64) v120 r73.Shape, .own (rI .i64) v121 r73.Data, .lit (rI .i64) v119 ([1, 2]), .own (rI .i64) v102 r61.Shape, .own (rI .i64) v103 r61.Data, .own (rI .i64) v95 r57.Shape, .own (rI .i64) v96 r57.Data, .own (rI .i64) v88 r53.Shape, .own (rI .i64) v89 r53.Data, .own (rI .i64) v81 r49.Shape, .own (rI .i64) v82 r49.Data, .own (rI .i64) v74 r45.Shape, .own (rI .i64) v75 r45.Data, .box b7 [.bool r27.Char, v46, v47], .fz (rI .i64) v46 r27.Shape, .own (rI .i64) v47 r27.Data, .box b6 [.bool r23.Char, v40, v41], .fz (rI .i64) v40 r23.Shape, .own (rI .i64) v41 r23.Data, .box b5 [.bool r61.Char, v102, v103], .box b4 [.bool r57.Char, v95, v96], .box b3 [.bool r53.Char, v88, v89], .box b2 [.bool r49.Char, v81, v82], .box b1 [.bool r45.Char, v74, v75]]) Fr) hS (.inl rfl) rfl (fun wm' hw1 hw2 => by
    obtain ⟨F2, kk_1, kk_2⟩ := hS.inv.lendR (La := [.fz (rI .i64) v122 ([1, 2, 3])]) (List.forall_mem_cons.mpr ⟨(.inr ⟨_, _, _, _, rfl, .inr (List.mem_of_getElem? (i := 0) rfl)⟩), (fun _ h => by cases h)⟩) hw1 hw2
    exact (wk53  ([1, 2, 3])  v122 kk_1 hx62).mono fun res H2 ⟨v123, v124, qq_1, qq_2⟩ => ⟨v123, v124, qq_1, kk_2 _ _ (List.forall_mem_cons.mpr ⟨⟨_, _, _, _, rfl, fun _ _ _ _ h => h⟩, (List.forall_mem_cons.mpr ⟨⟨_, _, _, _, rfl, fun _ _ _ _ h => h⟩, (fun _ h => by cases h)⟩)⟩) qq_2⟩) (fun wm' res H hw' hp => ?_)
   obtain ⟨v123, v124, hres, hI⟩ := hp
   replace hres := hres.symm; subst hres
   replace hS : S wm 294 _ H ((207, .agg #[.bool r74.Char, v123, v124]) :: _) ([.own (rI .i64) v123 r74.Shape, .own (rI .i64) v124 r74.Data] ++ [.lit (rI .i64) v122 ([1, 2, 3]), .own (rI .i64) v120 r73.Shape, .own (rI .i64) v121 r73.Data, .lit (rI .i64) v119 ([1, 2]), .own (rI .i64) v102 r61.Shape, .own (rI .i64) v103 r61.Data, .own (rI .i64) v95 r57.Shape, .own (rI .i64) v96 r57.Data, .own (rI .i64) v88 r53.Shape, .own (rI .i64) v89 r53.Data, .own (rI .i64) v81 r49.Shape, .own (rI .i64) v82 r49.Data, .own (rI .i64) v74 r45.Shape, .own (rI .i64) v75 r45.Data, .box b7 [.bool r27.Char, v46, v47], .fz (rI .i64) v46 r27.Shape, .own (rI .i64) v47 r27.Data, .box b6 [.bool r23.Char, v40, v41], .fz (rI .i64) v40 r23.Shape, .own (rI .i64) v41 r23.Data, .box b5 [.bool r61.Char, v102, v103], .box b4 [.bool r57.Char, v95, v96], .box b3 [.bool r53.Char, v88, v89], .box b2 [.bool r49.Char, v81, v82], .box b1 [.bool r45.Char, v74, v75]]) Fr := (hS.put rfl _).withK hI
   clear hI hw'
   replace hS := hS.frz (k := 3) rfl
   replace hS := hS.frz (k := 4) rfl
   replace hS := hS.frz (k := 0) rfl
   replace hS := hS.frz (k := 1) rfl
   obtain ⟨⟨r75, r76⟩, hx63, h0⟩ := bindS h0
   refine o_call hS (.inl rfl) rfl (fun wm' hw1 hw2 => wk23  r73 r74  v120 v121 v123 v124 (((((hS.sel hw2).ad 1 rfl).ad 0 rfl).ad 4 rfl).ad 3 rfl) hx63) (fun wm' res H hw' hp => ?_)
   obtain ⟨v125, v126, hres, hI⟩ := hp
   replace hres := hres.symm; subst hres
   replace hS : S wm 294 _ H ((208, .tuple #[.agg #[.bool r75.Char, v125, v126], .int .i64 r76]) :: _) ([.fz (rI .i64) v125 r75.Shape, .own (rI .i64) v126 r75.Data] ++ _) Fr := hS.after rfl hw' hI
   clear hI hw'
   refine o_pure hS (.inl rfl) rfl rfl ?_; clear hS; try clear tm
   intro tm hS
   refine o_pure hS (.inl rfl) rfl rfl ?_; clear hS; try clear tm
   intro tm hS
   refine o_pure hS (.inl rfl) rfl rfl ?_; clear hS; try clear tm
   intro tm hS
   refine o_st (k := 28) hS (.inl rfl) rfl rfl rfl Fs25 rfl rfl (all_cons rfl (all_cons (hS.one (k := 0) rfl (.inl rfl)) (all_cons (hS.one (k := 1) rfl (.inr (.inl rfl))) all_nil))) rfl ?_; clear hS; try clear H
   intro H hS
   refine o_pure hS (.inl rfl) rfl rfl ?_; clear hS; try clear tm
   intro tm hS
   refine o_nil (hR _ _ ?_)
   clear hR R
   refine c_reg fun R hR => ?_
   refine o_lit (r := (rI .i64)) (l := [1, 2]) hS (.inl rfl) rfl Fl23 rfl rfl rfl (.cons rfl (.cons rfl .nil)) rfl rfl (ri_1 (rd_flat fun _ => rfl) (ri_1 (rd_flat fun _ => rfl) ri_nil)) rfl ?_; clear hS; try clear tm H
   intro v127 tm H hS
   obtain ⟨r77, hx64, h0⟩ := bindS h0
   refine o_call (Pc := fun _ res H => ∃ v128 v129, res = .agg #[.bool r77.Char, v128, v129] ∧ Kn wm H ([.own (rI .i64) v128 r77.Shape, .own (rI .i64) v129 r77.Data] ++ [.lit (rI .i64) v127 ([1, 2]), .fz (rI .i64) v125 r75.Shape, .own (rI .i64) v126 r75.Data, .fz (rI .i64) v123 r74.Shape, .fz (rI .i64) v124 r74.Data, .lit (rI .i64) v122 ([1, 2, 3]), .fz (rI .i64) v120 r73.Shape, .fz (rI .i64) v121 r73.Data, .lit (rI .i64) v119 ([1, 2]), .own (rI .i64) v102 r61.Shape, .own (rI .i64) v103 r61.Data, .own (rI .i64) v95 r57.Shape, .own (rI .i64) v96 r57.Data, .own (rI .i64) v88 r53.Shape, .own (rI .i64) v89 r53.Data, .own (rI .i64) v81 r49.Shape, .own (rI .i64) v82 r49.Data, .own (rI .i64) v74 r45.Shape, .own (rI .i64) v75 r45.Data, .box b7 [.bool r27.Char, v46, v47], .fz (rI .i64) v46 r27.Shape, .own (rI .i64) v47 r27.Data, .box b6 [.bool r23.Char, v40, v41], .fz (rI .i64) v40 r23.Shape, .own (rI .i64) v41 r23.Data, .box b5 [.bool r61.Char, v102, v103], .box b4 [.bool r57.Char, v95, v96], .box b3 [.bool r53.Char, v88, v89], .box b2 [.bool r49.Char, v81, v82], .box b1 [.bool r75.Char, v125, v126]]) Fr) hS (.inl rfl) rfl (fun wm' hw1 hw2 => by
    obtain ⟨F2, kk_1, kk_2⟩ := hS.inv.lendR (La := [.fz (rI .i64) v127 ([1, 2])]) (List.forall_mem_cons.mpr ⟨(.inr ⟨_, _, _, _, rfl, .inr (List.mem_of_getElem? (i := 0) rfl)⟩), (fun _ h => by cases h)⟩) hw1 hw2
    exact (wk53  ([1, 2])  v127 kk_1 hx64).mono fun res H2 ⟨v128, v129, qq_1, qq_2⟩ => ⟨v128, v129, qq_1, kk_2 _ _ (List.forall_mem_cons.mpr ⟨⟨_, _, _, _, rfl, fun _ _ _ _ h => h⟩, (List.forall_mem_cons.mpr ⟨⟨_, _, _, _, rfl, fun _ _ _ _ h => h⟩, (fun _ h => by cases h)⟩)⟩) qq_2⟩) (fun wm' res H hw' hp => ?_)
   obtain ⟨v128, v129, hres, hI⟩ := hp
   replace hres := hres.symm; subst hres
   replace hS : S wm 294 _ H ((213, .agg #[.bool r77.Char, v128, v129]) :: _) ([.own (rI .i64) v128 r77.Shape, .own (rI .i64) v129 r77.Data] ++ [.lit (rI .i64) v127 ([1, 2]), .fz (rI .i64) v125 r75.Shape, .own (rI .i64) v126 r75.Data, .fz (rI .i64) v123 r74.Shape, .fz (rI .i64) v124 r74.Data, .lit (rI .i64) v122 ([1, 2, 3]), .fz (rI .i64) v120 r73.Shape, .fz (rI .i64) v121 r73.Data, .lit (rI .i64) v119 ([1, 2]), .own (rI .i64) v102 r61.Shape, .own (rI .i64) v103 r61.Data, .own (rI .i64) v95 r57.Shape, .own (rI .i64) v96 r57.Data, .own (rI .i64) v88 r53.Shape, .own (rI .i64) v89 r53.Data, .own (rI .i64) v81 r49.Shape, .own (rI .i64) v82 r49.Data, .own (rI .i64) v74 r45.Shape, .own (rI .i64) v75 r45.Data, .box b7 [.bool r27.Char, v46, v47], .fz (rI .i64) v46 r27.Shape, .own (rI .i64) v47 r27.Data, .box b6 [.bool r23.Char, v40, v41], .fz (rI .i64) v40 r23.Shape, .own (rI .i64) v41 r23.Data, .box b5 [.bool r61.Char, v102, v103], .box b4 [.bool r57.Char, v95, v96], .box b3 [.bool r53.Char, v88, v89], .box b2 [.bool r49.Char, v81, v82], .box b1 [.bool r75.Char, v125, v126]]) Fr := (hS.put rfl _).withK hI
   clear hI hw'
   refine o_lit (r := (rI .i64)) (l := [4, 5, 6]) hS (.inl rfl) rfl Fl23 rfl rfl rfl (.cons rfl (.cons rfl (.cons rfl .nil))) rfl rfl (ri_1 (rd_flat fun _ => rfl) (ri_1 (rd_flat fun _ => rfl) (ri_1 (rd_flat fun _ => rfl) ri_nil))) rfl ?_; clear hS; try clear tm H
   intro v130 tm H hS
   obtain ⟨r78, hx65, h0⟩ := bindS h0
   refine o_call (Pc := fun _ res H => ∃ v131 v132, res = .agg #[.bool r78.Char, v131, v132] ∧ Kn wm H ([.own (rI .i64) v131 r78.Shape, .own (rI .i64) v132 r78.Data] ++ [.lit (rI .i64) v130 ([4, 5, 6]), .own (rI .i64) v128 r77.Shape, .own (rI .i64) v129 r77.Data, .lit (rI .i64) v127 ([1, 2]), .fz (rI .i64) v125 r75.Shape, .own (rI .i64) v126 r75.Data, .fz (rI .i64) v123 r74.Shape, .fz (rI .i64) v124 r74.Data, .lit (rI .i64) v122 ([1, 2, 3]), .fz (rI .i64) v120 r73.Shape, .fz (rI .i64) v121 r73.Data, .lit (rI .i64) v119 ([1, 2]), .own (rI .i64) v102 r61.Shape, .own (rI .i64) v103 r61.Data, .own (rI .i64) v95 r57.Shape, .own (rI .i64) v96 r57.Data, .own (rI .i64) v88 r53.Shape, .own (rI .i64) v89 r53.Data, .own (rI .i64) v81 r49.Shape, .own (rI .i64) v82 r49.Data, .own (rI .i64) v74 r45.Shape, .own (rI .i64) v75 r45.Data, .box b7 [.bool r27.Char, v46, v47], .fz (rI .i64) v46 r27.Shape, .own (rI .i64) v47 r27.Data, .box b6 [.bool r23.Char, v40, v41], .fz (rI .i64) v40 r23.Shape, .own (rI .i64) v41 r23.Data, .box b5 [.bool r61.Char, v102, v103], .box b4 [.bool r57.Char, v95, v96], .box b3 [.bool r53.Char, v88, v89], .box b2 [.bool r49.Char, v81, v82], .box b1 [.bool r75.Char, v125, v126]]) Fr) hS (.inl rfl) rfl (fun wm' hw1 hw2 => by
    obtain ⟨F2, kk_1, kk_2⟩ := hS.inv.lendR (La := [.fz (rI .i64) v130 ([4, 5, 6])]) (List.forall_mem_cons.mpr ⟨(.inr ⟨_, _, _, _, rfl, .inr (List.mem_of_getElem? (i := 0) rfl)⟩), (fun _ h => by cases h)⟩) hw1 hw2
    exact (wk53  ([4, 5, 6])  v130 kk_1 hx65).mono fun res H2 ⟨v131, v132, qq_1, qq_2⟩ => ⟨v131, v132, qq_1, kk_2 _ _ (List.forall_mem_cons.mpr ⟨⟨_, _, _, _, rfl, fun _ _ _ _ h => h⟩, (List.forall_mem_cons.mpr ⟨⟨_, _, _, _, rfl, fun _ _ _ _ h => h⟩, (fun _ h => by cases h)⟩)⟩) qq_2⟩) (fun wm' res H hw' hp => ?_)
   obtain ⟨v131, v132, hres, hI⟩ := hp
   replace hres := hres.symm; subst hres
   replace hS : S wm 294 _ H ((215, .agg #[.bool r78.Char, v131, v132]) :: _) ([.own (rI .i64) v131 r78.Shape, .own (rI .i64) v132 r78.Data] ++ [.lit (rI .i64) v130 ([4, 5, 6]), .own (rI .i64) v128 r77.Shape, .own (rI .i64) v129 r77.Data, .lit (rI .i64) v127 ([1, 2]), .fz (rI .i64) v125 r75.Shape, .own (rI .i64) v126 r75.Data, .fz (rI .i64) v123 r74.Shape, .fz (rI .i64) v124 r74.Data, .lit (rI .i64) v122 ([1, 2, 3]), .fz (rI .i64) v120 r73.Shape, .fz (rI .i64) v121 r73.Data, .lit (rI .i64) v119 ([1, 2]), .own (rI .i64) v102 r61.Shape, .own (rI .i64) v103 r61.Data, .own (rI .i64) v95 r57.Shape, .own (rI .i64) v96 r57.Data, .own (rI .i64) v88 r53.Shape, .own (rI .i64) v89 r53.Data, .own (rI .i64) v81 r49.Shape, .own (rI .i64) v82 r49.Data, .own (rI .i64) v74 r45.Shape, .own (rI .i64) v75 r45.Data, .box b7 [.bool r27.Char, v46, v47], .fz (rI .i64) v46 r27.Shape, .own (rI .i64) v47 r27.Data, .box b6 [.bool r23.Char, v40, v41], .fz (rI .i64) v40 r23.Shape, .own (rI .i64) v41 r23.Data, .box b5 [.bool r61.Char, v102, v103], .box b4 [.bool r57.Char, v95, v96], .box b3 [.bool r53.Char, v88, v89], .box b2 [.bool r49.Char, v81, v82], .box b1 [.bool r75.Char, v125, v126]]) Fr := (hS.put rfl _).withK hI
   clear hI hw'
   obtain ⟨⟨r79, r80⟩, hx66, h0⟩ := bindS h0
   refine o_call (Pc := fun _ res H => ∃ v133 v134, res = .tuple #[.agg #[.bool r79.Char, v133, v134], .int .i64 r80] ∧ Kn wm H ([.own (rI .i64) v133 r79.Shape, .own (rI .i64) v134 r79.Data] ++ [.own (rI .i64) v131 r78.Shape, .own (rI .i64) v132 r78.Data, .lit (rI .i64) v130 ([4, 5, 6]), .own (rI .i64) v128 r77.Shape, .own (rI .i64) v129 r77.Data, .lit (rI .i64) v127 ([1, 2]), .fz (rI .i64) v125 r75.Shape, .own (rI .i64) v126 r75.Data, .fz (rI .i64) v123 r74.Shape, .fz (rI .i64) v124 r74.Data, .lit (rI .i64) v122 ([1, 2, 3]), .fz (rI .i64) v120 r73.Shape, .fz (rI .i64) v121 r73.Data, .lit (rI .i64) v119 ([1, 2]), .own (rI .i64) v102 r61.Shape, .own (rI .i64) v103 r61.Data, .own (rI .i64) v95 r57.Shape, .own (rI .i64) v96 r57.Data, .own (rI .i64) v88 r53.Shape, .own (rI .i64) v89 r53.Data, .own (rI .i64) v81 r49.Shape, .own (rI .i64) v82 r49.Data, .own (rI .i64) v74 r45.Shape, .own (rI .i64) v75 r45.Data, .box b7 [.bool r27.Char, v46, v47], .fz (rI .i64) v46 r27.Shape, .own (rI .i64) v47 r27.Data, .box b6 [.bool r23.Char, v40, v41], .fz (rI .i64) v40 r23.Shape, .own (rI .i64) v41 r23.Data, .box b5 [.bool r61.Char, v102, v103], .box b4 [.bool r57.Char, v95, v96], .box b3 [.bool r53.Char, v88, v89], .box b2 [.bool r49.Char, v81, v82], .box b1 [.bool r75.Char, v125, v126]]) Fr) hS (.inl rfl) rfl (fun wm' hw1 hw2 => by
    obtain ⟨F2, kk_1, kk_2⟩ := hS.inv.lendR (La := [.fz (rI .i64) v128 r77.Shape, .fz (rI .i64) v129 r77.Data, .fz (rI .i64) v131 r78.Shape, .fz (rI .i64) v132 r78.Data]) (List.forall_mem_cons.mpr ⟨(.inr ⟨_, _, _, _, rfl, .inl (List.mem_of_getElem? (i := 3) rfl)⟩), (List.forall_mem_cons.mpr ⟨(.inr ⟨_, _, _, _, rfl, .inl (List.mem_of_getElem? (i := 4) rfl)⟩), (List.forall_mem_cons.mpr ⟨(.inr ⟨_, _, _, _, rfl, .inl (List.mem_of_getElem? (i := 0) rfl)⟩), (List.forall_mem_cons.mpr ⟨(.inr ⟨_, _, _, _, rfl, .inl (List.mem_of_getElem? (i := 1) rfl)⟩), (fun _ h => by cases h)⟩)⟩)⟩)⟩) hw1 hw2
    exact (wk16  r77 r78 (-1)  v128 v129 v131 v132 kk_1 hx66).mono fun res H2 ⟨v133, v134, qq_1, qq_2⟩ => ⟨v133, v134, qq_1, kk_2 _ _ (List.forall_mem_cons.mpr ⟨⟨_, _, _, _, rfl, fun _ _ _ _ h => h⟩, (List.forall_mem_cons.mpr ⟨⟨_, _, _, _, rfl, fun _ _ _ _ h => h⟩, (fun _ h => by cases h)⟩)⟩) qq_2⟩) (fun wm' res H hw' hp => ?_)
   obtain ⟨v133, v134, hres, hI⟩ := hp
   replace hres := hres.symm; subst hres
   replace hS : S wm 294 _ H ((216, .tuple #[.agg #[.bool r79.Char, v133, v134], .int .i64 r80]) :: _) ([.own (rI .i64) v133 r79.Shape, .own (rI .i64) v134 r79.Data] ++ [.own (rI .i64) v131 r78.Shape, .own (rI .i64) v132 r78.Data, .lit (rI .i64) v130 ([4, 5, 6]), .own (rI .i64) v128 r77.Shape, .own (rI .i64) v129 r77.Data, .lit (rI .i64) v127 ([1, 2]), .fz (rI .i64) v125 r75.Shape, .own (rI .i64) v126 r75.Data, .fz (rI .i64) v123 r74.Shape, .fz (rI .i64) v124 r74.Data, .lit (rI .i64) v122 ([1, 2, 3]), .fz (rI .i64) v120 r73.Shape, .fz (rI .i64) v121 r73.Data, .lit (rI .i64) v119 ([1, 2]), .own (rI .i64) v102 r61.Shape, .own (rI .i64) v103 r61.Data, .own (rI .i64) v95 r57.Shape, .own (rI .i64) v96 r57.Data, .own (rI .i64) v88 r53.Shape, .own (rI .i64) v89 r53.Data, .own (rI .i64) v81 r49.Shape, .own (rI .i64) v82 r49.Data, .own (rI .i64) v74 r45.Shape, .own (rI .i64) v75 r45.Data, .box b7 [.bool r27.Char, v46, v47], .fz (rI .i64) v46 r27.Shape, .own (rI .i64) v47 r27.Data, .box b6 [.bool r23.Char, v40, v41], .fz (rI .i64) v40 r23.Shape, .own (rI .i64) v41 r23.Data, .box b5 [.bool r61.Char, v102, v103], .box b4 [.bool r57.Char, v95, v96], .box b3 [.bool r53.Char, v88, v89], .box b2 [.bool r49.Char, v81, v82], .box b1 [.bool r75.Char, v125, v126]]) Fr := (hS.put rfl _).withK hI
   clear hI hw'
   refine o_pure hS (.inl rfl) rfl rfl ?_; clear hS; try clear tm
   intro tm hS
   refine o_pure hS (.inl rfl) rfl rfl ?_; clear hS; try clear tm
   intro tm hS
   refine o_pure hS (.inl rfl) rfl rfl ?_; clear hS; try clear tm
   intro tm hS
   refine o_st (k := 35) hS (.inl rfl) rfl rfl rfl Fs25 rfl rfl (all_cons rfl (all_cons (hS.one (k := 0) rfl (.inr (.inl rfl))) (all_cons (hS.one (k := 1) rfl (.inr (.inl rfl))) all_nil))) rfl ?_; clear hS; try clear H
   intro H hS
   refine o_pure hS (.inl rfl) rfl rfl ?_; clear hS; try clear tm
   intro tm hS
   refine o_nil (hR _ _ ?_)
   clear hR R
   refine c_reg fun R hR => ?_
   obtain ⟨r81, hx67, h0⟩ := bindS h0
   refine o_call hS (.inl rfl) rfl (fun wm' hw1 hw2 => wk52  (-1)   (hS.sel hw2) hx67) (fun wm' res H hw' hp => ?_)
   obtain ⟨v135, v136, hres, hI⟩ := hp
   replace hres := hres.symm; subst hres
   replace hS : S wm 294 _ H ((220, .agg #[.bool r81.Char, v135, v136]) :: _) ([.own (rI .i64) v135 r81.Shape, .own (rI .i64) v136 r81.Data] ++ _) Fr := hS.after rfl hw' hI
   clear hI hw'
   obtain ⟨r82, hx68, h0⟩ := bindS h0
   refine o_call hS (.inl rfl) rfl (fun wm' hw1 hw2 => wk52  4   (hS.sel hw2) hx68) (fun wm' res H hw' hp => ?_)
   obtain ⟨v137, v138, hres, hI⟩ := hp
   replace hres := hres.symm; subst hres
   replace hS : S wm 294 _ H ((221, .agg #[.bool r82.Char, v137, v138]) :: _) ([.own (rI .i64) v137 r82.Shape, .own (rI .i64) v138 r82.Data] ++ _) Fr := hS.after rfl hw' hI
   clear hI hw'
   obtain ⟨⟨r83, r84⟩, hx69, h0⟩ := bindS h0
   refine o_call (Pc := fun _ res H => ∃ v139 v140, res = .tuple #[.agg #[.bool r83.Char, v139, v140], .int .i64 r84] ∧ Kn wm H ([.own (rI .i64) v139 r83.Shape, .own (rI .i64) v140 r83.Data] ++ [.own (rI .i64) v137 r82.Shape, .own (rI .i64) v138 r82.Data, .own (rI .i64) v135 r81.Shape, .own (rI .i64) v136 r81.Data, .own (rI .i64) v133 r79.Shape, .own (rI .i64) v134 r79.Data, .own (rI .i64) v131 r78.Shape, .own (rI .i64) v132 r78.Data, .lit (rI .i64) v130 ([4, 5, 6]), .own (rI .i64) v128 r77.Shape, .own (rI .i64) v129 r77.Data, .lit (rI .i64) v127 ([1, 2]), .fz (rI .i64) v125 r75.Shape, .own (rI .i64) v126 r75.Data, .fz (rI .i64) v123 r74.Shape, .fz (rI .i64) v124 r74.Data, .lit (rI .i64) v122 ([1, 2, 3]), .fz (rI .i64) v120 r73.Shape, .fz (rI .i64) v121 r73.Data, .lit (rI .i64) v119 ([1, 2]), .own (rI .i64) v102 r61.Shape, .own (rI .i64) v103 r61.Data, .own (rI .i64) v95 r57.Shape, .own (rI .i64) v96 r57.Data, .own (rI .i64) v88 r53.Shape, .own (rI .i64) v89 r53.Data, .own (rI .i64) v81 r49.Shape, .own (rI .i64) v82 r49.Data, .own (rI .i64) v74 r45.Shape, .own (rI .i64) v75 r45.Data, .box b7 [.bool r27.Char, v46, v47], .fz (rI .i64) v46 r27.Shape, .own (rI .i64) v47 r27.Data, .box b6 [.bool r23.Char, v40, v41], .fz (rI .i64) v40 r23.Shape, .own (rI .i64) v41 r23.Data, .box b5 [.bool r61.Char, v102, v103], .box b4 [.bool r57.Char, v95, v96], .box b3 [.bool r53.Char, v88, v89], .box b2 [.bool r79.Char, v133, v134], .box b1 [.bool r75.Char, v125, v126]]) Fr) hS (.inl rfl) rfl (fun wm' hw1 hw2 => by
    obtain ⟨F2, kk_1, kk_2⟩ := hS.inv.lendR (La := [.fz (rI .i64) v135 r81.Shape, .fz (rI .i64) v136 r81.Data, .fz (rI .i64) v137 r82.Shape, .fz (rI .i64) v138 r82.Data]) (List.forall_mem_cons.mpr ⟨(.inr ⟨_, _, _, _, rfl, .inl (List.mem_of_getElem? (i := 2) rfl)⟩), (List.forall_mem_cons.mpr ⟨(.inr ⟨_, _, _, _, rfl, .inl (List.mem_of_getElem? (i := 3) rfl)⟩), (List.forall_mem_cons.mpr ⟨(.inr ⟨_, _, _, _, rfl, .inl (List.mem_of_getElem? (i := 0) rfl)⟩), (List.forall_mem_cons.mpr ⟨(.inr ⟨_, _, _, _, rfl, .inl (List.mem_of_getElem? (i := 1) rfl)⟩), (fun _ h => by cases h)⟩)⟩)⟩)⟩) hw1 hw2
    exact (wk16  r81 r82 (-1)  v135 v136 v137 v138 kk_1 hx69).mono fun res H2 ⟨v139, v140, qq_1, qq_2⟩ => ⟨v139, v140, qq_1, kk_2 _ _ (List.forall_mem_cons.mpr ⟨⟨_, _, _, _, rfl, fun _ _ _ _ h => h⟩, (List.forall_mem_cons.mpr ⟨⟨_, _, _, _, rfl, fun _ _ _ _ h => h⟩, (fun _ h => by cases h)⟩)⟩) qq_2⟩) (fun wm' res H hw' hp => ?_)
   obtain ⟨v139, v140, hres, hI⟩ := hp
   replace hres := hres.symm; subst hres
   replace hS : S wm 294 _ H ((222, .tuple #[.agg #[.bool r83.Char, v139, v140], .int .i64 r84]) :: _) ([.own (rI .i64) v139 r83.Shape, .own (rI .i64) v140 r83.Data] ++ [.own (rI .i64) v137 r82.Shape, .own (rI .i64) v138 r82.Data, .own (rI .i64) v135 r81.Shape, .own (rI .i64) v136 r81.Data, .own (rI .i64) v133 r79.Shape, .own (rI .i64) v134 r79.Data, .own (rI .i64) v131 r78.Shape, .own (rI .i64) v132 r78.Data, .lit (rI .i64) v130 ([4, 5, 6]), .own (rI .i64) v128 r77.Shape, .own (rI .i64) v129 r77.Data, .lit (rI .i64) v127 ([1, 2]), .fz (rI .i64) v125 r75.Shape, .own (rI .i64) v126 r75.Data, .fz (rI .i64) v123 r74.Shape, .fz (rI .i64) v124 r74.Data, .lit (rI .i64) v122 ([1, 2, 3]), .fz (rI .i64) v120 r73.Shape, .fz (rI .i64) v121 r73.Data, .lit (rI .i64) v119 ([1, 2]), .own (rI .i64) v102 r61.Shape, .own (rI .i64) v103 r61.Data, .own (rI .i64) v95 r57.Shape, .own (rI .i64) v96 r57.Data, .own (rI .i64) v88 r53.Shape, .own (rI .i64) v89 r53.Data, .own (rI .i64) v81 r49.Shape, .own (rI .i64) v82 r49.Data, .own (rI .i64) v74 r45.Shape, .own (rI .i64) v75 r45.Data, .box b7 [.bool r27.Char, v46, v47], .fz (rI .i64) v46 r27.Shape, .own (rI .i64) v47 r27.Data, .box b6 [.bool r23.Char, v40, v41], .fz (rI .i64) v40 r23.Shape, .own (rI .i64) v41 r23.Data, .box b5 [.bool r61.Char, v102, v103], .box b4 [.bool r57.Char, v95, v96], .box b3 [.bool r53.Char, v88, v89], .box b2 [.bool r79.Char, v133, v134], .box b1 [.bool r75.Char, v125, v126]]) Fr := (hS.put rfl _).withK hI
   clear hI hw'
   refine o_pure hS (.inl rfl) rfl rfl ?_; clear hS; try clear tm
   intro tm hS
   refine o_pure hS (.inl rfl) rfl rfl ?_; clear hS; try clear tm
   intro tm hS
   refine o_pure hS (.inl rfl) rfl rfl ?_; clear hS; try clear tm
   intro tm hS
   refine o_st (k := 40) hS (.inl rfl) rfl rfl rfl Fs25 rfl rfl (all_cons rfl (all_cons (hS.one (k := 0) rfl (.inr (.inl rfl))) (all_cons (hS.one (k := 1) rfl (.inr (.inl rfl))) all_nil))) rfl ?_; clear hS; try clear H
   intro H hS
   refine o_pure hS (.inl rfl) rfl rfl ?_; clear hS; try clear tm
   intro tm hS
   refine o_nil (hR _ _ ?_)
   clear hR R
   refine c_reg fun R hR => ?_
   obtain ⟨r85, hx70, h0⟩ := bindS h0
   refine o_call hS (.inl rfl) rfl (fun wm' hw1 hw2 => wk52  2   (hS.sel hw2) hx70) (fun wm' res H hw' hp => ?_)
   obtain ⟨v141, v142, hres, hI⟩ := hp
   replace hres := hres.symm; subst hres
   replace hS : S wm 294 _ H ((226, .agg #[.bool r85.Char, v141, v142]) :: _) ([.own (rI .i64) v141 r85.Shape, .own (rI .i64) v142 r85.Data] ++ _) Fr := hS.after rfl hw' hI
   clear hI hw'
   obtain ⟨r86, hx71, h0⟩ := bindS h0
   refine o_call hS (.inl rfl) rfl (fun wm' hw1 hw2 => wk52  4   (hS.sel hw2) hx71) (fun wm' res H hw' hp => ?_)
   obtain ⟨v143, v144, hres, hI⟩ := hp
   replace hres := hres.symm; subst hres
   replace hS : S wm 294 _ H ((227, .agg #[.bool r86.Char, v143, v144]) :: _) ([.own (rI .i64) v143 r86.Shape, .own (rI .i64) v144 r86.Data] ++ _) Fr := hS.after rfl hw' hI
   clear hI hw'
   obtain ⟨⟨r87, r88⟩, hx72, h0⟩ := bindS h0
   refine o_call (Pc := fun _ res H => ∃ v145 v146, res = .tuple #[.agg #[.bool r87.Char, v145, v146], .int .i64 r88] ∧ Kn wm H ([.own (rI .i64) v145 r87.Shape, .own (rI .i64) v146 r87.Data] ++ [.own (rI .i64) v143 r86.Shape, .own (rI .i64) v144 r86.Data, .own (rI .i64) v141 r85.Shape, .own (rI .i64) v142 r85.Data, .own (rI .i64) v139 r83.Shape, .own (rI .i64) v140 r83.Data, .own (rI .i64) v137 r82.Shape, .own (rI .i64) v138 r82.Data, .own (rI .i64) v135 r81.Shape, .own (rI .i64) v136 r81.Data, .own (rI .i64) v133 r79.Shape, .own (rI .i64) v134 r79.Data, .own (rI .i64) v131 r78.Shape, .own (rI .i64) v132 r78.Data, .lit (rI .i64) v130 ([4, 5, 6]), .own (rI .i64) v128 r77.Shape, .own (rI .i64) v129 r77.Data, .lit (rI .i64) v127 ([1, 2]), .fz (rI .i64) v125 r75.Shape, .own (rI .i64) v126 r75.Data, .fz (rI .i64) v123 r74.Shape, .fz (rI .i64) v124 r74.Data, .lit (rI .i64) v122 ([1, 2, 3]), .fz (rI .i64) v120 r73.Shape, .fz (rI .i64) v121 r73.Data, .lit (rI .i64) v119 ([1, 2]), .own (rI .i64) v102 r61.Shape, .own (rI .i64) v103 r61.Data, .own (rI .i64) v95 r57.Shape, .own (rI .i64) v96 r57.Data, .own (rI .i64) v88 r53.Shape, .own (rI .i64) v89 r53.Data, .own (rI .i64) v81 r49.Shape, .own (rI .i64) v82 r49.Data, .own (rI .i64) v74 r45.Shape, .own (rI .i64) v75 r45.Data, .box b7 [.bool r27.Char, v46, v47], .fz (rI .i64) v46 r27.Shape, .own (rI .i64) v47 r27.Data, .box b6 [.bool r23.Char, v40, v41], .fz (rI .i64) v40 r23.Shape, .own (rI .i64) v41 r23.Data, .box b5 [.bool r61.Char, v102, v103], .box b4 [.bool r57.Char, v95, v96], .box b3 [.bool r83.Char, v139, v140], .box b2 [.bool r79.Char, v133, v134], .box b1 [.bool r75.Char, v125, v126]]) Fr) hS (.inl rfl) rfl (fun wm' hw1 hw2 => by
    obtain ⟨F2, kk_1, kk_2⟩ := hS.inv.lendR (La := [.fz (rI .i64) v141 r85.Shape, .fz (rI .i64) v142 r85.Data, .fz (rI .i64) v143 r86.Shape, .fz (rI .i64) v144 r86.Data]) (List.forall_mem_cons.mpr ⟨(.inr ⟨_, _, _, _, rfl, .inl (List.mem_of_getElem? (i := 2) rfl)⟩), (List.forall_mem_cons.mpr ⟨(.inr ⟨_, _, _, _, rfl, .inl (List.mem_of_getElem? (i := 3) rfl)⟩), (List.forall_mem_cons.mpr ⟨(.inr ⟨_, _, _, _, rfl, .inl (List.mem_of_getElem? (i := 0) rfl)⟩), (List.forall_mem_cons.mpr ⟨(.inr ⟨_, _, _, _, rfl, .inl (List.mem_of_getElem? (i := 1) rfl)⟩), (fun _ h => by cases h)⟩)⟩)⟩)⟩) hw1 hw2
    exact (wk18  r85 r86 (-1)  v141 v142 v143 v144 kk_1 hx72).mono fun res H2 ⟨v145, v146, qq_1, qq_2⟩ => ⟨v145, v146, qq_1, kk_2 _ _ (List.forall_mem_cons.mpr ⟨⟨_, _, _, _, rfl, fun _ _ _ _ h => h⟩, (List.forall_mem_cons.mpr ⟨⟨_, _, _, _, rfl, fun _ _ _ _ h => h⟩, (fun _ h => by cases h)⟩)⟩) qq_2⟩) (fun wm' res H hw' hp => ?_)
   obtain ⟨v145, v146, hres, hI⟩ := hp
   replace hres := hres.symm; subst hres
   replace hS : S wm 294 _ H ((228, .tuple #[.agg #[.bool r87.Char, v145, v146], .int .i64 r88]) :: _) ([.own (rI .i64) v145 r87.Shape, .own (rI .i64) v146 r87.Data] ++ [.own (rI .i64) v143 r86.Shape, .own (rI .i64) v144 r86.Data, .own (rI .i64) v141 r85.Shape, .own (rI .i64) v142 r85.Data, .own (rI .i64) v139 r83.Shape, .own (rI .i64) v140 r83.Data, .own (rI .i64) v137 r82.Shape, .own (rI .i64) v138 r82.Data, .own (rI .i64) v135 r81.Shape, .own (rI .i64) v136 r81.Data, .own (rI .i64) v133 r79.Shape, .own (rI .i64) v134 r79.Data, .own (rI .i64) v131 r78.Shape, .own (rI .i64) v132 r78.Data, .lit (rI .i64) v130 ([4, 5, 6]), .own (rI .i64) v128 r77.Shape, .own (rI .i64) v129 r77.Data, .lit (rI .i64) v127 ([1, 2]), .fz (rI .i64) v125 r75.Shape, .own (rI .i64) v126 r75.Data, .fz (rI .i64) v123 r74.Shape, .fz (rI .i64) v124 r74.Data, .lit (rI .i64) v122 ([1, 2, 3]), .fz (rI .i64) v120 r73.Shape, .fz (rI .i64) v121 r73.Data, .lit (rI .i64) v119 ([1, 2]), .own (rI .i64) v102 r61.Shape, .own (rI .i64) v103 r61.Data, .own (rI .i64) v95 r57.Shape, .own (rI .i64) v96 r57.Data, .own (rI .i64) v88 r53.Shape, .own (rI .i64) v89 r53.Data, .own (rI .i64) v81 r49.Shape, .own (rI .i64) v82 r49.Data, .own (rI .i64) v74 r45.Shape, .own (rI .i64) v75 r45.Data, .box b7 [.bool r27.Char, v46, v47], .fz (rI .i64) v46 r27.Shape, .own (rI .i64) v47 r27.Data, .box b6 [.bool r23.Char, v40, v41], .fz (rI .i64) v40 r23.Shape, .own (rI .i64) v41 r23.Data, .box b5 [.bool r61.Char, v102, v103], .box b4 [.bool r57.Char, v95, v96], .box b3 [.bool r83.Char, v139, v140], .box b2 [.bool r79.Char, v133, v134], .box b1 [.bool r75.Char, v125, v126]]) Fr := (hS.put rfl _).withK hI
   clear hI hw'
   refine o_pure hS (.inl rfl) rfl rfl ?_; clear hS; try clear tm
   intro tm hS
   refine o_pure hS (.inl rfl) rfl rfl ?_; clear hS; try clear tm
   intro tm hS
   refine o_pure hS (.inl rfl) rfl rfl ?_; clear hS; try clear tm
   intro tm hS
   refine o_st (k := 45) hS (.inl rfl) rfl rfl rfl Fs25 rfl rfl (all_cons rfl (all_cons (hS.one (k := 0) rfl (.inr (.inl rfl))) (all_cons (hS.one (k := 1) rfl (.inr (.inl rfl))) all_nil))) rfl ?_; clear hS; try clear H
   intro H hS
   refine o_pure hS (.inl rfl) rfl rfl ?_; clear hS; try clear tm
   intro tm hS
   refine o_nil (hR _ _ ?_)
   clear hR R
   refine c_reg fun R hR => ?_
   obtain ⟨r89, hx73, h0⟩ := bindS h0
   refine o_call hS (.inl rfl) rfl (fun wm' hw1 hw2 => wk52  1   (hS.sel hw2) hx73) (fun wm' res H hw' hp => ?_)
   obtain ⟨v147, v148, hres, hI⟩ := hp
   replace hres := hres.symm; subst hres
   replace hS : S wm 294 _ H ((232, .agg #[.bool r89.Char, v147, v148]) :: _) ([.own (rI .i64) v147 r89.Shape, .own (rI .i64) v148 r89.Data] ++ _) Fr := hS.after rfl hw' hI
   clear hI hw'
   refine o_lit (r := (rI .i64)) (l := [4, 5]) hS (.inl rfl) rfl Fl23 rfl rfl rfl (.cons rfl (.cons rfl .nil)) rfl rfl (ri_1 (rd_flat fun _ => rfl) (ri_1 (rd_flat fun _ => rfl) ri_nil)) rfl ?_; clear hS; try clear tm H
   intro v149 tm H hS
   obtain ⟨r90, hx74, h0⟩ := bindS h0
   refine o_call (Pc := fun _ res H => ∃ v150 v151, res = .agg #[.bool r90.Char, v150, v151] ∧ Kn wm H ([.own (rI .i64) v150 r90.Shape, .own (rI .i64) v151 r90.Data] ++ [.lit (rI .i64) v149 ([4, 5]), .own (rI .i64) v147 r89.Shape, .own (rI .i64) v148 r89.Data, .own (rI .i64) v145 r87.Shape, .own (rI .i64) v146 r87.Data, .own (rI .i64) v143 r86.Shape, .own (rI .i64) v144 r86.Data, .own (rI .i64) v141 r85.Shape, .own (rI .i64) v142 r85.Data, .own (rI .i64) v139 r83.Shape, .own (rI .i64) v140 r83.Data, .own (rI .i64) v137 r82.Shape, .own (rI .i64) v138 r82.Data, .own (rI .i64) v135 r81.Shape, .own (rI .i64) v136 r81.Data, .own (rI .i64) v133 r79.Shape, .own (rI .i64) v134 r79.Data, .own (rI .i64) v131 r78.Shape, .own (rI .i64) v132 r78.Data, .lit (rI .i64) v130 ([4, 5, 6]), .own (rI .i64) v128 r77.Shape, .own (rI .i64) v129 r77.Data, .lit (rI .i64) v127 ([1, 2]), .fz (rI .i64) v125 r75.Shape, .own (rI .i64) v126 r75.Data, .fz (rI .i64) v123 r74.Shape, .fz (rI .i64) v124 r74.Data, .lit (rI .i64) v122 ([1, 2, 3]), .fz (rI .i64) v120 r73.Shape, .fz (rI .i64) v121 r73.Data, .lit (rI .i64) v119 ([1, 2]), .own (rI .i64) v102 r61.Shape, .own (rI .i64) v103 r61.Data, .own (rI .i64) v95 r57.Shape, .own (rI .i64) v96 r57.Data, .own (rI .i64) v88 r53.Shape, .own (rI .i64) v89 r53.Data, .own (rI .i64) v81 r49.Shape, .own (rI .i64) v82 r49.Data, .own (rI .i64) v74 r45.Shape, .own (rI .i64) v75 r45.Data, .box b7 [.bool r27.Char, v46, v47], .fz (rI .i64) v46 r27.Shape, .own (rI .i64) v47 r27.Data, .box b6 [.bool r23.Char, v40, v41], .fz (rI .i64) v40 r23.Shape, .own (rI .i64) v41 r23.Data, .box b5 [.bool r61.Char, v102, v103], .box b4 [.bool r87.Char, v145, v146], .box b3 [.bool r83.Char, v139, v140], .box b2 [.bool r79.Char, v133, v134], .box b1 [.bool r75.Char, v125, v126]]) Fr) hS (.inl rfl) rfl (fun wm' hw1 hw2 => by
    obtain ⟨F2, kk_1, kk_2⟩ := hS.inv.lendR (La := [.fz (rI .i64) v149 ([4, 5])]) (List.forall_mem_cons.mpr ⟨(.inr ⟨_, _, _, _, rfl, .inr (List.mem_of_getElem? (i := 0) rfl)⟩), (fun _ h => by cases h)⟩) hw1 hw2
    exact (wk53  ([4, 5])  v149 kk_1 hx74).mono fun res H2 ⟨v150, v151, qq_1, qq_2⟩ => ⟨v150, v151, qq_1, kk_2 _ _ (List.forall_mem_cons.mpr ⟨⟨_, _, _, _, rfl, fun _ _ _ _ h => h⟩, (List.forall_mem_cons.mpr ⟨⟨_, _, _, _, rfl, fun _ _ _ _ h => h⟩, (fun _ h => by cases h)⟩)⟩) qq_2⟩) (fun wm' res H hw' hp => ?_)
   obtain ⟨v150, v151, hres, hI⟩ := hp
   replace hres := hres.symm; subst hres
   replace hS : S wm 294 _ H ((234, .agg #[.bool r90.Char, v150, v151]) :: _) ([.own (rI .i64) v150 r90.Shape, .own (rI .i64) v151 r90.Data] ++ [.lit (rI .i64) v149 ([4, 5]), .own (rI .i64) v147 r89.Shape, .own (rI .i64) v148 r89.Data, .own (rI .i64) v145 r87.Shape, .own (rI .i64) v146 r87.Data, .own (rI .i64) v143 r86.Shape, .own (rI .i64) v144 r86.Data, .own (rI .i64) v141 r85.Shape, .own (rI .i64) v142 r85.Data, .own (rI .i64) v139 r83.Shape, .own (rI .i64) v140 r83.Data, .own (rI .i64) v137 r82.Shape, .own (rI .i64) v138 r82.Data, .own (rI .i64) v135 r81.Shape, .own (rI .i64) v136 r81.Data, .own (rI .i64) v133 r79.Shape, .own (rI .i64) v134 r79.Data, .own (rI .i64) v131 r78.Shape, .own (rI .i64) v132 r78.Data, .lit (rI .i64) v130 ([4, 5, 6]), .own (rI .i64) v128 r77.Shape, .own (rI .i64) v129 r77.Data, .lit (rI .i64) v127 ([1, 2]), .fz (rI .i64) v125 r75.Shape, .own (rI .i64) v126 r75.Data, .fz (rI .i64) v123 r74.Shape, .fz (rI .i64) v124 r74.Data, .lit (rI .i64) v122 ([1, 2, 3]), .fz (rI .i64) v120 r73.Shape, .fz (rI .i64) v121 r73.Data, .lit (rI .i64) v119 ([1, 2]), .own (rI .i64) v102 r61.Shape, .own (rI .i64) v103 r61.Data, .own (rI .i64) v95 r57.Shape, .own (rI .i64) v96 r57.Data, .own (rI .i64) v88 r53.Shape, .own (rI .i64) v89 r53.Data, .own (rI .i64) v81 r49.Shape, .own (rI .i64) v82 r49.Data, .own (rI .i64) v74 r45.Shape, .own (rI .i64) v75 r45.Data, .box b7 [.bool r27.Char, v46, v47], .fz (rI .i64) v46 r27.Shape, .own (rI .i64) v47 r27.Data, .box b6 [.bool r23.Char, v40, v41], .fz (rI .i64) v40 r23.Shape, .own (rI .i64) v41 r23.Data, .box b5 [.bool r61.Char, v102, v103], .box b4 [.bool r87.Char, v145, v146], .box b3 [.bool r83.Char, v139, v140], .box b2 [.bool r79.Char, v133, v134], .box b1 [.bool r75.Char, v125, v126]]) Fr := (hS.put rfl _).withK hI
   clear hI hw'
   obtain ⟨⟨r91, r92⟩, hx75, h0⟩ := bindS h0
   refine o_call (Pc := fun _ res H => ∃ v152 v153, res = .tuple #[.agg #[.bool r91.Char, v152, v153], .int .i64 r92] ∧ Kn wm H ([.own (rI .i64) v152 r91.Shape, .own (rI .i64) v153 r91.Data] ++ [.own (rI .i64) v150 r90.Shape, .own (rI .i64) v151 r90.Data, .lit (rI .i64) v149 ([4, 5]), .own (rI .i64) v147 r89.Shape, .own (rI .i64) v148 r89.Data, .own (rI .i64) v145 r87.Shape, .own (rI .i64) v146 r87.Data, .own (rI .i64) v143 r86.Shape, .own (rI .i64) v144 r86.Data, .own (rI .i64) v141 r85.Shape, .own (rI .i64) v142 r85.Data, .own (rI .i64) v139 r83.Shape, .own (rI .i64) v140 r83.Data, .own (rI .i64) v137 r82.Shape, .own (rI .i64) v138 r82.Data, .own (rI .i64) v135 r81.Shape, .own (rI .i64) v136 r81.Data, .own (rI .i64) v133 r79.Shape, .own (rI .i64) v134 r79.Data, .own (rI .i64) v131 r78.Shape, .own (rI .i64) v132 r78.Data, .lit (rI .i64) v130 ([4, 5, 6]), .own (rI .i64) v128 r77.Shape, .own (rI .i64) v129 r77.Data, .lit (rI .i64) v127 ([1, 2]), .fz (rI .i64) v125 r75.Shape, .own (rI .i64) v126 r75.Data, .fz (rI .i64) v123 r74.Shape, .fz (rI .i64) v124 r74.Data, .lit (rI .i64) v122 ([1, 2, 3]), .fz (rI .i64) v120 r73.Shape, .fz (rI .i64) v121 r73.Data, .lit (rI .i64) v119 ([1, 2]), .own (rI .i64) v102 r61.Shape, .own (rI .i64) v103 r61.Data, .own (rI .i64) v95 r57.Shape, .own (rI .i64) v96 r57.Data, .own (rI .i64) v88 r53.Shape, .own (rI .i64) v89 r53.Data, .own (rI .i64) v81 r49.Shape, .own (rI .i64) v82 r49.Data, .own (rI .i64) v74 r45.Shape, .own (rI .i64) v75 r45.Data, .box b7 [.bool r27.Char, v46, v47], .fz (rI .i64) v46 r27.Shape, .own (rI .i64) v47 r27.Data, .box b6 [.bool r23.Char, v40, v41], .fz (rI .i64) v40 r23.Shape, .own (rI .i64) v41 r23.Data, .box b5 [.bool r61.Char, v102, v103], .box b4 [.bool r87.Char, v145, v146], .box b3 [.bool r83.Char, v139, v140], .box b2 [.bool r79.Char, v133, v134], .box b1 [.bool r75.Char, v125, v126]]) Fr) hS (.inl rfl) rfl (fun wm' hw1 hw2 => by
    obtain ⟨F2, kk_1, kk_2⟩ := hS.inv.lendR (La := [.fz (rI .i64) v147 r89.Shape, .fz (rI .i64) v148 r89.Data, .fz (rI .i64) v150 r90.Shape, .fz (rI .i64) v151 r90.Data]) (List.forall_mem_cons.mpr ⟨(.inr ⟨_, _, _, _, rfl, .inl (List.mem_of_getElem? (i := 3) rfl)⟩), (List.forall_mem_cons.mpr ⟨(.inr ⟨_, _, _, _, rfl, .inl (List.mem_of_getElem? (i := 4) rfl)⟩), (List.forall_mem_cons.mpr ⟨(.inr ⟨_, _, _, _, rfl, .inl (List.mem_of_getElem? (i := 0) rfl)⟩), (List.forall_mem_cons.mpr ⟨(.inr ⟨_, _, _, _, rfl, .inl (List.mem_of_getElem? (i := 1) rfl)⟩), (fun _ h => by cases h)⟩)⟩)⟩)⟩) hw1 hw2
    exact (wk16  r89 r90 1  v147 v148 v150 v151 kk_1 hx75).mono fun res H2 ⟨v152, v153, qq_1, qq_2⟩ => ⟨v152, v153, qq_1, kk_2 _ _ (List.forall_mem_cons.mpr ⟨⟨_, _, _, _, rfl, fun _ _ _ _ h => h⟩, (List.forall_mem_cons.mpr ⟨⟨_, _, _, _, rfl, fun _ _ _ _ h => h⟩, (fun _ h => by cases h)⟩)⟩) qq_2⟩) (fun wm' res H hw' hp => ?_)
   obtain ⟨v152, v153, hres, hI⟩ := hp
   replace hres := hres.symm; subst hres
   replace hS : S wm 294 _ H ((235, .tuple #[.agg #[.bool r91.Char, v152, v153], .int .i64 r92]) :: _) ([.own (rI .i64) v152 r91.Shape, .own (rI .i64) v153 r91.Data] ++ [.own (rI .i64) v150 r90.Shape, .own (rI .i64) v151 r90.Data, .lit (rI .i64) v149 ([4, 5]), .own (rI .i64) v147 r89.Shape, .own (rI .i64) v148 r89.Data, .own (rI .i64) v145 r87.Shape, .own (rI .i64) v146 r87.Data, .own (rI .i64) v143 r86.Shape, .own (rI .i64) v144 r86.Data, .own (rI .i64) v141 r85.Shape, .own (rI .i64) v142 r85.Data, .own (rI .i64) v139 r83.Shape, .own (rI .i64) v140 r83.Data, .own (rI .i64) v137 r82.Shape, .own (rI .i64) v138 r82.Data, .own (rI .i64) v135 r81.Shape, .own (rI .i64) v136 r81.Data, .own (rI .i64) v133 r79.Shape, .own (rI .i64) v134 r79.Data, .own (rI .i64) v131 r78.Shape, .own (rI .i64) v132 r78.Data, .lit (rI .i64) v130 ([4, 5, 6]), .own (rI .i64) v128 r77.Shape, .own (rI .i64) v129 r77.Data, .lit (rI .i64) v127 ([1, 2]), .fz (rI .i64) v125 r75.Shape, .own (rI .i64) v126 r75.Data, .fz (rI .i64) v123 r74.Shape, .fz (rI .i64) v124 r74.Data, .lit (rI .i64) v122 ([1, 2, 3]), .fz (rI .i64) v120 r73.Shape, .fz (rI .i64) v121 r73.Data, .lit (rI .i64) v119 ([1, 2]), .own (rI .i64) v102 r61.Shape, .own (rI .i64) v103 r61.Data, .own (rI .i64) v95 r57.Shape, .own (rI .i64) v96 r57.Data, .own (rI .i64) v88 r53.Shape, .own (rI .i64) v89 r53.Data, .own (rI .i64) v81 r49.Shape, .own (rI .i64) v82 r49.Data, .own (rI .i64) v74 r45.Shape, .own (rI .i64) v75 r45.Data, .box b7 [.bool r27.Char, v46, v47], .fz (rI .i64) v46 r27.Shape, .own (rI .i64) v47 r27.Data, .box b6 [.bool r23.Char, v40, v41], .fz (rI .i64) v40 r23.Shape, .own (rI .i64) v41 r23.Data, .box b5 [.bool r61.Char, v102, v103], .box b4 [.bool r87.Char, v145, v146], .box b3 [.bool r83.Char, v139, v140], .box b2 [.bool r79.Char, v133, v134], .box b1 [.bool r75.Char, v125, v126]]) Fr := (hS.put rfl _).withK hI
   clear hI hw'
   refine o_pure hS (.inl rfl) rfl rfl ?_; clear hS; try clear tm
   intro tm hS
   refine o_pure hS (.inl rfl) rfl rfl ?_; clear hS; try clear tm
   intro tm hS
   refine o_pure hS (.inl rfl) rfl rfl ?_; clear hS; try clear tm
   intro tm hS
   refine o_st (k := 51) hS (.inl rfl) rfl rfl rfl Fs25 rfl rfl (all_cons rfl (all_cons (hS.one (k := 0) rfl (.inr (.inl rfl))) (all_cons (hS.one (k := 1) rfl (.inr (.inl rfl))) all_nil))) rfl ?_; clear hS; try clear H
   intro H hS
   refine o_pure hS (.inl rfl) rfl rfl ?_; clear hS; try clear tm
   intro tm hS
   refine o_nil (hR _ _ ?_)
   clear hR R
   refine c_reg fun R hR => ?_
   obtain ⟨r93, hx76, h0⟩ := bindS h0
   refine o_call hS (.inl rfl) rfl (fun wm' hw1 hw2 => wk52  (-9223372036854775808)   (hS.sel hw2) hx76) (fun wm' res H hw' hp => ?_)
   obtain ⟨v154, v155, hres, hI⟩ := hp
   replace hres := hres.symm; subst hres
   replace hS : S wm 294 _ H ((239, .agg #[.bool r93.Char, v154, v155]) :: _) ([.own (rI .i64) v154 r93.Shape, .own (rI .i64) v155 r93.Data] ++ _) Fr := hS.after rfl hw' hI
   clear hI hw'
   refine o_lit (r := (rI .i64)) (l := [1]) hS (.inl rfl) rfl Fl23 rfl rfl rfl (.cons rfl .nil) rfl rfl (ri_1 (rd_flat fun _ => rfl) ri_nil) rfl ?_; clear hS; try clear tm H
   intro v156 tm H hS
   obtain ⟨r94, hx77, h0⟩ := bindS h0
   refine o_call (Pc := fun _ res H => ∃ v157 v158, res = .agg #[.bool r94.Char, v157, v158] ∧ Kn wm H ([.own (rI .i64) v157 r94.Shape, .own (rI .i64) v158 r94.Data] ++ [.lit (rI .i64) v156 ([1]), .own (rI .i64) v154 r93.Shape, .own (rI .i64) v155 r93.Data, .own (rI .i64) v152 r91.Shape, .own (rI .i64) v153 r91.Data, .own (rI .i64) v150 r90.Shape, .own (rI .i64) v151 r90.Data, .lit (rI .i64) v149 ([4, 5]), .own (rI .i64) v147 r89.Shape, .own (rI .i64) v148 r89.Data, .own (rI .i64) v145 r87.Shape, .own (rI .i64) v146 r87.Data, .own (rI .i64) v143 r86.Shape, .own (rI .i64) v144 r86.Data, .own (rI .i64) v141 r85.Shape, .own (rI .i64) v142 r85.Data, .own (rI .i64) v139 r83.Shape, .own (rI .i64) v140 r83.Data, .own (rI .i64) v137 r82.Shape, .own (rI .i64) v138 r82.Data, .own (rI .i64) v135 r81.Shape, .own (rI .i64) v136 r81.Data, .own (rI .i64) v133 r79.Shape, .own (rI .i64) v134 r79.Data, .own (rI .i64) v131 r78.Shape, .own (rI .i64) v132 r78.Data, .lit (rI .i64) v130 ([4, 5, 6]), .own (rI .i64) v128 r77.Shape, .own (rI .i64) v129 r77.Data, .lit (rI .i64) v127 ([1, 2]), .fz (rI .i64) v125 r75.Shape, .own (rI .i64) v126 r75.Data, .fz (rI .i64) v123 r74.Shape, .fz (rI .i64) v124 r74.Data, .lit (rI .i64) v122 ([1, 2, 3]), .fz (rI .i64) v120 r73.Shape, .fz (rI .i64) v121 r73.Data, .lit (rI .i64) v119 ([1, 2]), .own (rI .i64) v102 r61.Shape, .own (rI .i64) v103 r61.Data, .own (rI .i64) v95 r57.Shape, .own (rI .i64) v96 r57.Data, .own (rI .i64) v88 r53.Shape, .own (rI .i64) v89 r53.Data, .own (rI .i64) v81 r49.Shape, .own (rI .i64) v82 r49.Data, .own (rI .i64) v74 r45.Shape, .own (rI .i64) v75 r45.Data, .box b7 [.bool r27.Char, v46, v47], .fz (rI .i64) v46 r27.Shape, .own (rI .i64) v47 r27.Data, .box b6 [.bool r23.Char, v40, v41], .fz (rI .i64) v40 r23.Shape, .own (rI .i64) v41 r23.Data, .box b5 [.bool r91.Char, v152, v153], .box b4 [.bool r87.Char, v145, v146], .box b3 [.bool r83.Char, v139, v140], .box b2 [.bool r79.Char, v133, v134], .box b1 [.bool r75.Char, v125, v126]]) Fr) hS (.inl rfl) rfl (fun wm' hw1 hw2 => by
    obtain ⟨F2, kk_1, kk_2⟩ := hS.inv.lendR (La := [.fz (rI .i64) v156 ([1])]) (List.forall_mem_cons.mpr ⟨(.inr ⟨_, _, _, _, rfl, .inr (List.mem_of_getElem? (i := 0) rfl)⟩), (fun _ h => by cases h)⟩) hw1 hw2
    exact (wk53  ([1])  v156 kk_1 hx77).mono fun res H2 ⟨v157, v158, qq_1, qq_2⟩ => ⟨v157, v158, qq_1, kk_2 _ _ (List.forall_mem_cons.mpr ⟨⟨_, _, _, _, rfl, fun _ _ _ _ h => h⟩, (List.forall_mem_cons.mpr ⟨⟨_, _, _, _, rfl, fun _ _ _ _ h => h⟩, (fun _ h => by cases h)⟩)⟩) qq_2⟩) (fun wm' res H hw' hp => ?_)
   obtain ⟨v157, v158, hres, hI⟩ := hp
   replace hres := hres.symm; subst hres
   replace hS : S wm 294 _ H ((241, .agg #[.bool r94.Char, v157, v158]) :: _) ([.own (rI .i64) v157 r94.Shape, .own (rI .i64) v158 r94.Data] ++ [.lit (rI .i64) v156 ([1]), .own (rI .i64) v154 r93.Shape, .own (rI .i64) v155 r93.Data, .own (rI .i64) v152 r91.Shape, .own (rI .i64) v153 r91.Data, .own (rI .i64) v150 r90.Shape, .own (rI .i64) v151 r90.Data, .lit (rI .i64) v149 ([4, 5]), .own (rI .i64) v147 r89.Shape, .own (rI .i64) v148 r89.Data, .own (rI .i64) v145 r87.Shape, .own (rI .i64) v146 r87.Data, .own (rI .i64) v143 r86.Shape, .own (rI .i64) v144 r86.Data, .own (rI .i64) v141 r85.Shape, .own (rI .i64) v142 r85.Data, .own (rI .i64) v139 r83.Shape, .own (rI .i64) v140 r83.Data, .own (rI .i64) v137 r82.Shape, .own (rI .i64) v138 r82.Data, .own (rI .i64) v135 r81.Shape, .own (rI .i64) v136 r81.Data, .own (rI .i64) v133 r79.Shape, .own (rI .i64) v134 r79.Data, .own (rI .i64) v131 r78.Shape, .own (rI .i64) v132 r78.Data, .lit (rI .i64) v130 ([4, 5, 6]), .own (rI .i64) v128 r77.Shape, .own (rI .i64) v129 r77.Data, .lit (rI .i64) v127 ([1, 2]), .fz (rI .i64) v125 r75.Shape, .own (rI .i64) v126 r75.Data, .fz (rI .i64) v123 r74.Shape, .fz (rI .i64) v124 r74.Data, .lit (rI .i64) v122 ([1, 2, 3]), .fz (rI .i64) v120 r73.Shape, .fz (rI .i64) v121 r73.Data, .lit (rI .i64) v119 ([1, 2]), .own (rI .i64) v102 r61.Shape, .own (rI .i64) v103 r61.Data, .own (rI .i64) v95 r57.Shape, .own (rI .i64) v96 r57.Data, .own (rI .i64) v88 r53.Shape, .own (rI .i64) v89 r53.Data, .own (rI .i64) v81 r49.Shape, .own (rI .i64) v82 r49.Data, .own (rI .i64) v74 r45.Shape, .own (rI .i64) v75 r45.Data, .box b7 [.bool r27.Char, v46, v47], .fz (rI .i64) v46 r27.Shape, .own (rI .i64) v47 r27.Data, .box b6 [.bool r23.Char, v40, v41], .fz (rI .i64) v40 r23.Shape, .own (rI .i64) v41 r23.Data, .box b5 [.bool r91.Char, v152, v153], .box b4 [.bool r87.Char, v145, v146], .box b3 [.bool r83.Char, v139, v140], .box b2 [.bool r79.Char, v133, v134], .box b1 [.bool r75.Char, v125, v126]]) Fr := (hS.put rfl _).withK hI
   clear hI hw'
   replace hS := hS.frz (k := 3) rfl
   replace hS := hS.frz (k := 4) rfl
   replace hS := hS.frz (k := 0) rfl
   replace hS := hS.frz (k := 1) rfl
   obtain ⟨⟨r95, r96⟩, hx78, h0⟩ := bindS h0
   refine o_call hS (.inl rfl) rfl (fun wm' hw1 hw2 => wk23  r93 r94  v154 v155 v157 v158 (((((hS.sel hw2).ad 1 rfl).ad 0 rfl).ad 4 rfl).ad 3 rfl) hx78) (fun wm' res H hw' hp => ?_)
   obtain ⟨v159, v160, hres, hI⟩ := hp
   replace hres := hres.symm; subst hres
   replace hS : S wm 294 _ H ((242, .tuple #[.agg #[.bool r95.Char, v159, v160], .int .i64 r96]) :: _) ([.fz (rI .i64) v159 r95.Shape, .own (rI .i64) v160 r95.Data] ++ _) Fr := hS.after rfl hw' hI
   clear hI hw'
   refine o_pure hS (.inl rfl) rfl rfl ?_; clear hS; try clear tm
   intro tm hS
   refine o_pure hS (.inl rfl) rfl rfl ?_; clear hS; try clear tm
   intro tm hS
   refine o_pure hS (.inl rfl) rfl rfl ?_; clear hS; try clear tm
   intro tm hS
   refine o_st (k := 55) hS (.inl rfl) rfl rfl rfl Fs25 rfl rfl (all_cons rfl (all_cons (hS.one (k := 0) rfl (.inl rfl)) (all_cons (hS.one (k := 1) rfl (.inr (.inl rfl))) all_nil))) rfl ?_; clear hS; try clear H
   intro H hS
   refine o_pure hS (.inl rfl) rfl rfl ?_; clear hS; try clear tm
   intro tm hS
   refine o_nil (hR _ _ ?_)
   clear hR R
   refine c_reg fun R hR => ?_
   obtain ⟨r97, hx79, h0⟩ := bindS h0
   refine o_call hS (.inl rfl) rfl (fun wm' hw1 hw2 => wk52  10001   (hS.sel hw2) hx79) (fun wm' res H hw' hp => ?_)
   obtain ⟨v161, v162, hres, hI⟩ := hp
   replace hres := hres.symm; subst hres
   replace hS : S wm 294 _ H ((246, .agg #[.bool r97.Char, v161, v162]) :: _) ([.own (rI .i64) v161 r97.Shape, .own (rI .i64) v162 r97.Data] ++ _) Fr := hS.after rfl hw' hI
   clear hI hw'
   obtain ⟨r98, hx80, h0⟩ := bindS h0
   refine o_call hS (.inl rfl) rfl (fun wm' hw1 hw2 => wk52  1   (hS.sel hw2) hx80) (fun wm' res H hw' hp => ?_)
   obtain ⟨v163, v164, hres, hI⟩ := hp
   replace hres := hres.symm; subst hres
   replace hS : S wm 294 _ H ((247, .agg #[.bool r98.Char, v163, v164]) :: _) ([.own (rI .i64) v163 r98.Shape, .own (rI .i64) v164 r98.Data] ++ _) Fr := hS.after rfl hw' hI
   clear hI hw'
   obtain ⟨⟨r99, r100⟩, hx81, h0⟩ := bindS h0
   refine o_call (Pc := fun _ res H => ∃ v165 v166, res = .tuple #[.agg #[.bool r99.Char, v165, v166], .int .i64 r100] ∧ Kn wm H ([.own (rI .i64) v165 r99.Shape, .own (rI .i64) v166 r99.Data] ++ [.own (rI .i64) v163 r98.Shape, .own (rI .i64) v164 r98.Data, .own (rI .i64) v161 r97.Shape, .own (rI .i64) v162 r97.Data, .fz (rI .i64) v159 r95.Shape, .own (rI .i64) v160 r95.Data, .fz (rI .i64) v157 r94.Shape, .fz (rI .i64) v158 r94.Data, .lit (rI .i64) v156 ([1]), .fz (rI .i64) v154 r93.Shape, .fz (rI .i64) v155 r93.Data, .own (rI .i64) v152 r91.Shape, .own (rI .i64) v153 r91.Data, .own (rI .i64) v150 r90.Shape, .own (rI .i64) v151 r90.Data, .lit (rI .i64) v149 ([4, 5]), .own (rI .i64) v147 r89.Shape, .own (rI .i64) v148 r89.Data, .own (rI .i64) v145 r87.Shape, .own (rI .i64) v146 r87.Data, .own (rI .i64) v143 r86.Shape, .own (rI .i64) v144 r86.Data, .own (rI .i64) v141 r85.Shape, .own (rI .i64) v142 r85.Data, .own (rI .i64) v139 r83.Shape, .own (rI .i64) v140 r83.Data, .own (rI .i64) v137 r82.Shape, .own (rI .i64) v138 r82.Data, .own (rI .i64) v135 r81.Shape, .own (rI .i64) v136 r81.Data, .own (rI .i64) v133 r79.Shape, .own (rI .i64) v134 r79.Data, .own (rI .i64) v131 r78.Shape, .own (rI .i64) v132 r78.Data, .lit (rI .i64) v130 ([4, 5, 6]), .own (rI .i64) v128 r77.Shape, .own (rI .i64) v129 r77.Data, .lit (rI .i64) v127 ([1, 2]), .fz (rI .i64) v125 r75.Shape, .own (rI .i64) v126 r75.Data, .fz (rI .i64) v123 r74.Shape, .fz (rI .i64) v124 r74.Data, .lit (rI .i64) v122 ([1, 2, 3]), .fz (rI .i64) v120 r73.Shape, .fz (rI .i64) v121 r73.Data, .lit (rI .i64) v119 ([1, 2]), .own (rI .i64) v102 r61.Shape, .own (rI .i64) v103 r61.Data, .own (rI .i64) v95 r57.Shape, .own (rI .i64) v96 r57.Data, .own (rI .i64) v88 r53.Shape, .own (rI .i64) v89 r53.Data, .own (rI .i64) v81 r49.Shape, .own (rI .i64) v82 r49.Data, .own (rI .i64) v74 r45.Shape, .own (rI .i64) v75 r45.Data, .box b7 [.bool r27.Char, v46, v47], .fz (rI .i64) v46 r27.Shape, .own (rI .i64) v47 r27.Data, .box b6 [.bool r95.Char, v159, v160], .fz (rI .i64) v40 r23.Shape, .own (rI .i64) v41 r23.Data, .box b5 [.bool r91.Char, v152, v153], .box b4 [.bool r87.Char, v145, v146], .box b3 [.bool r83.Char, v139, v140], .box b2 [.bool r79.Char, v133, v134], .box b1 [.bool r75.Char, v125, v126]]) Fr) hS (.inl rfl) rfl (fun wm' hw1 hw2 => by
    obtain ⟨F2, kk_1, kk_2⟩ := hS.inv.lendR (La := [.fz (rI .i64) v161 r97.Shape, .fz (rI .i64) v162 r97.Data, .fz (rI .i64) v163 r98.Shape, .fz (rI .i64) v164 r98.Data]) (List.forall_mem_cons.mpr ⟨(.inr ⟨_, _, _, _, rfl, .inl (List.mem_of_getElem? (i := 2) rfl)⟩), (List.forall_mem_cons.mpr ⟨(.inr ⟨_, _, _, _, rfl, .inl (List.mem_of_getElem? (i := 3) rfl)⟩), (List.forall_mem_cons.mpr ⟨(.inr ⟨_, _, _, _, rfl, .inl (List.mem_of_getElem? (i := 0) rfl)⟩), (List.forall_mem_cons.mpr ⟨(.inr ⟨_, _, _, _, rfl, .inl (List.mem_of_getElem? (i := 1) rfl)⟩), (fun _ h => by cases h)⟩)⟩)⟩)⟩) hw1 hw2
    exact (wk16  r97 r98 (-1)  v161 v162 v163 v164 kk_1 hx81).mono fun res H2 ⟨v165, v166, qq_1, qq_2⟩ => ⟨v165, v166, qq_1, kk_2 _ _ (List.forall_mem_cons.mpr ⟨⟨_, _, _, _, rfl, fun _ _ _ _ h => h⟩, (List.forall_mem_cons.mpr ⟨⟨_, _, _, _, rfl, fun _ _ _ _ h => h⟩, (fun _ h => by cases h)⟩)⟩) qq_2⟩) (fun wm' res H hw' hp => ?_)
   obtain ⟨v165, v166, hres, hI⟩ := hp
   replace hres := hres.symm; subst hres
   replace hS : S wm 294 _ H ((248, .tuple #[.agg #[.bool r99.Char, v165, v166], .int .i64 r100]) :: _) ([.own (rI .i64) v165 r99.Shape, .own (rI .i64) v166 r99.Data] ++ [.own (rI .i64) v163 r98.Shape, .own (rI .i64) v164 r98.Data, .own (rI .i64) v161 r97.Shape, .own (rI .i64) v162 r97.Data, .fz (rI .i64) v159 r95.Shape, .own (rI .i64) v160 r95.Data, .fz (rI .i64) v157 r94.Shape, .fz (rI .i64) v158 r94.Data, .lit (rI .i64) v156 ([1]), .fz (rI .i64) v154 r93.Shape, .fz (rI .i64) v155 r93.Data, .own (rI .i64) v152 r91.Shape, .own (rI .i64) v153 r91.Data, .own (rI .i64) v150 r90.Shape, .own (rI .i64) v151 r90.Data, .lit (rI .i64) v149 ([4, 5]), .own (rI .i64) v147 r89.Shape, .own (rI .i64) v148 r89.Data, .own (rI .i64) v145 r87.Shape, .own (rI .i64) v146 r87.Data, .own (rI .i64) v143 r86.Shape, .own (rI .i64) v144 r86.Data, .own (rI .i64) v141 r85.Shape, .own (rI .i64) v142 r85.Data, .own (rI .i64) v139 r83.Shape, .own (rI .i64) v140 r83.Data, .own (rI .i64) v137 r82.Shape, .own (rI .i64) v138 r82.Data, .own (rI .i64) v135 r81.Shape, .own (rI .i64) v136 r81.Data, .own (rI .i64) v133 r79.Shape, .own (rI .i64) v134 r79.Data, .own (rI .i64) v131 r78.Shape, .own (rI .i64) v132 r78.Data, .lit (rI .i64) v130 ([4, 5, 6]), .own (rI .i64) v128 r77.Shape, .own (rI .i64) v129 r77.Data, .lit (rI .i64) v127 ([1, 2]), .fz (rI .i64) v125 r75.Shape, .own (rI .i64) v126 r75.Data, .fz (rI .i64) v123 r74.Shape, .fz (rI .i64) v124 r74.Data, .lit (rI .i64) v122 ([1, 2, 3]), .fz (rI .i64) v120 r73.Shape, .fz (rI .i64) v121 r73.Data, .lit (rI .i64) v119 ([1, 2]), .own (rI .i64) v102 r61.Shape, .own (rI .i64) v103 r61.Data, .own (rI .i64) v95 r57.Shape, .own (rI .i64) v96 r57.Data, .own (rI .i64) v88 r53.Shape, .own (rI .i64) v89 r53.Data, .own (rI .i64) v81 r49.Shape, .own (rI .i64) v82 r49.Data, .own (rI .i64) v74 r45.Shape, .own (rI .i64) v75 r45.Data, .box b7 [.bool r27.Char, v46, v47], .fz (rI .i64) v46 r27.Shape, .own (rI .i64) v47 r27.Data, .box b6 [.bool r95.Char, v159, v160], .fz (rI .i64) v40 r23.Shape, .own (rI .i64) v41 r23.Data, .box b5 [.bool r91.Char, v152, v153], .box b4 [.bool r87.Char, v145, v146], .box b3 [.bool r83.Char, v139, v140], .box b2 [.bool r79.Char, v133, v134], .box b1 [.bool r75.Char, v125, v126]]) Fr := (hS.put rfl _).withK hI
   clear hI hw'
   refine o_pure hS (.inl rfl) rfl rfl ?_; clear hS; try clear tm
   intro tm hS
   refine o_pure hS (.inl rfl) rfl rfl ?_; clear hS; try clear tm
   intro tm hS
   refine o_pure hS (.inl rfl) rfl rfl ?_; clear hS; try clear tm
   intro tm hS
   refine o_st (k := 58) hS (.inl rfl) rfl rfl rfl Fs25 rfl rfl (all_cons rfl (all_cons (hS.one (k := 0) rfl (.inr (.inl rfl))) (all_cons (hS.one (k := 1) rfl (.inr (.inl rfl))) all_nil))) rfl ?_; clear hS; try clear H
   intro H hS
   refine o_pure hS (.inl rfl) rfl rfl ?_; clear hS; try clear tm
   intro tm hS
   refine o_nil (hR _ _ ?_)
   clear hR R
   refine c_reg fun R hR => ?_
   refine o_pure hS (.inl rfl) rfl rfl ?_; clear hS; try clear tm
   intro tm hS
   refine o_ldA (k := 68) hS (.inl rfl) rfl rfl rfl (.inl rfl) Fu25 rfl Fs25 rfl ?_; clear hS; try clear tm
   intro tm hS
   refine o_pure hS (.inl rfl) rfl rfl ?_; clear hS; try clear tm
   intro tm hS
   obtain ⟨r101, hx82, h0⟩ := bindS h0
   refine o_call (Pc := fun _ res H => res = .bool r101 ∧ Kn wm H ([.own (rI .i64) v165 r99.Shape, .own (rI .i64) v166 r99.Data, .own (rI .i64) v163 r98.Shape, .own (rI .i64) v164 r98.Data, .own (rI .i64) v161 r97.Shape, .own (rI .i64) v162 r97.Data, .fz (rI .i64) v159 r95.Shape, .own (rI .i64) v160 r95.Data, .fz (rI .i64) v157 r94.Shape, .fz (rI .i64) v158 r94.Data, .lit (rI .i64) v156 ([1]), .fz (rI .i64) v154 r93.Shape, .fz (rI .i64) v155 r93.Data, .own (rI .i64) v152 r91.Shape, .own (rI .i64) v153 r91.Data, .own (rI .i64) v150 r90.Shape, .own (rI .i64) v151 r90.Data, .lit (rI .i64) v149 ([4, 5]), .own (rI .i64) v147 r89.Shape, .own (rI .i64) v148 r89.Data, .own (rI .i64) v145 r87.Shape, .own (rI .i64) v146 r87.Data, .own (rI .i64) v143 r86.Shape, .own (rI .i64) v144 r86.Data, .own (rI .i64) v141 r85.Shape, .own (rI .i64) v142 r85.Data, .own (rI .i64) v139 r83.Shape, .own (rI .i64) v140 r83.Data, .own (rI .i64) v137 r82.Shape, .own (rI .i64) v138 r82.Data, .own (rI .i64) v135 r81.Shape, .own (rI .i64) v136 r81.Data, .own (rI .i64) v133 r79.Shape, .own (rI .i64) v134 r79.Data, .own (rI .i64) v131 r78.Shape, .own (rI .i64) v132 r78.Data, .lit (rI .i64) v130 ([4, 5, 6]), .own (rI .i64) v128 r77.Shape, .own (rI .i64) v129 r77.Data, .lit (rI .i64) v127 ([1, 2]), .fz (rI .i64) v125 r75.Shape, .own (rI .i64) v126 r75.Data, .fz (rI .i64) v123 r74.Shape, .fz (rI .i64) v124 r74.Data, .lit (rI .i64) v122 ([1, 2, 3]), .fz (rI .i64) v120 r73.Shape, .fz (rI .i64) v121 r73.Data, .lit (rI .i64) v119 ([1, 2]), .own (rI .i64) v102 r61.Shape, .own (rI .i64) v103 r61.Data, .own (rI .i64) v95 r57.Shape, .own (rI .i64) v96 r57.Data, .own (rI .i64) v88 r53.Shape, .own (rI .i64) v89 r53.Data, .own (rI .i64) v81 r49.Shape, .own (rI .i64) v82 r49.Data, .own (rI .i64) v74 r45.Shape, .own (rI .i64) v75 r45.Data, .box b7 [.bool r99.Char, v165, v166], .fz (rI .i64) v46 r27.Shape, .own (rI .i64) v47 r27.Data, .box b6 [.bool r95.Char, v159, v160], .fz (rI .i64) v40 r23.Shape, .own (rI .i64) v41 r23.Data, .box b5 [.bool r91.Char, v152, v153], .box b4 [.bool r87.Char, v145, v146], .box b3 [.bool r83.Char, v139, v140], .box b2 [.bool r79.Char, v133, v134], .box b1 [.bool r75.Char, v125, v126]]) Fr) hS (.inl rfl) rfl (fun wm' hw1 hw2 => by
    obtain ⟨F2, kk_1, kk_2⟩ := hS.inv.lend (La := [.fz (rI .i64) v125 r75.Shape, .fz (rI .i64) v126 r75.Data]) (List.forall_mem_cons.mpr ⟨(.inl ⟨rfl, List.mem_of_getElem? (i := 40) rfl⟩), (List.forall_mem_cons.mpr ⟨(.inr ⟨_, _, _, _, rfl, .inl (List.mem_of_getElem? (i := 41) rfl)⟩), (fun _ h => by cases h)⟩)⟩) hw1 hw2
    exact (wk21  r75 r76 25  v125 v126 kk_1 hx82).mono fun res H2 ⟨qq_1, qq_2⟩ => ⟨qq_1, kk_2 _ qq_2⟩) (fun wm' res H hw' hp => ?_)
   obtain ⟨hres, hI⟩ := hp
   replace hres := hres.symm; subst hres
   replace hS : S wm 294 _ H ((254, .bool r101) :: _) ([.own (rI .i64) v165 r99.Shape, .own (rI .i64) v166 r99.Data, .own (rI .i64) v163 r98.Shape, .own (rI .i64) v164 r98.Data, .own (rI .i64) v161 r97.Shape, .own (rI .i64) v162 r97.Data, .fz (rI .i64) v159 r95.Shape, .own (rI .i64) v160 r95.Data, .fz (rI .i64) v157 r94.Shape, .fz (rI .i64) v158 r94.Data, .lit (rI .i64) v156 ([1]), .fz (rI .i64) v154 r93.Shape, .fz (rI .i64) v155 r93.Data, .own (rI .i64) v152 r91.Shape, .own (rI .i64) v153 r91.Data, .own (rI .i64) v150 r90.Shape, .own (rI .i64) v151 r90.Data, .lit (rI .i64) v149 ([4, 5]), .own (rI .i64) v147 r89.Shape, .own (rI .i64) v148 r89.Data, .own (rI .i64) v145 r87.Shape, .own (rI .i64) v146 r87.Data, .own (rI .i64) v143 r86.Shape, .own (rI .i64) v144 r86.Data, .own (rI .i64) v141 r85.Shape, .own (rI .i64) v142 r85.Data, .own (rI .i64) v139 r83.Shape, .own (rI .i64) v140 r83.Data, .own (rI .i64) v137 r82.Shape, .own (rI .i64) v138 r82.Data, .own (rI .i64) v135 r81.Shape, .own (rI .i64) v136 r81.Data, .own (rI .i64) v133 r79.Shape, .own (rI .i64) v134 r79.Data, .own (rI .i64) v131 r78.Shape, .own (rI .i64) v132 r78.Data, .lit (rI .i64) v130 ([4, 5, 6]), .own (rI .i64) v128 r77.Shape, .own (rI .i64) v129 r77.Data, .lit (rI .i64) v127 ([1, 2]), .fz (rI .i64) v125 r75.Shape, .own (rI .i64) v126 r75.Data, .fz (rI .i64) v123 r74.Shape, .fz (rI .i64) v124 r74.Data, .lit (rI .i64) v122 ([1, 2, 3]), .fz (rI .i64) v120 r73.Shape, .fz (rI .i64) v121 r73.Data, .lit (rI .i64) v119 ([1, 2]), .own (rI .i64) v102 r61.Shape, .own (rI .i64) v103 r61.Data, .own (rI .i64) v95 r57.Shape, .own (rI .i64) v96 r57.Data, .own (rI .i64) v88 r53.Shape, .own (rI .i64) v89 r53.Data, .own (rI .i64) v81 r49.Shape, .own (rI .i64) v82 r49.Data, .own (rI .i64) v74 r45.Shape, .own (rI .i64) v75 r45.Data, .box b7 [.bool r99.Char, v165, v166], .fz (rI .i64) v46 r27.Shape, .own (rI .i64) v47 r27.Data, .box b6 [.bool r95.Char, v159, v160], .fz (rI .i64) v40 r23.Shape, .own (rI .i64) v41 r23.Data, .box b5 [.bool r91.Char, v152, v153], .box b4 [.bool r87.Char, v145, v146], .box b3 [.bool r83.Char, v139, v140], .box b2 [.bool r79.Char, v133, v134], .box b1 [.bool r75.Char, v125, v126]]) Fr := (hS.put rfl _).withK hI
   clear hI hw'
   refine o_pure hS (.inl rfl) rfl rfl ?_; clear hS; try clear tm
   intro tm hS
   obtain ⟨c11, hc11, h0⟩ := bindS h0
   refine o_cutN 5 (J := fun tm H => S wm 294 tm H [(260, .bool c11), (2, .func (.func 21) #[] #[]), (7, .pointer (some ⟨b3, 0, none⟩)), (9, .pointer (some ⟨b4, 0, none⟩)), (11, .pointer (some ⟨b5, 0, none⟩)), (13, .pointer (some ⟨b6, 0, none⟩)), (15, .pointer (some ⟨b7, 0, none⟩)), (8, .int .i64 r84), (10, .int .i64 r88), (12, .int .i64 r92), (14, .int .i64 r96), (16, .int .i64 r100)] [.own (rI .i64) v165 r99.Shape, .own (rI .i64) v166 r99.Data, .fz (rI .i64) v159 r95.Shape, .own (rI .i64) v160 r95.Data, .own (rI .i64) v152 r91.Shape, .own (rI .i64) v153 r91.Data, .own (rI .i64) v145 r87.Shape, .own (rI .i64) v146 r87.Data, .own (rI .i64) v139 r83.Shape, .own (rI .i64) v140 r83.Data, .box b7 [.bool r99.Char, v165, v166], .box b6 [.bool r95.Char, v159, v160], .box b5 [.bool r91.Char, v152, v153], .box b4 [.bool r87.Char, v145, v146], .box b3 [.bool r83.Char, v139, v140]] Fr) ?_ ?_
   ·rcases Bool.eq_false_or_eq_true r101 with hg11 | hg11
    ·replace hc11 := iteT hg11 hc11
     refine o_pure hS (.inr ⟨_, _, _, _, rfl, rfl, rfl, hg11⟩) rfl rfl ?_; clear hS; try clear tm
     intro tm hS
     refine o_ldA (k := 67) hS (.inr ⟨_, _, _, _, rfl, rfl, rfl, hg11⟩) rfl rfl rfl (.inl rfl) Fu25 rfl Fs25 rfl ?_; clear hS; try clear tm
     intro tm hS
     refine o_pure hS (.inr ⟨_, _, _, _, rfl, rfl, rfl, hg11⟩) rfl rfl ?_; clear hS; try clear tm
     intro tm hS
     obtain ⟨r102, hx83, hc11⟩ := bindS hc11
     refine o_call (Pc := fun _ res H => res = .bool r102 ∧ Kn wm H ([.own (rI .i64) v165 r99.Shape, .own (rI .i64) v166 r99.Data, .own (rI .i64) v163 r98.Shape, .own (rI .i64) v164 r98.Data, .own (rI .i64) v161 r97.Shape, .own (rI .i64) v162 r97.Data, .fz (rI .i64) v159 r95.Shape, .own (rI .i64) v160 r95.Data, .fz (rI .i64) v157 r94.Shape, .fz (rI .i64) v158 r94.Data, .lit (rI .i64) v156 ([1]), .fz (rI .i64) v154 r93.Shape, .fz (rI .i64) v155 r93.Data, .own (rI .i64) v152 r91.Shape, .own (rI .i64) v153 r91.Data, .own (rI .i64) v150 r90.Shape, .own (rI .i64) v151 r90.Data, .lit (rI .i64) v149 ([4, 5]), .own (rI .i64) v147 r89.Shape, .own (rI .i64) v148 r89.Data, .own (rI .i64) v145 r87.Shape, .own (rI .i64) v146 r87.Data, .own (rI .i64) v143 r86.Shape, .own (rI .i64) v144 r86.Data, .own (rI .i64) v141 r85.Shape, .own (rI .i64) v142 r85.Data, .own (rI .i64) v139 r83.Shape, .own (rI .i64) v140 r83.Data, .own (rI .i64) v137 r82.Shape, .own (rI .i64) v138 r82.Data, .own (rI .i64) v135 r81.Shape, .own (rI .i64) v136 r81.Data, .own (rI .i64) v133 r79.Shape, .own (rI .i64) v134 r79.Data, .own (rI .i64) v131 r78.Shape, .own (rI .i64) v132 r78.Data, .lit (rI .i64) v130 ([4, 5, 6]), .own (rI .i64) v128 r77.Shape, .own (rI .i64) v129 r77.Data, .lit (rI .i64) v127 ([1, 2]), .fz (rI .i64) v125 r75.Shape, .own (rI .i64) v126 r75.Data, .fz (rI .i64) v123 r74.Shape, .fz (rI .i64) v124 r74.Data, .lit (rI .i64) v122 ([1, 2, 3]), .fz (rI .i64) v120 r73.Shape, .fz (rI .i64) v121 r73.Data, .lit (rI .i64) v119 ([1, 2]), .own (rI .i64) v102 r61.Shape, .own (rI .i64) v103 r61.Data, .own (rI .i64) v95 r57.Shape, .own (rI .i64) v96 r57.Data, .own (rI .i64) v88 r53.Shape, .own (rI .i64) v89 r53.Data, .own (rI .i64) v81 r49.Shape, .own (rI .i64) v82 r49.Data, .own (rI .i64) v74 r45.Shape, .own (rI .i64) v75 r45.Data, .box b7 [.bool r99.Char, v165, v166], .fz (rI .i64) v46 r27.Shape, .own (rI .i64) v47 r27.Data, .box b6 [.bool r95.Char, v159, v160], .fz (rI .i64) v40 r23.Shape, .own (rI .i64) v41 r23.Data, .box b5 [.bool r91.Char, v152, v153], .box b4 [.bool r87.Char, v145, v146], .box b3 [.bool r83.Char, v139, v140], .box b2 [.bool r79.Char, v133, v134], .box b1 [.bool r75.Char, v125, v126]]) Fr) hS (.inr ⟨_, _, _, _, rfl, rfl, rfl, hg11⟩) rfl (fun wm' hw1 hw2 => by
      obtain ⟨F2, kk_1, kk_2⟩ := hS.inv.lend (La := [.fz (rI .i64) v133 r79.Shape, .fz (rI .i64) v134 r79.Data]) (List.forall_mem_cons.mpr ⟨(.inr ⟨_, _, _, _, rfl, .inl (List.mem_of_getElem? (i := 32) rfl)⟩), (List.forall_mem_cons.mpr ⟨(.inr ⟨_, _, _, _, rfl, .inl (List.mem_of_getElem? (i := 33) rfl)⟩), (fun _ h => by cases h)⟩)⟩) hw1 hw2
      exact (wk21  r79 r80 25  v133 v134 kk_1 hx83).mono fun res H2 ⟨qq_1, qq_2⟩ => ⟨qq_1, kk_2 _ qq_2⟩) (fun wm' res H hw' hp => ?_)
     obtain ⟨hres, hI⟩ := hp
     replace hres := hres.symm; subst hres
     replace hS : S wm 294 _ H ((259, .bool r102) :: _) ([.own (rI .i64) v165 r99.Shape, .own (rI .i64) v166 r99.Data, .own (rI .i64) v163 r98.Shape, .own (rI .i64) v164 r98.Data, .own (rI .i64) v161 r97.Shape, .own (rI .i64) v162 r97.Data, .fz (rI .i64) v159 r95.Shape, .own (rI .i64) v160 r95.Data, .fz (rI .i64) v157 r94.Shape, .fz (rI .i64) v158 r94.Data, .lit (rI .i64) v156 ([1]), .fz (rI .i64) v154 r93.Shape, .fz (rI .i64) v155 r93.Data, .own (rI .i64) v152 r91.Shape, .own (rI .i64) v153 r91.Data, .own (rI .i64) v150 r90.Shape, .own (rI .i64) v151 r90.Data, .lit (rI .i64) v149 ([4, 5]), .own (rI .i64) v147 r89.Shape, .own (rI .i64) v148 r89.Data, .own (rI .i64) v145 r87.Shape, .own (rI .i64) v146 r87.Data, .own (rI .i64) v143 r86.Shape, .own (rI .i64) v144 r86.Data, .own (rI .i64) v141 r85.Shape, .own (rI .i64) v142 r85.Data, .own (rI .i64) v139 r83.Shape, .own (rI .i64) v140 r83.Data, .own (rI .i64) v137 r82.Shape, .own (rI .i64) v138 r82.Data, .own (rI .i64) v135 r81.Shape, .own (rI .i64) v136 r81.Data, .own (rI .i64) v133 r79.Shape, .own (rI .i64) v134 r79.Data, .own (rI .i64) v131 r78.Shape, .own (rI .i64) v132 r78.Data, .lit (rI .i64) v130 ([4, 5, 6]), .own (rI .i64) v128 r77.Shape, .own (rI .i64) v129 r77.Data, .lit (rI .i64) v127 ([1, 2]), .fz (rI .i64) v125 r75.Shape, .own (rI .i64) v126 r75.Data, .fz (rI .i64) v123 r74.Shape, .fz (rI .i64) v124 r74.Data, .lit (rI .i64) v122 ([1, 2, 3]), .fz (rI .i64) v120 r73.Shape, .fz (rI .i64) v121 r73.Data, .lit (rI .i64) v119 ([1, 2]), .own (rI .i64) v102 r61.Shape, .own (rI .i64) v103 r61.Data, .own (rI .i64) v95 r57.Shape, .own (rI .i64) v96 r57.Data, .own (rI .i64) v88 r53.Shape, .own (rI .i64) v89 r53.Data, .own (rI .i64) v81 r49.Shape, .own (rI .i64) v82 r49.Data, .own (rI .i64) v74 r45.Shape, .own (rI .i64) v75 r45.Data, .box b7 [.bool r99.Char, v165, v166], .fz (rI .i64) v46 r27.Shape, .own (rI .i64) v47 r27.Data, .box b6 [.bool r95.Char, v159, v160], .fz (rI .i64) v40 r23.Shape, .own (rI .i64) v41 r23.Data, .box b5 [.bool r91.Char, v152, v153], .box b4 [.bool r87.Char, v145, v146], .box b3 [.bool r83.Char, v139, v140], .box b2 [.bool r79.Char, v133, v134], .box b1 [.bool r75.Char, v125, v126]]) Fr := (hS.put rfl _).withK hI
     clear hI hw'
     refine o_pickT hS (.inl rfl) rfl rfl hg11 rfl ?_; clear hS; try clear tm
     intro tm hS
     obtain rfl := Option.some.inj hc11
     exact o_nil (hS.keep (ka_cons rfl (ka_cons rfl (ka_cons rfl (ka_cons rfl (ka_cons rfl (ka_cons rfl (ka_cons rfl (ka_cons rfl (ka_cons rfl (ka_cons rfl (ka_cons rfl (ka_cons rfl ka_nil)))))))))))) (fun hI => (hI.sub (sc (sc (sd (sd (sd (sd (sc (sc (sd (sd (sd (sd (sd (sc (sc (sd (sd (sd (sd (sd (sc (sc (sd (sd (sd (sd (sc (sc (sd (sd (sd (sd (sd (sd (sd (sd (sd (sd (sd (sd (sd (sd (sd (sd (sd (sd (sd (sd (sd (sd (sd (sd (sd (sd (sd (sd (sd (sd (sc (sd (sd (sc (sd (sd (sc (sc (sc sn))))))))))))))))))))))))))))))))))))))))))))))))))))))))))))))))))))))
    ·replace hc11 := iteF hg11 hc11
     refine o_skip hS rfl rfl rfl hg11 ?_; clear hS; try clear tm
     intro tm hS
     refine o_skip hS rfl rfl rfl hg11 ?_; clear hS; try clear tm
     intro tm hS
     refine o_skip hS rfl rfl rfl hg11 ?_; clear hS; try clear tm
     intro tm hS
     refine o_skip hS rfl rfl rfl hg11 ?_; clear hS; try clear tm
     intro tm hS
     refine o_pickF hS (.inl rfl) rfl rfl hg11 rfl ?_; clear hS; try clear tm
     intro tm hS
     obtain rfl := Option.some.inj hc11
     exact o_nil (hS.keep (ka_cons rfl (ka_cons rfl (ka_cons rfl (ka_cons rfl (ka_cons rfl (ka_cons rfl (ka_cons rfl (ka_cons rfl (ka_cons rfl (ka_cons rfl (ka_cons rfl (ka_cons rfl ka_nil)))))))))))) (fun hI => (hI.sub (sc (sc (sd (sd (sd (sd (sc (sc (sd (sd (sd (sd (sd (sc (sc (sd (sd (sd (sd (sd (sc (sc (sd (sd (sd (sd (sc (sc (sd (sd (sd (sd (sd (sd (sd (sd (sd (sd (sd (sd (sd (sd (sd (sd (sd (sd (sd (sd (sd (sd (sd (sd (sd (sd (sd (sd (sd (sd (sc (sd (sd (sc (sd (sd (sc (sc (sc sn))))))))))))))))))))))))))))))))))))))))))))))))))))))))))))))))))))))
   intro tm H hS
   refine o_pure hS (.inl rfl) rfl rfl ?_; clear hS; try clear tm
   intro tm hS
   obtain ⟨c12, hc12, h0⟩ := bindS h0
   refine o_cutN 5 (J := fun tm H => S wm 294 tm H [(266, .bool c12), (2, .func (.func 21) #[] #[]), (9, .pointer (some ⟨b4, 0, none⟩)), (11, .pointer (some ⟨b5, 0, none⟩)), (13, .pointer (some ⟨b6, 0, none⟩)), (15, .pointer (some ⟨b7, 0, none⟩)), (10, .int .i64 r88), (12, .int .i64 r92), (14, .int .i64 r96), (16, .int .i64 r100)] [.own (rI .i64) v165 r99.Shape, .own (rI .i64) v166 r99.Data, .fz (rI .i64) v159 r95.Shape, .own (rI .i64) v160 r95.Data, .own (rI .i64) v152 r91.Shape, .own (rI .i64) v153 r91.Data, .own (rI .i64) v145 r87.Shape, .own (rI .i64) v146 r87.Data, .box b7 [.bool r99.Char, v165, v166], .box b6 [.bool r95.Char, v159, v160], .box b5 [.bool r91.Char, v152, v153], .box b4 [.bool r87.Char, v145, v146]] Fr) ?_ ?_
   ·rcases Bool.eq_false_or_eq_true c11 with hg12 | hg12
    ·replace hc12 := iteT hg12 hc12
     refine o_pure hS (.inr ⟨_, _, _, _, rfl, rfl, rfl, hg12⟩) rfl rfl ?_; clear hS; try clear tm
     intro tm hS
     refine o_ldA (k := 14) hS (.inr ⟨_, _, _, _, rfl, rfl, rfl, hg12⟩) rfl rfl rfl (.inl rfl) Fu25 rfl Fs25 rfl ?_; clear hS; try clear tm
     intro tm hS
     refine o_pure hS (.inr ⟨_, _, _, _, rfl, rfl, rfl, hg12⟩) rfl rfl ?_; clear hS; try clear tm
     intro tm hS
     obtain ⟨r103, hx84, hc12⟩ := bindS hc12
     refine o_call (Pc := fun _ res H => res = .bool r103 ∧ Kn wm H ([.own (rI .i64) v165 r99.Shape, .own (rI .i64) v166 r99.Data, .fz (rI .i64) v159 r95.Shape, .own (rI .i64) v160 r95.Data, .own (rI .i64) v152 r91.Shape, .own (rI .i64) v153 r91.Data, .own (rI .i64) v145 r87.Shape, .own (rI .i64) v146 r87.Data, .own (rI .i64) v139 r83.Shape, .own (rI .i64) v140 r83.Data, .box b7 [.bool r99.Char, v165, v166], .box b6 [.bool r95.Char, v159, v160], .box b5 [.bool r91.Char, v152, v153], .box b4 [.bool r87.Char, v145, v146], .box b3 [.bool r83.Char, v139, v140]]) Fr) hS (.inr ⟨_, _, _, _, rfl, rfl, rfl, hg12⟩) rfl (fun wm' hw1 hw2 => by
      obtain ⟨F2, kk_1, kk_2⟩ := hS.inv.lend (La := [.fz (rI .i64) v139 r83.Shape, .fz (rI .i64) v140 r83.Data]) (List.forall_mem_cons.mpr ⟨(.inr ⟨_, _, _, _, rfl, .inl (List.mem_of_getElem? (i := 8) rfl)⟩), (List.forall_mem_cons.mpr ⟨(.inr ⟨_, _, _, _, rfl, .inl (List.mem_of_getElem? (i := 9) rfl)⟩), (fun _ h => by cases h)⟩)⟩) hw1 hw2
      exact (wk21  r83 r84 23  v139 v140 kk_1 hx84).mono fun res H2 ⟨qq_1, qq_2⟩ => ⟨qq_1, kk_2 _ qq_2⟩) (fun wm' res H hw' hp => ?_)
     obtain ⟨hres, hI⟩ := hp
     replace hres := hres.symm; subst hres
     replace hS : S wm 294 _ H ((265, .bool r103) :: _) ([.own (rI .i64) v165 r99.Shape, .own (rI .i64) v166 r99.Data, .fz (rI .i64) v159 r95.Shape, .own (rI .i64) v160 r95.Data, .own (rI .i64) v152 r91.Shape, .own (rI .i64) v153 r91.Data, .own (rI .i64) v145 r87.Shape, .own (rI .i64) v146 r87.Data, .own (rI .i64) v139 r83.Shape, .own (rI .i64) v140 r83.Data, .box b7 [.bool r99.Char, v165, v166], .box b6 [.bool r95.Char, v159, v160], .box b5 [.bool r91.Char, v152, v153], .box b4 [.bool r87.Char, v145, v146], .box b3 [.bool r83.Char, v139, v140]]) Fr := (hS.put rfl _).withK hI
     clear hI hw'
     refine o_pickT hS (.inl rfl) rfl rfl hg12 rfl ?_; clear hS; try clear tm
     intro tm hS
     obtain rfl := Option.some.inj hc12
     exact o_nil (hS.keep (ka_cons rfl (ka_cons rfl (ka_cons rfl (ka_cons rfl (ka_cons rfl (ka_cons rfl (ka_cons rfl (ka_cons rfl (ka_cons rfl (ka_cons rfl ka_nil)))))))))) (fun hI => (hI.sub (sc (sc (sc (sc (sc (sc (sc (sc (sd (sd (sc (sc (sc (sc sn)))))))))))))))))
    ·replace hc12 := iteF hg12 hc12
     refine o_skip hS rfl rfl rfl hg12 ?_; clear hS; try clear tm
     intro tm hS
     refine o_skip hS rfl rfl rfl hg12 ?_; clear hS; try clear tm
     intro tm hS
     refine o_skip hS rfl rfl rfl hg12 ?_; clear hS; try clear tm
     intro tm hS
     refine o_skip hS rfl rfl rfl hg12 ?_; clear hS; try clear tm
     intro tm hS
     refine o_pickF hS (.inl rfl) rfl rfl hg12 rfl ?_; clear hS; try clear tm
     intro tm hS
     obtain rfl := Option.some.inj hc12
     exact o_nil (hS.keep (ka_cons rfl (ka_cons rfl (ka_cons rfl (ka_cons rfl (ka_cons rfl (ka_cons rfl (ka_cons rfl (ka_cons rfl (ka_cons rfl (ka_cons rfl ka_nil)))))))))) (fun hI => (hI.sub (sc (sc (sc (sc (sc (sc (sc (sc (sd (sd (sc (sc (sc (sc sn)))))))))))))))))
   intro tm H hS
   refine o_pure hS (.inl rfl) rfl rfl ?_; clear hS; try clear tm
   intro tm hS
   obtain ⟨c13, hc13, h0⟩ := bindS h0
   refine o_cutN 5 (J := fun tm H => S wm 294 tm H [(272, .bool c13), (2, .func (.func 21) #[] #[]), (11, .pointer (some ⟨b5, 0, none⟩)), (13, .pointer (some ⟨b6, 0, none⟩)), (15, .pointer (some ⟨b7, 0, none⟩)), (12, .int .i64 r92), (14, .int .i64 r96), (16, .int .i64 r100)] [.own (rI .i64) v165 r99.Shape, .own (rI .i64) v166 r99.Data, .fz (rI .i64) v159 r95.Shape, .own (rI .i64) v160 r95.Data, .own (rI .i64) v152 r91.Shape, .own (rI .i64) v153 r91.Data, .box b7 [.bool r99.Char, v165, v166], .box b6 [.bool r95.Char, v159, v160], .box b5 [.bool r91.Char, v152, v153]] Fr) ?_ ?_
   ·rcases Bool.eq_false_or_eq_true c12 with hg13 | hg13
    ·replace hc13 := iteT hg13 hc13
     refine o_pure hS (.inr ⟨_, _, _, _, rfl, rfl, rfl, hg13⟩) rfl rfl ?_; clear hS; try clear tm
     intro tm hS
     refine o_ldA (k := 11) hS (.inr ⟨_, _, _, _, rfl, rfl, rfl, hg13⟩) rfl rfl rfl (.inl rfl) Fu25 rfl Fs25 rfl ?_; clear hS; try clear tm
     intro tm hS
     refine o_pure hS (.inr ⟨_, _, _, _, rfl, rfl, rfl, hg13⟩) rfl rfl ?_; clear hS; try clear tm
     intro tm hS
     obtain ⟨r104, hx85, hc13⟩ := bindS hc13
     refine o_call (Pc := fun _ res H => res = .bool r104 ∧ Kn wm H ([.own (rI .i64) v165 r99.Shape, .own (rI .i64) v166 r99.Data, .fz (rI .i64) v159 r95.Shape, .own (rI .i64) v160 r95.Data, .own (rI .i64) v152 r91.Shape, .own (rI .i64) v153 r91.Data, .own (rI .i64) v145 r87.Shape, .own (rI .i64) v146 r87.Data, .box b7 [.bool r99.Char, v165, v166], .box b6 [.bool r95.Char, v159, v160], .box b5 [.bool r91.Char, v152, v153], .box b4 [.bool r87.Char, v145, v146]]) Fr) hS (.inr ⟨_, _, _, _, rfl, rfl, rfl, hg13⟩) rfl (fun wm' hw1 hw2 => by
      obtain ⟨F2, kk_1, kk_2⟩ := hS.inv.lend (La := [.fz (rI .i64) v145 r87.Shape, .fz (rI .i64) v146 r87.Data]) (List.forall_mem_cons.mpr ⟨(.inr ⟨_, _, _, _, rfl, .inl (List.mem_of_getElem? (i := 6) rfl)⟩), (List.forall_mem_cons.mpr ⟨(.inr ⟨_, _, _, _, rfl, .inl (List.mem_of_getElem? (i := 7) rfl)⟩), (fun _ h => by cases h)⟩)⟩) hw1 hw2
      exact (wk21  r87 r88 23  v145 v146 kk_1 hx85).mono fun res H2 ⟨qq_1, qq_2⟩ => ⟨qq_1, kk_2 _ qq_2⟩) (fun wm' res H hw' hp => ?_)
     obtain ⟨hres, hI⟩ := hp
     replace hres := hres.symm; subst hres
     replace hS : S wm 294 _ H ((271, .bool r104) :: _) ([.own (rI .i64) v165 r99.Shape, .own (rI .i64) v166 r99.Data, .fz (rI .i64) v159 r95.Shape, .own (rI .i64) v160 r95.Data, .own (rI .i64) v152 r91.Shape, .own (rI .i64) v153 r91.Data, .own (rI .i64) v145 r87.Shape, .own (rI .i64) v146 r87.Data, .box b7 [.bool r99.Char, v165, v166], .box b6 [.bool r95.Char, v159, v160], .box b5 [.bool r91.Char, v152, v153], .box b4 [.bool r87.Char, v145, v146]]) Fr := (hS.put rfl _).withK hI
     clear hI hw'
     refine o_pickT hS (.inl rfl) rfl rfl hg13 rfl ?_; clear hS; try clear tm
     intro tm hS
     obtain rfl := Option.some.inj hc13
     exact o_nil (hS.keep (ka_cons rfl (ka_cons rfl (ka_cons rfl (ka_cons rfl (ka_cons rfl (ka_cons rfl (ka_cons rfl (ka_cons rfl ka_nil)))))))) (fun hI => (hI.sub (sc (sc (sc (sc (sc (sc (sd (sd (sc (sc (sc sn))))))))))))))
    ·replace hc13 := iteF hg13 hc13
     refine o_skip hS rfl rfl rfl hg13 ?_; clear hS; try clear tm
     intro tm hS
     refine o_skip hS rfl rfl rfl hg13 ?_; clear hS; try clear tm
     intro tm hS
     refine o_skip hS rfl rfl rfl hg13 ?_; clear hS; try clear tm
     intro tm hS
     refine o_skip hS rfl rfl rfl hg13 ?_; clear hS; try clear tm
     intro tm hS
     refine o_pickF hS (.inl rfl) rfl rfl hg13 rfl ?_; clear hS; try clear tm
     intro tm hS
     obtain rfl := Option.some.inj hc13
     exact o_nil (hS.keep (ka_cons rfl (ka_cons rfl (ka_cons rfl (ka_cons rfl (ka_cons rfl (ka_cons rfl (ka_cons rfl (ka_cons rfl ka_nil)))))))) (fun hI => (hI.sub (sc (sc (sc (sc (sc (sc (sd (sd (sc (sc (sc sn))))))))))))))
   intro tm H hS
   refine o_pure hS (.inl rfl) rfl rfl ?_; clear hS; try clear tm
   intro tm hS
   obtain ⟨c14, hc14, h0⟩ := bindS h0
   refine o_cutN 5 (J := fun tm H => S wm 294 tm H [(278, .bool c14), (2, .func (.func 21) #[] #[]), (13, .pointer (some ⟨b6, 0, none⟩)), (15, .pointer (some ⟨b7, 0, none⟩)), (14, .int .i64 r96), (16, .int .i64 r100)] [.own (rI .i64) v165 r99.Shape, .own (rI .i64) v166 r99.Data, .fz (rI .i64) v159 r95.Shape, .own (rI .i64) v160 r95.Data, .box b7 [.bool r99.Char, v165, v166], .box b6 [.bool r95.Char, v159, v160]] Fr) ?_ ?_
   ·rcases Bool.eq_false_or_eq_true c13 with hg14 | hg14
    ·replace hc14 := iteT hg14 hc14
     refine o_pure hS (.inr ⟨_, _, _, _, rfl, rfl, rfl, hg14⟩) rfl rfl ?_; clear hS; try clear tm
     intro tm hS
     refine o_ldA (k := 8) hS (.inr ⟨_, _, _, _, rfl, rfl, rfl, hg14⟩) rfl rfl rfl (.inl rfl) Fu25 rfl Fs25 rfl ?_; clear hS; try clear tm
     intro tm hS
     refine o_pure hS (.inr ⟨_, _, _, _, rfl, rfl, rfl, hg14⟩) rfl rfl ?_; clear hS; try clear tm
     intro tm hS
     obtain ⟨r105, hx86, hc14⟩ := bindS hc14
     refine o_call (Pc := fun _ res H => res = .bool r105 ∧ Kn wm H ([.own (rI .i64) v165 r99.Shape, .own (rI .i64) v166 r99.Data, .fz (rI .i64) v159 r95.Shape, .own (rI .i64) v160 r95.Data, .own (rI .i64) v152 r91.Shape, .own (rI .i64) v153 r91.Data, .box b7 [.bool r99.Char, v165, v166], .box b6 [.bool r95.Char, v159, v160], .box b5 [.bool r91.Char, v152, v153]]) Fr) hS (.inr ⟨_, _, _, _, rfl, rfl, rfl, hg14⟩) rfl (fun wm' hw1 hw2 => by
      obtain ⟨F2, kk_1, kk_2⟩ := hS.inv.lend (La := [.fz (rI .i64) v152 r91.Shape, .fz (rI .i64) v153 r91.Data]) (List.forall_mem_cons.mpr ⟨(.inr ⟨_, _, _, _, rfl, .inl (List.mem_of_getElem? (i := 4) rfl)⟩), (List.forall_mem_cons.mpr ⟨(.inr ⟨_, _, _, _, rfl, .inl (List.mem_of_getElem? (i := 5) rfl)⟩), (fun _ h => by cases h)⟩)⟩) hw1 hw2
      exact (wk21  r91 r92 26  v152 v153 kk_1 hx86).mono fun res H2 ⟨qq_1, qq_2⟩ => ⟨qq_1, kk_2 _ qq_2⟩) (fun wm' res H hw' hp => ?_)
     obtain ⟨hres, hI⟩ := hp
     replace hres := hres.symm; subst hres
     replace hS : S wm 294 _ H ((277, .bool r105) :: _) ([.own (rI .i64) v165 r99.Shape, .own (rI .i64) v166 r99.Data, .fz (rI .i64) v159 r95.Shape, .own (rI .i64) v160 r95.Data, .own (rI .i64) v152 r91.Shape, .own (rI .i64) v153 r91.Data, .box b7 [.bool r99.Char, v165, v166], .box b6 [.bool r95.Char, v159, v160], .box b5 [.bool r91.Char, v152, v153]]) Fr := (hS.put rfl _).withK hI
     clear hI hw'
     refine o_pickT hS (.inl rfl) rfl rfl hg14 rfl ?_; clear hS; try clear tm
     intro tm hS
     obtain rfl := Option.some.inj hc14
     exact o_nil (hS.keep (ka_cons rfl (ka_cons rfl (ka_cons rfl (ka_cons rfl (ka_cons rfl (ka_cons rfl ka_nil)))))) (fun hI => (hI.sub (sc (sc (sc (sc (sd (sd (sc (sc sn)))))))))))
    ·replace hc14 := iteF hg14 hc14
     refine o_skip hS rfl rfl rfl hg14 ?_; clear hS; try clear tm
     intro tm hS
     refine o_skip hS rfl rfl rfl hg14 ?_; clear hS; try clear tm
     intro tm hS
     refine o_skip hS rfl rfl rfl hg14 ?_; clear hS; try clear tm
     intro tm hS
     refine o_skip hS rfl rfl rfl hg14 ?_; clear hS; try clear tm
     intro tm hS
     refine o_pickF hS (.inl rfl) rfl rfl hg14 rfl ?_; clear hS; try clear tm
     intro tm hS
     obtain rfl := Option.some.inj hc14
     exact o_nil (hS.keep (ka_cons rfl (ka_cons rfl (ka_cons rfl (ka_cons rfl (ka_cons rfl (ka_cons rfl ka_nil)))))) (fun hI => (hI.sub (sc (sc (sc (sc (sd (sd (sc (sc sn)))))))))))
   intro tm H hS
   refine o_pure hS (.inl rfl) rfl rfl ?_; clear hS; try clear tm
   intro tm hS
   obtain ⟨c15, hc15, h0⟩ := bindS h0
   refine o_cutN 5 (J := fun tm H => S wm 294 tm H [(284, .bool c15), (2, .func (.func 21) #[] #[]), (15, .pointer (some ⟨b7, 0, none⟩)), (16, .int .i64 r100)] [.own (rI .i64) v165 r99.Shape, .own (rI .i64) v166 r99.Data, .box b7 [.bool r99.Char, v165, v166]] Fr) ?_ ?_
   ·rcases Bool.eq_false_or_eq_true c14 with hg15 | hg15
    ·replace hc15 := iteT hg15 hc15
     refine o_pure hS (.inr ⟨_, _, _, _, rfl, rfl, rfl, hg15⟩) rfl rfl ?_; clear hS; try clear tm
     intro tm hS
     refine o_ldA (k := 5) hS (.inr ⟨_, _, _, _, rfl, rfl, rfl, hg15⟩) rfl rfl rfl (.inl rfl) Fu25 rfl Fs25 rfl ?_; clear hS; try clear tm
     intro tm hS
     refine o_pure hS (.inr ⟨_, _, _, _, rfl, rfl, rfl, hg15⟩) rfl rfl ?_; clear hS; try clear tm
     intro tm hS
     obtain ⟨r106, hx87, hc15⟩ := bindS hc15
     refine o_call (Pc := fun _ res H => res = .bool r106 ∧ Kn wm H ([.own (rI .i64) v165 r99.Shape, .own (rI .i64) v166 r99.Data, .fz (rI .i64) v159 r95.Shape, .own (rI .i64) v160 r95.Data, .box b7 [.bool r99.Char, v165, v166], .box b6 [.bool r95.Char, v159, v160]]) Fr) hS (.inr ⟨_, _, _, _, rfl, rfl, rfl, hg15⟩) rfl (fun wm' hw1 hw2 => by
      obtain ⟨F2, kk_1, kk_2⟩ := hS.inv.lend (La := [.fz (rI .i64) v159 r95.Shape, .fz (rI .i64) v160 r95.Data]) (List.forall_mem_cons.mpr ⟨(.inl ⟨rfl, List.mem_of_getElem? (i := 2) rfl⟩), (List.forall_mem_cons.mpr ⟨(.inr ⟨_, _, _, _, rfl, .inl (List.mem_of_getElem? (i := 3) rfl)⟩), (fun _ h => by cases h)⟩)⟩) hw1 hw2
      exact (wk21  r95 r96 27  v159 v160 kk_1 hx87).mono fun res H2 ⟨qq_1, qq_2⟩ => ⟨qq_1, kk_2 _ qq_2⟩) (fun wm' res H hw' hp => ?_)
     obtain ⟨hres, hI⟩ := hp
     replace hres := hres.symm; subst hres
     replace hS : S wm 294 _ H ((283, .bool r106) :: _) ([.own (rI .i64) v165 r99.Shape, .own (rI .i64) v166 r99.Data, .fz (rI .i64) v159 r95.Shape, .own (rI .i64) v160 r95.Data, .box b7 [.bool r99.Char, v165, v166], .box b6 [.bool r95.Char, v159, v160]]) Fr := (hS.put rfl _).withK hI
     clear hI hw'
     refine o_pickT hS (.inl rfl) rfl rfl hg15 rfl ?_; clear hS; try clear tm
     intro tm hS
     obtain rfl := Option.some.inj hc15
     exact o_nil (hS.keep (ka_cons rfl (ka_cons rfl (ka_cons rfl (ka_cons rfl ka_nil)))) (fun hI => (hI.sub (sc (sc (sd (sd (sc sn))))))))
    ·replace hc15 := iteF hg15 hc15
     refine o_skip hS rfl rfl rfl hg15 ?_; clear hS; try clear tm
     intro tm hS
     refine o_skip hS rfl rfl rfl hg15 ?_; clear hS; try clear tm
     intro tm hS
     refine o_skip hS rfl rfl rfl hg15 ?_; clear hS; try clear tm
     intro tm hS
     refine o_skip hS rfl rfl rfl hg15 ?_; clear hS; try clear tm
     intro tm hS
     refine o_pickF hS (.inl rfl) rfl rfl hg15 rfl ?_; clear hS; try clear tm
     intro tm hS
     obtain rfl := Option.some.inj hc15
     exact o_nil (hS.keep (ka_cons rfl (ka_cons rfl (ka_cons rfl (ka_cons rfl ka_nil)))) (fun hI => (hI.sub (sc (sc (sd (sd (sc sn))))))))
   intro tm H hS
   refine o_pure hS (.inl rfl) rfl rfl ?_; clear hS; try clear tm
   intro tm hS
   obtain ⟨c16, hc16, h0⟩ := bindS h0
   refine o_cutN 5 (J := fun tm H => S wm 294 tm H [(290, .bool c16)] [] Fr) ?_ ?_
   ·rcases Bool.eq_false_or_eq_true c15 with hg16 | hg16
    ·replace hc16 := iteT hg16 hc16
     refine o_pure hS (.inr ⟨_, _, _, _, rfl, rfl, rfl, hg16⟩) rfl rfl ?_; clear hS; try clear tm
     intro tm hS
     refine o_ldA (k := 2) hS (.inr ⟨_, _, _, _, rfl, rfl, rfl, hg16⟩) rfl rfl rfl (.inl rfl) Fu25 rfl Fs25 rfl ?_; clear hS; try clear tm
     intro tm hS
     refine o_pure hS (.inr ⟨_, _, _, _, rfl, rfl, rfl, hg16⟩) rfl rfl ?_; clear hS; try clear tm
     intro tm hS
     obtain ⟨r107, hx88, hc16⟩ := bindS hc16
     refine o_call (Pc := fun _ res H => res = .bool r107 ∧ Kn wm H ([.own (rI .i64) v165 r99.Shape, .own (rI .i64) v166 r99.Data, .box b7 [.bool r99.Char, v165, v166]]) Fr) hS (.inr ⟨_, _, _, _, rfl, rfl, rfl, hg16⟩) rfl (fun wm' hw1 hw2 => by
      obtain ⟨F2, kk_1, kk_2⟩ := hS.inv.lend (La := [.fz (rI .i64) v165 r99.Shape, .fz (rI .i64) v166 r99.Data]) (List.forall_mem_cons.mpr ⟨(.inr ⟨_, _, _, _, rfl, .inl (List.mem_of_getElem? (i := 0) rfl)⟩), (List.forall_mem_cons.mpr ⟨(.inr ⟨_, _, _, _, rfl, .inl (List.mem_of_getElem? (i := 1) rfl)⟩), (fun _ h => by cases h)⟩)⟩) hw1 hw2
      exact (wk21  r99 r100 27  v165 v166 kk_1 hx88).mono fun res H2 ⟨qq_1, qq_2⟩ => ⟨qq_1, kk_2 _ qq_2⟩) (fun wm' res H hw' hp => ?_)
     obtain ⟨hres, hI⟩ := hp
     replace hres := hres.symm; subst hres
     replace hS : S wm 294 _ H ((289, .bool r107) :: _) ([.own (rI .i64) v165 r99.Shape, .own (rI .i64) v166 r99.Data, .box b7 [.bool r99.Char, v165, v166]]) Fr := (hS.put rfl _).withK hI
     clear hI hw'
     refine o_pickT hS (.inl rfl) rfl rfl hg16 rfl ?_; clear hS; try clear tm
     intro tm hS
     obtain rfl := Option.some.inj hc16
     exact o_nil (hS.keep (ka_cons rfl ka_nil) (fun hI => (hI.sub sn)))
    ·replace hc16 := iteF hg16 hc16
     refine o_skip hS rfl rfl rfl hg16 ?_; clear hS; try clear tm
     intro tm hS
     refine o_skip hS rfl rfl rfl hg16 ?_; clear hS; try clear tm
     intro tm hS
     refine o_skip hS rfl rfl rfl hg16 ?_; clear hS; try clear tm
     intro tm hS
     refine o_skip hS rfl rfl rfl hg16 ?_; clear hS; try clear tm
     intro tm hS
     refine o_pickF hS (.inl rfl) rfl rfl hg16 rfl ?_; clear hS; try clear tm
     intro tm hS
     obtain rfl := Option.some.inj hc16
     exact o_nil (hS.keep (ka_cons rfl ka_nil) (fun hI => (hI.sub sn)))
   intro tm H hS
   refine o_pure hS (.inl rfl) rfl rfl ?_; clear hS; try clear tm
   intro tm hS
   obtain ⟨c17, hc17⟩ : ∃ x : Bool, x = (c16 && true) := ⟨_, rfl⟩
   refine o_cutN 2 (J := fun tm H => S wm 294 tm H [(293, .bool c17)] [] Fr) ?_ ?_
   ·rcases Bool.eq_false_or_eq_true c16 with hg17 | hg17
    ·refine o_call hS (.inr ⟨_, _, _, _, rfl, rfl, rfl, hg17⟩) rfl (fun wm' hw1 hw2 => wpF.told ho15 (Q := fun v H' => v = .bool true ∧ H' = H) ⟨rfl, rfl⟩) (fun wm' res H hw' hp => ?_)
     obtain ⟨rfl, rfl⟩ := hp
     replace hS := hS.put (d := 292) rfl (.bool true)
     clear hw'
     refine o_pickT hS (.inl rfl) rfl rfl hg17 rfl ?_; clear hS; try clear tm
     intro tm hS
     have hc17 : c17 = true := hc17.trans (by rw [hg17]; first | rfl | simp)
     subst hc17
     exact o_nil (hS.keep (ka_cons rfl ka_nil) (fun hI => (hI.sub sn)))
    ·refine o_skip hS rfl rfl rfl hg17 ?_; clear hS; try clear tm
     intro tm hS
     refine o_pickF hS (.inl rfl) rfl rfl hg17 rfl ?_; clear hS; try clear tm
     intro tm hS
     have hc17 : c17 = false := hc17.trans (by rw [hg17]; first | rfl | simp)
     subst hc17
     exact o_nil (hS.keep (ka_cons rfl ka_nil) (fun hI => (hI.sub sn)))
   intro tm H hS
   subst hc17
   refine o_pure hS (.inl rfl) rfl rfl ?_; clear hS; try clear tm
   intro tm hS
   refine o_nil (hR _ _ ?_)
   clear hR R
   refine wpC.ret ?_
   obtain rfl := Option.some.inj h0
   refine Exists.intro _ (And.intro (rs_tmp hS rfl rs_nil) ?_)
   have hI := hS.inv
   exact ⟨rfl, (hI.sub sn)⟩
end Go.Proofs.Ytmelmiffgkippaa.pickKnown
