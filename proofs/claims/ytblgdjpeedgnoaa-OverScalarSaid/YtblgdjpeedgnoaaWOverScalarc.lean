/- OverScalar: walks of the code: the run of each function comes to what its plain function says. -/
import Derived.Test.YtblgdjpeedgnoaaWOverScalarb
set_option maxHeartbeats 4000000
set_option linter.unusedVariables false
set_option linter.unusedSimpArgs false
set_option maxRecDepth 100000
open Go Go.Am Go.Proofs
namespace Go.Proofs.Ytblgdjpeedgnoaa.overScalar
variable {ora : FuncId → Bool}
theorem wk5 {wm : Nat} {H : AHeap} {Fr : List Ent} (ho9 : ora 9 = true) (ho100 : ora 100 = false) (a1 : (List Int)) (b1 : (List Int)) (n1 : Int)  (v1 : Value) (v2 : Value) (hI : Kn wm H [.fz (rI .i64) v1 a1, .fz (rI .i64) v2 b1] Fr) {r : Bool} (h0 : M.anamnesislaw12_OverScalar a1 b1 n1 = some r) :
  wpF Try.prog ora wm 5 [v1, v2, .int .i64 n1] H (fun res H => res = .bool r ∧ Kn wm H [] Fr) := by
 unfold M.anamnesislaw12_OverScalar at h0
 refine f_enter (n := 201) Try.func5 rfl (by simp) hI rfl rfl rfl fun tm hS => ?_
 clear hI
 refine cr1 hS rfl rfl ?_; clear hS
 intro tm hS
 refine c_seqS ?_
 refine c_reg fun R hR => ?_
 refine pp1 hS rfl rfl ?_; clear hS
 intro tm hS
 refine o_len (k := 0) (r := (rI .i64)) hS (.inl rfl) rfl rfl rfl (.inl rfl) Fu23 rfl ?_; clear hS
 intro tm hS
 refine pp2 hS rfl rfl rfl rfl ?_; clear hS
 intro tm hS
 obtain ⟨c1, hc1⟩ : ∃ x : Bool, x = ((decide ((a1.length : Int) > 200)) || (decide ((b1.length : Int) > 200))) := ⟨_, rfl⟩
 refine o_cutN 4 (J := fun tm H => S wm 201 tm H [(30, .bool c1), (0, v1), (1, v2), (2, .int .i64 n1)] [.fz (rI .i64) v1 a1, .fz (rI .i64) v2 b1] Fr) ?_ ?_
 ·rcases Bool.eq_false_or_eq_true (decide ((a1.length : Int) > 200)) with hg1 | hg1
  ·refine o_skip hS rfl rfl rfl hg1 ?_; clear hS
   intro tm hS
   refine o_skip hS rfl rfl rfl hg1 ?_; clear hS
   intro tm hS
   refine o_skip hS rfl rfl rfl hg1 ?_; clear hS
   intro tm hS
   refine o_pickT hS (.inl rfl) rfl rfl hg1 rfl ?_; clear hS
   intro tm hS
   have hc1 : c1 = true := hc1.trans (by rw [hg1]; first | rfl | simp)
   subst hc1
   exact o_nil (hS.keep (k4 rfl rfl rfl rfl) (fun hI => (hI.sub (sc (sc sn)))))
  ·refine o_pure hS (.inr ⟨_, _, _, _, rfl, rfl, rfl, hg1⟩) rfl rfl ?_; clear hS
   intro tm hS
   refine o_len (k := 1) (r := (rI .i64)) hS (.inr ⟨_, _, _, _, rfl, rfl, rfl, hg1⟩) rfl rfl rfl (.inl rfl) Fu23 rfl ?_; clear hS
   intro tm hS
   refine o_pure hS (.inr ⟨_, _, _, _, rfl, rfl, rfl, hg1⟩) rfl rfl ?_; clear hS
   intro tm hS
   refine o_pickF hS (.inl rfl) rfl rfl hg1 rfl ?_; clear hS
   intro tm hS
   have hc1 : c1 = (decide ((b1.length : Int) > 200)) := hc1.trans (by rw [hg1]; first | rfl | simp)
   subst hc1
   exact o_nil (hS.keep (k4 rfl rfl rfl rfl) (fun hI => (hI.sub (sc (sc sn)))))
 intro tm H hS
 subst hc1
 refine o_nil (hR _ _ ?_)
 clear hR R
 refine c_cond hS rfl (fun hc => ?_) (fun hc => ?_)
 ·replace h0 := iteT hc h0
  refine c_reg fun R hR => ?_
  refine o_call hS (.inl rfl) rfl (fun wm' hw1 hw2 => wpF.told ho9 (Q := fun v H' => v = .bool true ∧ H' = H) ⟨rfl, rfl⟩) (fun wm' res H hw' hp => ?_)
  obtain ⟨rfl, rfl⟩ := hp
  replace hS := hS.put (d := 31) rfl (.bool true)
  clear hw'
  refine pp1 hS rfl rfl ?_; clear hS
  intro tm hS
  refine o_nil (hR _ _ ?_)
  clear hR R
  refine wpC.ret ?_
  obtain rfl := Option.some.inj h0
  refine Exists.intro _ (And.intro (rs_tmp hS rfl rs_nil) ?_)
  have hI := hS.inv
  exact ⟨rfl, (hI.sub sn)⟩
 ·replace h0 := iteF hc h0
  refine wpC.skip ?_
  refine c_reg fun R hR => ?_
  refine pp1 hS rfl rfl ?_; clear hS
  intro tm hS
  refine o_len (k := 0) (r := (rI .i64)) hS (.inl rfl) rfl rfl rfl (.inl rfl) Fu23 rfl ?_; clear hS
  intro tm hS
  refine o_lit (r := (rI .i64)) (l := [(a1.length : Int)]) hS (.inl rfl) rfl Fl22 rfl rfl rfl (.cons rfl .nil) rfl rfl (ri_1 (rd_flat fun _ => rfl) ri_nil) rfl ?_; clear hS
  intro v3 tm H hS
  refine pp1 hS rfl rfl ?_; clear hS
  intro tm hS
  replace hS := hS.litOwn (k := 0) rfl
  replace hS := hS.front 0 rfl
  obtain ⟨r1, hx1, h0⟩ := bindS h0
  refine o_callO hS (.inl rfl) rfl rfl (wk19o  ([(a1.length : Int)]) a1  v3 v1 ((hS.selN 1).ad 0 rfl) hx1) (fun res H hp => ?_)
  obtain ⟨v4, v5, hres, hI⟩ := hp
  replace hres := hres.symm; subst hres
  replace hS : S wm 201 _ H ((36, .agg #[.bool r1.Char, v4, v5]) :: _) ([.own (rI .i64) v4 r1.Shape, .fz (rI .i64) v5 r1.Data] ++ _) Fr := hS.afterN rfl hI
  clear hI
  refine o_alloc hS (.inl rfl) rfl Fz25 (by decide) ?_; clear hS
  intro b2 tm H hS
  refine o_st (k := 0) hS (.inl rfl) rfl rfl rfl Fs25 rfl rfl (all_cons rfl (all_cons (hS.one (k := 1) rfl (.inr (.inl rfl))) (all_cons (hS.one (k := 2) rfl (.inl rfl)) all_nil))) rfl ?_; clear hS; try clear H
  intro H hS
  refine o_nil (hR _ _ ?_)
  clear hR R
  refine c_reg fun R hR => ?_
  refine pp1 hS rfl rfl ?_; clear hS
  intro tm hS
  refine o_len (k := 4) (r := (rI .i64)) hS (.inl rfl) rfl rfl rfl (.inl rfl) Fu23 rfl ?_; clear hS
  intro tm hS
  refine o_lit (r := (rI .i64)) (l := [(b1.length : Int)]) hS (.inl rfl) rfl Fl22 rfl rfl rfl (.cons rfl .nil) rfl rfl (ri_1 (rd_flat fun _ => rfl) ri_nil) rfl ?_; clear hS
  intro v6 tm H hS
  refine pp1 hS rfl rfl ?_; clear hS
  intro tm hS
  replace hS := hS.litOwn (k := 0) rfl
  replace hS := hS.front 0 rfl
  obtain ⟨r2, hx2, h0⟩ := bindS h0
  refine o_callO hS (.inl rfl) rfl rfl (wk19o  ([(b1.length : Int)]) b1  v6 v2 ((hS.selN 1).ad 4 rfl) hx2) (fun res H hp => ?_)
  obtain ⟨v7, v8, hres, hI⟩ := hp
  replace hres := hres.symm; subst hres
  replace hS : S wm 201 _ H ((41, .agg #[.bool r2.Char, v7, v8]) :: _) ([.own (rI .i64) v7 r2.Shape, .fz (rI .i64) v8 r2.Data] ++ _) Fr := hS.afterN rfl hI
  clear hI
  refine o_alloc hS (.inl rfl) rfl Fz25 (by decide) ?_; clear hS
  intro b3 tm H hS
  refine o_st (k := 0) hS (.inl rfl) rfl rfl rfl Fs25 rfl rfl (all_cons rfl (all_cons (hS.one (k := 1) rfl (.inr (.inl rfl))) (all_cons (hS.one (k := 2) rfl (.inl rfl)) all_nil))) rfl ?_; clear hS; try clear H
  intro H hS
  refine o_nil (hR _ _ ?_)
  clear hR R
  refine c_reg fun R hR => ?_
  refine o_ldA (k := 3) hS (.inl rfl) rfl rfl rfl (.inl rfl) Fu25 rfl Fs25 rfl ?_; clear hS
  intro tm hS
  refine pp1 hS rfl rfl ?_; clear hS
  intro tm hS
  obtain ⟨r3, hx3, h0⟩ := bindS h0
  refine o_call hS (.inl rfl) rfl (fun wm' hw1 hw2 => wk20  n1   (hS.sel hw2) hx3) (fun wm' res H hw' hp => ?_)
  obtain ⟨v9, v10, hres, hI⟩ := hp
  replace hres := hres.symm; subst hres
  replace hS : S wm 201 _ H ((45, .agg #[.bool r3.Char, v9, v10]) :: _) ([.own (rI .i64) v9 r3.Shape, .own (rI .i64) v10 r3.Data] ++ _) Fr := hS.after rfl hw' hI
  clear hI hw'
  obtain ⟨⟨r4, r5⟩, hx4, h0⟩ := bindS h0
  refine o_call (Pc := fun _ res H => ∃ v11 v12, res = .tuple #[.agg #[.bool r4.Char, v11, v12], .int .i64 r5] ∧ Kn wm H ([.own (rI .i64) v11 r4.Shape, .own (rI .i64) v12 r4.Data] ++ [.own (rI .i64) v9 r3.Shape, .own (rI .i64) v10 r3.Data, .box b3 [.bool r2.Char, v7, v8], .own (rI .i64) v7 r2.Shape, .fz (rI .i64) v8 r2.Data, .box b2 [.bool r1.Char, v4, v5], .own (rI .i64) v4 r1.Shape, .fz (rI .i64) v5 r1.Data, .fz (rI .i64) v1 a1, .fz (rI .i64) v2 b1]) Fr) hS (.inl rfl) rfl (fun wm' hw1 hw2 => by
   obtain ⟨F2, kk_1, kk_2⟩ := hS.inv.lendR (La := [.fz (rI .i64) v4 r1.Shape, .fz (rI .i64) v5 r1.Data, .fz (rI .i64) v9 r3.Shape, .fz (rI .i64) v10 r3.Data]) (List.forall_mem_cons.mpr ⟨(.inr ⟨_, _, _, _, rfl, .inl (List.mem_of_getElem? (i := 6) rfl)⟩), (List.forall_mem_cons.mpr ⟨(.inl ⟨rfl, List.mem_of_getElem? (i := 7) rfl⟩), (List.forall_mem_cons.mpr ⟨(.inr ⟨_, _, _, _, rfl, .inl (List.mem_of_getElem? (i := 0) rfl)⟩), (List.forall_mem_cons.mpr ⟨(.inr ⟨_, _, _, _, rfl, .inl (List.mem_of_getElem? (i := 1) rfl)⟩), (fun _ h => by cases h)⟩)⟩)⟩)⟩) hw1 hw2
   exact (wk14 ho100 str_226_140_136 r1 r3  v4 v5 v9 v10 kk_1 hx4).mono fun res H2 ⟨v11, v12, qq_1, qq_2⟩ => ⟨v11, v12, qq_1, kk_2 _ _ (List.forall_mem_cons.mpr ⟨⟨_, _, _, _, rfl, fun _ _ _ _ h => h⟩, (List.forall_mem_cons.mpr ⟨⟨_, _, _, _, rfl, fun _ _ _ _ h => h⟩, (fun _ h => by cases h)⟩)⟩) qq_2⟩) (fun wm' res H hw' hp => ?_)
  obtain ⟨v11, v12, hres, hI⟩ := hp
  replace hres := hres.symm; subst hres
  replace hS : S wm 201 _ H ((46, .tuple #[.agg #[.bool r4.Char, v11, v12], .int .i64 r5]) :: _) ([.own (rI .i64) v11 r4.Shape, .own (rI .i64) v12 r4.Data] ++ [.own (rI .i64) v9 r3.Shape, .own (rI .i64) v10 r3.Data, .box b3 [.bool r2.Char, v7, v8], .own (rI .i64) v7 r2.Shape, .fz (rI .i64) v8 r2.Data, .box b2 [.bool r1.Char, v4, v5], .own (rI .i64) v4 r1.Shape, .fz (rI .i64) v5 r1.Data, .fz (rI .i64) v1 a1, .fz (rI .i64) v2 b1]) Fr := (hS.put rfl _).withK hI
  clear hI hw'
  refine pp3 hS rfl rfl rfl rfl rfl rfl ?_; clear hS
  intro tm hS
  refine o_alloc hS (.inl rfl) rfl Fz25 (by decide) ?_; clear hS
  intro b4 tm H hS
  refine o_st (k := 0) hS (.inl rfl) rfl rfl rfl Fs25 rfl rfl (all_cons rfl (all_cons (hS.one (k := 1) rfl (.inr (.inl rfl))) (all_cons (hS.one (k := 2) rfl (.inr (.inl rfl))) all_nil))) rfl ?_; clear hS; try clear H
  intro H hS
  refine pp1 hS rfl rfl ?_; clear hS
  intro tm hS
  refine o_nil (hR _ _ ?_)
  clear hR R
  refine c_reg fun R hR => ?_
  refine pp1 hS rfl rfl ?_; clear hS
  intro tm hS
  obtain ⟨r6, hx5, h0⟩ := bindS h0
  refine o_call hS (.inl rfl) rfl (fun wm' hw1 hw2 => wk20  n1   (hS.sel hw2) hx5) (fun wm' res H hw' hp => ?_)
  obtain ⟨v13, v14, hres, hI⟩ := hp
  replace hres := hres.symm; subst hres
  replace hS : S wm 201 _ H ((51, .agg #[.bool r6.Char, v13, v14]) :: _) ([.own (rI .i64) v13 r6.Shape, .own (rI .i64) v14 r6.Data] ++ _) Fr := hS.after rfl hw' hI
  clear hI hw'
  refine o_ldA (k := 10) hS (.inl rfl) rfl rfl rfl (.inl rfl) Fu25 rfl Fs25 rfl ?_; clear hS
  intro tm hS
  obtain ⟨⟨r7, r8⟩, hx6, h0⟩ := bindS h0
  refine o_call (Pc := fun _ res H => ∃ v15 v16, res = .tuple #[.agg #[.bool r7.Char, v15, v16], .int .i64 r8] ∧ Kn wm H ([.own (rI .i64) v15 r7.Shape, .own (rI .i64) v16 r7.Data] ++ [.own (rI .i64) v13 r6.Shape, .own (rI .i64) v14 r6.Data, .box b4 [.bool r4.Char, v11, v12], .own (rI .i64) v11 r4.Shape, .own (rI .i64) v12 r4.Data, .own (rI .i64) v9 r3.Shape, .own (rI .i64) v10 r3.Data, .box b3 [.bool r2.Char, v7, v8], .own (rI .i64) v7 r2.Shape, .fz (rI .i64) v8 r2.Data, .box b2 [.bool r1.Char, v4, v5], .own (rI .i64) v4 r1.Shape, .fz (rI .i64) v5 r1.Data, .fz (rI .i64) v1 a1, .fz (rI .i64) v2 b1]) Fr) hS (.inl rfl) rfl (fun wm' hw1 hw2 => by
   obtain ⟨F2, kk_1, kk_2⟩ := hS.inv.lendR (La := [.fz (rI .i64) v13 r6.Shape, .fz (rI .i64) v14 r6.Data, .fz (rI .i64) v4 r1.Shape, .fz (rI .i64) v5 r1.Data]) (List.forall_mem_cons.mpr ⟨(.inr ⟨_, _, _, _, rfl, .inl (List.mem_of_getElem? (i := 0) rfl)⟩), (List.forall_mem_cons.mpr ⟨(.inr ⟨_, _, _, _, rfl, .inl (List.mem_of_getElem? (i := 1) rfl)⟩), (List.forall_mem_cons.mpr ⟨(.inr ⟨_, _, _, _, rfl, .inl (List.mem_of_getElem? (i := 11) rfl)⟩), (List.forall_mem_cons.mpr ⟨(.inl ⟨rfl, List.mem_of_getElem? (i := 12) rfl⟩), (fun _ h => by cases h)⟩)⟩)⟩)⟩) hw1 hw2
   exact (wk14 ho100 str_226_140_136 r6 r1  v13 v14 v4 v5 kk_1 hx6).mono fun res H2 ⟨v15, v16, qq_1, qq_2⟩ => ⟨v15, v16, qq_1, kk_2 _ _ (List.forall_mem_cons.mpr ⟨⟨_, _, _, _, rfl, fun _ _ _ _ h => h⟩, (List.forall_mem_cons.mpr ⟨⟨_, _, _, _, rfl, fun _ _ _ _ h => h⟩, (fun _ h => by cases h)⟩)⟩) qq_2⟩) (fun wm' res H hw' hp => ?_)
  obtain ⟨v15, v16, hres, hI⟩ := hp
  replace hres := hres.symm; subst hres
  replace hS : S wm 201 _ H ((53, .tuple #[.agg #[.bool r7.Char, v15, v16], .int .i64 r8]) :: _) ([.own (rI .i64) v15 r7.Shape, .own (rI .i64) v16 r7.Data] ++ [.own (rI .i64) v13 r6.Shape, .own (rI .i64) v14 r6.Data, .box b4 [.bool r4.Char, v11, v12], .own (rI .i64) v11 r4.Shape, .own (rI .i64) v12 r4.Data, .own (rI .i64) v9 r3.Shape, .own (rI .i64) v10 r3.Data, .box b3 [.bool r2.Char, v7, v8], .own (rI .i64) v7 r2.Shape, .fz (rI .i64) v8 r2.Data, .box b2 [.bool r1.Char, v4, v5], .own (rI .i64) v4 r1.Shape, .fz (rI .i64) v5 r1.Data, .fz (rI .i64) v1 a1, .fz (rI .i64) v2 b1]) Fr := (hS.put rfl _).withK hI
  clear hI hw'
  refine pp3 hS rfl rfl rfl rfl rfl rfl ?_; clear hS
  intro tm hS
  refine o_alloc hS (.inl rfl) rfl Fz25 (by decide) ?_; clear hS
  intro b5 tm H hS
  refine o_st (k := 0) hS (.inl rfl) rfl rfl rfl Fs25 rfl rfl (all_cons rfl (all_cons (hS.one (k := 1) rfl (.inr (.inl rfl))) (all_cons (hS.one (k := 2) rfl (.inr (.inl rfl))) all_nil))) rfl ?_; clear hS; try clear H
  intro H hS
  refine pp1 hS rfl rfl ?_; clear hS
  intro tm hS
  refine o_nil (hR _ _ ?_)
  clear hR R
  refine c_seqS ?_
  refine c_reg fun R hR => ?_
  refine pp3 hS rfl rfl rfl rfl rfl rfl ?_; clear hS
  intro tm hS
  obtain ⟨c2, hc2⟩ : ∃ x : Bool, x = ((r5 != 0) || (r8 != 0)) := ⟨_, rfl⟩
  refine o_cutN 3 (J := fun tm H => S wm 201 tm H [(61, .bool c2), (0, v1), (1, v2), (7, .pointer (some ⟨b2, 0, none⟩)), (8, .pointer (some ⟨b3, 0, none⟩)), (9, .pointer (some ⟨b4, 0, none⟩)), (11, .pointer (some ⟨b5, 0, none⟩))] [.box b5 [.bool r7.Char, v15, v16], .own (rI .i64) v15 r7.Shape, .own (rI .i64) v16 r7.Data, .box b4 [.bool r4.Char, v11, v12], .own (rI .i64) v11 r4.Shape, .own (rI .i64) v12 r4.Data, .box b3 [.bool r2.Char, v7, v8], .own (rI .i64) v7 r2.Shape, .fz (rI .i64) v8 r2.Data, .box b2 [.bool r1.Char, v4, v5], .own (rI .i64) v4 r1.Shape, .fz (rI .i64) v5 r1.Data, .fz (rI .i64) v1 a1, .fz (rI .i64) v2 b1] Fr) ?_ ?_
  ·rcases Bool.eq_false_or_eq_true (r5 != 0) with hg2 | hg2
   ·refine o_skip hS rfl rfl rfl hg2 ?_; clear hS
    intro tm hS
    refine o_skip hS rfl rfl rfl hg2 ?_; clear hS
    intro tm hS
    refine o_pickT hS (.inl rfl) rfl rfl hg2 rfl ?_; clear hS
    intro tm hS
    have hc2 : c2 = true := hc2.trans (by rw [hg2]; first | rfl | simp)
    subst hc2
    exact o_nil (hS.keep (k7 rfl rfl rfl rfl rfl rfl rfl) (fun hI => (hI.sub (sc (sc (sc (sd (sd (sc (sc (sc (sd (sd (sc (sc (sc (sc (sc (sc (sc (sc sn)))))))))))))))))))))
   ·refine o_pure hS (.inr ⟨_, _, _, _, rfl, rfl, rfl, hg2⟩) rfl rfl ?_; clear hS
    intro tm hS
    refine o_pure hS (.inr ⟨_, _, _, _, rfl, rfl, rfl, hg2⟩) rfl rfl ?_; clear hS
    intro tm hS
    refine o_pickF hS (.inl rfl) rfl rfl hg2 rfl ?_; clear hS
    intro tm hS
    have hc2 : c2 = (r8 != 0) := hc2.trans (by rw [hg2]; first | rfl | simp)
    subst hc2
    exact o_nil (hS.keep (k7 rfl rfl rfl rfl rfl rfl rfl) (fun hI => (hI.sub (sc (sc (sc (sd (sd (sc (sc (sc (sd (sd (sc (sc (sc (sc (sc (sc (sc (sc sn)))))))))))))))))))))
  intro tm H hS
  subst hc2
  refine pp1 hS rfl rfl ?_; clear hS
  intro tm hS
  obtain ⟨c3, hc3, h0⟩ := bindS h0
  refine o_cutN 5 (J := fun tm H => S wm 201 tm H [(67, .bool c3), (0, v1), (1, v2), (7, .pointer (some ⟨b2, 0, none⟩)), (8, .pointer (some ⟨b3, 0, none⟩)), (9, .pointer (some ⟨b4, 0, none⟩))] [.box b4 [.bool r4.Char, v11, v12], .own (rI .i64) v11 r4.Shape, .own (rI .i64) v12 r4.Data, .box b3 [.bool r2.Char, v7, v8], .own (rI .i64) v7 r2.Shape, .fz (rI .i64) v8 r2.Data, .box b2 [.bool r1.Char, v4, v5], .own (rI .i64) v4 r1.Shape, .fz (rI .i64) v5 r1.Data, .fz (rI .i64) v1 a1, .fz (rI .i64) v2 b1] Fr) ?_ ?_
  ·rcases Bool.eq_false_or_eq_true ((r5 != 0) || (r8 != 0)) with hg3 | hg3
   ·replace hc3 := iteT hg3 hc3
    refine o_skip hS rfl rfl rfl hg3 ?_; clear hS
    intro tm hS
    refine o_skip hS rfl rfl rfl hg3 ?_; clear hS
    intro tm hS
    refine o_skip hS rfl rfl rfl hg3 ?_; clear hS
    intro tm hS
    refine o_skip hS rfl rfl rfl hg3 ?_; clear hS
    intro tm hS
    refine o_pickT hS (.inl rfl) rfl rfl hg3 rfl ?_; clear hS
    intro tm hS
    obtain rfl := Option.some.inj hc3
    exact o_nil (hS.keep (k6 rfl rfl rfl rfl rfl rfl) (fun hI => (hI.sub (sd (sd (sd (sc (sc (sc (sc (sc (sc (sc (sc (sc (sc (sc sn)))))))))))))))))
   ·replace hc3 := iteF hg3 hc3
    refine o_ldA (k := 3) hS (.inr ⟨_, _, _, _, rfl, rfl, rfl, hg3⟩) rfl rfl rfl (.inl rfl) Fu25 rfl Fs25 rfl ?_; clear hS
    intro tm hS
    refine o_ldA (k := 0) hS (.inr ⟨_, _, _, _, rfl, rfl, rfl, hg3⟩) rfl rfl rfl (.inl rfl) Fu25 rfl Fs25 rfl ?_; clear hS
    intro tm hS
    obtain ⟨r9, hx7, hc3⟩ := bindS hc3
    refine o_call (Pc := fun _ res H => res = .bool r9 ∧ Kn wm H ([.box b5 [.bool r7.Char, v15, v16], .own (rI .i64) v15 r7.Shape, .own (rI .i64) v16 r7.Data, .box b4 [.bool r4.Char, v11, v12], .own (rI .i64) v11 r4.Shape, .own (rI .i64) v12 r4.Data, .box b3 [.bool r2.Char, v7, v8], .own (rI .i64) v7 r2.Shape, .fz (rI .i64) v8 r2.Data, .box b2 [.bool r1.Char, v4, v5], .own (rI .i64) v4 r1.Shape, .fz (rI .i64) v5 r1.Data, .fz (rI .i64) v1 a1, .fz (rI .i64) v2 b1]) Fr) hS (.inr ⟨_, _, _, _, rfl, rfl, rfl, hg3⟩) rfl (fun wm' hw1 hw2 => by
     obtain ⟨F2, kk_1, kk_2⟩ := hS.inv.lend (La := [.fz (rI .i64) v11 r4.Shape, .fz (rI .i64) v12 r4.Data, .fz (rI .i64) v15 r7.Shape, .fz (rI .i64) v16 r7.Data]) (List.forall_mem_cons.mpr ⟨(.inr ⟨_, _, _, _, rfl, .inl (List.mem_of_getElem? (i := 4) rfl)⟩), (List.forall_mem_cons.mpr ⟨(.inr ⟨_, _, _, _, rfl, .inl (List.mem_of_getElem? (i := 5) rfl)⟩), (List.forall_mem_cons.mpr ⟨(.inr ⟨_, _, _, _, rfl, .inl (List.mem_of_getElem? (i := 1) rfl)⟩), (List.forall_mem_cons.mpr ⟨(.inr ⟨_, _, _, _, rfl, .inl (List.mem_of_getElem? (i := 2) rfl)⟩), (fun _ h => by cases h)⟩)⟩)⟩)⟩) hw1 hw2
     exact (wk21  r4 r7  v11 v12 v15 v16 kk_1 hx7).mono fun res H2 ⟨qq_1, qq_2⟩ => ⟨qq_1, kk_2 _ qq_2⟩) (fun wm' res H hw' hp => ?_)
    obtain ⟨hres, hI⟩ := hp
    replace hres := hres.symm; subst hres
    replace hS : S wm 201 _ H ((65, .bool r9) :: _) ([.box b5 [.bool r7.Char, v15, v16], .own (rI .i64) v15 r7.Shape, .own (rI .i64) v16 r7.Data, .box b4 [.bool r4.Char, v11, v12], .own (rI .i64) v11 r4.Shape, .own (rI .i64) v12 r4.Data, .box b3 [.bool r2.Char, v7, v8], .own (rI .i64) v7 r2.Shape, .fz (rI .i64) v8 r2.Data, .box b2 [.bool r1.Char, v4, v5], .own (rI .i64) v4 r1.Shape, .fz (rI .i64) v5 r1.Data, .fz (rI .i64) v1 a1, .fz (rI .i64) v2 b1]) Fr := (hS.put rfl _).withK hI
    clear hI hw'
    refine o_pure hS (.inr ⟨_, _, _, _, rfl, rfl, rfl, hg3⟩) rfl rfl ?_; clear hS
    intro tm hS
    refine o_pickF hS (.inl rfl) rfl rfl hg3 rfl ?_; clear hS
    intro tm hS
    obtain rfl := Option.some.inj hc3
    exact o_nil (hS.keep (k6 rfl rfl rfl rfl rfl rfl) (fun hI => (hI.sub (sd (sd (sd (sc (sc (sc (sc (sc (sc (sc (sc (sc (sc (sc sn)))))))))))))))))
  intro tm H hS
  refine pp1 hS rfl rfl ?_; clear hS
  intro tm hS
  obtain ⟨c4, hc4⟩ : ∃ x : Bool, x = (c3 || ((r4.Data.length : Int) != (a1.length : Int))) := ⟨_, rfl⟩
  refine o_cutN 7 (J := fun tm H => S wm 201 tm H [(75, .bool c4), (0, v1), (1, v2), (7, .pointer (some ⟨b2, 0, none⟩)), (8, .pointer (some ⟨b3, 0, none⟩)), (9, .pointer (some ⟨b4, 0, none⟩))] [.box b4 [.bool r4.Char, v11, v12], .own (rI .i64) v11 r4.Shape, .own (rI .i64) v12 r4.Data, .box b3 [.bool r2.Char, v7, v8], .own (rI .i64) v7 r2.Shape, .fz (rI .i64) v8 r2.Data, .box b2 [.bool r1.Char, v4, v5], .own (rI .i64) v4 r1.Shape, .fz (rI .i64) v5 r1.Data, .fz (rI .i64) v1 a1, .fz (rI .i64) v2 b1] Fr) ?_ ?_
  ·rcases Bool.eq_false_or_eq_true c3 with hg4 | hg4
   ·refine o_skip hS rfl rfl rfl hg4 ?_; clear hS
    intro tm hS
    refine o_skip hS rfl rfl rfl hg4 ?_; clear hS
    intro tm hS
    refine o_skip hS rfl rfl rfl hg4 ?_; clear hS
    intro tm hS
    refine o_skip hS rfl rfl rfl hg4 ?_; clear hS
    intro tm hS
    refine o_skip hS rfl rfl rfl hg4 ?_; clear hS
    intro tm hS
    refine o_skip hS rfl rfl rfl hg4 ?_; clear hS
    intro tm hS
    refine o_pickT hS (.inl rfl) rfl rfl hg4 rfl ?_; clear hS
    intro tm hS
    have hc4 : c4 = true := hc4.trans (by rw [hg4]; first | rfl | simp)
    subst hc4
    exact o_nil (hS.keep (k6 rfl rfl rfl rfl rfl rfl) (fun hI => (hI.sub (sc (sc (sc (sc (sc (sc (sc (sc (sc (sc (sc sn))))))))))))))
   ·refine o_pure hS (.inr ⟨_, _, _, _, rfl, rfl, rfl, hg4⟩) rfl rfl ?_; clear hS
    intro tm hS
    refine o_ld1 (k := 0) hS (.inr ⟨_, _, _, _, rfl, rfl, rfl, hg4⟩) rfl rfl rfl (.inl rfl) Fu23 rfl rfl ?_; clear hS
    intro tm hS
    refine o_len (k := 2) (r := (rI .i64)) hS (.inr ⟨_, _, _, _, rfl, rfl, rfl, hg4⟩) rfl rfl rfl (.inr (.inl rfl)) Fu23 rfl ?_; clear hS
    intro tm hS
    refine o_pure hS (.inr ⟨_, _, _, _, rfl, rfl, rfl, hg4⟩) rfl rfl ?_; clear hS
    intro tm hS
    refine o_len (k := 9) (r := (rI .i64)) hS (.inr ⟨_, _, _, _, rfl, rfl, rfl, hg4⟩) rfl rfl rfl (.inl rfl) Fu23 rfl ?_; clear hS
    intro tm hS
    refine o_pure hS (.inr ⟨_, _, _, _, rfl, rfl, rfl, hg4⟩) rfl rfl ?_; clear hS
    intro tm hS
    refine o_pickF hS (.inl rfl) rfl rfl hg4 rfl ?_; clear hS
    intro tm hS
    have hc4 : c4 = ((r4.Data.length : Int) != (a1.length : Int)) := hc4.trans (by rw [hg4]; first | rfl | simp)
    subst hc4
    exact o_nil (hS.keep (k6 rfl rfl rfl rfl rfl rfl) (fun hI => (hI.sub (sc (sc (sc (sc (sc (sc (sc (sc (sc (sc (sc sn))))))))))))))
  intro tm H hS
  subst hc4
  refine pp1 hS rfl rfl ?_; clear hS
  intro tm hS
  obtain ⟨c5, hc5⟩ : ∃ x : Bool, x = ((c3 || ((r4.Data.length : Int) != (a1.length : Int))) || ((r4.Shape.length : Int) != 1)) := ⟨_, rfl⟩
  refine o_cutN 5 (J := fun tm H => S wm 201 tm H [(81, .bool c5), (0, v1), (1, v2), (7, .pointer (some ⟨b2, 0, none⟩)), (8, .pointer (some ⟨b3, 0, none⟩))] [.box b3 [.bool r2.Char, v7, v8], .own (rI .i64) v7 r2.Shape, .fz (rI .i64) v8 r2.Data, .box b2 [.bool r1.Char, v4, v5], .own (rI .i64) v4 r1.Shape, .fz (rI .i64) v5 r1.Data, .fz (rI .i64) v1 a1, .fz (rI .i64) v2 b1] Fr) ?_ ?_
  ·rcases Bool.eq_false_or_eq_true (c3 || ((r4.Data.length : Int) != (a1.length : Int))) with hg5 | hg5
   ·refine o_skip hS rfl rfl rfl hg5 ?_; clear hS
    intro tm hS
    refine o_skip hS rfl rfl rfl hg5 ?_; clear hS
    intro tm hS
    refine o_skip hS rfl rfl rfl hg5 ?_; clear hS
    intro tm hS
    refine o_skip hS rfl rfl rfl hg5 ?_; clear hS
    intro tm hS
    refine o_pickT hS (.inl rfl) rfl rfl hg5 rfl ?_; clear hS
    intro tm hS
    have hc5 : c5 = true := hc5.trans (by rw [hg5]; first | rfl | simp)
    subst hc5
    exact o_nil (hS.keep (k5 rfl rfl rfl rfl rfl) (fun hI => (hI.sub (sd (sd (sd (sc (sc (sc (sc (sc (sc (sc (sc sn))))))))))))))
   ·refine o_pure hS (.inr ⟨_, _, _, _, rfl, rfl, rfl, hg5⟩) rfl rfl ?_; clear hS
    intro tm hS
    refine o_ld1 (k := 0) hS (.inr ⟨_, _, _, _, rfl, rfl, rfl, hg5⟩) rfl rfl rfl (.inl rfl) Fu22 rfl rfl ?_; clear hS
    intro tm hS
    refine o_len (k := 1) (r := (rI .i64)) hS (.inr ⟨_, _, _, _, rfl, rfl, rfl, hg5⟩) rfl rfl rfl (.inr (.inl rfl)) Fu22 rfl ?_; clear hS
    intro tm hS
    refine o_pure hS (.inr ⟨_, _, _, _, rfl, rfl, rfl, hg5⟩) rfl rfl ?_; clear hS
    intro tm hS
    refine o_pickF hS (.inl rfl) rfl rfl hg5 rfl ?_; clear hS
    intro tm hS
    have hc5 : c5 = ((r4.Shape.length : Int) != 1) := hc5.trans (by rw [hg5]; first | rfl | simp)
    subst hc5
    exact o_nil (hS.keep (k5 rfl rfl rfl rfl rfl) (fun hI => (hI.sub (sd (sd (sd (sc (sc (sc (sc (sc (sc (sc (sc sn))))))))))))))
  intro tm H hS
  subst hc5
  refine o_nil (hR _ _ ?_)
  clear hR R
  refine c_cond hS rfl (fun hc => ?_) (fun hc => ?_)
  ·replace h0 := iteT hc h0
   refine cr1 hS rfl rfl ?_; clear hS
   intro tm hS
   refine wpC.ret ?_
   obtain rfl := Option.some.inj h0
   refine Exists.intro _ (And.intro (rs_tmp hS rfl rs_nil) ?_)
   have hI := hS.inv
   exact ⟨rfl, (hI.sub sn)⟩
  ·replace h0 := iteF hc h0
   refine wpC.skip ?_
   refine c_reg fun R hR => ?_
   refine o_ldA (k := 3) hS (.inl rfl) rfl rfl rfl (.inl rfl) Fu25 rfl Fs25 rfl ?_; clear hS
   intro tm hS
   refine o_ldA (k := 0) hS (.inl rfl) rfl rfl rfl (.inl rfl) Fu25 rfl Fs25 rfl ?_; clear hS
   intro tm hS
   obtain ⟨⟨r10, r11⟩, hx8, h0⟩ := bindS h0
   refine o_call (Pc := fun _ res H => ∃ v17 v18, res = .tuple #[.agg #[.bool r10.Char, v17, v18], .int .i64 r11] ∧ Kn wm H ([.own (rI .i64) v17 r10.Shape, .own (rI .i64) v18 r10.Data] ++ [.box b3 [.bool r2.Char, v7, v8], .own (rI .i64) v7 r2.Shape, .fz (rI .i64) v8 r2.Data, .box b2 [.bool r1.Char, v4, v5], .own (rI .i64) v4 r1.Shape, .fz (rI .i64) v5 r1.Data, .fz (rI .i64) v1 a1, .fz (rI .i64) v2 b1]) Fr) hS (.inl rfl) rfl (fun wm' hw1 hw2 => by
    obtain ⟨F2, kk_1, kk_2⟩ := hS.inv.lendR (La := [.fz (rI .i64) v4 r1.Shape, .fz (rI .i64) v5 r1.Data, .fz (rI .i64) v7 r2.Shape, .fz (rI .i64) v8 r2.Data]) (List.forall_mem_cons.mpr ⟨(.inr ⟨_, _, _, _, rfl, .inl (List.mem_of_getElem? (i := 4) rfl)⟩), (List.forall_mem_cons.mpr ⟨(.inl ⟨rfl, List.mem_of_getElem? (i := 5) rfl⟩), (List.forall_mem_cons.mpr ⟨(.inr ⟨_, _, _, _, rfl, .inl (List.mem_of_getElem? (i := 1) rfl)⟩), (List.forall_mem_cons.mpr ⟨(.inl ⟨rfl, List.mem_of_getElem? (i := 2) rfl⟩), (fun _ h => by cases h)⟩)⟩)⟩)⟩) hw1 hw2
    exact (wk14 ho100 str_226_140_138 r1 r2  v4 v5 v7 v8 kk_1 hx8).mono fun res H2 ⟨v17, v18, qq_1, qq_2⟩ => ⟨v17, v18, qq_1, kk_2 _ _ (List.forall_mem_cons.mpr ⟨⟨_, _, _, _, rfl, fun _ _ _ _ h => h⟩, (List.forall_mem_cons.mpr ⟨⟨_, _, _, _, rfl, fun _ _ _ _ h => h⟩, (fun _ h => by cases h)⟩)⟩) qq_2⟩) (fun wm' res H hw' hp => ?_)
   obtain ⟨v17, v18, hres, hI⟩ := hp
   replace hres := hres.symm; subst hres
   replace hS : S wm 201 _ H ((85, .tuple #[.agg #[.bool r10.Char, v17, v18], .int .i64 r11]) :: _) ([.own (rI .i64) v17 r10.Shape, .own (rI .i64) v18 r10.Data] ++ [.box b3 [.bool r2.Char, v7, v8], .own (rI .i64) v7 r2.Shape, .fz (rI .i64) v8 r2.Data, .box b2 [.bool r1.Char, v4, v5], .own (rI .i64) v4 r1.Shape, .fz (rI .i64) v5 r1.Data, .fz (rI .i64) v1 a1, .fz (rI .i64) v2 b1]) Fr := (hS.put rfl _).withK hI
   clear hI hw'
   refine pp3 hS rfl rfl rfl rfl rfl rfl ?_; clear hS
   intro tm hS
   refine o_alloc hS (.inl rfl) rfl Fz25 (by decide) ?_; clear hS
   intro b6 tm H hS
   refine o_st (k := 0) hS (.inl rfl) rfl rfl rfl Fs25 rfl rfl (all_cons rfl (all_cons (hS.one (k := 1) rfl (.inr (.inl rfl))) (all_cons (hS.one (k := 2) rfl (.inr (.inl rfl))) all_nil))) rfl ?_; clear hS; try clear H
   intro H hS
   refine pp1 hS rfl rfl ?_; clear hS
   intro tm hS
   refine o_nil (hR _ _ ?_)
   clear hR R
   refine c_seqS ?_
   refine c_reg fun R hR => ?_
   refine pp3 hS rfl rfl rfl rfl rfl rfl ?_; clear hS
   intro tm hS
   obtain ⟨c6, hc6⟩ : ∃ x : Bool, x = ((r11 != 0) && (r11 != 27)) := ⟨_, rfl⟩
   refine o_cutN 3 (J := fun tm H => S wm 201 tm H [(93, .bool c6), (0, v1), (1, v2), (7, .pointer (some ⟨b2, 0, none⟩)), (8, .pointer (some ⟨b3, 0, none⟩)), (13, .pointer (some ⟨b6, 0, none⟩)), (14, .int .i64 r11)] [.box b6 [.bool r10.Char, v17, v18], .own (rI .i64) v17 r10.Shape, .own (rI .i64) v18 r10.Data, .box b3 [.bool r2.Char, v7, v8], .own (rI .i64) v7 r2.Shape, .fz (rI .i64) v8 r2.Data, .box b2 [.bool r1.Char, v4, v5], .own (rI .i64) v4 r1.Shape, .fz (rI .i64) v5 r1.Data, .fz (rI .i64) v1 a1, .fz (rI .i64) v2 b1] Fr) ?_ ?_
   ·rcases Bool.eq_false_or_eq_true (r11 != 0) with hg6 | hg6
    ·refine o_pure hS (.inr ⟨_, _, _, _, rfl, rfl, rfl, hg6⟩) rfl rfl ?_; clear hS
     intro tm hS
     refine o_pure hS (.inr ⟨_, _, _, _, rfl, rfl, rfl, hg6⟩) rfl rfl ?_; clear hS
     intro tm hS
     refine o_pickT hS (.inl rfl) rfl rfl hg6 rfl ?_; clear hS
     intro tm hS
     have hc6 : c6 = (r11 != 27) := hc6.trans (by rw [hg6]; first | rfl | simp)
     subst hc6
     exact o_nil (hS.keep (k7 rfl rfl rfl rfl rfl rfl rfl) (fun hI => (hI.sub (sc (sc (sc (sc (sc (sc (sc (sc (sc (sc (sc sn))))))))))))))
    ·refine o_skip hS rfl rfl rfl hg6 ?_; clear hS
     intro tm hS
     refine o_skip hS rfl rfl rfl hg6 ?_; clear hS
     intro tm hS
     refine o_pickF hS (.inl rfl) rfl rfl hg6 rfl ?_; clear hS
     intro tm hS
     have hc6 : c6 = false := hc6.trans (by rw [hg6]; first | rfl | simp)
     subst hc6
     exact o_nil (hS.keep (k7 rfl rfl rfl rfl rfl rfl rfl) (fun hI => (hI.sub (sc (sc (sc (sc (sc (sc (sc (sc (sc (sc (sc sn))))))))))))))
   intro tm H hS
   subst hc6
   refine pp1 hS rfl rfl ?_; clear hS
   intro tm hS
   obtain ⟨c7, hc7⟩ : ∃ x : Bool, x = (((r11 != 0) && (r11 != 27)) || ((r11 == 0) && (((r10.Data.length : Int) != (IntKind.i64.wrap ((a1.length : Int) * (b1.length : Int)))) || ((r10.Shape.length : Int) != 2)))) := ⟨_, rfl⟩
   refine o_cutN 20 (J := fun tm H => S wm 201 tm H [(114, .bool c7), (0, v1), (1, v2), (7, .pointer (some ⟨b2, 0, none⟩)), (8, .pointer (some ⟨b3, 0, none⟩)), (13, .pointer (some ⟨b6, 0, none⟩)), (14, .int .i64 r11)] [.box b6 [.bool r10.Char, v17, v18], .own (rI .i64) v17 r10.Shape, .own (rI .i64) v18 r10.Data, .box b3 [.bool r2.Char, v7, v8], .own (rI .i64) v7 r2.Shape, .fz (rI .i64) v8 r2.Data, .box b2 [.bool r1.Char, v4, v5], .own (rI .i64) v4 r1.Shape, .fz (rI .i64) v5 r1.Data, .fz (rI .i64) v1 a1, .fz (rI .i64) v2 b1] Fr) ?_ ?_
   ·rcases Bool.eq_false_or_eq_true ((r11 != 0) && (r11 != 27)) with hg7 | hg7
    ·refine o_skip hS rfl rfl rfl hg7 ?_; clear hS
     intro tm hS
     refine o_skip hS rfl rfl rfl hg7 ?_; clear hS
     intro tm hS
     refine o_skip hS rfl rfl rfl hg7 ?_; clear hS
     intro tm hS
     refine o_skipU hS rfl rfl rfl ?_; clear hS
     intro tm hS
     refine o_skipU hS rfl rfl rfl ?_; clear hS
     intro tm hS
     refine o_skipU hS rfl rfl rfl ?_; clear hS
     intro tm hS
     refine o_skipU hS rfl rfl rfl ?_; clear hS
     intro tm hS
     refine o_skipU hS rfl rfl rfl ?_; clear hS
     intro tm hS
     refine o_skipU hS rfl rfl rfl ?_; clear hS
     intro tm hS
     refine o_skipU hS rfl rfl rfl ?_; clear hS
     intro tm hS
     refine o_skipU hS rfl rfl rfl ?_; clear hS
     intro tm hS
     refine o_skipU hS rfl rfl rfl ?_; clear hS
     intro tm hS
     refine o_skipU hS rfl rfl rfl ?_; clear hS
     intro tm hS
     refine o_skipU hS rfl rfl rfl ?_; clear hS
     intro tm hS
     refine o_skipU hS rfl rfl rfl ?_; clear hS
     intro tm hS
     refine o_skipU hS rfl rfl rfl ?_; clear hS
     intro tm hS
     refine o_skipU hS rfl rfl rfl ?_; clear hS
     intro tm hS
     refine o_skipU hS rfl rfl rfl ?_; clear hS
     intro tm hS
     refine o_skip hS rfl rfl rfl hg7 ?_; clear hS
     intro tm hS
     refine o_pickT hS (.inl rfl) rfl rfl hg7 rfl ?_; clear hS
     intro tm hS
     have hc7 : c7 = true := hc7.trans (by rw [hg7]; first | rfl | simp)
     subst hc7
     exact o_nil (hS.keep (k7 rfl rfl rfl rfl rfl rfl rfl) (fun hI => (hI.sub (sc (sc (sc (sc (sc (sc (sc (sc (sc (sc (sc sn))))))))))))))
    ·refine o_pure hS (.inr ⟨_, _, _, _, rfl, rfl, rfl, hg7⟩) rfl rfl ?_; clear hS
     intro tm hS
     refine o_pure hS (.inr ⟨_, _, _, _, rfl, rfl, rfl, hg7⟩) rfl rfl ?_; clear hS
     intro tm hS
     refine o_pure hS (.inr ⟨_, _, _, _, rfl, rfl, rfl, hg7⟩) rfl rfl ?_; clear hS
     intro tm hS
     obtain ⟨c8, hc8⟩ : ∃ x : Bool, x = ((r11 == 0) && (((r10.Data.length : Int) != (IntKind.i64.wrap ((a1.length : Int) * (b1.length : Int)))) || ((r10.Shape.length : Int) != 2))) := ⟨_, rfl⟩
     refine o_cutN 16 (J := fun tm H => S wm 201 tm H [(113, .bool c8), (0, v1), (1, v2), (7, .pointer (some ⟨b2, 0, none⟩)), (8, .pointer (some ⟨b3, 0, none⟩)), (13, .pointer (some ⟨b6, 0, none⟩)), (14, .int .i64 r11), (94, .bool ((r11 != 0) && (r11 != 27)))] [.box b6 [.bool r10.Char, v17, v18], .own (rI .i64) v17 r10.Shape, .own (rI .i64) v18 r10.Data, .box b3 [.bool r2.Char, v7, v8], .own (rI .i64) v7 r2.Shape, .fz (rI .i64) v8 r2.Data, .box b2 [.bool r1.Char, v4, v5], .own (rI .i64) v4 r1.Shape, .fz (rI .i64) v5 r1.Data, .fz (rI .i64) v1 a1, .fz (rI .i64) v2 b1] Fr) ?_ ?_
     ·rcases Bool.eq_false_or_eq_true (r11 == 0) with hg8 | hg8
      ·refine o_pure hS (.inr ⟨_, _, _, _, rfl, rfl, rfl, hg8⟩) rfl rfl ?_; clear hS
       intro tm hS
       refine o_ld1 (k := 0) hS (.inr ⟨_, _, _, _, rfl, rfl, rfl, hg8⟩) rfl rfl rfl (.inl rfl) Fu23 rfl rfl ?_; clear hS
       intro tm hS
       refine o_len (k := 2) (r := (rI .i64)) hS (.inr ⟨_, _, _, _, rfl, rfl, rfl, hg8⟩) rfl rfl rfl (.inr (.inl rfl)) Fu23 rfl ?_; clear hS
       intro tm hS
       refine o_pure hS (.inr ⟨_, _, _, _, rfl, rfl, rfl, hg8⟩) rfl rfl ?_; clear hS
       intro tm hS
       refine o_len (k := 9) (r := (rI .i64)) hS (.inr ⟨_, _, _, _, rfl, rfl, rfl, hg8⟩) rfl rfl rfl (.inl rfl) Fu23 rfl ?_; clear hS
       intro tm hS
       refine o_pure hS (.inr ⟨_, _, _, _, rfl, rfl, rfl, hg8⟩) rfl rfl ?_; clear hS
       intro tm hS
       refine o_len (k := 10) (r := (rI .i64)) hS (.inr ⟨_, _, _, _, rfl, rfl, rfl, hg8⟩) rfl rfl rfl (.inl rfl) Fu23 rfl ?_; clear hS
       intro tm hS
       refine o_pure hS (.inr ⟨_, _, _, _, rfl, rfl, rfl, hg8⟩) rfl rfl ?_; clear hS
       intro tm hS
       refine o_pure hS (.inr ⟨_, _, _, _, rfl, rfl, rfl, hg8⟩) rfl rfl ?_; clear hS
       intro tm hS
       refine o_pure hS (.inr ⟨_, _, _, _, rfl, rfl, rfl, hg8⟩) rfl rfl ?_; clear hS
       intro tm hS
       obtain ⟨c9, hc9⟩ : ∃ x : Bool, x = (((r10.Data.length : Int) != (IntKind.i64.wrap ((a1.length : Int) * (b1.length : Int)))) || ((r10.Shape.length : Int) != 2)) := ⟨_, rfl⟩
       refine o_cutN 5 (J := fun tm H => S wm 201 tm H [(112, .bool c9), (0, v1), (1, v2), (7, .pointer (some ⟨b2, 0, none⟩)), (8, .pointer (some ⟨b3, 0, none⟩)), (13, .pointer (some ⟨b6, 0, none⟩)), (14, .int .i64 r11), (94, .bool ((r11 != 0) && (r11 != 27))), (97, .bool (r11 == 0))] [.box b6 [.bool r10.Char, v17, v18], .own (rI .i64) v17 r10.Shape, .own (rI .i64) v18 r10.Data, .box b3 [.bool r2.Char, v7, v8], .own (rI .i64) v7 r2.Shape, .fz (rI .i64) v8 r2.Data, .box b2 [.bool r1.Char, v4, v5], .own (rI .i64) v4 r1.Shape, .fz (rI .i64) v5 r1.Data, .fz (rI .i64) v1 a1, .fz (rI .i64) v2 b1] Fr) ?_ ?_
       ·rcases Bool.eq_false_or_eq_true ((r10.Data.length : Int) != (IntKind.i64.wrap ((a1.length : Int) * (b1.length : Int)))) with hg9 | hg9
        ·refine o_skip hS rfl rfl rfl hg9 ?_; clear hS
         intro tm hS
         refine o_skip hS rfl rfl rfl hg9 ?_; clear hS
         intro tm hS
         refine o_skip hS rfl rfl rfl hg9 ?_; clear hS
         intro tm hS
         refine o_skip hS rfl rfl rfl hg9 ?_; clear hS
         intro tm hS
         refine o_pickT hS (.inr ⟨_, _, _, _, rfl, rfl, rfl, hg8⟩) rfl rfl hg9 rfl ?_; clear hS
         intro tm hS
         have hc9 : c9 = true := hc9.trans (by rw [hg9]; first | rfl | simp)
         subst hc9
         exact o_nil (hS.keep (k9 rfl rfl rfl rfl rfl rfl rfl rfl rfl) (fun hI => (hI.sub (sc (sc (sc (sc (sc (sc (sc (sc (sc (sc (sc sn))))))))))))))
        ·refine o_pure hS (.inr ⟨_, _, _, _, rfl, rfl, rfl, hg9⟩) rfl rfl ?_; clear hS
         intro tm hS
         refine o_ld1 (k := 0) hS (.inr ⟨_, _, _, _, rfl, rfl, rfl, hg9⟩) rfl rfl rfl (.inl rfl) Fu22 rfl rfl ?_; clear hS
         intro tm hS
         refine o_len (k := 1) (r := (rI .i64)) hS (.inr ⟨_, _, _, _, rfl, rfl, rfl, hg9⟩) rfl rfl rfl (.inr (.inl rfl)) Fu22 rfl ?_; clear hS
         intro tm hS
         refine o_pure hS (.inr ⟨_, _, _, _, rfl, rfl, rfl, hg9⟩) rfl rfl ?_; clear hS
         intro tm hS
         refine o_pickF hS (.inr ⟨_, _, _, _, rfl, rfl, rfl, hg8⟩) rfl rfl hg9 rfl ?_; clear hS
         intro tm hS
         have hc9 : c9 = ((r10.Shape.length : Int) != 2) := hc9.trans (by rw [hg9]; first | rfl | simp)
         subst hc9
         exact o_nil (hS.keep (k9 rfl rfl rfl rfl rfl rfl rfl rfl rfl) (fun hI => (hI.sub (sc (sc (sc (sc (sc (sc (sc (sc (sc (sc (sc sn))))))))))))))
       intro tm H hS
       subst hc9
       refine o_pickT hS (.inr ⟨_, _, _, _, rfl, rfl, rfl, hg7⟩) rfl rfl hg8 rfl ?_; clear hS
       intro tm hS
       have hc8 : c8 = (((r10.Data.length : Int) != (IntKind.i64.wrap ((a1.length : Int) * (b1.length : Int)))) || ((r10.Shape.length : Int) != 2)) := hc8.trans (by rw [hg8]; first | rfl | simp)
       subst hc8
       exact o_nil (hS.keep (k8 rfl rfl rfl rfl rfl rfl rfl rfl) (fun hI => (hI.sub (sc (sc (sc (sc (sc (sc (sc (sc (sc (sc (sc sn))))))))))))))
      ·refine o_skip hS rfl rfl rfl hg8 ?_; clear hS
       intro tm hS
       refine o_skip hS rfl rfl rfl hg8 ?_; clear hS
       intro tm hS
       refine o_skip hS rfl rfl rfl hg8 ?_; clear hS
       intro tm hS
       refine o_skip hS rfl rfl rfl hg8 ?_; clear hS
       intro tm hS
       refine o_skip hS rfl rfl rfl hg8 ?_; clear hS
       intro tm hS
       refine o_skip hS rfl rfl rfl hg8 ?_; clear hS
       intro tm hS
       refine o_skip hS rfl rfl rfl hg8 ?_; clear hS
       intro tm hS
       refine o_skip hS rfl rfl rfl hg8 ?_; clear hS
       intro tm hS
       refine o_skip hS rfl rfl rfl hg8 ?_; clear hS
       intro tm hS
       refine o_skip hS rfl rfl rfl hg8 ?_; clear hS
       intro tm hS
       refine o_skipU hS rfl rfl rfl ?_; clear hS
       intro tm hS
       refine o_skipU hS rfl rfl rfl ?_; clear hS
       intro tm hS
       refine o_skipU hS rfl rfl rfl ?_; clear hS
       intro tm hS
       refine o_skipU hS rfl rfl rfl ?_; clear hS
       intro tm hS
       refine o_skip hS rfl rfl rfl hg8 ?_; clear hS
       intro tm hS
       refine o_pickF hS (.inr ⟨_, _, _, _, rfl, rfl, rfl, hg7⟩) rfl rfl hg8 rfl ?_; clear hS
       intro tm hS
       have hc8 : c8 = false := hc8.trans (by rw [hg8]; first | rfl | simp)
       subst hc8
       exact o_nil (hS.keep (k8 rfl rfl rfl rfl rfl rfl rfl rfl) (fun hI => (hI.sub (sc (sc (sc (sc (sc (sc (sc (sc (sc (sc (sc sn))))))))))))))
     intro tm H hS
     subst hc8
     refine o_pickF hS (.inl rfl) rfl rfl hg7 rfl ?_; clear hS
     intro tm hS
     have hc7 : c7 = ((r11 == 0) && (((r10.Data.length : Int) != (IntKind.i64.wrap ((a1.length : Int) * (b1.length : Int)))) || ((r10.Shape.length : Int) != 2))) := hc7.trans (by rw [hg7]; first | rfl | simp)
     subst hc7
     exact o_nil (hS.keep (k7 rfl rfl rfl rfl rfl rfl rfl) (fun hI => (hI.sub (sc (sc (sc (sc (sc (sc (sc (sc (sc (sc (sc sn))))))))))))))
   intro tm H hS
   subst hc7
   refine o_nil (hR _ _ ?_)
   clear hR R
   refine c_cond hS rfl (fun hc => ?_) (fun hc => ?_)
   ·replace h0 := iteT hc h0
    refine cr1 hS rfl rfl ?_; clear hS
    intro tm hS
    refine wpC.ret ?_
    obtain rfl := Option.some.inj h0
    refine Exists.intro _ (And.intro (rs_tmp hS rfl rs_nil) ?_)
    have hI := hS.inv
    exact ⟨rfl, (hI.sub sn)⟩
   ·replace h0 := iteF hc h0
    refine wpC.skip ?_
    refine c_seqS ?_
    refine cr1 hS rfl rfl ?_; clear hS
    intro tm hS
    obtain ⟨k1, hw1, h0⟩ := bindS h0
    refine wpC.block ?_
    refine c_loop (I := fun (s : Int) tm H => match (generalizing := false) s with | i1 => S wm 201 tm H [(0, v1), (1, v2), (7, .pointer (some ⟨b2, 0, none⟩)), (8, .pointer (some ⟨b3, 0, none⟩)), (13, .pointer (some ⟨b6, 0, none⟩)), (14, .int .i64 r11), (15, .int .i64 i1)] [.box b2 [.bool r1.Char, v4, v5], .box b3 [.bool r2.Char, v7, v8], .box b6 [.bool r10.Char, v17, v18], .fz (rI .i64) v1 a1, .fz (rI .i64) v2 b1, .own (rI .i64) v4 r1.Shape, .fz (rI .i64) v5 r1.Data, .own (rI .i64) v7 r2.Shape, .fz (rI .i64) v8 r2.Data, .own (rI .i64) v17 r10.Shape, .own (rI .i64) v18 r10.Data] Fr) hw1 (by change S wm 201 _ _ _ _ Fr; exact hS.keep (k7 rfl rfl rfl rfl rfl rfl rfl) (fun hI => (hI.pick [6, 3, 0, 9, 10, 7, 8, 4, 5, 1, 2] rfl))) ?_
    clear hS
    intro i1 tm H c10 hS h2 hq2
    change S wm 201 tm H [(0, v1), (1, v2), (7, .pointer (some ⟨b2, 0, none⟩)), (8, .pointer (some ⟨b3, 0, none⟩)), (13, .pointer (some ⟨b6, 0, none⟩)), (14, .int .i64 r11), (15, .int .i64 i1)] [.box b2 [.bool r1.Char, v4, v5], .box b3 [.bool r2.Char, v7, v8], .box b6 [.bool r10.Char, v17, v18], .fz (rI .i64) v1 a1, .fz (rI .i64) v2 b1, .own (rI .i64) v4 r1.Shape, .fz (rI .i64) v5 r1.Data, .own (rI .i64) v7 r2.Shape, .fz (rI .i64) v8 r2.Data, .own (rI .i64) v17 r10.Shape, .own (rI .i64) v18 r10.Data] Fr at hS
    refine c_seqS ?_
    refine c_reg fun R hR => ?_
    refine pp2 hS rfl rfl rfl rfl ?_; clear hS
    intro tm hS
    refine o_len (k := 3) (r := (rI .i64)) hS (.inl rfl) rfl rfl rfl (.inl rfl) Fu23 rfl ?_; clear hS
    intro tm hS
    refine pp2 hS rfl rfl rfl rfl ?_; clear hS
    intro tm hS
    obtain ⟨c11, hc10⟩ : ∃ x : Bool, x = ((decide (i1 < (a1.length : Int))) && (r11 == 0)) := ⟨_, rfl⟩
    refine o_cutN 3 (J := fun tm H => S wm 201 tm H [(122, .bool c11), (0, v1), (1, v2), (7, .pointer (some ⟨b2, 0, none⟩)), (8, .pointer (some ⟨b3, 0, none⟩)), (13, .pointer (some ⟨b6, 0, none⟩)), (14, .int .i64 r11), (15, .int .i64 i1)] [.box b2 [.bool r1.Char, v4, v5], .box b3 [.bool r2.Char, v7, v8], .box b6 [.bool r10.Char, v17, v18], .fz (rI .i64) v1 a1, .fz (rI .i64) v2 b1, .own (rI .i64) v4 r1.Shape, .fz (rI .i64) v5 r1.Data, .own (rI .i64) v7 r2.Shape, .fz (rI .i64) v8 r2.Data, .own (rI .i64) v17 r10.Shape, .own (rI .i64) v18 r10.Data] Fr) ?_ ?_
    ·rcases Bool.eq_false_or_eq_true (decide (i1 < (a1.length : Int))) with hg10 | hg10
     ·refine o_pure hS (.inr ⟨_, _, _, _, rfl, rfl, rfl, hg10⟩) rfl rfl ?_; clear hS
      intro tm hS
      refine o_pure hS (.inr ⟨_, _, _, _, rfl, rfl, rfl, hg10⟩) rfl rfl ?_; clear hS
      intro tm hS
      refine o_pickT hS (.inl rfl) rfl rfl hg10 rfl ?_; clear hS
      intro tm hS
      have hc10 : c11 = (r11 == 0) := hc10.trans (by rw [hg10]; first | rfl | simp)
      subst hc10
      exact o_nil (hS.keep (k8 rfl rfl rfl rfl rfl rfl rfl rfl) (fun hI => (hI.sub (sc (sc (sc (sc (sc (sc (sc (sc (sc (sc (sc sn))))))))))))))
     ·refine o_skip hS rfl rfl rfl hg10 ?_; clear hS
      intro tm hS
      refine o_skip hS rfl rfl rfl hg10 ?_; clear hS
      intro tm hS
      refine o_pickF hS (.inl rfl) rfl rfl hg10 rfl ?_; clear hS
      intro tm hS
      have hc10 : c11 = false := hc10.trans (by rw [hg10]; first | rfl | simp)
      subst hc10
      exact o_nil (hS.keep (k8 rfl rfl rfl rfl rfl rfl rfl rfl) (fun hI => (hI.sub (sc (sc (sc (sc (sc (sc (sc (sc (sc (sc (sc sn))))))))))))))
    intro tm H hS
    subst hc10
    refine o_nil (hR _ _ ?_)
    clear hR R
    refine c_cond hS rfl (fun hc => ?_) (fun hc => ?_)
    ·replace h2 := iteT hc h2
     refine wpC.skip ?_
     refine c_seqS ?_
     refine wpC.block ?_
     refine cr1 hS rfl rfl ?_; clear hS
     intro tm hS
     obtain ⟨k3, hw2, h2⟩ := bindS h2
     refine wpC.block ?_
     refine c_loop (I := fun (s : Int) tm H => match (generalizing := false) s with | k2 => S wm 201 tm H [(0, v1), (1, v2), (7, .pointer (some ⟨b2, 0, none⟩)), (8, .pointer (some ⟨b3, 0, none⟩)), (13, .pointer (some ⟨b6, 0, none⟩)), (14, .int .i64 r11), (15, .int .i64 i1), (16, .int .i64 k2)] [.box b2 [.bool r1.Char, v4, v5], .box b3 [.bool r2.Char, v7, v8], .box b6 [.bool r10.Char, v17, v18], .fz (rI .i64) v1 a1, .fz (rI .i64) v2 b1, .own (rI .i64) v4 r1.Shape, .fz (rI .i64) v5 r1.Data, .own (rI .i64) v7 r2.Shape, .fz (rI .i64) v8 r2.Data, .own (rI .i64) v17 r10.Shape, .own (rI .i64) v18 r10.Data] Fr) hw2 (by change S wm 201 _ _ _ _ Fr; exact hS.keep (k8 rfl rfl rfl rfl rfl rfl rfl rfl) (fun hI => (hI.sub (sc (sc (sc (sc (sc (sc (sc (sc (sc (sc (sc sn)))))))))))))) ?_
     clear hS
     intro k2 tm H c12 hS h5 hq5
     change S wm 201 tm H [(0, v1), (1, v2), (7, .pointer (some ⟨b2, 0, none⟩)), (8, .pointer (some ⟨b3, 0, none⟩)), (13, .pointer (some ⟨b6, 0, none⟩)), (14, .int .i64 r11), (15, .int .i64 i1), (16, .int .i64 k2)] [.box b2 [.bool r1.Char, v4, v5], .box b3 [.bool r2.Char, v7, v8], .box b6 [.bool r10.Char, v17, v18], .fz (rI .i64) v1 a1, .fz (rI .i64) v2 b1, .own (rI .i64) v4 r1.Shape, .fz (rI .i64) v5 r1.Data, .own (rI .i64) v7 r2.Shape, .fz (rI .i64) v8 r2.Data, .own (rI .i64) v17 r10.Shape, .own (rI .i64) v18 r10.Data] Fr at hS
     refine c_seqS ?_
     refine c_reg fun R hR => ?_
     refine pp2 hS rfl rfl rfl rfl ?_; clear hS
     intro tm hS
     refine o_len (k := 4) (r := (rI .i64)) hS (.inl rfl) rfl rfl rfl (.inl rfl) Fu23 rfl ?_; clear hS
     intro tm hS
     refine pp1 hS rfl rfl ?_; clear hS
     intro tm hS
     refine o_nil (hR _ _ ?_)
     clear hR R
     refine c_cond hS rfl (fun hc => ?_) (fun hc => ?_)
     ·replace h5 := iteT hc h5
      refine wpC.skip ?_
      refine c_seqS ?_
      refine wpC.block ?_
      refine c_reg fun R hR => ?_
      refine pp1 hS rfl rfl ?_; clear hS
      intro tm hS
      refine o_ld1 (k := 2) hS (.inl rfl) rfl rfl rfl (.inl rfl) Fu23 rfl rfl ?_; clear hS
      intro tm hS
      refine pp2 hS rfl rfl rfl rfl ?_; clear hS
      intro tm hS
      refine o_len (k := 4) (r := (rI .i64)) hS (.inl rfl) rfl rfl rfl (.inl rfl) Fu23 rfl ?_; clear hS
      intro tm hS
      refine pp3 hS rfl rfl rfl rfl rfl rfl ?_; clear hS
      intro tm hS
      obtain ⟨y1, hx9, h5⟩ := bindS h5
      refine o_ixA (k := 10) (r := (rI .i64)) hS (.inl rfl) rfl rfl rfl rfl (.inr (.inl rfl)) Fu23 Fs2 hx9 ?_; clear hS
      intro tm hS
      refine o_ldF (r := (rI .i64)) (k := 10) hS (.inl rfl) rfl rfl rfl (.inr (.inl rfl)) hx9 Fu2 rfl (flat_I _) rfl ?_; clear hS
      intro tm hS
      refine pp2 hS rfl rfl rfl rfl ?_; clear hS
      intro tm hS
      obtain ⟨y2, hx10, h5⟩ := bindS h5
      refine o_ixA (k := 3) (r := (rI .i64)) hS (.inl rfl) rfl rfl rfl rfl (.inl rfl) Fu23 Fs2 hx10 ?_; clear hS
      intro tm hS
      refine o_ldF (r := (rI .i64)) (k := 3) hS (.inl rfl) rfl rfl rfl (.inl rfl) hx10 Fu2 rfl (flat_I _) rfl ?_; clear hS
      intro tm hS
      refine pp2 hS rfl rfl rfl rfl ?_; clear hS
      intro tm hS
      obtain ⟨y3, hx11, h5⟩ := bindS h5
      refine o_ixA (k := 4) (r := (rI .i64)) hS (.inl rfl) rfl rfl rfl rfl (.inl rfl) Fu23 Fs2 hx11 ?_; clear hS
      intro tm hS
      refine o_ldF (r := (rI .i64)) (k := 4) hS (.inl rfl) rfl rfl rfl (.inl rfl) hx11 Fu2 rfl (flat_I _) rfl ?_; clear hS
      intro tm hS
      refine pp2 hS rfl rfl rfl rfl ?_; clear hS
      intro tm hS
      refine o_nil (hR _ _ ?_)
      clear hR R
      refine c_cond hS rfl (fun hc => ?_) (fun hc => ?_)
      ·replace h5 := iteT hc h5
       refine cr1 hS rfl rfl ?_; clear hS
       intro tm hS
       refine wpC.ret ?_
       obtain rfl := Option.some.inj h5
       obtain rfl := hq5 _ rfl
       refine And.intro rfl ?_
       obtain rfl := leave h2
       obtain rfl := hq2 _ rfl
       refine And.intro rfl ?_
       obtain rfl := leave h0
       refine Exists.intro _ (And.intro (rs_tmp hS rfl rs_nil) ?_)
       have hI := hS.inv
       exact ⟨rfl, (hI.sub sn)⟩
      ·replace h5 := iteF hc h5
       refine wpC.skip ?_
       refine cs3 hS rfl rfl rfl rfl rfl rfl ?_; clear hS
       intro tm hS
       obtain rfl := Option.some.inj h5
       refine ⟨_, rfl, ?_⟩
       change S wm 201 _ _ _ _ Fr; exact hS.keep (k8 rfl rfl rfl rfl rfl rfl rfl rfl) (fun hI => (hI.sub (sc (sc (sc (sc (sc (sc (sc (sc (sc (sc (sc sn)))))))))))))
     ·replace h5 := iteF hc h5
      refine wpC.exit ?_
      refine seqX ?_
      obtain rfl := Option.some.inj h5
      obtain rfl := hq5 _ rfl
      refine And.intro rfl (blk_eq ?_)
      replace h2 := joinN h2
      refine cs3 hS rfl rfl rfl rfl rfl rfl ?_; clear hS
      intro tm hS
      obtain rfl := Option.some.inj h2
      refine ⟨_, rfl, ?_⟩
      change S wm 201 _ _ _ _ Fr; exact hS.keep (k7 rfl rfl rfl rfl rfl rfl rfl) (fun hI => (hI.sub (sc (sc (sc (sc (sc (sc (sc (sc (sc (sc (sc sn)))))))))))))
    ·replace h2 := iteF hc h2
     refine wpC.exit ?_
     refine seqX ?_
     obtain rfl := Option.some.inj h2
     obtain rfl := hq2 _ rfl
     refine And.intro rfl (blk_eq ?_)
     replace h0 := joinN h0
     refine c_seqS ?_
     refine c_reg fun R hR => ?_
     refine pp1 hS rfl rfl ?_; clear hS
     intro tm hS
     refine o_len (k := 3) (r := (rI .i64)) hS (.inl rfl) rfl rfl rfl (.inl rfl) Fu23 rfl ?_; clear hS
     intro tm hS
     refine pp1 hS rfl rfl ?_; clear hS
     intro tm hS
     refine o_len (k := 4) (r := (rI .i64)) hS (.inl rfl) rfl rfl rfl (.inl rfl) Fu23 rfl ?_; clear hS
     intro tm hS
     refine pp1 hS rfl rfl ?_; clear hS
     intro tm hS
     refine o_nil (hR _ _ ?_)
     clear hR R
     refine c_cond hS rfl (fun hc => ?_) (fun hc => ?_)
     ·replace h0 := iteT hc h0
      refine c_reg fun R hR => ?_
      refine o_call hS (.inl rfl) rfl (fun wm' hw1 hw2 => wpF.told ho9 (Q := fun v H' => v = .bool true ∧ H' = H) ⟨rfl, rfl⟩) (fun wm' res H hw' hp => ?_)
      obtain ⟨rfl, rfl⟩ := hp
      replace hS := hS.put (d := 156) rfl (.bool true)
      clear hw'
      refine pp1 hS rfl rfl ?_; clear hS
      intro tm hS
      refine o_nil (hR _ _ ?_)
      clear hR R
      refine wpC.ret ?_
      obtain rfl := Option.some.inj h0
      refine Exists.intro _ (And.intro (rs_tmp hS rfl rs_nil) ?_)
      have hI := hS.inv
      exact ⟨rfl, (hI.sub sn)⟩
     ·replace h0 := iteF hc h0
      refine wpC.skip ?_
      refine cr1 hS rfl rfl ?_; clear hS
      intro tm hS
      refine c_seqS ?_
      refine cr1 hS rfl rfl ?_; clear hS
      intro tm hS
      obtain ⟨k4, hw3, h0⟩ := bindS h0
      refine wpC.block ?_
      replace hS := hS.nilOwn (rI .i64)
      refine c_loop (I := fun (s : (List Int) × Int) tm H => match (generalizing := false) s with | (l1, i2) => ∃ v19, S wm 201 tm H [(0, v1), (1, v2), (7, .pointer (some ⟨b2, 0, none⟩)), (8, .pointer (some ⟨b3, 0, none⟩)), (17, v19), (18, .int .i64 i2)] [.box b2 [.bool r1.Char, v4, v5], .box b3 [.bool r2.Char, v7, v8], .own (rI .i64) v19 l1, .fz (rI .i64) v1 a1, .fz (rI .i64) v2 b1, .own (rI .i64) v4 r1.Shape, .fz (rI .i64) v5 r1.Data, .own (rI .i64) v7 r2.Shape, .fz (rI .i64) v8 r2.Data] Fr) hw3 (by refine Exists.intro (.slice none 0 0) ?_; change S wm 201 _ _ _ _ Fr; exact hS.keep (k6 rfl rfl rfl rfl rfl rfl) (fun hI => (hI.pick [1, 2, 0, 4, 5, 6, 7, 8, 9] rfl))) ?_
      clear hS
      intro s1 tm H c13 hS h6 hq6
      obtain ⟨l1, i2⟩ := s1
      obtain ⟨v19, hS⟩ := hS
      change S wm 201 tm H [(0, v1), (1, v2), (7, .pointer (some ⟨b2, 0, none⟩)), (8, .pointer (some ⟨b3, 0, none⟩)), (17, v19), (18, .int .i64 i2)] [.box b2 [.bool r1.Char, v4, v5], .box b3 [.bool r2.Char, v7, v8], .own (rI .i64) v19 l1, .fz (rI .i64) v1 a1, .fz (rI .i64) v2 b1, .own (rI .i64) v4 r1.Shape, .fz (rI .i64) v5 r1.Data, .own (rI .i64) v7 r2.Shape, .fz (rI .i64) v8 r2.Data] Fr at hS
      refine c_seqS ?_
      refine c_reg fun R hR => ?_
      refine pp2 hS rfl rfl rfl rfl ?_; clear hS
      intro tm hS
      refine o_len (k := 3) (r := (rI .i64)) hS (.inl rfl) rfl rfl rfl (.inl rfl) Fu23 rfl ?_; clear hS
      intro tm hS
      refine pp1 hS rfl rfl ?_; clear hS
      intro tm hS
      refine o_nil (hR _ _ ?_)
      clear hR R
      refine c_cond hS rfl (fun hc => ?_) (fun hc => ?_)
      ·replace h6 := iteT hc h6
       refine wpC.skip ?_
       refine c_seqS ?_
       refine wpC.block ?_
       refine c_reg1 fun R hR => ?_
       refine pp3 hS rfl rfl rfl rfl rfl rfl ?_; clear hS
       intro tm hS
       obtain ⟨y4, hx12, h6⟩ := bindS h6
       refine o_ixA (k := 3) (r := (rI .i64)) hS (.inl rfl) rfl rfl rfl rfl (.inl rfl) Fu23 Fs2 hx12 ?_; clear hS
       intro tm hS
       refine o_ldF (r := (rI .i64)) (k := 3) hS (.inl rfl) rfl rfl rfl (.inl rfl) hx12 Fu2 rfl (flat_I _) rfl ?_; clear hS
       intro tm hS
       refine pp2 hS rfl rfl rfl rfl ?_; clear hS
       intro tm hS
       obtain ⟨y5, hx13, h6⟩ := bindS h6
       refine o_ixA (k := 4) (r := (rI .i64)) hS (.inl rfl) rfl rfl rfl rfl (.inl rfl) Fu23 Fs2 hx13 ?_; clear hS
       intro tm hS
       refine o_ldF (r := (rI .i64)) (k := 4) hS (.inl rfl) rfl rfl rfl (.inl rfl) hx13 Fu2 rfl (flat_I _) rfl ?_; clear hS
       intro tm hS
       refine pp1 hS rfl rfl ?_; clear hS
       intro tm hS
       refine o_lit (r := (rI .i64)) (l := [(if y4 < y5 then y5 else y4)]) hS (.inl rfl) rfl Fl23 rfl rfl rfl (.cons rfl .nil) rfl rfl (ri_1 (rd_flat fun _ => rfl) ri_nil) rfl ?_; clear hS
       intro v20 tm H hS
       obtain ⟨l2, hx14, h6⟩ := bindS h6
       refine o_app (k1 := 3) (k2 := 0) (r := (rI .i64)) hS (.inl rfl) rfl rfl rfl rfl rfl (.inr (.inr rfl)) rfl Fe23_23 rfl hx14 ?_; clear hS
       intro v21 tm H hS
       refine pp1 hS rfl rfl ?_; clear hS
       intro tm hS
       refine o_nil (hR _ _ ?_)
       clear hR R
       refine cs3 hS rfl rfl rfl rfl rfl rfl ?_; clear hS
       intro tm hS
       obtain rfl := Option.some.inj h6
       refine ⟨_, rfl, ?_⟩
       refine Exists.intro v21 ?_; change S wm 201 _ _ _ _ Fr; exact hS.keep (k6 rfl rfl rfl rfl rfl rfl) (fun hI => (hI.sub (sd (sc (sc (sc (sc (sc (sc (sc (sc (sc sn))))))))))))
      ·replace h6 := iteF hc h6
       refine wpC.exit ?_
       refine seqX ?_
       obtain rfl := Option.some.inj h6
       obtain rfl := hq6 _ rfl
       refine And.intro rfl (blk_eq ?_)
       replace h0 := joinN h0
       refine c_reg fun R hR => ?_
       refine o_ldA (k := 0) hS (.inl rfl) rfl rfl rfl (.inl rfl) Fu25 rfl Fs25 rfl ?_; clear hS
       intro tm hS
       refine o_ldA (k := 1) hS (.inl rfl) rfl rfl rfl (.inl rfl) Fu25 rfl Fs25 rfl ?_; clear hS
       intro tm hS
       obtain ⟨⟨r12, r13⟩, hx15, h0⟩ := bindS h0
       refine o_call (Pc := fun _ res H => ∃ v22 v23, res = .tuple #[.agg #[.bool r12.Char, v22, v23], .int .i64 r13] ∧ Kn wm H ([.own (rI .i64) v22 r12.Shape, .own (rI .i64) v23 r12.Data] ++ [.box b2 [.bool r1.Char, v4, v5], .box b3 [.bool r2.Char, v7, v8], .own (rI .i64) v19 l1, .fz (rI .i64) v1 a1, .fz (rI .i64) v2 b1, .own (rI .i64) v4 r1.Shape, .fz (rI .i64) v5 r1.Data, .own (rI .i64) v7 r2.Shape, .fz (rI .i64) v8 r2.Data]) Fr) hS (.inl rfl) rfl (fun wm' hw1 hw2 => by
        obtain ⟨F2, kk_1, kk_2⟩ := hS.inv.lendR (La := [.fz (rI .i64) v4 r1.Shape, .fz (rI .i64) v5 r1.Data, .fz (rI .i64) v7 r2.Shape, .fz (rI .i64) v8 r2.Data]) (List.forall_mem_cons.mpr ⟨(.inr ⟨_, _, _, _, rfl, .inl (List.mem_of_getElem? (i := 5) rfl)⟩), (List.forall_mem_cons.mpr ⟨(.inl ⟨rfl, List.mem_of_getElem? (i := 6) rfl⟩), (List.forall_mem_cons.mpr ⟨(.inr ⟨_, _, _, _, rfl, .inl (List.mem_of_getElem? (i := 7) rfl)⟩), (List.forall_mem_cons.mpr ⟨(.inl ⟨rfl, List.mem_of_getElem? (i := 8) rfl⟩), (fun _ h => by cases h)⟩)⟩)⟩)⟩) hw1 hw2
        exact (wk16 ho100 str_226_140_138 str_226_140_136 r1 r2  v4 v5 v7 v8 kk_1 hx15).mono fun res H2 ⟨v22, v23, qq_1, qq_2⟩ => ⟨v22, v23, qq_1, kk_2 _ _ (List.forall_mem_cons.mpr ⟨⟨_, _, _, _, rfl, fun _ _ _ _ h => h⟩, (List.forall_mem_cons.mpr ⟨⟨_, _, _, _, rfl, fun _ _ _ _ h => h⟩, (fun _ h => by cases h)⟩)⟩) qq_2⟩) (fun wm' res H hw' hp => ?_)
       obtain ⟨v22, v23, hres, hI⟩ := hp
       replace hres := hres.symm; subst hres
       replace hS : S wm 201 _ H ((178, .tuple #[.agg #[.bool r12.Char, v22, v23], .int .i64 r13]) :: _) ([.own (rI .i64) v22 r12.Shape, .own (rI .i64) v23 r12.Data] ++ [.box b2 [.bool r1.Char, v4, v5], .box b3 [.bool r2.Char, v7, v8], .own (rI .i64) v19 l1, .fz (rI .i64) v1 a1, .fz (rI .i64) v2 b1, .own (rI .i64) v4 r1.Shape, .fz (rI .i64) v5 r1.Data, .own (rI .i64) v7 r2.Shape, .fz (rI .i64) v8 r2.Data]) Fr := (hS.put rfl _).withK hI
       clear hI hw'
       refine pp3 hS rfl rfl rfl rfl rfl rfl ?_; clear hS
       intro tm hS
       refine o_alloc hS (.inl rfl) rfl Fz25 (by decide) ?_; clear hS
       intro b7 tm H hS
       refine o_st (k := 0) hS (.inl rfl) rfl rfl rfl Fs25 rfl rfl (all_cons rfl (all_cons (hS.one (k := 1) rfl (.inr (.inl rfl))) (all_cons (hS.one (k := 2) rfl (.inr (.inl rfl))) all_nil))) rfl ?_; clear hS; try clear H
       intro H hS
       refine pp1 hS rfl rfl ?_; clear hS
       intro tm hS
       refine o_nil (hR _ _ ?_)
       clear hR R
       refine c_reg fun R hR => ?_
       refine pp1 hS rfl rfl ?_; clear hS
       intro tm hS
       refine o_len (k := 5) (r := (rI .i64)) hS (.inl rfl) rfl rfl rfl (.inr (.inl rfl)) Fu23 rfl ?_; clear hS
       intro tm hS
       refine o_lit (r := (rI .i64)) (l := [(l1.length : Int)]) hS (.inl rfl) rfl Fl22 rfl rfl rfl (.cons rfl .nil) rfl rfl (ri_1 (rd_flat fun _ => rfl) ri_nil) rfl ?_; clear hS
       intro v24 tm H hS
       refine pp1 hS rfl rfl ?_; clear hS
       intro tm hS
       replace hS := hS.litOwn (k := 0) rfl
       replace hS := hS.front 6 rfl
       replace hS := hS.front 1 rfl
       obtain ⟨r14, hx16, h0⟩ := bindS h0
       refine o_callO hS (.inl rfl) rfl rfl (wk19o01  ([(l1.length : Int)]) l1  v24 v19 (hS.selN 2) hx16) (fun res H hp => ?_)
       obtain ⟨v25, v26, hres, hI⟩ := hp
       replace hres := hres.symm; subst hres
       replace hS : S wm 201 _ H ((186, .agg #[.bool r14.Char, v25, v26]) :: _) ([.own (rI .i64) v25 r14.Shape, .own (rI .i64) v26 r14.Data] ++ _) Fr := hS.afterN rfl hI
       clear hI
       obtain ⟨⟨r15, r16⟩, hx17, h0⟩ := bindS h0
       refine o_call (Pc := fun _ res H => ∃ v27 v28, res = .tuple #[.agg #[.bool r15.Char, v27, v28], .int .i64 r16] ∧ Kn wm H ([.own (rI .i64) v27 r15.Shape, .own (rI .i64) v28 r15.Data] ++ [.own (rI .i64) v25 r14.Shape, .own (rI .i64) v26 r14.Data, .box b7 [.bool r12.Char, v22, v23], .own (rI .i64) v22 r12.Shape, .own (rI .i64) v23 r12.Data, .box b2 [.bool r1.Char, v4, v5], .box b3 [.bool r2.Char, v7, v8], .fz (rI .i64) v1 a1, .fz (rI .i64) v2 b1, .own (rI .i64) v4 r1.Shape, .fz (rI .i64) v5 r1.Data, .own (rI .i64) v7 r2.Shape, .fz (rI .i64) v8 r2.Data]) Fr) hS (.inl rfl) rfl (fun wm' hw1 hw2 => by
        obtain ⟨F2, kk_1, kk_2⟩ := hS.inv.lendR (La := [.fz (rI .i64) v25 r14.Shape, .fz (rI .i64) v26 r14.Data]) (List.forall_mem_cons.mpr ⟨(.inr ⟨_, _, _, _, rfl, .inl (List.mem_of_getElem? (i := 0) rfl)⟩), (List.forall_mem_cons.mpr ⟨(.inr ⟨_, _, _, _, rfl, .inl (List.mem_of_getElem? (i := 1) rfl)⟩), (fun _ h => by cases h)⟩)⟩) hw1 hw2
        exact (wk11 ho100 str_226_140_138 r14 0  v25 v26 kk_1 hx17).mono fun res H2 ⟨v27, v28, qq_1, qq_2⟩ => ⟨v27, v28, qq_1, kk_2 _ _ (List.forall_mem_cons.mpr ⟨⟨_, _, _, _, rfl, fun _ _ _ _ h => h⟩, (List.forall_mem_cons.mpr ⟨⟨_, _, _, _, rfl, fun _ _ _ _ h => h⟩, (fun _ h => by cases h)⟩)⟩) qq_2⟩) (fun wm' res H hw' hp => ?_)
       obtain ⟨v27, v28, hres, hI⟩ := hp
       replace hres := hres.symm; subst hres
       replace hS : S wm 201 _ H ((187, .tuple #[.agg #[.bool r15.Char, v27, v28], .int .i64 r16]) :: _) ([.own (rI .i64) v27 r15.Shape, .own (rI .i64) v28 r15.Data] ++ [.own (rI .i64) v25 r14.Shape, .own (rI .i64) v26 r14.Data, .box b7 [.bool r12.Char, v22, v23], .own (rI .i64) v22 r12.Shape, .own (rI .i64) v23 r12.Data, .box b2 [.bool r1.Char, v4, v5], .box b3 [.bool r2.Char, v7, v8], .fz (rI .i64) v1 a1, .fz (rI .i64) v2 b1, .own (rI .i64) v4 r1.Shape, .fz (rI .i64) v5 r1.Data, .own (rI .i64) v7 r2.Shape, .fz (rI .i64) v8 r2.Data]) Fr := (hS.put rfl _).withK hI
       clear hI hw'
       refine pp3 hS rfl rfl rfl rfl rfl rfl ?_; clear hS
       intro tm hS
       refine o_alloc hS (.inl rfl) rfl Fz25 (by decide) ?_; clear hS
       intro b8 tm H hS
       refine o_st (k := 0) hS (.inl rfl) rfl rfl rfl Fs25 rfl rfl (all_cons rfl (all_cons (hS.one (k := 1) rfl (.inr (.inl rfl))) (all_cons (hS.one (k := 2) rfl (.inr (.inl rfl))) all_nil))) rfl ?_; clear hS; try clear H
       intro H hS
       refine pp1 hS rfl rfl ?_; clear hS
       intro tm hS
       refine o_nil (hR _ _ ?_)
       clear hR R
       refine c_reg fun R hR => ?_
       refine pp3 hS rfl rfl rfl rfl rfl rfl ?_; clear hS
       intro tm hS
       obtain ⟨c14, hc11, h0⟩ := bindS h0
       refine o_cutN 5 (J := fun tm H => S wm 201 tm H [(197, .bool c14)] [] Fr) ?_ ?_
       ·rcases Bool.eq_false_or_eq_true (r13 == 0) with hg11 | hg11
        ·replace hc11 := iteT hg11 hc11
         refine o_ldA (k := 5) hS (.inr ⟨_, _, _, _, rfl, rfl, rfl, hg11⟩) rfl rfl rfl (.inl rfl) Fu25 rfl Fs25 rfl ?_; clear hS
         intro tm hS
         refine o_pure hS (.inr ⟨_, _, _, _, rfl, rfl, rfl, hg11⟩) rfl rfl ?_; clear hS
         intro tm hS
         refine o_ldA (k := 0) hS (.inr ⟨_, _, _, _, rfl, rfl, rfl, hg11⟩) rfl rfl rfl (.inl rfl) Fu25 rfl Fs25 rfl ?_; clear hS
         intro tm hS
         obtain ⟨r17, hx18, hc11⟩ := bindS hc11
         refine o_call (Pc := fun _ res H => res = .bool r17 ∧ Kn wm H ([.box b8 [.bool r15.Char, v27, v28], .own (rI .i64) v27 r15.Shape, .own (rI .i64) v28 r15.Data, .own (rI .i64) v25 r14.Shape, .own (rI .i64) v26 r14.Data, .box b7 [.bool r12.Char, v22, v23], .own (rI .i64) v22 r12.Shape, .own (rI .i64) v23 r12.Data, .box b2 [.bool r1.Char, v4, v5], .box b3 [.bool r2.Char, v7, v8], .fz (rI .i64) v1 a1, .fz (rI .i64) v2 b1, .own (rI .i64) v4 r1.Shape, .fz (rI .i64) v5 r1.Data, .own (rI .i64) v7 r2.Shape, .fz (rI .i64) v8 r2.Data]) Fr) hS (.inr ⟨_, _, _, _, rfl, rfl, rfl, hg11⟩) rfl (fun wm' hw1 hw2 => by
          obtain ⟨F2, kk_1, kk_2⟩ := hS.inv.lend (La := [.fz (rI .i64) v22 r12.Shape, .fz (rI .i64) v23 r12.Data, .fz (rI .i64) v27 r15.Shape, .fz (rI .i64) v28 r15.Data]) (List.forall_mem_cons.mpr ⟨(.inr ⟨_, _, _, _, rfl, .inl (List.mem_of_getElem? (i := 6) rfl)⟩), (List.forall_mem_cons.mpr ⟨(.inr ⟨_, _, _, _, rfl, .inl (List.mem_of_getElem? (i := 7) rfl)⟩), (List.forall_mem_cons.mpr ⟨(.inr ⟨_, _, _, _, rfl, .inl (List.mem_of_getElem? (i := 1) rfl)⟩), (List.forall_mem_cons.mpr ⟨(.inr ⟨_, _, _, _, rfl, .inl (List.mem_of_getElem? (i := 2) rfl)⟩), (fun _ h => by cases h)⟩)⟩)⟩)⟩) hw1 hw2
          exact (wk12  r12 r16 r15  v22 v23 v27 v28 kk_1 hx18).mono fun res H2 ⟨qq_1, qq_2⟩ => ⟨qq_1, kk_2 _ qq_2⟩) (fun wm' res H hw' hp => ?_)
         obtain ⟨hres, hI⟩ := hp
         replace hres := hres.symm; subst hres
         replace hS : S wm 201 _ H ((196, .bool r17) :: _) ([.box b8 [.bool r15.Char, v27, v28], .own (rI .i64) v27 r15.Shape, .own (rI .i64) v28 r15.Data, .own (rI .i64) v25 r14.Shape, .own (rI .i64) v26 r14.Data, .box b7 [.bool r12.Char, v22, v23], .own (rI .i64) v22 r12.Shape, .own (rI .i64) v23 r12.Data, .box b2 [.bool r1.Char, v4, v5], .box b3 [.bool r2.Char, v7, v8], .fz (rI .i64) v1 a1, .fz (rI .i64) v2 b1, .own (rI .i64) v4 r1.Shape, .fz (rI .i64) v5 r1.Data, .own (rI .i64) v7 r2.Shape, .fz (rI .i64) v8 r2.Data]) Fr := (hS.put rfl _).withK hI
         clear hI hw'
         refine o_pickT hS (.inl rfl) rfl rfl hg11 rfl ?_; clear hS
         intro tm hS
         obtain rfl := Option.some.inj hc11
         exact o_nil (hS.keep (ka_cons rfl ka_nil) (fun hI => (hI.sub sn)))
        ·replace hc11 := iteF hg11 hc11
         refine o_skip hS rfl rfl rfl hg11 ?_; clear hS
         intro tm hS
         refine o_skip hS rfl rfl rfl hg11 ?_; clear hS
         intro tm hS
         refine o_skip hS rfl rfl rfl hg11 ?_; clear hS
         intro tm hS
         refine o_skip hS rfl rfl rfl hg11 ?_; clear hS
         intro tm hS
         refine o_pickF hS (.inl rfl) rfl rfl hg11 rfl ?_; clear hS
         intro tm hS
         obtain rfl := Option.some.inj hc11
         exact o_nil (hS.keep (ka_cons rfl ka_nil) (fun hI => (hI.sub sn)))
       intro tm H hS
       refine pp1 hS rfl rfl ?_; clear hS
       intro tm hS
       obtain ⟨c15, hc12⟩ : ∃ x : Bool, x = (c14 && true) := ⟨_, rfl⟩
       refine o_cutN 2 (J := fun tm H => S wm 201 tm H [(200, .bool c15)] [] Fr) ?_ ?_
       ·rcases Bool.eq_false_or_eq_true c14 with hg12 | hg12
        ·refine o_call hS (.inr ⟨_, _, _, _, rfl, rfl, rfl, hg12⟩) rfl (fun wm' hw1 hw2 => wpF.told ho9 (Q := fun v H' => v = .bool true ∧ H' = H) ⟨rfl, rfl⟩) (fun wm' res H hw' hp => ?_)
         obtain ⟨rfl, rfl⟩ := hp
         replace hS := hS.put (d := 199) rfl (.bool true)
         clear hw'
         refine o_pickT hS (.inl rfl) rfl rfl hg12 rfl ?_; clear hS
         intro tm hS
         have hc12 : c15 = true := hc12.trans (by rw [hg12]; first | rfl | simp)
         subst hc12
         exact o_nil (hS.keep (ka_cons rfl ka_nil) (fun hI => (hI.sub sn)))
        ·refine o_skip hS rfl rfl rfl hg12 ?_; clear hS
         intro tm hS
         refine o_pickF hS (.inl rfl) rfl rfl hg12 rfl ?_; clear hS
         intro tm hS
         have hc12 : c15 = false := hc12.trans (by rw [hg12]; first | rfl | simp)
         subst hc12
         exact o_nil (hS.keep (ka_cons rfl ka_nil) (fun hI => (hI.sub sn)))
       intro tm H hS
       subst hc12
       refine pp1 hS rfl rfl ?_; clear hS
       intro tm hS
       refine o_nil (hR _ _ ?_)
       clear hR R
       refine wpC.ret ?_
       obtain rfl := Option.some.inj h0
       refine Exists.intro _ (And.intro (rs_tmp hS rfl rs_nil) ?_)
       have hI := hS.inv
       exact ⟨rfl, (hI.sub sn)⟩
end Go.Proofs.Ytblgdjpeedgnoaa.overScalar
