/- OverTwo: walks of the code: the run of each function comes to what its plain function says. -/
import Derived.Test.YtblgdjpeedgnoaaWOverTwob
set_option maxHeartbeats 4000000
set_option linter.unusedVariables false
set_option linter.unusedSimpArgs false
set_option maxRecDepth 100000
open Go Go.Am Go.Proofs
namespace Go.Proofs.Ytblgdjpeedgnoaa.overTwo
variable {ora : FuncId → Bool}
theorem wk16 {wm : Nat} {H : AHeap} {Fr : List Ent} (ho100 : ora 100 = false) (f1 : ByteArray) (g1 : ByteArray) (a1 : Val) (b1 : Val)  (v1 : Value) (v2 : Value) (v3 : Value) (v4 : Value) (hI : Kn wm H [.fz (rI .i64) v1 a1.Shape, .fz (rI .i64) v2 a1.Data, .fz (rI .i64) v3 b1.Shape, .fz (rI .i64) v4 b1.Data] Fr) {r : Val × Int} (h0 : M.over_Inner f1 g1 a1 b1 = some r) :
  wpF Try.prog ora wm 16 [.string f1, .string g1, .agg #[.bool a1.Char, v1, v2], .agg #[.bool b1.Char, v3, v4]] H (fun res H => ∃ v23 v24, res = .tuple #[.agg #[.bool r.1.Char, v23, v24], .int .i64 r.2] ∧ Kn wm H [.own (rI .i64) v23 r.1.Shape, .own (rI .i64) v24 r.1.Data] Fr) := by
 unfold M.over_Inner at h0
 refine f_enter (n := 182) Try.func16 rfl (by simp) hI rfl rfl rfl fun tm hS => ?_
 clear hI
 refine c_reg fun R hR => ?_
 refine o_box hS (.inl rfl) rfl rfl rfl (all_cons rfl (all_cons (hS.one (k := 0) rfl (.inl rfl)) (all_cons (hS.one (k := 1) rfl (.inl rfl)) all_nil))) ?_; clear hS
 intro b2 tm H hS
 refine o_box hS (.inl rfl) rfl rfl rfl (all_cons rfl (all_cons (hS.one (k := 3) rfl (.inl rfl)) (all_cons (hS.one (k := 4) rfl (.inl rfl)) all_nil))) ?_; clear hS
 intro b3 tm H hS
 refine o_alloc hS (.inl rfl) rfl Fz25 (by decide) ?_; clear hS
 intro b4 tm H hS
 refine pp1 hS rfl rfl ?_; clear hS
 intro tm hS
 refine o_nil (hR _ _ ?_)
 clear hR R
 refine c_reg fun R hR => ?_
 refine pp1 hS rfl rfl ?_; clear hS
 intro tm hS
 refine o_ldA (k := 2) hS (.inl rfl) rfl rfl rfl (.inl rfl) Fu25 rfl Fs25 rfl ?_; clear hS
 intro tm hS
 refine o_ldA (k := 1) hS (.inl rfl) rfl rfl rfl (.inl rfl) Fu25 rfl Fs25 rfl ?_; clear hS
 intro tm hS
 refine o_lit (r := rVal) (l := [a1, b1]) hS (.inl rfl) rfl Fl103 rfl rfl rfl (.cons rfl (.cons rfl .nil)) rfl rfl (ri_3 (rd_Val ⟨3, rfl⟩ ⟨4, rfl⟩) (ri_3 (rd_Val ⟨5, rfl⟩ ⟨6, rfl⟩) ri_nil)) rfl ?_; clear hS
 intro v5 tm H hS
 replace hS := hS.litFrz (k := 0) rfl
 obtain ⟨⟨r1, r2⟩, hx1, h0⟩ := bindS h0
 refine o_call hS (.inl rfl) rfl (fun wm' hw1 hw2 => wk31  f1 ([a1, b1])  v5 ((hS.sel hw2).ad 0 rfl) hx1) (fun wm' res H hw' hp => ?_)
 obtain ⟨v6, hres, hI⟩ := hp
 replace hres := hres.symm; subst hres
 replace hS : S wm 182 _ H ((31, .tuple #[v6, .int .i64 r2]) :: _) ([.el (rClo 87) [v6] r1] ++ _) Fr := hS.after rfl hw' hI
 clear hI hw'
 refine pp5 hS rfl rfl rfl rfl rfl rfl rfl rfl rfl rfl ?_; clear hS
 intro tm hS
 refine o_nil (hR _ _ ?_)
 clear hR R
 refine c_seqS ?_
 refine cr2 hS rfl rfl rfl rfl ?_; clear hS
 intro tm hS
 refine c_cond hS rfl (fun hc => ?_) (fun hc => ?_)
 ·replace h0 := iteT hc h0
  refine c_reg fun R hR => ?_
  refine o_build hS (.inl rfl) rfl Fb25 rfl .nil rfl ?_; clear hS
  intro tm hS
  refine pp1 hS rfl rfl ?_; clear hS
  intro tm hS
  refine o_st (k := 2) hS (.inl rfl) rfl rfl rfl Fs25 rfl rfl (all_cons rfl (all_cons rfl (all_cons rfl all_nil))) rfl ?_; clear hS; try clear H
  intro H hS
  refine pp1 hS rfl rfl ?_; clear hS
  intro tm hS
  refine o_nil (hR _ _ ?_)
  clear hR R
  refine wpC.ret ?_
  obtain rfl := Option.some.inj h0
  replace hS := hS.nilOwn (rI .i64)
  replace hS := hS.nilOwn (rI .i64)
  refine Exists.intro _ (And.intro (rs_cellA (k := 4) hS rfl rfl (.inl rfl) Fu25 rfl Fs25 rfl (rs_tmp hS rfl rs_nil)) ?_)
  have hI := hS.inv
  exact ⟨(.slice none 0 0), (.slice none 0 0), rfl, (((hI.pull 0 rfl).pull 1 rfl).take 2)⟩
 ·replace h0 := iteF hc h0
  refine wpC.skip ?_
  refine c_reg fun R hR => ?_
  refine pp1 hS rfl rfl ?_; clear hS
  intro tm hS
  obtain ⟨⟨r3, r4⟩, hx2, h0⟩ := bindS h0
  refine o_call hS (.inl rfl) rfl (fun wm' hw1 hw2 => wk31  g1 ([])  (.slice none 0 0) ((hS.sel hw2).adNil rVal) hx2) (fun wm' res H hw' hp => ?_)
  obtain ⟨v7, hres, hI⟩ := hp
  replace hres := hres.symm; subst hres
  replace hS : S wm 182 _ H ((40, .tuple #[v7, .int .i64 r4]) :: _) ([.el (rClo 87) [v7] r3] ++ _) Fr := hS.after rfl hw' hI
  clear hI hw'
  refine pp5 hS rfl rfl rfl rfl rfl rfl rfl rfl rfl rfl ?_; clear hS
  intro tm hS
  refine o_nil (hR _ _ ?_)
  clear hR R
  refine c_seqS ?_
  refine cr2 hS rfl rfl rfl rfl ?_; clear hS
  intro tm hS
  refine c_cond hS rfl (fun hc => ?_) (fun hc => ?_)
  ·replace h0 := iteT hc h0
   refine c_reg fun R hR => ?_
   refine o_build hS (.inl rfl) rfl Fb25 rfl .nil rfl ?_; clear hS
   intro tm hS
   refine pp1 hS rfl rfl ?_; clear hS
   intro tm hS
   refine o_st (k := 3) hS (.inl rfl) rfl rfl rfl Fs25 rfl rfl (all_cons rfl (all_cons rfl (all_cons rfl all_nil))) rfl ?_; clear hS; try clear H
   intro H hS
   refine pp1 hS rfl rfl ?_; clear hS
   intro tm hS
   refine o_nil (hR _ _ ?_)
   clear hR R
   refine wpC.ret ?_
   obtain rfl := Option.some.inj h0
   replace hS := hS.nilOwn (rI .i64)
   replace hS := hS.nilOwn (rI .i64)
   refine Exists.intro _ (And.intro (rs_cellA (k := 5) hS rfl rfl (.inl rfl) Fu25 rfl Fs25 rfl (rs_tmp hS rfl rs_nil)) ?_)
   have hI := hS.inv
   exact ⟨(.slice none 0 0), (.slice none 0 0), rfl, (((hI.pull 0 rfl).pull 1 rfl).take 2)⟩
  ·replace h0 := iteF hc h0
   refine wpC.skip ?_
   refine c_reg fun R hR => ?_
   refine o_ldA (k := 5) hS (.inl rfl) rfl rfl rfl (.inl rfl) Fu25 rfl Fs25 rfl ?_; clear hS
   intro tm hS
   obtain ⟨r5, hx3, h0⟩ := bindS h0
   refine o_call hS (.inl rfl) rfl (fun wm' hw1 hw2 => wk45  a1  v1 v2 (((hS.sel hw2).ad 7 rfl).ad 6 rfl) hx3) (fun wm' res H hw' hp => ?_)
   obtain ⟨v8, v9, v10, hres, hI⟩ := hp
   replace hres := hres.symm; subst hres
   replace hS : S wm 182 _ H ((48, .agg #[.bool r5.v.Char, v8, v9, v10, .int .i64 r5.n, .int .i64 r5.size, .int .i64 r5.across, .int .i64 r5.inside]) :: _) ([.fz (rI .i64) v8 r5.v.Shape, .fz (rI .i64) v9 r5.v.Data, .fz (rI .i64) v10 r5.s] ++ _) Fr := hS.after rfl hw' hI
   clear hI hw'
   refine o_ldA (k := 7) hS (.inl rfl) rfl rfl rfl (.inl rfl) Fu25 rfl Fs25 rfl ?_; clear hS
   intro tm hS
   obtain ⟨r6, hx4, h0⟩ := bindS h0
   refine o_call hS (.inl rfl) rfl (fun wm' hw1 hw2 => wk46  b1  v3 v4 (((hS.sel hw2).ad 12 rfl).ad 11 rfl) hx4) (fun wm' res H hw' hp => ?_)
   obtain ⟨v11, v12, v13, hres, hI⟩ := hp
   replace hres := hres.symm; subst hres
   replace hS : S wm 182 _ H ((50, .agg #[.bool r6.v.Char, v11, v12, v13, .int .i64 r6.n, .int .i64 r6.size, .int .i64 r6.across, .int .i64 r6.inside]) :: _) ([.fz (rI .i64) v11 r6.v.Shape, .fz (rI .i64) v12 r6.v.Data, .fz (rI .i64) v13 r6.s] ++ _) Fr := hS.after rfl hw' hI
   clear hI hw'
   refine o_alloc hS (.inl rfl) rfl Fz87 (by decide) ?_; clear hS
   intro b5 tm H hS
   refine o_alloc hS (.inl rfl) rfl Fz87 (by decide) ?_; clear hS
   intro b6 tm H hS
   refine o_stW (k := 1) hS (.inl rfl) rfl rfl rfl Fs87 rfl rfl (all_cons rfl (all_cons (hS.one (k := 5) rfl (.inl rfl)) (all_cons (hS.one (k := 6) rfl (.inl rfl)) (all_cons (hS.one (k := 7) rfl (.inl rfl)) (all_cons rfl (all_cons rfl (all_cons rfl (all_cons rfl all_nil)))))))) rfl ?_; clear hS; try clear H
   intro H hS
   refine o_stW (k := 0) hS (.inl rfl) rfl rfl rfl Fs87 rfl rfl (all_cons rfl (all_cons (hS.one (k := 2) rfl (.inl rfl)) (all_cons (hS.one (k := 3) rfl (.inl rfl)) (all_cons (hS.one (k := 4) rfl (.inl rfl)) (all_cons rfl (all_cons rfl (all_cons rfl (all_cons rfl all_nil)))))))) rfl ?_; clear hS; try clear H
   intro H hS
   refine o_nil (hR _ _ ?_)
   clear hR R
   refine c_reg fun R hR => ?_
   refine pp1 hS rfl rfl ?_; clear hS
   intro tm hS
   refine o_ld1 (k := 1) hS (.inl rfl) rfl rfl rfl (.inl rfl) Fu3 rfl rfl ?_; clear hS
   intro tm hS
   refine pp1 hS rfl rfl ?_; clear hS
   intro tm hS
   refine o_nil (hR _ _ ?_)
   clear hR R
   obtain ⟨n1, h1, h0⟩ := bindS h0
   refine c_seqJ (J := fun tm H => (match (generalizing := false) n1 with | n1 => S wm 182 tm H [(0, .string f1), (6, .pointer (some ⟨b2, 0, none⟩)), (7, .pointer (some ⟨b3, 0, none⟩)), (8, .pointer (some ⟨b4, 0, none⟩)), (10, v6), (12, v7), (13, .pointer (some ⟨b5, 0, none⟩)), (14, .pointer (some ⟨b6, 0, none⟩)), (15, .int .i64 n1)] [.box b2 [.bool a1.Char, v1, v2], .box b3 [.bool b1.Char, v3, v4], .box b4 [.bool false, (.slice none 0 0), (.slice none 0 0)], .box b5 [.bool r5.v.Char, v8, v9, v10, .int .i64 r5.n, .int .i64 r5.size, .int .i64 r5.across, .int .i64 r5.inside], .box b6 [.bool r6.v.Char, v11, v12, v13, .int .i64 r6.n, .int .i64 r6.size, .int .i64 r6.across, .int .i64 r6.inside], .fz (rI .i64) v1 a1.Shape, .fz (rI .i64) v2 a1.Data, .fz (rI .i64) v3 b1.Shape, .fz (rI .i64) v4 b1.Data, .el (rClo 87) [v6] r1, .el (rClo 87) [v7] r3, .fz (rI .i64) v8 r5.v.Shape, .fz (rI .i64) v9 r5.v.Data, .fz (rI .i64) v10 r5.s, .fz (rI .i64) v11 r6.v.Shape, .fz (rI .i64) v12 r6.v.Data, .fz (rI .i64) v13 r6.s] Fr)) ?_ ?_
   ·refine cr2 hS rfl rfl rfl rfl ?_; clear hS
    intro tm hS
    refine c_cond hS rfl (fun hc => ?_) (fun hc => ?_)
    ·replace h1 := iteT hc h1
     refine c_reg1 fun R hR => ?_
     refine pp1 hS rfl rfl ?_; clear hS
     intro tm hS
     refine o_ld1 (k := 0) hS (.inl rfl) rfl rfl rfl (.inl rfl) Fu3 rfl rfl ?_; clear hS
     intro tm hS
     refine pp1 hS rfl rfl ?_; clear hS
     intro tm hS
     refine o_nil (hR _ _ ?_)
     clear hR R
     obtain rfl := Option.some.inj h1
     change S wm 182 _ _ _ _ Fr; exact hS.keep (k9 rfl rfl rfl rfl rfl rfl rfl rfl rfl) (fun hI => (hI.pick [13, 12, 11, 1, 0, 14, 15, 16, 17, 9, 8, 5, 6, 7, 2, 3, 4] rfl))
    ·replace h1 := iteF hc h1
     refine wpC.skip ?_
     obtain rfl := Option.some.inj h1
     change S wm 182 _ _ _ _ Fr; exact hS.keep (k9 rfl rfl rfl rfl rfl rfl rfl rfl rfl) (fun hI => (hI.pick [13, 12, 11, 1, 0, 14, 15, 16, 17, 9, 8, 5, 6, 7, 2, 3, 4] rfl))
   intro tm H hS
   change S wm 182 tm H [(0, .string f1), (6, .pointer (some ⟨b2, 0, none⟩)), (7, .pointer (some ⟨b3, 0, none⟩)), (8, .pointer (some ⟨b4, 0, none⟩)), (10, v6), (12, v7), (13, .pointer (some ⟨b5, 0, none⟩)), (14, .pointer (some ⟨b6, 0, none⟩)), (15, .int .i64 n1)] [.box b2 [.bool a1.Char, v1, v2], .box b3 [.bool b1.Char, v3, v4], .box b4 [.bool false, (.slice none 0 0), (.slice none 0 0)], .box b5 [.bool r5.v.Char, v8, v9, v10, .int .i64 r5.n, .int .i64 r5.size, .int .i64 r5.across, .int .i64 r5.inside], .box b6 [.bool r6.v.Char, v11, v12, v13, .int .i64 r6.n, .int .i64 r6.size, .int .i64 r6.across, .int .i64 r6.inside], .fz (rI .i64) v1 a1.Shape, .fz (rI .i64) v2 a1.Data, .fz (rI .i64) v3 b1.Shape, .fz (rI .i64) v4 b1.Data, .el (rClo 87) [v6] r1, .el (rClo 87) [v7] r3, .fz (rI .i64) v8 r5.v.Shape, .fz (rI .i64) v9 r5.v.Data, .fz (rI .i64) v10 r5.s, .fz (rI .i64) v11 r6.v.Shape, .fz (rI .i64) v12 r6.v.Data, .fz (rI .i64) v13 r6.s] Fr at hS
   obtain ⟨k1, h2, h0⟩ := bindS h0
   refine c_seqJ (J := fun tm H => ∃ st, k1 = .next st ∧ (match (generalizing := false) st with | _ => S wm 182 tm H [(0, .string f1), (6, .pointer (some ⟨b2, 0, none⟩)), (7, .pointer (some ⟨b3, 0, none⟩)), (8, .pointer (some ⟨b4, 0, none⟩)), (10, v6), (12, v7), (13, .pointer (some ⟨b5, 0, none⟩)), (14, .pointer (some ⟨b6, 0, none⟩)), (15, .int .i64 n1)] [.box b2 [.bool a1.Char, v1, v2], .box b3 [.bool b1.Char, v3, v4], .box b4 [.bool false, (.slice none 0 0), (.slice none 0 0)], .box b5 [.bool r5.v.Char, v8, v9, v10, .int .i64 r5.n, .int .i64 r5.size, .int .i64 r5.across, .int .i64 r5.inside], .box b6 [.bool r6.v.Char, v11, v12, v13, .int .i64 r6.n, .int .i64 r6.size, .int .i64 r6.across, .int .i64 r6.inside], .fz (rI .i64) v1 a1.Shape, .fz (rI .i64) v2 a1.Data, .fz (rI .i64) v3 b1.Shape, .fz (rI .i64) v4 b1.Data, .el (rClo 87) [v6] r1, .el (rClo 87) [v7] r3, .fz (rI .i64) v8 r5.v.Shape, .fz (rI .i64) v9 r5.v.Data, .fz (rI .i64) v10 r5.s, .fz (rI .i64) v11 r6.v.Shape, .fz (rI .i64) v12 r6.v.Data, .fz (rI .i64) v13 r6.s] Fr)) ?_ ?_
   ·refine c_reg fun R hR => ?_
    refine pp1 hS rfl rfl ?_; clear hS
    intro tm hS
    refine o_ld1 (k := 3) hS (.inl rfl) rfl rfl rfl (.inl rfl) Fu3 rfl rfl ?_; clear hS
    intro tm hS
    refine pp3 hS rfl rfl rfl rfl rfl rfl ?_; clear hS
    intro tm hS
    obtain ⟨c1, hc1⟩ : ∃ x : Bool, x = ((r5.n != n1) || (r6.n != n1)) := ⟨_, rfl⟩
    refine o_cutN 5 (J := fun tm H => S wm 182 tm H [(66, .bool c1), (0, .string f1), (6, .pointer (some ⟨b2, 0, none⟩)), (7, .pointer (some ⟨b3, 0, none⟩)), (8, .pointer (some ⟨b4, 0, none⟩)), (10, v6), (12, v7), (13, .pointer (some ⟨b5, 0, none⟩)), (14, .pointer (some ⟨b6, 0, none⟩)), (15, .int .i64 n1)] [.box b2 [.bool a1.Char, v1, v2], .box b3 [.bool b1.Char, v3, v4], .box b4 [.bool false, (.slice none 0 0), (.slice none 0 0)], .box b5 [.bool r5.v.Char, v8, v9, v10, .int .i64 r5.n, .int .i64 r5.size, .int .i64 r5.across, .int .i64 r5.inside], .box b6 [.bool r6.v.Char, v11, v12, v13, .int .i64 r6.n, .int .i64 r6.size, .int .i64 r6.across, .int .i64 r6.inside], .fz (rI .i64) v1 a1.Shape, .fz (rI .i64) v2 a1.Data, .fz (rI .i64) v3 b1.Shape, .fz (rI .i64) v4 b1.Data, .el (rClo 87) [v6] r1, .el (rClo 87) [v7] r3, .fz (rI .i64) v8 r5.v.Shape, .fz (rI .i64) v9 r5.v.Data, .fz (rI .i64) v10 r5.s, .fz (rI .i64) v11 r6.v.Shape, .fz (rI .i64) v12 r6.v.Data, .fz (rI .i64) v13 r6.s] Fr) ?_ ?_
    ·rcases Bool.eq_false_or_eq_true (r5.n != n1) with hg1 | hg1
     ·refine o_skip hS rfl rfl rfl hg1 ?_; clear hS
      intro tm hS
      refine o_skip hS rfl rfl rfl hg1 ?_; clear hS
      intro tm hS
      refine o_skip hS rfl rfl rfl hg1 ?_; clear hS
      intro tm hS
      refine o_skip hS rfl rfl rfl hg1 ?_; clear hS
      intro tm hS
      refine o_pickT hS (.inl rfl) rfl rfl hg1 rfl ?_; clear hS
      intro tm hS
      have hc1 : c1 = true := hc1.trans (by rw [hg1]; first | rfl | simp)
      subst hc1
      exact o_nil (hS.keep (k10 rfl rfl rfl rfl rfl rfl rfl rfl rfl rfl) (fun hI => (hI.sub (sc (sc (sc (sc (sc (sc (sc (sc (sc (sc (sc (sc (sc (sc (sc (sc (sc sn))))))))))))))))))))
     ·refine o_pure hS (.inr ⟨_, _, _, _, rfl, rfl, rfl, hg1⟩) rfl rfl ?_; clear hS
      intro tm hS
      refine o_ld1 (k := 4) hS (.inr ⟨_, _, _, _, rfl, rfl, rfl, hg1⟩) rfl rfl rfl (.inl rfl) Fu3 rfl rfl ?_; clear hS
      intro tm hS
      refine o_pure hS (.inr ⟨_, _, _, _, rfl, rfl, rfl, hg1⟩) rfl rfl ?_; clear hS
      intro tm hS
      refine o_pure hS (.inr ⟨_, _, _, _, rfl, rfl, rfl, hg1⟩) rfl rfl ?_; clear hS
      intro tm hS
      refine o_pickF hS (.inl rfl) rfl rfl hg1 rfl ?_; clear hS
      intro tm hS
      have hc1 : c1 = (r6.n != n1) := hc1.trans (by rw [hg1]; first | rfl | simp)
      subst hc1
      exact o_nil (hS.keep (k10 rfl rfl rfl rfl rfl rfl rfl rfl rfl rfl) (fun hI => (hI.sub (sc (sc (sc (sc (sc (sc (sc (sc (sc (sc (sc (sc (sc (sc (sc (sc (sc sn))))))))))))))))))))
    intro tm H hS
    subst hc1
    refine o_nil (hR _ _ ?_)
    clear hR R
    refine c_cond hS rfl (fun hc => ?_) (fun hc => ?_)
    ·replace h2 := iteT hc h2
     refine c_reg fun R hR => ?_
     refine pp1 hS rfl rfl ?_; clear hS
     intro tm hS
     refine o_ld1 (k := 3) hS (.inl rfl) rfl rfl rfl (.inl rfl) Fu3 rfl rfl ?_; clear hS
     intro tm hS
     refine pp2 hS rfl rfl rfl rfl ?_; clear hS
     intro tm hS
     obtain ⟨c2, hc2⟩ : ∃ x : Bool, x = ((r5.n != 1) && (r6.n != 1)) := ⟨_, rfl⟩
     refine o_cutN 4 (J := fun tm H => S wm 182 tm H [(74, .bool c2), (0, .string f1), (6, .pointer (some ⟨b2, 0, none⟩)), (7, .pointer (some ⟨b3, 0, none⟩)), (8, .pointer (some ⟨b4, 0, none⟩)), (10, v6), (12, v7), (13, .pointer (some ⟨b5, 0, none⟩)), (14, .pointer (some ⟨b6, 0, none⟩)), (15, .int .i64 n1)] [.box b2 [.bool a1.Char, v1, v2], .box b3 [.bool b1.Char, v3, v4], .box b4 [.bool false, (.slice none 0 0), (.slice none 0 0)], .box b5 [.bool r5.v.Char, v8, v9, v10, .int .i64 r5.n, .int .i64 r5.size, .int .i64 r5.across, .int .i64 r5.inside], .box b6 [.bool r6.v.Char, v11, v12, v13, .int .i64 r6.n, .int .i64 r6.size, .int .i64 r6.across, .int .i64 r6.inside], .fz (rI .i64) v1 a1.Shape, .fz (rI .i64) v2 a1.Data, .fz (rI .i64) v3 b1.Shape, .fz (rI .i64) v4 b1.Data, .el (rClo 87) [v6] r1, .el (rClo 87) [v7] r3, .fz (rI .i64) v8 r5.v.Shape, .fz (rI .i64) v9 r5.v.Data, .fz (rI .i64) v10 r5.s, .fz (rI .i64) v11 r6.v.Shape, .fz (rI .i64) v12 r6.v.Data, .fz (rI .i64) v13 r6.s] Fr) ?_ ?_
     ·rcases Bool.eq_false_or_eq_true (r5.n != 1) with hg2 | hg2
      ·refine o_pure hS (.inr ⟨_, _, _, _, rfl, rfl, rfl, hg2⟩) rfl rfl ?_; clear hS
       intro tm hS
       refine o_ld1 (k := 4) hS (.inr ⟨_, _, _, _, rfl, rfl, rfl, hg2⟩) rfl rfl rfl (.inl rfl) Fu3 rfl rfl ?_; clear hS
       intro tm hS
       refine o_pure hS (.inr ⟨_, _, _, _, rfl, rfl, rfl, hg2⟩) rfl rfl ?_; clear hS
       intro tm hS
       refine o_pickT hS (.inl rfl) rfl rfl hg2 rfl ?_; clear hS
       intro tm hS
       have hc2 : c2 = (r6.n != 1) := hc2.trans (by rw [hg2]; first | rfl | simp)
       subst hc2
       exact o_nil (hS.keep (k10 rfl rfl rfl rfl rfl rfl rfl rfl rfl rfl) (fun hI => (hI.sub (sc (sc (sc (sc (sc (sc (sc (sc (sc (sc (sc (sc (sc (sc (sc (sc (sc sn))))))))))))))))))))
      ·refine o_skip hS rfl rfl rfl hg2 ?_; clear hS
       intro tm hS
       refine o_skip hS rfl rfl rfl hg2 ?_; clear hS
       intro tm hS
       refine o_skip hS rfl rfl rfl hg2 ?_; clear hS
       intro tm hS
       refine o_pickF hS (.inl rfl) rfl rfl hg2 rfl ?_; clear hS
       intro tm hS
       have hc2 : c2 = false := hc2.trans (by rw [hg2]; first | rfl | simp)
       subst hc2
       exact o_nil (hS.keep (k10 rfl rfl rfl rfl rfl rfl rfl rfl rfl rfl) (fun hI => (hI.sub (sc (sc (sc (sc (sc (sc (sc (sc (sc (sc (sc (sc (sc (sc (sc (sc (sc sn))))))))))))))))))))
     intro tm H hS
     subst hc2
     refine o_nil (hR _ _ ?_)
     clear hR R
     refine c_cond hS rfl (fun hc => ?_) (fun hc => ?_)
     ·replace h2 := iteT hc h2
      refine c_reg fun R hR => ?_
      refine o_build hS (.inl rfl) rfl Fb25 rfl .nil rfl ?_; clear hS
      intro tm hS
      refine o_st (k := 2) hS (.inl rfl) rfl rfl rfl Fs25 rfl rfl (all_cons rfl (all_cons rfl (all_cons rfl all_nil))) rfl ?_; clear hS; try clear H
      intro H hS
      refine pp1 hS rfl rfl ?_; clear hS
      intro tm hS
      refine o_nil (hR _ _ ?_)
      clear hR R
      refine wpC.ret ?_
      obtain rfl := Option.some.inj h2
      obtain rfl := leave h0
      replace hS := hS.nilOwn (rI .i64)
      replace hS := hS.nilOwn (rI .i64)
      refine Exists.intro _ (And.intro (rs_cellA (k := 4) hS rfl rfl (.inl rfl) Fu25 rfl Fs25 rfl (rs_tmp hS rfl rs_nil)) ?_)
      have hI := hS.inv
      exact ⟨(.slice none 0 0), (.slice none 0 0), rfl, (((hI.pull 0 rfl).pull 1 rfl).take 2)⟩
     ·replace h2 := iteF hc h2
      refine wpC.skip ?_
      obtain rfl := Option.some.inj h2
      refine ⟨_, rfl, ?_⟩
      change S wm 182 _ _ _ _ Fr; exact hS.keep (k9 rfl rfl rfl rfl rfl rfl rfl rfl rfl) (fun hI => (hI.sub (sc (sc (sc (sc (sc (sc (sc (sc (sc (sc (sc (sc (sc (sc (sc (sc (sc sn)))))))))))))))))))
    ·replace h2 := iteF hc h2
     refine wpC.skip ?_
     obtain rfl := Option.some.inj h2
     refine ⟨_, rfl, ?_⟩
     change S wm 182 _ _ _ _ Fr; exact hS.keep (k9 rfl rfl rfl rfl rfl rfl rfl rfl rfl) (fun hI => (hI.sub (sc (sc (sc (sc (sc (sc (sc (sc (sc (sc (sc (sc (sc (sc (sc (sc (sc sn)))))))))))))))))))
   intro tm H hS
   obtain ⟨st1, rfl, hS⟩ := hS
   replace h0 := joinN h0
   change S wm 182 tm H [(0, .string f1), (6, .pointer (some ⟨b2, 0, none⟩)), (7, .pointer (some ⟨b3, 0, none⟩)), (8, .pointer (some ⟨b4, 0, none⟩)), (10, v6), (12, v7), (13, .pointer (some ⟨b5, 0, none⟩)), (14, .pointer (some ⟨b6, 0, none⟩)), (15, .int .i64 n1)] [.box b2 [.bool a1.Char, v1, v2], .box b3 [.bool b1.Char, v3, v4], .box b4 [.bool false, (.slice none 0 0), (.slice none 0 0)], .box b5 [.bool r5.v.Char, v8, v9, v10, .int .i64 r5.n, .int .i64 r5.size, .int .i64 r5.across, .int .i64 r5.inside], .box b6 [.bool r6.v.Char, v11, v12, v13, .int .i64 r6.n, .int .i64 r6.size, .int .i64 r6.across, .int .i64 r6.inside], .fz (rI .i64) v1 a1.Shape, .fz (rI .i64) v2 a1.Data, .fz (rI .i64) v3 b1.Shape, .fz (rI .i64) v4 b1.Data, .el (rClo 87) [v6] r1, .el (rClo 87) [v7] r3, .fz (rI .i64) v8 r5.v.Shape, .fz (rI .i64) v9 r5.v.Data, .fz (rI .i64) v10 r5.s, .fz (rI .i64) v11 r6.v.Shape, .fz (rI .i64) v12 r6.v.Data, .fz (rI .i64) v13 r6.s] Fr at hS
   refine c_reg fun R hR => ?_
   refine o_lit (r := (rI .i64)) (l := ([] : List Int)) hS (.inl rfl) rfl Fl22 rfl rfl rfl .nil rfl rfl ri_nil rfl ?_; clear hS
   intro v14 tm H hS
   refine pp1 hS rfl rfl ?_; clear hS
   intro tm hS
   refine o_ld1 (k := 4) hS (.inl rfl) rfl rfl rfl (.inl rfl) Fu22 rfl rfl ?_; clear hS
   intro tm hS
   refine pp1 hS rfl rfl ?_; clear hS
   intro tm hS
   refine o_ld1 (k := 5) hS (.inl rfl) rfl rfl rfl (.inl rfl) Fu22 rfl rfl ?_; clear hS
   intro tm hS
   replace hS := hS.litFrz (k := 0) rfl
   refine o_lit (r := (rL (rI .i64))) (l := [([] : List Int), r5.s, r6.s]) hS (.inl rfl) rfl Fl113 rfl rfl rfl (.cons (cells_one (hS.one (k := 0) rfl (.inl rfl))) (.cons (cells_one (hS.one (k := 14) rfl (.inl rfl))) (.cons (cells_one (hS.one (k := 17) rfl (.inl rfl))) .nil))) rfl rfl (ri_1 (rd_S ⟨0, rfl⟩) (ri_1 (rd_S ⟨14, rfl⟩) (ri_1 (rd_S ⟨17, rfl⟩) ri_nil))) rfl ?_; clear hS
   intro v15 tm H hS
   obtain ⟨r7, hx5, h0⟩ := bindS h0
   refine o_call (Pc := fun _ res H => ∃ v16, res = v16 ∧ Kn wm H ([.own (rI .i64) v16 r7] ++ [.lit (rL (rI .i64)) v15 ([([] : List Int), r5.s, r6.s]), .fz (rI .i64) v14 ([] : List Int), .box b2 [.bool a1.Char, v1, v2], .box b3 [.bool b1.Char, v3, v4], .box b4 [.bool false, (.slice none 0 0), (.slice none 0 0)], .box b5 [.bool r5.v.Char, v8, v9, v10, .int .i64 r5.n, .int .i64 r5.size, .int .i64 r5.across, .int .i64 r5.inside], .box b6 [.bool r6.v.Char, v11, v12, v13, .int .i64 r6.n, .int .i64 r6.size, .int .i64 r6.across, .int .i64 r6.inside], .fz (rI .i64) v1 a1.Shape, .fz (rI .i64) v2 a1.Data, .fz (rI .i64) v3 b1.Shape, .fz (rI .i64) v4 b1.Data, .el (rClo 87) [v6] r1, .el (rClo 87) [v7] r3, .fz (rI .i64) v8 r5.v.Shape, .fz (rI .i64) v9 r5.v.Data, .fz (rI .i64) v10 r5.s, .fz (rI .i64) v11 r6.v.Shape, .fz (rI .i64) v12 r6.v.Data, .fz (rI .i64) v13 r6.s]) Fr) hS (.inl rfl) rfl (fun wm' hw1 hw2 => by
    obtain ⟨F2, kk_1, kk_2⟩ := hS.inv.lendR (La := [.fz (rL (rI .i64)) v15 ([([] : List Int), r5.s, r6.s])]) (List.forall_mem_cons.mpr ⟨(.inr ⟨_, _, _, _, rfl, .inr (List.mem_of_getElem? (i := 0) rfl)⟩), (fun _ h => by cases h)⟩) hw1 hw2
    exact (wk39  ([([] : List Int), r5.s, r6.s])  v15 kk_1 hx5).mono fun res H2 ⟨v16, qq_1, qq_2⟩ => ⟨v16, qq_1, kk_2 _ _ (List.forall_mem_cons.mpr ⟨⟨_, _, _, _, rfl, fun _ _ _ _ h => h⟩, (fun _ h => by cases h)⟩) qq_2⟩) (fun wm' res H hw' hp => ?_)
   obtain ⟨v16, hres, hI⟩ := hp
   replace hres := hres.symm; subst hres
   replace hS : S wm 182 _ H ((82, v16) :: _) ([.own (rI .i64) v16 r7] ++ [.lit (rL (rI .i64)) v15 ([([] : List Int), r5.s, r6.s]), .fz (rI .i64) v14 ([] : List Int), .box b2 [.bool a1.Char, v1, v2], .box b3 [.bool b1.Char, v3, v4], .box b4 [.bool false, (.slice none 0 0), (.slice none 0 0)], .box b5 [.bool r5.v.Char, v8, v9, v10, .int .i64 r5.n, .int .i64 r5.size, .int .i64 r5.across, .int .i64 r5.inside], .box b6 [.bool r6.v.Char, v11, v12, v13, .int .i64 r6.n, .int .i64 r6.size, .int .i64 r6.across, .int .i64 r6.inside], .fz (rI .i64) v1 a1.Shape, .fz (rI .i64) v2 a1.Data, .fz (rI .i64) v3 b1.Shape, .fz (rI .i64) v4 b1.Data, .el (rClo 87) [v6] r1, .el (rClo 87) [v7] r3, .fz (rI .i64) v8 r5.v.Shape, .fz (rI .i64) v9 r5.v.Data, .fz (rI .i64) v10 r5.s, .fz (rI .i64) v11 r6.v.Shape, .fz (rI .i64) v12 r6.v.Data, .fz (rI .i64) v13 r6.s]) Fr := (hS.put rfl _).withK hI
   clear hI hw'
   refine pp1 hS rfl rfl ?_; clear hS
   intro tm hS
   refine o_nil (hR _ _ ?_)
   clear hR R
   refine c_seqS ?_
   refine c_reg fun R hR => ?_
   refine pp1 hS rfl rfl ?_; clear hS
   intro tm hS
   refine o_len (k := 0) (r := (rI .i64)) hS (.inl rfl) rfl rfl rfl (.inr (.inl rfl)) Fu22 rfl ?_; clear hS
   intro tm hS
   refine pp1 hS rfl rfl ?_; clear hS
   intro tm hS
   refine o_nil (hR _ _ ?_)
   clear hR R
   refine c_cond hS rfl (fun hc => ?_) (fun hc => ?_)
   ·replace h0 := iteT hc h0
    refine c_reg fun R hR => ?_
    refine o_build hS (.inl rfl) rfl Fb25 rfl .nil rfl ?_; clear hS
    intro tm hS
    refine o_st (k := 5) hS (.inl rfl) rfl rfl rfl Fs25 rfl rfl (all_cons rfl (all_cons rfl (all_cons rfl all_nil))) rfl ?_; clear hS; try clear H
    intro H hS
    refine pp1 hS rfl rfl ?_; clear hS
    intro tm hS
    refine o_nil (hR _ _ ?_)
    clear hR R
    refine wpC.ret ?_
    obtain rfl := Option.some.inj h0
    replace hS := hS.nilOwn (rI .i64)
    replace hS := hS.nilOwn (rI .i64)
    refine Exists.intro _ (And.intro (rs_cellA (k := 7) hS rfl rfl (.inl rfl) Fu25 rfl Fs25 rfl (rs_tmp hS rfl rs_nil)) ?_)
    have hI := hS.inv
    exact ⟨(.slice none 0 0), (.slice none 0 0), rfl, (((hI.pull 0 rfl).pull 1 rfl).take 2)⟩
   ·replace h0 := iteF hc h0
    refine wpC.skip ?_
    refine c_reg fun R hR => ?_
    refine pp1 hS rfl rfl ?_; clear hS
    intro tm hS
    obtain ⟨⟨r8, r9⟩, hx6, h0⟩ := bindS h0
    refine o_call (Pc := fun _ res H => res = .tuple #[.int .i64 r8, .int .i64 r9] ∧ Kn wm H ([.own (rI .i64) v16 r7, .lit (rL (rI .i64)) v15 ([([] : List Int), r5.s, r6.s]), .fz (rI .i64) v14 ([] : List Int), .box b2 [.bool a1.Char, v1, v2], .box b3 [.bool b1.Char, v3, v4], .box b4 [.bool false, (.slice none 0 0), (.slice none 0 0)], .box b5 [.bool r5.v.Char, v8, v9, v10, .int .i64 r5.n, .int .i64 r5.size, .int .i64 r5.across, .int .i64 r5.inside], .box b6 [.bool r6.v.Char, v11, v12, v13, .int .i64 r6.n, .int .i64 r6.size, .int .i64 r6.across, .int .i64 r6.inside], .fz (rI .i64) v1 a1.Shape, .fz (rI .i64) v2 a1.Data, .fz (rI .i64) v3 b1.Shape, .fz (rI .i64) v4 b1.Data, .el (rClo 87) [v6] r1, .el (rClo 87) [v7] r3, .fz (rI .i64) v8 r5.v.Shape, .fz (rI .i64) v9 r5.v.Data, .fz (rI .i64) v10 r5.s, .fz (rI .i64) v11 r6.v.Shape, .fz (rI .i64) v12 r6.v.Data, .fz (rI .i64) v13 r6.s]) Fr) hS (.inl rfl) rfl (fun wm' hw1 hw2 => by
     obtain ⟨F2, kk_1, kk_2⟩ := hS.inv.lend (La := [.fz (rI .i64) v16 r7]) (List.forall_mem_cons.mpr ⟨(.inr ⟨_, _, _, _, rfl, .inl (List.mem_of_getElem? (i := 0) rfl)⟩), (fun _ h => by cases h)⟩) hw1 hw2
     exact (wk35  r7  v16 kk_1 hx6).mono fun res H2 ⟨qq_1, qq_2⟩ => ⟨qq_1, kk_2 _ qq_2⟩) (fun wm' res H hw' hp => ?_)
    obtain ⟨hres, hI⟩ := hp
    replace hres := hres.symm; subst hres
    replace hS : S wm 182 _ H ((89, .tuple #[.int .i64 r8, .int .i64 r9]) :: _) ([.own (rI .i64) v16 r7, .lit (rL (rI .i64)) v15 ([([] : List Int), r5.s, r6.s]), .fz (rI .i64) v14 ([] : List Int), .box b2 [.bool a1.Char, v1, v2], .box b3 [.bool b1.Char, v3, v4], .box b4 [.bool false, (.slice none 0 0), (.slice none 0 0)], .box b5 [.bool r5.v.Char, v8, v9, v10, .int .i64 r5.n, .int .i64 r5.size, .int .i64 r5.across, .int .i64 r5.inside], .box b6 [.bool r6.v.Char, v11, v12, v13, .int .i64 r6.n, .int .i64 r6.size, .int .i64 r6.across, .int .i64 r6.inside], .fz (rI .i64) v1 a1.Shape, .fz (rI .i64) v2 a1.Data, .fz (rI .i64) v3 b1.Shape, .fz (rI .i64) v4 b1.Data, .el (rClo 87) [v6] r1, .el (rClo 87) [v7] r3, .fz (rI .i64) v8 r5.v.Shape, .fz (rI .i64) v9 r5.v.Data, .fz (rI .i64) v10 r5.s, .fz (rI .i64) v11 r6.v.Shape, .fz (rI .i64) v12 r6.v.Data, .fz (rI .i64) v13 r6.s]) Fr := (hS.put rfl _).withK hI
    clear hI hw'
    refine pp5 hS rfl rfl rfl rfl rfl rfl rfl rfl rfl rfl ?_; clear hS
    intro tm hS
    refine o_nil (hR _ _ ?_)
    clear hR R
    refine c_seqS ?_
    refine c_reg fun R hR => ?_
    refine pp3 hS rfl rfl rfl rfl rfl rfl ?_; clear hS
    intro tm hS
    obtain ⟨c3, hc3⟩ : ∃ x : Bool, x = ((r9 != 0) || (decide ((IntKind.i64.wrap (r8 * n1)) > 1000000))) := ⟨_, rfl⟩
    refine o_cutN 5 (J := fun tm H => S wm 182 tm H [(99, .bool c3), (0, .string f1), (6, .pointer (some ⟨b2, 0, none⟩)), (7, .pointer (some ⟨b3, 0, none⟩)), (8, .pointer (some ⟨b4, 0, none⟩)), (10, v6), (12, v7), (13, .pointer (some ⟨b5, 0, none⟩)), (14, .pointer (some ⟨b6, 0, none⟩)), (15, .int .i64 n1), (16, v16), (17, .int .i64 r8)] [.own (rI .i64) v16 r7, .box b2 [.bool a1.Char, v1, v2], .box b3 [.bool b1.Char, v3, v4], .box b4 [.bool false, (.slice none 0 0), (.slice none 0 0)], .box b5 [.bool r5.v.Char, v8, v9, v10, .int .i64 r5.n, .int .i64 r5.size, .int .i64 r5.across, .int .i64 r5.inside], .box b6 [.bool r6.v.Char, v11, v12, v13, .int .i64 r6.n, .int .i64 r6.size, .int .i64 r6.across, .int .i64 r6.inside], .fz (rI .i64) v1 a1.Shape, .fz (rI .i64) v2 a1.Data, .fz (rI .i64) v3 b1.Shape, .fz (rI .i64) v4 b1.Data, .el (rClo 87) [v6] r1, .el (rClo 87) [v7] r3, .fz (rI .i64) v8 r5.v.Shape, .fz (rI .i64) v9 r5.v.Data, .fz (rI .i64) v10 r5.s, .fz (rI .i64) v11 r6.v.Shape, .fz (rI .i64) v12 r6.v.Data, .fz (rI .i64) v13 r6.s] Fr) ?_ ?_
    ·rcases Bool.eq_false_or_eq_true (r9 != 0) with hg3 | hg3
     ·refine o_skip hS rfl rfl rfl hg3 ?_; clear hS
      intro tm hS
      refine o_skip hS rfl rfl rfl hg3 ?_; clear hS
      intro tm hS
      refine o_skip hS rfl rfl rfl hg3 ?_; clear hS
      intro tm hS
      refine o_skip hS rfl rfl rfl hg3 ?_; clear hS
      intro tm hS
      refine o_pickT hS (.inl rfl) rfl rfl hg3 rfl ?_; clear hS
      intro tm hS
      have hc3 : c3 = true := hc3.trans (by rw [hg3]; first | rfl | simp)
      subst hc3
      exact o_nil (hS.keep (k12 rfl rfl rfl rfl rfl rfl rfl rfl rfl rfl rfl rfl) (fun hI => (hI.sub (sc (sd (sd (sc (sc (sc (sc (sc (sc (sc (sc (sc (sc (sc (sc (sc (sc (sc (sc (sc sn)))))))))))))))))))))))
     ·refine o_pure hS (.inr ⟨_, _, _, _, rfl, rfl, rfl, hg3⟩) rfl rfl ?_; clear hS
      intro tm hS
      refine o_pure hS (.inr ⟨_, _, _, _, rfl, rfl, rfl, hg3⟩) rfl rfl ?_; clear hS
      intro tm hS
      refine o_pure hS (.inr ⟨_, _, _, _, rfl, rfl, rfl, hg3⟩) rfl rfl ?_; clear hS
      intro tm hS
      refine o_pure hS (.inr ⟨_, _, _, _, rfl, rfl, rfl, hg3⟩) rfl rfl ?_; clear hS
      intro tm hS
      refine o_pickF hS (.inl rfl) rfl rfl hg3 rfl ?_; clear hS
      intro tm hS
      have hc3 : c3 = (decide ((IntKind.i64.wrap (r8 * n1)) > 1000000)) := hc3.trans (by rw [hg3]; first | rfl | simp)
      subst hc3
      exact o_nil (hS.keep (k12 rfl rfl rfl rfl rfl rfl rfl rfl rfl rfl rfl rfl) (fun hI => (hI.sub (sc (sd (sd (sc (sc (sc (sc (sc (sc (sc (sc (sc (sc (sc (sc (sc (sc (sc (sc (sc sn)))))))))))))))))))))))
    intro tm H hS
    subst hc3
    refine o_nil (hR _ _ ?_)
    clear hR R
    refine c_cond hS rfl (fun hc => ?_) (fun hc => ?_)
    ·replace h0 := iteT hc h0
     refine c_reg fun R hR => ?_
     refine o_build hS (.inl rfl) rfl Fb25 rfl .nil rfl ?_; clear hS
     intro tm hS
     refine o_st (k := 3) hS (.inl rfl) rfl rfl rfl Fs25 rfl rfl (all_cons rfl (all_cons rfl (all_cons rfl all_nil))) rfl ?_; clear hS; try clear H
     intro H hS
     refine pp1 hS rfl rfl ?_; clear hS
     intro tm hS
     refine o_nil (hR _ _ ?_)
     clear hR R
     refine wpC.ret ?_
     obtain rfl := Option.some.inj h0
     replace hS := hS.nilOwn (rI .i64)
     replace hS := hS.nilOwn (rI .i64)
     refine Exists.intro _ (And.intro (rs_cellA (k := 5) hS rfl rfl (.inl rfl) Fu25 rfl Fs25 rfl (rs_tmp hS rfl rs_nil)) ?_)
     have hI := hS.inv
     exact ⟨(.slice none 0 0), (.slice none 0 0), rfl, (((hI.pull 0 rfl).pull 1 rfl).take 2)⟩
    ·replace h0 := iteF hc h0
     refine wpC.skip ?_
     refine c_reg fun R hR => ?_
     refine pp2 hS rfl rfl rfl rfl ?_; clear hS
     intro tm hS
     obtain ⟨l1, hx7, h0⟩ := bindS h0
     refine o_mk (r := (rI .i64)) hS (.inl rfl) rfl rfl rfl Fm23 rfl (fun _ => rfl) hx7 ?_; clear hS
     intro v17 tm H hS
     refine o_build hS (.inl rfl) rfl Fb25 rfl (.cons (cells_one (hS.one (k := 1) rfl (.inr (.inl rfl)))) (.cons (cells_one (hS.one (k := 0) rfl (.inr (.inl rfl)))) .nil)) rfl ?_; clear hS
     intro tm hS
     refine o_alloc hS (.inl rfl) rfl Fz25 (by decide) ?_; clear hS
     intro b7 tm H hS
     refine o_st (k := 0) hS (.inl rfl) rfl rfl rfl Fs25 rfl rfl (all_cons rfl (all_cons (hS.one (k := 2) rfl (.inr (.inl rfl))) (all_cons (hS.one (k := 1) rfl (.inr (.inl rfl))) all_nil))) rfl ?_; clear hS; try clear H
     intro H hS
     refine o_nil (hR _ _ ?_)
     clear hR R
     refine c_seqS ?_
     refine cr1 hS rfl rfl ?_; clear hS
     intro tm hS
     obtain ⟨k2, hw1, h0⟩ := bindS h0
     refine wpC.block ?_
     refine c_loop (I := fun (s : Int × (List Int)) tm H => match (generalizing := false) s with | (i1, Data1) => ∃ v18, S wm 182 tm H [(0, .string f1), (6, .pointer (some ⟨b2, 0, none⟩)), (7, .pointer (some ⟨b3, 0, none⟩)), (8, .pointer (some ⟨b4, 0, none⟩)), (10, v6), (12, v7), (13, .pointer (some ⟨b5, 0, none⟩)), (14, .pointer (some ⟨b6, 0, none⟩)), (15, .int .i64 n1), (17, .int .i64 r8), (18, .pointer (some ⟨b7, 0, none⟩)), (19, .int .i64 i1)] [.box b2 [.bool a1.Char, v1, v2], .box b3 [.bool b1.Char, v3, v4], .box b4 [.bool false, (.slice none 0 0), (.slice none 0 0)], .box b5 [.bool r5.v.Char, v8, v9, v10, .int .i64 r5.n, .int .i64 r5.size, .int .i64 r5.across, .int .i64 r5.inside], .box b6 [.bool r6.v.Char, v11, v12, v13, .int .i64 r6.n, .int .i64 r6.size, .int .i64 r6.across, .int .i64 r6.inside], .box b7 [.bool false, v16, v18], .own (rI .i64) v18 Data1, .fz (rI .i64) v1 a1.Shape, .fz (rI .i64) v2 a1.Data, .fz (rI .i64) v3 b1.Shape, .fz (rI .i64) v4 b1.Data, .el (rClo 87) [v6] r1, .el (rClo 87) [v7] r3, .fz (rI .i64) v8 r5.v.Shape, .fz (rI .i64) v9 r5.v.Data, .fz (rI .i64) v10 r5.s, .fz (rI .i64) v11 r6.v.Shape, .fz (rI .i64) v12 r6.v.Data, .fz (rI .i64) v13 r6.s, .own (rI .i64) v16 r7] Fr) hw1 (by refine Exists.intro v17 ?_; change S wm 182 _ _ _ _ Fr; exact hS.keep (k12 rfl rfl rfl rfl rfl rfl rfl rfl rfl rfl rfl rfl) (fun hI => (hI.pick [3, 4, 5, 6, 7, 0, 1, 8, 9, 10, 11, 12, 13, 14, 15, 16, 17, 18, 19, 2] rfl))) ?_
     clear hS
     intro s1 tm H c4 hS h13 hq13
     obtain ⟨i1, Data1⟩ := s1
     obtain ⟨v18, hS⟩ := hS
     change S wm 182 tm H [(0, .string f1), (6, .pointer (some ⟨b2, 0, none⟩)), (7, .pointer (some ⟨b3, 0, none⟩)), (8, .pointer (some ⟨b4, 0, none⟩)), (10, v6), (12, v7), (13, .pointer (some ⟨b5, 0, none⟩)), (14, .pointer (some ⟨b6, 0, none⟩)), (15, .int .i64 n1), (17, .int .i64 r8), (18, .pointer (some ⟨b7, 0, none⟩)), (19, .int .i64 i1)] [.box b2 [.bool a1.Char, v1, v2], .box b3 [.bool b1.Char, v3, v4], .box b4 [.bool false, (.slice none 0 0), (.slice none 0 0)], .box b5 [.bool r5.v.Char, v8, v9, v10, .int .i64 r5.n, .int .i64 r5.size, .int .i64 r5.across, .int .i64 r5.inside], .box b6 [.bool r6.v.Char, v11, v12, v13, .int .i64 r6.n, .int .i64 r6.size, .int .i64 r6.across, .int .i64 r6.inside], .box b7 [.bool false, v16, v18], .own (rI .i64) v18 Data1, .fz (rI .i64) v1 a1.Shape, .fz (rI .i64) v2 a1.Data, .fz (rI .i64) v3 b1.Shape, .fz (rI .i64) v4 b1.Data, .el (rClo 87) [v6] r1, .el (rClo 87) [v7] r3, .fz (rI .i64) v8 r5.v.Shape, .fz (rI .i64) v9 r5.v.Data, .fz (rI .i64) v10 r5.s, .fz (rI .i64) v11 r6.v.Shape, .fz (rI .i64) v12 r6.v.Data, .fz (rI .i64) v13 r6.s, .own (rI .i64) v16 r7] Fr at hS
     refine c_seqS ?_
     refine c_reg fun R hR => ?_
     refine pp2 hS rfl rfl rfl rfl ?_; clear hS
     intro tm hS
     refine o_ld1 (k := 3) hS (.inl rfl) rfl rfl rfl (.inl rfl) Fu3 rfl rfl ?_; clear hS
     intro tm hS
     refine pp2 hS rfl rfl rfl rfl ?_; clear hS
     intro tm hS
     obtain ⟨c5, hc4⟩ : ∃ x : Bool, x = ((decide (i1 < r5.size)) && (decide (r8 > 0))) := ⟨_, rfl⟩
     refine o_cutN 3 (J := fun tm H => S wm 182 tm H [(112, .bool c5), (0, .string f1), (6, .pointer (some ⟨b2, 0, none⟩)), (7, .pointer (some ⟨b3, 0, none⟩)), (8, .pointer (some ⟨b4, 0, none⟩)), (10, v6), (12, v7), (13, .pointer (some ⟨b5, 0, none⟩)), (14, .pointer (some ⟨b6, 0, none⟩)), (15, .int .i64 n1), (17, .int .i64 r8), (18, .pointer (some ⟨b7, 0, none⟩)), (19, .int .i64 i1)] [.box b2 [.bool a1.Char, v1, v2], .box b3 [.bool b1.Char, v3, v4], .box b4 [.bool false, (.slice none 0 0), (.slice none 0 0)], .box b5 [.bool r5.v.Char, v8, v9, v10, .int .i64 r5.n, .int .i64 r5.size, .int .i64 r5.across, .int .i64 r5.inside], .box b6 [.bool r6.v.Char, v11, v12, v13, .int .i64 r6.n, .int .i64 r6.size, .int .i64 r6.across, .int .i64 r6.inside], .box b7 [.bool false, v16, v18], .own (rI .i64) v18 Data1, .fz (rI .i64) v1 a1.Shape, .fz (rI .i64) v2 a1.Data, .fz (rI .i64) v3 b1.Shape, .fz (rI .i64) v4 b1.Data, .el (rClo 87) [v6] r1, .el (rClo 87) [v7] r3, .fz (rI .i64) v8 r5.v.Shape, .fz (rI .i64) v9 r5.v.Data, .fz (rI .i64) v10 r5.s, .fz (rI .i64) v11 r6.v.Shape, .fz (rI .i64) v12 r6.v.Data, .fz (rI .i64) v13 r6.s, .own (rI .i64) v16 r7] Fr) ?_ ?_
     ·rcases Bool.eq_false_or_eq_true (decide (i1 < r5.size)) with hg4 | hg4
      ·refine o_pure hS (.inr ⟨_, _, _, _, rfl, rfl, rfl, hg4⟩) rfl rfl ?_; clear hS
       intro tm hS
       refine o_pure hS (.inr ⟨_, _, _, _, rfl, rfl, rfl, hg4⟩) rfl rfl ?_; clear hS
       intro tm hS
       refine o_pickT hS (.inl rfl) rfl rfl hg4 rfl ?_; clear hS
       intro tm hS
       have hc4 : c5 = (decide (r8 > 0)) := hc4.trans (by rw [hg4]; first | rfl | simp)
       subst hc4
       exact o_nil (hS.keep (ka_cons rfl (ka_cons rfl (ka_cons rfl (ka_cons rfl (ka_cons rfl (ka_cons rfl (ka_cons rfl (ka_cons rfl (ka_cons rfl (ka_cons rfl (ka_cons rfl (ka_cons rfl (ka_cons rfl ka_nil))))))))))))) (fun hI => (hI.sub (sc (sc (sc (sc (sc (sc (sc (sc (sc (sc (sc (sc (sc (sc (sc (sc (sc (sc (sc (sc sn)))))))))))))))))))))))
      ·refine o_skip hS rfl rfl rfl hg4 ?_; clear hS
       intro tm hS
       refine o_skip hS rfl rfl rfl hg4 ?_; clear hS
       intro tm hS
       refine o_pickF hS (.inl rfl) rfl rfl hg4 rfl ?_; clear hS
       intro tm hS
       have hc4 : c5 = false := hc4.trans (by rw [hg4]; first | rfl | simp)
       subst hc4
       exact o_nil (hS.keep (ka_cons rfl (ka_cons rfl (ka_cons rfl (ka_cons rfl (ka_cons rfl (ka_cons rfl (ka_cons rfl (ka_cons rfl (ka_cons rfl (ka_cons rfl (ka_cons rfl (ka_cons rfl (ka_cons rfl ka_nil))))))))))))) (fun hI => (hI.sub (sc (sc (sc (sc (sc (sc (sc (sc (sc (sc (sc (sc (sc (sc (sc (sc (sc (sc (sc (sc sn)))))))))))))))))))))))
     intro tm H hS
     subst hc4
     refine o_nil (hR _ _ ?_)
     clear hR R
     refine c_cond hS rfl (fun hc => ?_) (fun hc => ?_)
     ·replace h13 := iteT hc h13
      refine wpC.skip ?_
      refine c_seqS ?_
      refine wpC.block ?_
      refine c_reg fun R hR => ?_
      refine pp1 hS rfl rfl ?_; clear hS
      intro tm hS
      refine o_ld1 (k := 4) hS (.inl rfl) rfl rfl rfl (.inl rfl) Fu3 rfl rfl ?_; clear hS
      intro tm hS
      refine pp1 hS rfl rfl ?_; clear hS
      intro tm hS
      refine o_nil (hR _ _ ?_)
      clear hR R
      obtain ⟨k3, hw2, h13⟩ := bindS h13
      refine wpC.block ?_
      refine c_loop (I := fun (s : Int × (List Int)) tm H => match (generalizing := false) s with | (t1, Data2) => ∃ v19, S wm 182 tm H [(0, .string f1), (6, .pointer (some ⟨b2, 0, none⟩)), (7, .pointer (some ⟨b3, 0, none⟩)), (8, .pointer (some ⟨b4, 0, none⟩)), (10, v6), (12, v7), (13, .pointer (some ⟨b5, 0, none⟩)), (14, .pointer (some ⟨b6, 0, none⟩)), (15, .int .i64 n1), (17, .int .i64 r8), (18, .pointer (some ⟨b7, 0, none⟩)), (19, .int .i64 i1), (116, .int .i64 r6.size), (117, .int .i64 t1)] [.box b2 [.bool a1.Char, v1, v2], .box b3 [.bool b1.Char, v3, v4], .box b4 [.bool false, (.slice none 0 0), (.slice none 0 0)], .box b5 [.bool r5.v.Char, v8, v9, v10, .int .i64 r5.n, .int .i64 r5.size, .int .i64 r5.across, .int .i64 r5.inside], .box b6 [.bool r6.v.Char, v11, v12, v13, .int .i64 r6.n, .int .i64 r6.size, .int .i64 r6.across, .int .i64 r6.inside], .box b7 [.bool false, v16, v19], .own (rI .i64) v19 Data2, .fz (rI .i64) v1 a1.Shape, .fz (rI .i64) v2 a1.Data, .fz (rI .i64) v3 b1.Shape, .fz (rI .i64) v4 b1.Data, .el (rClo 87) [v6] r1, .el (rClo 87) [v7] r3, .fz (rI .i64) v8 r5.v.Shape, .fz (rI .i64) v9 r5.v.Data, .fz (rI .i64) v10 r5.s, .fz (rI .i64) v11 r6.v.Shape, .fz (rI .i64) v12 r6.v.Data, .fz (rI .i64) v13 r6.s, .own (rI .i64) v16 r7] Fr) hw2 (by refine Exists.intro v18 ?_; change S wm 182 _ _ _ _ Fr; exact hS.keep (ka_cons rfl (ka_cons rfl (ka_cons rfl (ka_cons rfl (ka_cons rfl (ka_cons rfl (ka_cons rfl (ka_cons rfl (ka_cons rfl (ka_cons rfl (ka_cons rfl (ka_cons rfl (ka_cons rfl (ka_cons rfl ka_nil)))))))))))))) (fun hI => (hI.sub (sc (sc (sc (sc (sc (sc (sc (sc (sc (sc (sc (sc (sc (sc (sc (sc (sc (sc (sc (sc sn))))))))))))))))))))))) ?_
      clear hS
      intro s2 tm H c6 hS h21 hq21
      obtain ⟨t1, Data2⟩ := s2
      obtain ⟨v19, hS⟩ := hS
      change S wm 182 tm H [(0, .string f1), (6, .pointer (some ⟨b2, 0, none⟩)), (7, .pointer (some ⟨b3, 0, none⟩)), (8, .pointer (some ⟨b4, 0, none⟩)), (10, v6), (12, v7), (13, .pointer (some ⟨b5, 0, none⟩)), (14, .pointer (some ⟨b6, 0, none⟩)), (15, .int .i64 n1), (17, .int .i64 r8), (18, .pointer (some ⟨b7, 0, none⟩)), (19, .int .i64 i1), (116, .int .i64 r6.size), (117, .int .i64 t1)] [.box b2 [.bool a1.Char, v1, v2], .box b3 [.bool b1.Char, v3, v4], .box b4 [.bool false, (.slice none 0 0), (.slice none 0 0)], .box b5 [.bool r5.v.Char, v8, v9, v10, .int .i64 r5.n, .int .i64 r5.size, .int .i64 r5.across, .int .i64 r5.inside], .box b6 [.bool r6.v.Char, v11, v12, v13, .int .i64 r6.n, .int .i64 r6.size, .int .i64 r6.across, .int .i64 r6.inside], .box b7 [.bool false, v16, v19], .own (rI .i64) v19 Data2, .fz (rI .i64) v1 a1.Shape, .fz (rI .i64) v2 a1.Data, .fz (rI .i64) v3 b1.Shape, .fz (rI .i64) v4 b1.Data, .el (rClo 87) [v6] r1, .el (rClo 87) [v7] r3, .fz (rI .i64) v8 r5.v.Shape, .fz (rI .i64) v9 r5.v.Data, .fz (rI .i64) v10 r5.s, .fz (rI .i64) v11 r6.v.Shape, .fz (rI .i64) v12 r6.v.Data, .fz (rI .i64) v13 r6.s, .own (rI .i64) v16 r7] Fr at hS
      refine cr1 hS rfl rfl ?_; clear hS
      intro tm hS
      refine c_seqS ?_
      refine c_cond hS rfl (fun hc => ?_) (fun hc => ?_)
      ·replace h21 := iteT hc h21
       refine wpC.skip ?_
       refine c_seqS ?_
       refine wpC.block ?_
       refine cr2 hS rfl rfl rfl rfl ?_; clear hS
       intro tm hS
       refine c_reg fun R hR => ?_
       refine pp1 hS rfl rfl ?_; clear hS
       intro tm hS
       obtain ⟨l2, hx8, h21⟩ := bindS h21
       refine o_mkW (r := rItem) (z := (Am.Item.mk 0 false)) hS (.inl rfl) rfl rfl rfl Fm75 rfl (fun _ => rfl) hx8 ?_; clear hS
       intro v20 tm H hS
       refine pp1 hS rfl rfl ?_; clear hS
       intro tm hS
       refine o_nil (hR _ _ ?_)
       clear hR R
       refine c_seqS ?_
       refine c_reg fun R hR => ?_
       refine pp1 hS rfl rfl ?_; clear hS
       intro tm hS
       refine o_len (k := 0) (r := rItem) hS (.inl rfl) rfl rfl rfl (.inr (.inl rfl)) Fu75 rfl ?_; clear hS
       intro tm hS
       refine pp1 hS rfl rfl ?_; clear hS
       intro tm hS
       refine o_nil (hR _ _ ?_)
       clear hR R
       obtain ⟨k4, hw3, h21⟩ := bindS h21
       refine wpC.block ?_
       refine c_loop (I := fun (s : Int × (List Am.Item)) tm H => match (generalizing := false) s with | (t2, l3) => S wm 182 tm H [(0, .string f1), (6, .pointer (some ⟨b2, 0, none⟩)), (7, .pointer (some ⟨b3, 0, none⟩)), (8, .pointer (some ⟨b4, 0, none⟩)), (10, v6), (12, v7), (13, .pointer (some ⟨b5, 0, none⟩)), (14, .pointer (some ⟨b6, 0, none⟩)), (15, .int .i64 n1), (17, .int .i64 r8), (18, .pointer (some ⟨b7, 0, none⟩)), (19, .int .i64 i1), (20, .int .i64 t1), (21, v20), (116, .int .i64 r6.size), (117, .int .i64 t1), (123, .int .i64 (l2.length : Int)), (124, .int .i64 t2)] [.box b2 [.bool a1.Char, v1, v2], .box b3 [.bool b1.Char, v3, v4], .box b4 [.bool false, (.slice none 0 0), (.slice none 0 0)], .box b5 [.bool r5.v.Char, v8, v9, v10, .int .i64 r5.n, .int .i64 r5.size, .int .i64 r5.across, .int .i64 r5.inside], .box b6 [.bool r6.v.Char, v11, v12, v13, .int .i64 r6.n, .int .i64 r6.size, .int .i64 r6.across, .int .i64 r6.inside], .box b7 [.bool false, v16, v19], .fz (rI .i64) v1 a1.Shape, .fz (rI .i64) v2 a1.Data, .fz (rI .i64) v3 b1.Shape, .fz (rI .i64) v4 b1.Data, .el (rClo 87) [v6] r1, .el (rClo 87) [v7] r3, .fz (rI .i64) v8 r5.v.Shape, .fz (rI .i64) v9 r5.v.Data, .fz (rI .i64) v10 r5.s, .fz (rI .i64) v11 r6.v.Shape, .fz (rI .i64) v12 r6.v.Data, .fz (rI .i64) v13 r6.s, .own (rI .i64) v16 r7, .own (rI .i64) v19 Data2, .own rItem v20 l3] Fr) hw3 (by change S wm 182 _ _ _ _ Fr; exact hS.keep (ka_cons rfl (ka_cons rfl (ka_cons rfl (ka_cons rfl (ka_cons rfl (ka_cons rfl (ka_cons rfl (ka_cons rfl (ka_cons rfl (ka_cons rfl (ka_cons rfl (ka_cons rfl (ka_cons rfl (ka_cons rfl (ka_cons rfl (ka_cons rfl (ka_cons rfl (ka_cons rfl ka_nil)))))))))))))))))) (fun hI => (hI.pick [1, 2, 3, 4, 5, 6, 8, 9, 10, 11, 12, 13, 14, 15, 16, 17, 18, 19, 20, 7, 0] rfl))) ?_
       clear hS
       intro s3 tm H c7 hS h23 hq23
       obtain ⟨t2, l3⟩ := s3
       change S wm 182 tm H [(0, .string f1), (6, .pointer (some ⟨b2, 0, none⟩)), (7, .pointer (some ⟨b3, 0, none⟩)), (8, .pointer (some ⟨b4, 0, none⟩)), (10, v6), (12, v7), (13, .pointer (some ⟨b5, 0, none⟩)), (14, .pointer (some ⟨b6, 0, none⟩)), (15, .int .i64 n1), (17, .int .i64 r8), (18, .pointer (some ⟨b7, 0, none⟩)), (19, .int .i64 i1), (20, .int .i64 t1), (21, v20), (116, .int .i64 r6.size), (117, .int .i64 t1), (123, .int .i64 (l2.length : Int)), (124, .int .i64 t2)] [.box b2 [.bool a1.Char, v1, v2], .box b3 [.bool b1.Char, v3, v4], .box b4 [.bool false, (.slice none 0 0), (.slice none 0 0)], .box b5 [.bool r5.v.Char, v8, v9, v10, .int .i64 r5.n, .int .i64 r5.size, .int .i64 r5.across, .int .i64 r5.inside], .box b6 [.bool r6.v.Char, v11, v12, v13, .int .i64 r6.n, .int .i64 r6.size, .int .i64 r6.across, .int .i64 r6.inside], .box b7 [.bool false, v16, v19], .fz (rI .i64) v1 a1.Shape, .fz (rI .i64) v2 a1.Data, .fz (rI .i64) v3 b1.Shape, .fz (rI .i64) v4 b1.Data, .el (rClo 87) [v6] r1, .el (rClo 87) [v7] r3, .fz (rI .i64) v8 r5.v.Shape, .fz (rI .i64) v9 r5.v.Data, .fz (rI .i64) v10 r5.s, .fz (rI .i64) v11 r6.v.Shape, .fz (rI .i64) v12 r6.v.Data, .fz (rI .i64) v13 r6.s, .own (rI .i64) v16 r7, .own (rI .i64) v19 Data2, .own rItem v20 l3] Fr at hS
       refine cr1 hS rfl rfl ?_; clear hS
       intro tm hS
       refine c_seqS ?_
       refine c_cond hS rfl (fun hc => ?_) (fun hc => ?_)
       ·replace h23 := iteT hc h23
        refine wpC.skip ?_
        refine c_seqS ?_
        refine wpC.block ?_
        refine cr2 hS rfl rfl rfl rfl ?_; clear hS
        intro tm hS
        refine cr1 hS rfl rfl ?_; clear hS
        intro tm hS
        refine c_reg fun R hR => ?_
        refine pp3 hS rfl rfl rfl rfl rfl rfl ?_; clear hS
        intro tm hS
        refine o_ldA (k := 0) hS (.inl rfl) rfl rfl rfl (.inl rfl) Fu25 rfl Fs25 rfl ?_; clear hS
        intro tm hS
        refine pp2 hS rfl rfl rfl rfl ?_; clear hS
        intro tm hS
        refine o_ld1 (k := 3) hS (.inl rfl) rfl rfl rfl (.inl rfl) Fu3 rfl rfl ?_; clear hS
        intro tm hS
        refine pp3 hS rfl rfl rfl rfl rfl rfl ?_; clear hS
        intro tm hS
        refine o_ld1 (k := 3) hS (.inl rfl) rfl rfl rfl (.inl rfl) Fu3 rfl rfl ?_; clear hS
        intro tm hS
        refine pp2 hS rfl rfl rfl rfl ?_; clear hS
        intro tm hS
        obtain ⟨r10, hx9, h23⟩ := bindS h23
        refine o_call hS (.inl rfl) rfl (fun wm' hw1 hw2 => wk40  a1 (IntKind.i64.wrap ((IntKind.i64.wrap (i1 * r5.across)) + (IntKind.i64.wrap (t2 * r5.inside))))  v1 v2 (((hS.sel hw2).ad 7 rfl).ad 6 rfl) hx9) (fun wm' res H hw' hp => ?_)
        obtain ⟨hres, hI⟩ := hp
        replace hres := hres.symm; subst hres
        replace hS : S wm 182 _ H ((141, .agg #[.int .i64 r10.n, .bool r10.char]) :: _) ([] ++ _) Fr := hS.after rfl hw' hI
        clear hI hw'
        refine o_ldA (k := 1) hS (.inl rfl) rfl rfl rfl (.inl rfl) Fu25 rfl Fs25 rfl ?_; clear hS
        intro tm hS
        refine pp2 hS rfl rfl rfl rfl ?_; clear hS
        intro tm hS
        refine o_ld1 (k := 4) hS (.inl rfl) rfl rfl rfl (.inl rfl) Fu3 rfl rfl ?_; clear hS
        intro tm hS
        refine pp3 hS rfl rfl rfl rfl rfl rfl ?_; clear hS
        intro tm hS
        refine o_ld1 (k := 4) hS (.inl rfl) rfl rfl rfl (.inl rfl) Fu3 rfl rfl ?_; clear hS
        intro tm hS
        refine pp2 hS rfl rfl rfl rfl ?_; clear hS
        intro tm hS
        obtain ⟨r11, hx10, h23⟩ := bindS h23
        refine o_call hS (.inl rfl) rfl (fun wm' hw1 hw2 => wk40  b1 (IntKind.i64.wrap ((IntKind.i64.wrap (t1 * r6.across)) + (IntKind.i64.wrap (t2 * r6.inside))))  v3 v4 (((hS.sel hw2).ad 9 rfl).ad 8 rfl) hx10) (fun wm' res H hw' hp => ?_)
        obtain ⟨hres, hI⟩ := hp
        replace hres := hres.symm; subst hres
        replace hS : S wm 182 _ H ((152, .agg #[.int .i64 r11.n, .bool r11.char]) :: _) ([] ++ _) Fr := hS.after rfl hw' hI
        clear hI hw'
        obtain ⟨fn1, hx11, h23⟩ := bindS h23
        obtain ⟨b8, hv1, hS⟩ := hS.unclo (k := 11) rfl hx11
        obtain ⟨⟨r12, r13⟩, hx12, h23⟩ := bindS h23
        refine o_call hS (.inl rfl) (by subst hv1; rfl) (fun wm' hw1 hw2 => wk87 ho100 r10 r11 fn1  b8 ((hS.sel hw2).adB 0 rfl) hx12) (fun wm' res H hw' hp => ?_)
        obtain ⟨hres, hI⟩ := hp
        replace hres := hres.symm; subst hres
        replace hS : S wm 182 _ H ((153, .tuple #[.agg #[.int .i64 r12.n, .bool r12.char], .int .i64 r13]) :: _) ([] ++ _) Fr := hS.after rfl hw' hI
        clear hI hw'
        refine pp3 hS rfl rfl rfl rfl rfl rfl ?_; clear hS
        intro tm hS
        obtain ⟨y1, hx13, h23⟩ := bindS h23
        refine o_ixA (k := 21) (r := rItem) hS (.inl rfl) rfl rfl rfl rfl (.inr (.inl rfl)) Fu75 Fs72 hx13 ?_; clear hS
        intro tm hS
        obtain ⟨l4, hx14, h23⟩ := bindS h23
        refine o_stE (k := 21) (r := rItem) hS (.inl rfl) rfl rfl rfl Fs72 rfl rfl (rd_flat fun _ => rfl) hx14 ?_; clear hS; try clear H
        intro H hS
        refine pp1 hS rfl rfl ?_; clear hS
        intro tm hS
        refine o_nil (hR _ _ ?_)
        clear hR R
        refine cr2 hS rfl rfl rfl rfl ?_; clear hS
        intro tm hS
        refine c_cond hS rfl (fun hc => ?_) (fun hc => ?_)
        ·replace h23 := iteT hc h23
         refine c_reg fun R hR => ?_
         refine o_build hS (.inl rfl) rfl Fb25 rfl .nil rfl ?_; clear hS
         intro tm hS
         refine pp1 hS rfl rfl ?_; clear hS
         intro tm hS
         refine o_st (k := 3) hS (.inl rfl) rfl rfl rfl Fs25 rfl rfl (all_cons rfl (all_cons rfl (all_cons rfl all_nil))) rfl ?_; clear hS; try clear H
         intro H hS
         refine pp1 hS rfl rfl ?_; clear hS
         intro tm hS
         refine o_nil (hR _ _ ?_)
         clear hR R
         refine wpC.ret ?_
         obtain rfl := Option.some.inj h23
         obtain rfl := hq23 _ rfl
         refine And.intro rfl ?_
         obtain rfl := leave h21
         obtain rfl := hq21 _ rfl
         refine And.intro rfl ?_
         obtain rfl := leave h13
         obtain rfl := hq13 _ rfl
         refine And.intro rfl ?_
         obtain rfl := leave h0
         replace hS := hS.nilOwn (rI .i64)
         replace hS := hS.nilOwn (rI .i64)
         refine Exists.intro _ (And.intro (rs_cellA (k := 5) hS rfl rfl (.inl rfl) Fu25 rfl Fs25 rfl (rs_tmp hS rfl rs_nil)) ?_)
         have hI := hS.inv
         exact ⟨(.slice none 0 0), (.slice none 0 0), rfl, (((hI.pull 0 rfl).pull 1 rfl).take 2)⟩
        ·replace h23 := iteF hc h23
         refine wpC.skip ?_
         refine cs2 hS rfl rfl rfl rfl ?_; clear hS
         intro tm hS
         obtain rfl := Option.some.inj h23
         refine ⟨_, rfl, ?_⟩
         change S wm 182 _ _ _ _ Fr; exact hS.keep (ka_cons rfl (ka_cons rfl (ka_cons rfl (ka_cons rfl (ka_cons rfl (ka_cons rfl (ka_cons rfl (ka_cons rfl (ka_cons rfl (ka_cons rfl (ka_cons rfl (ka_cons rfl (ka_cons rfl (ka_cons rfl (ka_cons rfl (ka_cons rfl (ka_cons rfl (ka_cons rfl ka_nil)))))))))))))))))) (fun hI => (hI.sub (sd (sc (sc (sc (sc (sc (sc (sc (sc (sc (sc (sc (sc (sc (sc (sc (sc (sc (sc (sc (sc (sc sn))))))))))))))))))))))))
       ·replace h23 := iteF hc h23
        refine wpC.exit ?_
        refine seqX ?_
        obtain rfl := Option.some.inj h23
        obtain rfl := hq23 _ rfl
        refine And.intro rfl (blk_eq ?_)
        replace h21 := joinN h21
        refine c_reg fun R hR => ?_
        refine pp3 hS rfl rfl rfl rfl rfl rfl ?_; clear hS
        intro tm hS
        obtain ⟨⟨r14, r15⟩, hx15, h21⟩ := bindS h21
        refine o_call (Pc := fun _ res H => res = .tuple #[.agg #[.int .i64 r14.n, .bool r14.char], .int .i64 r15] ∧ Kn wm H ([.box b2 [.bool a1.Char, v1, v2], .box b3 [.bool b1.Char, v3, v4], .box b4 [.bool false, (.slice none 0 0), (.slice none 0 0)], .box b5 [.bool r5.v.Char, v8, v9, v10, .int .i64 r5.n, .int .i64 r5.size, .int .i64 r5.across, .int .i64 r5.inside], .box b6 [.bool r6.v.Char, v11, v12, v13, .int .i64 r6.n, .int .i64 r6.size, .int .i64 r6.across, .int .i64 r6.inside], .box b7 [.bool false, v16, v19], .fz (rI .i64) v1 a1.Shape, .fz (rI .i64) v2 a1.Data, .fz (rI .i64) v3 b1.Shape, .fz (rI .i64) v4 b1.Data, .el (rClo 87) [v6] r1, .el (rClo 87) [v7] r3, .fz (rI .i64) v8 r5.v.Shape, .fz (rI .i64) v9 r5.v.Data, .fz (rI .i64) v10 r5.s, .fz (rI .i64) v11 r6.v.Shape, .fz (rI .i64) v12 r6.v.Data, .fz (rI .i64) v13 r6.s, .own (rI .i64) v16 r7, .own (rI .i64) v19 Data2, .own rItem v20 l3]) Fr) hS (.inl rfl) rfl (fun wm' hw1 hw2 => by
         obtain ⟨F2, kk_1, kk_2⟩ := hS.inv.lend (La := [.el (rClo 87) [v6] r1, .fz rItem v20 l3]) (List.forall_mem_cons.mpr ⟨(.inl ⟨rfl, List.mem_of_getElem? (i := 10) rfl⟩), (List.forall_mem_cons.mpr ⟨(.inr ⟨_, _, _, _, rfl, .inl (List.mem_of_getElem? (i := 20) rfl)⟩), (fun _ h => by cases h)⟩)⟩) hw1 hw2
         exact (wk37 ho100 f1 r1 l3  v6 v20 kk_1 hx15).mono fun res H2 ⟨qq_1, qq_2⟩ => ⟨qq_1, kk_2 _ qq_2⟩) (fun wm' res H hw' hp => ?_)
        obtain ⟨hres, hI⟩ := hp
        replace hres := hres.symm; subst hres
        replace hS : S wm 182 _ H ((166, .tuple #[.agg #[.int .i64 r14.n, .bool r14.char], .int .i64 r15]) :: _) ([.box b2 [.bool a1.Char, v1, v2], .box b3 [.bool b1.Char, v3, v4], .box b4 [.bool false, (.slice none 0 0), (.slice none 0 0)], .box b5 [.bool r5.v.Char, v8, v9, v10, .int .i64 r5.n, .int .i64 r5.size, .int .i64 r5.across, .int .i64 r5.inside], .box b6 [.bool r6.v.Char, v11, v12, v13, .int .i64 r6.n, .int .i64 r6.size, .int .i64 r6.across, .int .i64 r6.inside], .box b7 [.bool false, v16, v19], .fz (rI .i64) v1 a1.Shape, .fz (rI .i64) v2 a1.Data, .fz (rI .i64) v3 b1.Shape, .fz (rI .i64) v4 b1.Data, .el (rClo 87) [v6] r1, .el (rClo 87) [v7] r3, .fz (rI .i64) v8 r5.v.Shape, .fz (rI .i64) v9 r5.v.Data, .fz (rI .i64) v10 r5.s, .fz (rI .i64) v11 r6.v.Shape, .fz (rI .i64) v12 r6.v.Data, .fz (rI .i64) v13 r6.s, .own (rI .i64) v16 r7, .own (rI .i64) v19 Data2, .own rItem v20 l3]) Fr := (hS.put rfl _).withK hI
        clear hI hw'
        refine pp3 hS rfl rfl rfl rfl rfl rfl ?_; clear hS
        intro tm hS
        refine o_alloc hS (.inl rfl) rfl Fz72 (by decide) ?_; clear hS
        intro b9 tm H hS
        refine o_st (k := 0) hS (.inl rfl) rfl rfl rfl Fs72 rfl rfl (all_cons rfl (all_cons rfl all_nil)) rfl ?_; clear hS; try clear H
        intro H hS
        refine pp1 hS rfl rfl ?_; clear hS
        intro tm hS
        refine o_nil (hR _ _ ?_)
        clear hR R
        refine c_seqS ?_
        refine cr2 hS rfl rfl rfl rfl ?_; clear hS
        intro tm hS
        refine c_cond hS rfl (fun hc => ?_) (fun hc => ?_)
        ·replace h21 := iteT hc h21
         refine c_reg fun R hR => ?_
         refine o_build hS (.inl rfl) rfl Fb25 rfl .nil rfl ?_; clear hS
         intro tm hS
         refine pp1 hS rfl rfl ?_; clear hS
         intro tm hS
         refine o_st (k := 3) hS (.inl rfl) rfl rfl rfl Fs25 rfl rfl (all_cons rfl (all_cons rfl (all_cons rfl all_nil))) rfl ?_; clear hS; try clear H
         intro H hS
         refine pp1 hS rfl rfl ?_; clear hS
         intro tm hS
         refine o_nil (hR _ _ ?_)
         clear hR R
         refine wpC.ret ?_
         obtain rfl := Option.some.inj h21
         obtain rfl := hq21 _ rfl
         refine And.intro rfl ?_
         obtain rfl := leave h13
         obtain rfl := hq13 _ rfl
         refine And.intro rfl ?_
         obtain rfl := leave h0
         replace hS := hS.nilOwn (rI .i64)
         replace hS := hS.nilOwn (rI .i64)
         refine Exists.intro _ (And.intro (rs_cellA (k := 5) hS rfl rfl (.inl rfl) Fu25 rfl Fs25 rfl (rs_tmp hS rfl rs_nil)) ?_)
         have hI := hS.inv
         exact ⟨(.slice none 0 0), (.slice none 0 0), rfl, (((hI.pull 0 rfl).pull 1 rfl).take 2)⟩
        ·replace h21 := iteF hc h21
         refine wpC.skip ?_
         refine c_reg1 fun R hR => ?_
         refine pp1 hS rfl rfl ?_; clear hS
         intro tm hS
         refine o_ld1 (k := 6) hS (.inl rfl) rfl rfl rfl (.inl rfl) Fu23 rfl rfl ?_; clear hS
         intro tm hS
         refine pp1 hS rfl rfl ?_; clear hS
         intro tm hS
         refine o_ld1 (k := 0) hS (.inl rfl) rfl rfl rfl (.inl rfl) Fu2 rfl rfl ?_; clear hS
         intro tm hS
         refine o_lit (r := (rI .i64)) (l := [r14.n]) hS (.inl rfl) rfl Fl23 rfl rfl rfl (.cons rfl .nil) rfl rfl (ri_1 (rd_flat fun _ => rfl) ri_nil) rfl ?_; clear hS
         intro v21 tm H hS
         obtain ⟨l5, hx16, h21⟩ := bindS h21
         refine o_app (k1 := 21) (k2 := 0) (r := (rI .i64)) hS (.inl rfl) rfl rfl rfl rfl rfl (.inr (.inr rfl)) rfl Fe23_23 rfl hx16 ?_; clear hS
         intro v22 tm H hS
         refine pp1 hS rfl rfl ?_; clear hS
         intro tm hS
         refine o_st (k := 7) hS (.inl rfl) rfl rfl rfl Fs23 (cells_one (hS.one (k := 21) rfl (.inr (.inl rfl)))) rfl (all_cons (hS.one (k := 21) rfl (.inr (.inl rfl))) all_nil) rfl ?_; clear hS; try clear H
         intro H hS
         refine o_nil (hR _ _ ?_)
         clear hR R
         refine cs2 hS rfl rfl rfl rfl ?_; clear hS
         intro tm hS
         obtain rfl := Option.some.inj h21
         refine ⟨_, rfl, ?_⟩
         refine Exists.intro v22 ?_; change S wm 182 _ _ _ _ Fr; exact hS.keep (ka_cons rfl (ka_cons rfl (ka_cons rfl (ka_cons rfl (ka_cons rfl (ka_cons rfl (ka_cons rfl (ka_cons rfl (ka_cons rfl (ka_cons rfl (ka_cons rfl (ka_cons rfl (ka_cons rfl (ka_cons rfl ka_nil)))))))))))))) (fun hI => (hI.pick [2, 3, 4, 5, 6, 7, 21, 8, 9, 10, 11, 12, 13, 14, 15, 16, 17, 18, 19, 20] rfl))
      ·replace h21 := iteF hc h21
       refine wpC.exit ?_
       refine seqX ?_
       obtain rfl := Option.some.inj h21
       obtain rfl := hq21 _ rfl
       refine And.intro rfl (blk_eq ?_)
       replace h13 := joinN h13
       refine cs3 hS rfl rfl rfl rfl rfl rfl ?_; clear hS
       intro tm hS
       obtain rfl := Option.some.inj h13
       refine ⟨_, rfl, ?_⟩
       refine Exists.intro v19 ?_; change S wm 182 _ _ _ _ Fr; exact hS.keep (k12 rfl rfl rfl rfl rfl rfl rfl rfl rfl rfl rfl rfl) (fun hI => (hI.sub (sc (sc (sc (sc (sc (sc (sc (sc (sc (sc (sc (sc (sc (sc (sc (sc (sc (sc (sc (sc sn))))))))))))))))))))))
     ·replace h13 := iteF hc h13
      refine wpC.exit ?_
      refine seqX ?_
      obtain rfl := Option.some.inj h13
      obtain rfl := hq13 _ rfl
      refine And.intro rfl (blk_eq ?_)
      replace h0 := joinN h0
      refine c_reg fun R hR => ?_
      refine o_ldA (k := 5) hS (.inl rfl) rfl rfl rfl (.inl rfl) Fu25 rfl Fs25 rfl ?_; clear hS
      intro tm hS
      refine o_st (k := 2) hS (.inl rfl) rfl rfl rfl Fs25 rfl rfl (all_cons rfl (all_cons (hS.one (k := 19) rfl (.inr (.inl rfl))) (all_cons (hS.one (k := 6) rfl (.inr (.inl rfl))) all_nil))) rfl ?_; clear hS; try clear H
      intro H hS
      refine pp1 hS rfl rfl ?_; clear hS
      intro tm hS
      refine o_nil (hR _ _ ?_)
      clear hR R
      refine wpC.ret ?_
      obtain rfl := Option.some.inj h0
      refine Exists.intro _ (And.intro (rs_cellA (k := 2) hS rfl rfl (.inl rfl) Fu25 rfl Fs25 rfl (rs_tmp hS rfl rs_nil)) ?_)
      have hI := hS.inv
      exact ⟨v16, v18, rfl, (((hI.pull 6 rfl).pull 19 rfl).take 2)⟩
theorem wk47 {wm : Nat} {H : AHeap} {Fr : List Ent}  (v1 : Val) (axis1 : Int)  (v2 : Value) (v3 : Value) (hI : Kn wm H [.fz (rI .i64) v2 v1.Shape, .fz (rI .i64) v3 v1.Data] Fr) {r : Int} (h0 : M.anamnesisref12_long v1 axis1 = some r) :
  wpF Try.prog ora wm 47 [.agg #[.bool v1.Char, v2, v3], .int .i64 axis1] H (fun res H => res = .int .i64 r ∧ Kn wm H [] Fr) := by
 unfold M.anamnesisref12_long at h0
 refine f_enter (n := 14) Try.func47 rfl (by simp) hI rfl rfl rfl fun tm hS => ?_
 clear hI
 refine c_reg fun R hR => ?_
 refine o_box hS (.inl rfl) rfl rfl rfl (all_cons rfl (all_cons (hS.one (k := 0) rfl (.inl rfl)) (all_cons (hS.one (k := 1) rfl (.inl rfl)) all_nil))) ?_; clear hS
 intro b1 tm H hS
 refine pp1 hS rfl rfl ?_; clear hS
 intro tm hS
 refine o_nil (hR _ _ ?_)
 clear hR R
 refine c_seqS ?_
 refine c_reg fun R hR => ?_
 refine pp1 hS rfl rfl ?_; clear hS
 intro tm hS
 refine o_ld1 (k := 0) hS (.inl rfl) rfl rfl rfl (.inl rfl) Fu22 rfl rfl ?_; clear hS
 intro tm hS
 refine o_len (k := 1) (r := (rI .i64)) hS (.inl rfl) rfl rfl rfl (.inl rfl) Fu22 rfl ?_; clear hS
 intro tm hS
 refine pp1 hS rfl rfl ?_; clear hS
 intro tm hS
 refine o_nil (hR _ _ ?_)
 clear hR R
 refine c_cond hS rfl (fun hc => ?_) (fun hc => ?_)
 ·replace h0 := iteT hc h0
  refine cr1 hS rfl rfl ?_; clear hS
  intro tm hS
  refine wpC.ret ?_
  obtain rfl := Option.some.inj h0
  refine Exists.intro _ (And.intro (rs_tmp hS rfl rs_nil) ?_)
  have hI := hS.inv
  exact ⟨rfl, (hI.sub sn)⟩
 ·replace h0 := iteF hc h0
  refine wpC.skip ?_
  refine c_reg fun R hR => ?_
  refine pp1 hS rfl rfl ?_; clear hS
  intro tm hS
  refine o_ld1 (k := 0) hS (.inl rfl) rfl rfl rfl (.inl rfl) Fu22 rfl rfl ?_; clear hS
  intro tm hS
  refine pp1 hS rfl rfl ?_; clear hS
  intro tm hS
  obtain ⟨y1, hx1, h0⟩ := bindS h0
  refine o_ixA (k := 1) (r := (rI .i64)) hS (.inl rfl) rfl rfl rfl rfl (.inl rfl) Fu22 Fs3 hx1 ?_; clear hS
  intro tm hS
  refine o_ldF (r := (rI .i64)) (k := 1) hS (.inl rfl) rfl rfl rfl (.inl rfl) hx1 Fu3 rfl (flat_I _) rfl ?_; clear hS
  intro tm hS
  refine pp1 hS rfl rfl ?_; clear hS
  intro tm hS
  refine o_nil (hR _ _ ?_)
  clear hR R
  refine wpC.ret ?_
  obtain rfl := Option.some.inj h0
  refine Exists.intro _ (And.intro (rs_tmp hS rfl rs_nil) ?_)
  have hI := hS.inv
  exact ⟨rfl, (hI.sub sn)⟩
theorem wk48 {wm : Nat} {H : AHeap} {Fr : List Ent}  (s1 : (List Int)) (k1 : Int)  (v1 : Value) (hI : Kn wm H [.fz (rI .i64) v1 s1] Fr) {r : (List Int)} (h0 : M.anamnesisref07_At s1 k1 = some r) :
  wpF Try.prog ora wm 48 [v1, .int .i64 k1] H (fun res H => ∃ v3, res = v3 ∧ Kn wm H [.own (rI .i64) v3 r] Fr) := by
 unfold M.anamnesisref07_At at h0
 refine f_enter (n := 33) Try.func48 rfl (by simp) hI rfl rfl rfl fun tm hS => ?_
 clear hI
 refine cr1 hS rfl rfl ?_; clear hS
 intro tm hS
 refine c_reg fun R hR => ?_
 refine pp1 hS rfl rfl ?_; clear hS
 intro tm hS
 refine o_len (k := 0) (r := (rI .i64)) hS (.inl rfl) rfl rfl rfl (.inl rfl) Fu22 rfl ?_; clear hS
 intro tm hS
 obtain ⟨l1, hx1, h0⟩ := bindS h0
 refine o_mk (r := (rI .i64)) hS (.inl rfl) rfl rfl rfl Fm22 rfl (fun _ => rfl) hx1 ?_; clear hS
 intro v2 tm H hS
 refine pp1 hS rfl rfl ?_; clear hS
 intro tm hS
 refine o_nil (hR _ _ ?_)
 clear hR R
 refine c_seqS ?_
 refine c_reg fun R hR => ?_
 refine pp1 hS rfl rfl ?_; clear hS
 intro tm hS
 refine o_len (k := 1) (r := (rI .i64)) hS (.inl rfl) rfl rfl rfl (.inl rfl) Fu22 rfl ?_; clear hS
 intro tm hS
 refine pp2 hS rfl rfl rfl rfl ?_; clear hS
 intro tm hS
 refine o_nil (hR _ _ ?_)
 clear hR R
 obtain ⟨k3, hw1, h0⟩ := bindS h0
 refine wpC.block ?_
 refine c_loop (I := fun (s : Int × Int × (List Int)) tm H => match (generalizing := false) s with | (k2, i1, l2) => S wm 33 tm H [(0, v1), (1, .int .i64 k2), (5, v2), (6, .int .i64 i1)] [.fz (rI .i64) v1 s1, .own (rI .i64) v2 l2] Fr) hw1 (by change S wm 33 _ _ _ _ Fr; exact hS.keep (k4 rfl rfl rfl rfl) (fun hI => (((hI.pull 0 rfl).pull 1 rfl).take 2))) ?_
 clear hS
 intro s2 tm H c1 hS h1 hq1
 obtain ⟨k2, i1, l2⟩ := s2
 change S wm 33 tm H [(0, v1), (1, .int .i64 k2), (5, v2), (6, .int .i64 i1)] [.fz (rI .i64) v1 s1, .own (rI .i64) v2 l2] Fr at hS
 refine c_seqS ?_
 refine cr2 hS rfl rfl rfl rfl ?_; clear hS
 intro tm hS
 refine c_cond hS rfl (fun hc => ?_) (fun hc => ?_)
 ·replace h1 := iteT hc h1
  refine wpC.skip ?_
  refine c_seqS ?_
  refine wpC.block ?_
  refine c_reg fun R hR => ?_
  refine pp5 hS rfl rfl rfl rfl rfl rfl rfl rfl rfl rfl ?_; clear hS
  intro tm hS
  obtain ⟨y1, hx2, h1⟩ := bindS h1
  refine o_ixA (k := 0) (r := (rI .i64)) hS (.inl rfl) rfl rfl rfl rfl (.inl rfl) Fu22 Fs3 hx2 ?_; clear hS
  intro tm hS
  refine o_ldF (r := (rI .i64)) (k := 0) hS (.inl rfl) rfl rfl rfl (.inl rfl) hx2 Fu3 rfl (flat_I _) rfl ?_; clear hS
  intro tm hS
  obtain ⟨q1, hx3, h1⟩ := bindS h1
  refine o_rem hS (.inl rfl) rfl rfl rfl hx3 ?_; clear hS
  intro tm hS
  obtain ⟨y2, hx4, h1⟩ := bindS h1
  refine o_ixA (k := 1) (r := (rI .i64)) hS (.inl rfl) rfl rfl rfl rfl (.inr (.inl rfl)) Fu22 Fs3 hx4 ?_; clear hS
  intro tm hS
  obtain ⟨l3, hx5, h1⟩ := bindS h1
  refine o_stE (k := 1) (r := (rI .i64)) hS (.inl rfl) rfl rfl rfl Fs3 rfl rfl (rd_flat fun _ => rfl) hx5 ?_; clear hS; try clear H
  intro H hS
  refine o_nil (hR _ _ ?_)
  clear hR R
  refine c_reg1 fun R hR => ?_
  refine pp3 hS rfl rfl rfl rfl rfl rfl ?_; clear hS
  intro tm hS
  obtain ⟨y3, hx6, h1⟩ := bindS h1
  refine o_ixA (k := 0) (r := (rI .i64)) hS (.inl rfl) rfl rfl rfl rfl (.inl rfl) Fu22 Fs3 hx6 ?_; clear hS
  intro tm hS
  refine o_ldF (r := (rI .i64)) (k := 0) hS (.inl rfl) rfl rfl rfl (.inl rfl) hx6 Fu3 rfl (flat_I _) rfl ?_; clear hS
  intro tm hS
  obtain ⟨q2, hx7, h1⟩ := bindS h1
  refine o_quo hS (.inl rfl) rfl rfl rfl hx7 ?_; clear hS
  intro tm hS
  refine pp1 hS rfl rfl ?_; clear hS
  intro tm hS
  refine o_nil (hR _ _ ?_)
  clear hR R
  refine cs3 hS rfl rfl rfl rfl rfl rfl ?_; clear hS
  intro tm hS
  obtain rfl := Option.some.inj h1
  refine ⟨_, rfl, ?_⟩
  change S wm 33 _ _ _ _ Fr; exact hS.keep (k4 rfl rfl rfl rfl) (fun hI => (hI.sub (sc (sc sn))))
 ·replace h1 := iteF hc h1
  refine wpC.exit ?_
  refine seqX ?_
  obtain rfl := Option.some.inj h1
  obtain rfl := hq1 _ rfl
  refine And.intro rfl (blk_eq ?_)
  replace h0 := joinN h0
  refine cr2 hS rfl rfl rfl rfl ?_; clear hS
  intro tm hS
  refine wpC.ret ?_
  obtain rfl := Option.some.inj h0
  refine Exists.intro _ (And.intro (rs_tmp hS rfl rs_nil) ?_)
  have hI := hS.inv
  exact ⟨v2, rfl, (hI.sub (sd (sc sn)))⟩
theorem wk76 {wm : Nat} {H : AHeap} {Fr : List Ent}  (s1 : (List Int)) (axis1 : Int) (n1 : Int)  (v1 : Value) (hI : Kn wm H [.fz (rI .i64) v1 s1] Fr) {r : (List Int)} (h0 : M.anamnesisref12_with s1 axis1 n1 = some r) :
  wpF Try.prog ora wm 76 [v1, .int .i64 axis1, .int .i64 n1] H (fun res H => ∃ v8, res = v8 ∧ Kn wm H [.own (rI .i64) v8 r] Fr) := by
 unfold M.anamnesisref12_with at h0
 refine f_enter (n := 34) Try.func76 rfl (by simp) hI rfl rfl rfl fun tm hS => ?_
 clear hI
 refine cr1 hS rfl rfl ?_; clear hS
 intro tm hS
 refine cr1 hS rfl rfl ?_; clear hS
 intro tm hS
 refine c_seqS ?_
 refine cr1 hS rfl rfl ?_; clear hS
 intro tm hS
 obtain ⟨k1, hw1, h0⟩ := bindS h0
 refine wpC.block ?_
 replace hS := hS.nilOwn (rI .i64)
 refine c_loop (I := fun (s : (List Int) × Int) tm H => match (generalizing := false) s with | (out1, i1) => ∃ v2, S wm 34 tm H [(0, v1), (1, .int .i64 axis1), (2, .int .i64 n1), (7, v2), (8, .int .i64 i1)] [.own (rI .i64) v2 out1, .fz (rI .i64) v1 s1] Fr) hw1 (by refine Exists.intro (.slice none 0 0) ?_; change S wm 34 _ _ _ _ Fr; exact hS.keep (k5 rfl rfl rfl rfl rfl) (fun hI => (hI.sub (sc (sc sn))))) ?_
 clear hS
 intro s2 tm H c1 hS h2 hq2
 obtain ⟨out1, i1⟩ := s2
 obtain ⟨v2, hS⟩ := hS
 change S wm 34 tm H [(0, v1), (1, .int .i64 axis1), (2, .int .i64 n1), (7, v2), (8, .int .i64 i1)] [.own (rI .i64) v2 out1, .fz (rI .i64) v1 s1] Fr at hS
 refine c_seqS ?_
 refine c_reg fun R hR => ?_
 refine pp2 hS rfl rfl rfl rfl ?_; clear hS
 intro tm hS
 refine o_len (k := 1) (r := (rI .i64)) hS (.inl rfl) rfl rfl rfl (.inl rfl) Fu22 rfl ?_; clear hS
 intro tm hS
 refine pp1 hS rfl rfl ?_; clear hS
 intro tm hS
 refine o_nil (hR _ _ ?_)
 clear hR R
 refine c_cond hS rfl (fun hc => ?_) (fun hc => ?_)
 ·replace h2 := iteT hc h2
  refine wpC.skip ?_
  refine c_seqS ?_
  refine wpC.block ?_
  obtain ⟨out2, h4, h2⟩ := bindS h2
  refine c_seqJ (J := fun tm H => (match (generalizing := false) out2 with | out2 => ∃ v3, S wm 34 tm H [(0, v1), (1, .int .i64 axis1), (2, .int .i64 n1), (7, v3), (8, .int .i64 i1)] [.own (rI .i64) v3 out2, .fz (rI .i64) v1 s1] Fr)) ?_ ?_
  ·refine cr3 hS rfl rfl rfl rfl rfl rfl ?_; clear hS
   intro tm hS
   refine c_cond hS rfl (fun hc => ?_) (fun hc => ?_)
   ·replace h4 := iteT hc h4
    refine c_reg1 fun R hR => ?_
    refine pp2 hS rfl rfl rfl rfl ?_; clear hS
    intro tm hS
    refine o_lit (r := (rI .i64)) (l := [n1]) hS (.inl rfl) rfl Fl22 rfl rfl rfl (.cons rfl .nil) rfl rfl (ri_1 (rd_flat fun _ => rfl) ri_nil) rfl ?_; clear hS
    intro v4 tm H hS
    obtain ⟨l1, hx1, h4⟩ := bindS h4
    refine o_app (k1 := 1) (k2 := 0) (r := (rI .i64)) hS (.inl rfl) rfl rfl rfl rfl rfl (.inr (.inr rfl)) rfl Fe22_22 rfl hx1 ?_; clear hS
    intro v5 tm H hS
    refine pp1 hS rfl rfl ?_; clear hS
    intro tm hS
    refine o_nil (hR _ _ ?_)
    clear hR R
    obtain rfl := Option.some.inj h4
    refine Exists.intro v5 ?_; change S wm 34 _ _ _ _ Fr; exact hS.keep (k5 rfl rfl rfl rfl rfl) (fun hI => (hI.sub (sd (sc (sc sn)))))
   ·replace h4 := iteF hc h4
    refine wpC.skip ?_
    obtain rfl := Option.some.inj h4
    refine Exists.intro v2 ?_; change S wm 34 _ _ _ _ Fr; exact hS.keep (k5 rfl rfl rfl rfl rfl) (fun hI => (hI.sub (sc (sc sn))))
  intro tm H hS
  obtain ⟨v3, hS⟩ := hS
  change S wm 34 tm H [(0, v1), (1, .int .i64 axis1), (2, .int .i64 n1), (7, v3), (8, .int .i64 i1)] [.own (rI .i64) v3 out2, .fz (rI .i64) v1 s1] Fr at hS
  refine c_reg fun R hR => ?_
  refine pp2 hS rfl rfl rfl rfl ?_; clear hS
  intro tm hS
  refine o_len (k := 1) (r := (rI .i64)) hS (.inl rfl) rfl rfl rfl (.inl rfl) Fu22 rfl ?_; clear hS
  intro tm hS
  refine pp1 hS rfl rfl ?_; clear hS
  intro tm hS
  refine o_nil (hR _ _ ?_)
  clear hR R
  refine c_cond hS rfl (fun hc => ?_) (fun hc => ?_)
  ·replace h2 := iteT hc h2
   refine c_reg1 fun R hR => ?_
   refine pp3 hS rfl rfl rfl rfl rfl rfl ?_; clear hS
   intro tm hS
   obtain ⟨y1, hx2, h2⟩ := bindS h2
   refine o_ixA (k := 1) (r := (rI .i64)) hS (.inl rfl) rfl rfl rfl rfl (.inl rfl) Fu22 Fs3 hx2 ?_; clear hS
   intro tm hS
   refine o_ldF (r := (rI .i64)) (k := 1) hS (.inl rfl) rfl rfl rfl (.inl rfl) hx2 Fu3 rfl (flat_I _) rfl ?_; clear hS
   intro tm hS
   refine o_lit (r := (rI .i64)) (l := [y1]) hS (.inl rfl) rfl Fl22 rfl rfl rfl (.cons rfl .nil) rfl rfl (ri_1 (rd_flat fun _ => rfl) ri_nil) rfl ?_; clear hS
   intro v6 tm H hS
   obtain ⟨l2, hx3, h2⟩ := bindS h2
   refine o_app (k1 := 1) (k2 := 0) (r := (rI .i64)) hS (.inl rfl) rfl rfl rfl rfl rfl (.inr (.inr rfl)) rfl Fe22_22 rfl hx3 ?_; clear hS
   intro v7 tm H hS
   refine pp1 hS rfl rfl ?_; clear hS
   intro tm hS
   refine o_nil (hR _ _ ?_)
   clear hR R
   refine cs3 hS rfl rfl rfl rfl rfl rfl ?_; clear hS
   intro tm hS
   obtain rfl := Option.some.inj h2
   refine ⟨_, rfl, ?_⟩
   refine Exists.intro v7 ?_; change S wm 34 _ _ _ _ Fr; exact hS.keep (k5 rfl rfl rfl rfl rfl) (fun hI => (hI.sub (sd (sc (sc sn)))))
  ·replace h2 := iteF hc h2
   refine wpC.skip ?_
   refine cs3 hS rfl rfl rfl rfl rfl rfl ?_; clear hS
   intro tm hS
   obtain rfl := Option.some.inj h2
   refine ⟨_, rfl, ?_⟩
   refine Exists.intro v3 ?_; change S wm 34 _ _ _ _ Fr; exact hS.keep (k5 rfl rfl rfl rfl rfl) (fun hI => (hI.sub (sc (sc sn))))
 ·replace h2 := iteF hc h2
  refine wpC.exit ?_
  refine seqX ?_
  obtain rfl := Option.some.inj h2
  obtain rfl := hq2 _ rfl
  refine And.intro rfl (blk_eq ?_)
  replace h0 := joinN h0
  refine cr2 hS rfl rfl rfl rfl ?_; clear hS
  intro tm hS
  refine wpC.ret ?_
  obtain rfl := Option.some.inj h0
  refine Exists.intro _ (And.intro (rs_tmp hS rfl rs_nil) ?_)
  have hI := hS.inv
  exact ⟨v2, rfl, (hI.sub (sc sn))⟩
theorem wk75 {wm : Nat} {H : AHeap} {Fr : List Ent}  (s1 : (List Int)) (at1 : (List Int))  (v1 : Value) (v2 : Value) (hI : Kn wm H [.fz (rI .i64) v1 s1, .fz (rI .i64) v2 at1] Fr) {r : Int} (h0 : M.anamnesisref07_Offset s1 at1 = some r) :
  wpF Try.prog ora wm 75 [v1, v2] H (fun res H => res = .int .i64 r ∧ Kn wm H [] Fr) := by
 unfold M.anamnesisref07_Offset at h0
 refine f_enter (n := 25) Try.func75 rfl (by simp) hI rfl rfl rfl fun tm hS => ?_
 clear hI
 refine cr1 hS rfl rfl ?_; clear hS
 intro tm hS
 refine cr1 hS rfl rfl ?_; clear hS
 intro tm hS
 refine c_seqS ?_
 refine cr1 hS rfl rfl ?_; clear hS
 intro tm hS
 obtain ⟨k2, hw1, h0⟩ := bindS h0
 refine wpC.block ?_
 refine c_loop (I := fun (s : Int × Int) tm H => match (generalizing := false) s with | (k1, i1) => S wm 25 tm H [(0, v1), (1, v2), (5, .int .i64 k1), (6, .int .i64 i1)] [.fz (rI .i64) v1 s1, .fz (rI .i64) v2 at1] Fr) hw1 (by change S wm 25 _ _ _ _ Fr; exact hS.keep (k4 rfl rfl rfl rfl) (fun hI => (hI.sub (sc (sc sn))))) ?_
 clear hS
 intro s2 tm H c1 hS h1 hq1
 obtain ⟨k1, i1⟩ := s2
 change S wm 25 tm H [(0, v1), (1, v2), (5, .int .i64 k1), (6, .int .i64 i1)] [.fz (rI .i64) v1 s1, .fz (rI .i64) v2 at1] Fr at hS
 refine c_seqS ?_
 refine c_reg fun R hR => ?_
 refine pp2 hS rfl rfl rfl rfl ?_; clear hS
 intro tm hS
 refine o_len (k := 0) (r := (rI .i64)) hS (.inl rfl) rfl rfl rfl (.inl rfl) Fu22 rfl ?_; clear hS
 intro tm hS
 refine pp1 hS rfl rfl ?_; clear hS
 intro tm hS
 refine o_nil (hR _ _ ?_)
 clear hR R
 refine c_cond hS rfl (fun hc => ?_) (fun hc => ?_)
 ·replace h1 := iteT hc h1
  refine wpC.skip ?_
  refine c_seqS ?_
  refine wpC.block ?_
  refine c_reg1 fun R hR => ?_
  refine pp3 hS rfl rfl rfl rfl rfl rfl ?_; clear hS
  intro tm hS
  obtain ⟨y1, hx1, h1⟩ := bindS h1
  refine o_ixA (k := 0) (r := (rI .i64)) hS (.inl rfl) rfl rfl rfl rfl (.inl rfl) Fu22 Fs3 hx1 ?_; clear hS
  intro tm hS
  refine o_ldF (r := (rI .i64)) (k := 0) hS (.inl rfl) rfl rfl rfl (.inl rfl) hx1 Fu3 rfl (flat_I _) rfl ?_; clear hS
  intro tm hS
  refine pp3 hS rfl rfl rfl rfl rfl rfl ?_; clear hS
  intro tm hS
  obtain ⟨y2, hx2, h1⟩ := bindS h1
  refine o_ixA (k := 1) (r := (rI .i64)) hS (.inl rfl) rfl rfl rfl rfl (.inl rfl) Fu22 Fs3 hx2 ?_; clear hS
  intro tm hS
  refine o_ldF (r := (rI .i64)) (k := 1) hS (.inl rfl) rfl rfl rfl (.inl rfl) hx2 Fu3 rfl (flat_I _) rfl ?_; clear hS
  intro tm hS
  refine pp2 hS rfl rfl rfl rfl ?_; clear hS
  intro tm hS
  refine o_nil (hR _ _ ?_)
  clear hR R
  refine cs3 hS rfl rfl rfl rfl rfl rfl ?_; clear hS
  intro tm hS
  obtain rfl := Option.some.inj h1
  refine ⟨_, rfl, ?_⟩
  change S wm 25 _ _ _ _ Fr; exact hS.keep (k4 rfl rfl rfl rfl) (fun hI => (hI.sub (sc (sc sn))))
 ·replace h1 := iteF hc h1
  refine wpC.exit ?_
  refine seqX ?_
  obtain rfl := Option.some.inj h1
  obtain rfl := hq1 _ rfl
  refine And.intro rfl (blk_eq ?_)
  replace h0 := joinN h0
  refine cr2 hS rfl rfl rfl rfl ?_; clear hS
  intro tm hS
  refine wpC.ret ?_
  obtain rfl := Option.some.inj h0
  refine Exists.intro _ (And.intro (rs_tmp hS rfl rs_nil) ?_)
  have hI := hS.inv
  exact ⟨rfl, (hI.sub sn)⟩
theorem wk49 {wm : Nat} {H : AHeap} {Fr : List Ent}  (v1 : Val) (axis1 : Int) (i1 : Int) (at1 : (List Int))  (v2 : Value) (v3 : Value) (v4 : Value) (hI : Kn wm H [.fz (rI .i64) v2 v1.Shape, .fz (rI .i64) v3 v1.Data, .fz (rI .i64) v4 at1] Fr) {r : Am.Item} (h0 : M.anamnesisref12_element v1 axis1 i1 at1 = some r) :
  wpF Try.prog ora wm 49 [.agg #[.bool v1.Char, v2, v3], .int .i64 axis1, .int .i64 i1, v4] H (fun res H => res = .agg #[.int .i64 r.n, .bool r.char] ∧ Kn wm H [] Fr) := by
 unfold M.anamnesisref12_element at h0
 refine f_enter (n := 40) Try.func49 rfl (by simp) hI rfl rfl rfl fun tm hS => ?_
 clear hI
 refine c_reg fun R hR => ?_
 refine o_box hS (.inl rfl) rfl rfl rfl (all_cons rfl (all_cons (hS.one (k := 0) rfl (.inl rfl)) (all_cons (hS.one (k := 1) rfl (.inl rfl)) all_nil))) ?_; clear hS
 intro b1 tm H hS
 refine o_alloc hS (.inl rfl) rfl Fz83 (by decide) ?_; clear hS
 intro b2 tm H hS
 refine o_nil (hR _ _ ?_)
 clear hR R
 refine c_seqS ?_
 refine c_reg fun R hR => ?_
 refine pp1 hS rfl rfl ?_; clear hS
 intro tm hS
 refine o_ld1 (k := 1) hS (.inl rfl) rfl rfl rfl (.inl rfl) Fu22 rfl rfl ?_; clear hS
 intro tm hS
 refine o_len (k := 2) (r := (rI .i64)) hS (.inl rfl) rfl rfl rfl (.inl rfl) Fu22 rfl ?_; clear hS
 intro tm hS
 refine pp1 hS rfl rfl ?_; clear hS
 intro tm hS
 refine o_nil (hR _ _ ?_)
 clear hR R
 refine c_cond hS rfl (fun hc => ?_) (fun hc => ?_)
 ·replace h0 := iteT hc h0
  refine c_reg fun R hR => ?_
  refine pp1 hS rfl rfl ?_; clear hS
  intro tm hS
  refine o_ld1 (k := 1) hS (.inl rfl) rfl rfl rfl (.inl rfl) Fu23 rfl rfl ?_; clear hS
  intro tm hS
  obtain ⟨y1, hx1, h0⟩ := bindS h0
  refine o_ixA (k := 3) (r := (rI .i64)) hS (.inl rfl) rfl rfl rfl rfl (.inl rfl) Fu23 Fs2 hx1 ?_; clear hS
  intro tm hS
  refine o_ldF (r := (rI .i64)) (k := 3) hS (.inl rfl) rfl rfl rfl (.inl rfl) hx1 Fu2 rfl (flat_I _) rfl ?_; clear hS
  intro tm hS
  refine pp1 hS rfl rfl ?_; clear hS
  intro tm hS
  refine o_ld1 (k := 1) hS (.inl rfl) rfl rfl rfl (.inl rfl) Fu4 rfl rfl ?_; clear hS
  intro tm hS
  refine o_build hS (.inl rfl) rfl Fb83 rfl (.cons rfl (.cons rfl .nil)) rfl ?_; clear hS
  intro tm hS
  refine o_st (k := 0) hS (.inl rfl) rfl rfl rfl Fs83 rfl rfl (all_cons rfl (all_cons rfl all_nil)) rfl ?_; clear hS; try clear H
  intro H hS
  refine o_nil (hR _ _ ?_)
  clear hR R
  refine wpC.ret ?_
  obtain rfl := Option.some.inj h0
  refine Exists.intro _ (And.intro (rs_cellA (k := 0) hS rfl rfl (.inl rfl) Fu83 rfl Fs83 rfl rs_nil) ?_)
  have hI := hS.inv
  exact ⟨rfl, (hI.sub sn)⟩
 ·replace h0 := iteF hc h0
  refine wpC.skip ?_
  obtain ⟨i2, h1, h0⟩ := bindS h0
  refine c_seqJ (J := fun tm H => (match (generalizing := false) i2 with | i2 => S wm 40 tm H [(1, .int .i64 axis1), (2, .int .i64 i2), (3, v4), (4, .pointer (some ⟨b1, 0, none⟩)), (8, .pointer (some ⟨b2, 0, none⟩))] [.box b1 [.bool v1.Char, v2, v3], .box b2 [.int .i64 0, .bool false], .fz (rI .i64) v4 at1, .fz (rI .i64) v2 v1.Shape, .fz (rI .i64) v3 v1.Data] Fr)) ?_ ?_
  ·refine c_reg fun R hR => ?_
   refine pp1 hS rfl rfl ?_; clear hS
   intro tm hS
   refine o_ld1 (k := 1) hS (.inl rfl) rfl rfl rfl (.inl rfl) Fu22 rfl rfl ?_; clear hS
   intro tm hS
   refine pp1 hS rfl rfl ?_; clear hS
   intro tm hS
   obtain ⟨y2, hx2, h1⟩ := bindS h1
   refine o_ixA (k := 2) (r := (rI .i64)) hS (.inl rfl) rfl rfl rfl rfl (.inl rfl) Fu22 Fs3 hx2 ?_; clear hS
   intro tm hS
   refine o_ldF (r := (rI .i64)) (k := 2) hS (.inl rfl) rfl rfl rfl (.inl rfl) hx2 Fu3 rfl (flat_I _) rfl ?_; clear hS
   intro tm hS
   refine pp1 hS rfl rfl ?_; clear hS
   intro tm hS
   refine o_nil (hR _ _ ?_)
   clear hR R
   refine c_cond hS rfl (fun hc => ?_) (fun hc => ?_)
   ·replace h1 := iteT hc h1
    refine cs1 hS rfl rfl ?_; clear hS
    intro tm hS
    obtain rfl := Option.some.inj h1
    change S wm 40 _ _ _ _ Fr; exact hS.keep (k5 rfl rfl rfl rfl rfl) (fun hI => ((((((hI.pull 3 rfl).pull 3 rfl).pull 4 rfl).pull 3 rfl).pull 4 rfl).take 5))
   ·replace h1 := iteF hc h1
    refine wpC.skip ?_
    obtain rfl := Option.some.inj h1
    change S wm 40 _ _ _ _ Fr; exact hS.keep (k5 rfl rfl rfl rfl rfl) (fun hI => ((((((hI.pull 3 rfl).pull 3 rfl).pull 4 rfl).pull 3 rfl).pull 4 rfl).take 5))
  intro tm H hS
  change S wm 40 tm H [(1, .int .i64 axis1), (2, .int .i64 i2), (3, v4), (4, .pointer (some ⟨b1, 0, none⟩)), (8, .pointer (some ⟨b2, 0, none⟩))] [.box b1 [.bool v1.Char, v2, v3], .box b2 [.int .i64 0, .bool false], .fz (rI .i64) v4 at1, .fz (rI .i64) v2 v1.Shape, .fz (rI .i64) v3 v1.Data] Fr at hS
  refine c_reg fun R hR => ?_
  refine pp1 hS rfl rfl ?_; clear hS
  intro tm hS
  refine o_ld1 (k := 0) hS (.inl rfl) rfl rfl rfl (.inl rfl) Fu23 rfl rfl ?_; clear hS
  intro tm hS
  refine pp1 hS rfl rfl ?_; clear hS
  intro tm hS
  refine o_ld1 (k := 0) hS (.inl rfl) rfl rfl rfl (.inl rfl) Fu22 rfl rfl ?_; clear hS
  intro tm hS
  refine pp3 hS rfl rfl rfl rfl rfl rfl ?_; clear hS
  intro tm hS
  obtain ⟨r1, hx3, h0⟩ := bindS h0
  refine o_call hS (.inl rfl) rfl (fun wm' hw1 hw2 => wk76  at1 axis1 i2  v4 ((hS.sel hw2).ad 2 rfl) hx3) (fun wm' res H hw' hp => ?_)
  obtain ⟨v5, hres, hI⟩ := hp
  replace hres := hres.symm; subst hres
  replace hS : S wm 40 _ H ((33, v5) :: _) ([.own (rI .i64) v5 r1] ++ _) Fr := hS.after rfl hw' hI
  clear hI hw'
  obtain ⟨r2, hx4, h0⟩ := bindS h0
  refine o_call (Pc := fun _ res H => res = .int .i64 r2 ∧ Kn wm H ([.own (rI .i64) v5 r1, .box b1 [.bool v1.Char, v2, v3], .box b2 [.int .i64 0, .bool false], .fz (rI .i64) v4 at1, .fz (rI .i64) v2 v1.Shape, .fz (rI .i64) v3 v1.Data]) Fr) hS (.inl rfl) rfl (fun wm' hw1 hw2 => by
   obtain ⟨F2, kk_1, kk_2⟩ := hS.inv.lend (La := [.fz (rI .i64) v2 v1.Shape, .fz (rI .i64) v5 r1]) (List.forall_mem_cons.mpr ⟨(.inl ⟨rfl, List.mem_of_getElem? (i := 4) rfl⟩), (List.forall_mem_cons.mpr ⟨(.inr ⟨_, _, _, _, rfl, .inl (List.mem_of_getElem? (i := 0) rfl)⟩), (fun _ h => by cases h)⟩)⟩) hw1 hw2
   exact (wk75  v1.Shape r1  v2 v5 kk_1 hx4).mono fun res H2 ⟨qq_1, qq_2⟩ => ⟨qq_1, kk_2 _ qq_2⟩) (fun wm' res H hw' hp => ?_)
  obtain ⟨hres, hI⟩ := hp
  replace hres := hres.symm; subst hres
  replace hS : S wm 40 _ H ((34, .int .i64 r2) :: _) ([.own (rI .i64) v5 r1, .box b1 [.bool v1.Char, v2, v3], .box b2 [.int .i64 0, .bool false], .fz (rI .i64) v4 at1, .fz (rI .i64) v2 v1.Shape, .fz (rI .i64) v3 v1.Data]) Fr := (hS.put rfl _).withK hI
  clear hI hw'
  obtain ⟨y3, hx5, h0⟩ := bindS h0
  refine o_ixA (k := 5) (r := (rI .i64)) hS (.inl rfl) rfl rfl rfl rfl (.inl rfl) Fu23 Fs2 hx5 ?_; clear hS
  intro tm hS
  refine o_ldF (r := (rI .i64)) (k := 5) hS (.inl rfl) rfl rfl rfl (.inl rfl) hx5 Fu2 rfl (flat_I _) rfl ?_; clear hS
  intro tm hS
  refine pp1 hS rfl rfl ?_; clear hS
  intro tm hS
  refine o_ld1 (k := 1) hS (.inl rfl) rfl rfl rfl (.inl rfl) Fu4 rfl rfl ?_; clear hS
  intro tm hS
  refine o_build hS (.inl rfl) rfl Fb83 rfl (.cons rfl (.cons rfl .nil)) rfl ?_; clear hS
  intro tm hS
  refine o_st (k := 2) hS (.inl rfl) rfl rfl rfl Fs83 rfl rfl (all_cons rfl (all_cons rfl all_nil)) rfl ?_; clear hS; try clear H
  intro H hS
  refine o_nil (hR _ _ ?_)
  clear hR R
  refine wpC.ret ?_
  obtain rfl := Option.some.inj h0
  refine Exists.intro _ (And.intro (rs_cellA (k := 2) hS rfl rfl (.inl rfl) Fu83 rfl Fs83 rfl rs_nil) ?_)
  have hI := hS.inv
  exact ⟨rfl, (hI.sub sn)⟩
theorem wk77 {wm : Nat} {H : AHeap} {Fr : List Ent}  (fn1 : ByteArray)   (hI : Kn wm H [] Fr) {r : Int × Int} (h0 : M.anamnesisref12_identity fn1 = some r) :
  wpF Try.prog ora wm 77 [.string fn1] H (fun res H => res = .tuple #[.int .i64 r.1, .int .i64 r.2] ∧ Kn wm H [] Fr) := by
 unfold M.anamnesisref12_identity at h0
 refine f_enter (n := 21) Try.func77 rfl (by simp) hI rfl rfl rfl fun tm hS => ?_
 clear hI
 refine cr2 hS rfl rfl rfl rfl ?_; clear hS
 intro tm hS
 refine c_seqS ?_
 refine cr1 hS rfl rfl ?_; clear hS
 intro tm hS
 refine wpC.block ?_
 obtain ⟨t1, h1, h0⟩ := bindS h0
 refine c_seqJ (J := fun tm H => (match (generalizing := false) t1 with | t1 => S wm 21 tm H [(4, .string fn1), (5, .bool t1)] [] Fr)) ?_ ?_
 ·refine cr2 hS rfl rfl rfl rfl ?_; clear hS
  intro tm hS
  refine c_cond hS rfl (fun hc => ?_) (fun hc => ?_)
  ·replace h1 := iteT hc h1
   refine wpC.skip ?_
   obtain rfl := Option.some.inj h1
   change S wm 21 _ _ _ _ Fr; exact hS.keep (k2 rfl rfl) (fun hI => (hI.sub sn))
  ·replace h1 := iteF hc h1
   refine cs2 hS rfl rfl rfl rfl ?_; clear hS
   intro tm hS
   obtain rfl := Option.some.inj h1
   change S wm 21 _ _ _ _ Fr; exact hS.keep (k2 rfl rfl) (fun hI => (hI.sub sn))
 intro tm H hS
 change S wm 21 tm H [(4, .string fn1), (5, .bool t1)] [] Fr at hS
 refine c_cond hS rfl (fun hc => ?_) (fun hc => ?_)
 ·replace h0 := iteT hc h0
  refine cr2 hS rfl rfl rfl rfl ?_; clear hS
  intro tm hS
  refine wpC.ret ?_
  obtain rfl := Option.some.inj h0
  refine Exists.intro _ (And.intro (rs_tmp hS rfl (rs_tmp hS rfl rs_nil)) ?_)
  have hI := hS.inv
  exact ⟨rfl, (hI.sub sn)⟩
 ·replace h0 := iteF hc h0
  refine cr2 hS rfl rfl rfl rfl ?_; clear hS
  intro tm hS
  refine c_cond hS rfl (fun hc => ?_) (fun hc => ?_)
  ·replace h0 := iteT hc h0
   refine cr2 hS rfl rfl rfl rfl ?_; clear hS
   intro tm hS
   refine wpC.ret ?_
   obtain rfl := Option.some.inj h0
   refine Exists.intro _ (And.intro (rs_tmp hS rfl (rs_tmp hS rfl rs_nil)) ?_)
   have hI := hS.inv
   exact ⟨rfl, (hI.sub sn)⟩
  ·replace h0 := iteF hc h0
   refine cr2 hS rfl rfl rfl rfl ?_; clear hS
   intro tm hS
   refine c_cond hS rfl (fun hc => ?_) (fun hc => ?_)
   ·replace h0 := iteT hc h0
    refine cr2 hS rfl rfl rfl rfl ?_; clear hS
    intro tm hS
    refine wpC.ret ?_
    obtain rfl := Option.some.inj h0
    refine Exists.intro _ (And.intro (rs_tmp hS rfl (rs_tmp hS rfl rs_nil)) ?_)
    have hI := hS.inv
    exact ⟨rfl, (hI.sub sn)⟩
   ·replace h0 := iteF hc h0
    obtain ⟨t2, h2, h0⟩ := bindS h0
    refine c_seqJ (J := fun tm H => (match (generalizing := false) t2 with | t2 => S wm 21 tm H [(12, .bool t2)] [] Fr)) ?_ ?_
    ·refine cr2 hS rfl rfl rfl rfl ?_; clear hS
     intro tm hS
     refine c_cond hS rfl (fun hc => ?_) (fun hc => ?_)
     ·replace h2 := iteT hc h2
      refine wpC.skip ?_
      obtain rfl := Option.some.inj h2
      change S wm 21 _ _ _ _ Fr; exact hS.keep (ka_cons rfl ka_nil) (fun hI => (hI.sub sn))
     ·replace h2 := iteF hc h2
      refine cr2 hS rfl rfl rfl rfl ?_; clear hS
      intro tm hS
      refine c_cond hS rfl (fun hc => ?_) (fun hc => ?_)
      ·replace h2 := iteT hc h2
       refine wpC.skip ?_
       obtain rfl := Option.some.inj h2
       change S wm 21 _ _ _ _ Fr; exact hS.keep (ka_cons rfl ka_nil) (fun hI => (hI.sub sn))
      ·replace h2 := iteF hc h2
       refine cr2 hS rfl rfl rfl rfl ?_; clear hS
       intro tm hS
       refine c_cond hS rfl (fun hc => ?_) (fun hc => ?_)
       ·replace h2 := iteT hc h2
        refine wpC.skip ?_
        obtain rfl := Option.some.inj h2
        change S wm 21 _ _ _ _ Fr; exact hS.keep (ka_cons rfl ka_nil) (fun hI => (hI.sub sn))
       ·replace h2 := iteF hc h2
        refine cr2 hS rfl rfl rfl rfl ?_; clear hS
        intro tm hS
        refine c_cond hS rfl (fun hc => ?_) (fun hc => ?_)
        ·replace h2 := iteT hc h2
         refine wpC.skip ?_
         obtain rfl := Option.some.inj h2
         change S wm 21 _ _ _ _ Fr; exact hS.keep (ka_cons rfl ka_nil) (fun hI => (hI.sub sn))
        ·replace h2 := iteF hc h2
         refine cr2 hS rfl rfl rfl rfl ?_; clear hS
         intro tm hS
         refine c_cond hS rfl (fun hc => ?_) (fun hc => ?_)
         ·replace h2 := iteT hc h2
          refine wpC.skip ?_
          obtain rfl := Option.some.inj h2
          change S wm 21 _ _ _ _ Fr; exact hS.keep (ka_cons rfl ka_nil) (fun hI => (hI.sub sn))
         ·replace h2 := iteF hc h2
          refine cr2 hS rfl rfl rfl rfl ?_; clear hS
          intro tm hS
          refine c_cond hS rfl (fun hc => ?_) (fun hc => ?_)
          ·replace h2 := iteT hc h2
           refine wpC.skip ?_
           obtain rfl := Option.some.inj h2
           change S wm 21 _ _ _ _ Fr; exact hS.keep (ka_cons rfl ka_nil) (fun hI => (hI.sub sn))
          ·replace h2 := iteF hc h2
           refine cr2 hS rfl rfl rfl rfl ?_; clear hS
           intro tm hS
           refine c_cond hS rfl (fun hc => ?_) (fun hc => ?_)
           ·replace h2 := iteT hc h2
            refine wpC.skip ?_
            obtain rfl := Option.some.inj h2
            change S wm 21 _ _ _ _ Fr; exact hS.keep (ka_cons rfl ka_nil) (fun hI => (hI.sub sn))
           ·replace h2 := iteF hc h2
            refine cs2 hS rfl rfl rfl rfl ?_; clear hS
            intro tm hS
            obtain rfl := Option.some.inj h2
            change S wm 21 _ _ _ _ Fr; exact hS.keep (ka_cons rfl ka_nil) (fun hI => (hI.sub sn))
    intro tm H hS
    change S wm 21 tm H [(12, .bool t2)] [] Fr at hS
    refine c_cond hS rfl (fun hc => ?_) (fun hc => ?_)
    ·replace h0 := iteT hc h0
     refine cr2 hS rfl rfl rfl rfl ?_; clear hS
     intro tm hS
     refine wpC.ret ?_
     obtain rfl := Option.some.inj h0
     refine Exists.intro _ (And.intro (rs_tmp hS rfl (rs_tmp hS rfl rs_nil)) ?_)
     have hI := hS.inv
     exact ⟨rfl, (hI.sub sn)⟩
    ·replace h0 := iteF hc h0
     refine wpC.skip ?_
     refine cr2 hS rfl rfl rfl rfl ?_; clear hS
     intro tm hS
     refine wpC.ret ?_
     obtain rfl := Option.some.inj h0
     refine Exists.intro _ (And.intro (rs_tmp hS rfl (rs_tmp hS rfl rs_nil)) ?_)
     have hI := hS.inv
     exact ⟨rfl, (hI.sub sn)⟩
theorem wk50F (kf : Nat) : ∀ {wm : Nat} {H : AHeap} {Fr : List Ent}  (fn1 : ByteArray) (l1 : (List Am.Item))  (v1 : Value) (hI : Kn wm H [.fz rItem v1 l1] Fr) {r : Am.Item × Int} (h0 : M.anamnesisref12_Row_F kf fn1 l1 = some r),
  wpF Try.prog ora wm 50 [.string fn1, v1] H (fun res H => res = .tuple #[.agg #[.int .i64 r.1.n, .bool r.1.char], .int .i64 r.2] ∧ Kn wm H [] Fr) := by
 induction kf with
 | zero => intro wm H Fr fn1 l1 v1 hI r h0; cases h0
 | succ kf ih =>
 intro wm H Fr fn1 l1 v1 hI r h0
 unfold M.anamnesisref12_Row_F at h0
 refine f_enter (n := 46) Try.func50 rfl (by simp) hI rfl rfl rfl fun tm hS => ?_
 clear hI
 refine c_reg fun R hR => ?_
 refine o_alloc hS (.inl rfl) rfl Fz83 (by decide) ?_; clear hS
 intro b1 tm H hS
 refine pp1 hS rfl rfl ?_; clear hS
 intro tm hS
 refine o_nil (hR _ _ ?_)
 clear hR R
 refine c_seqS ?_
 refine c_reg fun R hR => ?_
 refine pp1 hS rfl rfl ?_; clear hS
 intro tm hS
 refine o_len (k := 1) (r := rItem) hS (.inl rfl) rfl rfl rfl (.inl rfl) Fu90 rfl ?_; clear hS
 intro tm hS
 refine pp1 hS rfl rfl ?_; clear hS
 intro tm hS
 refine o_nil (hR _ _ ?_)
 clear hR R
 refine c_cond hS rfl (fun hc => ?_) (fun hc => ?_)
 ·replace h0 := iteT hc h0
  refine c_reg fun R hR => ?_
  refine pp1 hS rfl rfl ?_; clear hS
  intro tm hS
  obtain ⟨⟨r1, r2⟩, hx1, h0⟩ := bindS h0
  refine o_call hS (.inl rfl) rfl (fun wm' hw1 hw2 => wk77  fn1   (hS.sel hw2) hx1) (fun wm' res H hw' hp => ?_)
  obtain ⟨hres, hI⟩ := hp
  replace hres := hres.symm; subst hres
  replace hS : S wm 46 _ H ((15, .tuple #[.int .i64 r1, .int .i64 r2]) :: _) ([] ++ _) Fr := hS.after rfl hw' hI
  clear hI hw'
  refine pp5 hS rfl rfl rfl rfl rfl rfl rfl rfl rfl rfl ?_; clear hS
  intro tm hS
  refine o_nil (hR _ _ ?_)
  clear hR R
  refine c_reg fun R hR => ?_
  refine pp1 hS rfl rfl ?_; clear hS
  intro tm hS
  refine o_build hS (.inl rfl) rfl Fb83 rfl (.cons rfl .nil) rfl ?_; clear hS
  intro tm hS
  refine pp1 hS rfl rfl ?_; clear hS
  intro tm hS
  refine o_st (k := 0) hS (.inl rfl) rfl rfl rfl Fs83 rfl rfl (all_cons rfl (all_cons rfl all_nil)) rfl ?_; clear hS; try clear H
  intro H hS
  refine pp1 hS rfl rfl ?_; clear hS
  intro tm hS
  refine o_nil (hR _ _ ?_)
  clear hR R
  refine wpC.ret ?_
  obtain rfl := Option.some.inj h0
  refine Exists.intro _ (And.intro (rs_cellA (k := 0) hS rfl rfl (.inl rfl) Fu83 rfl Fs83 rfl (rs_tmp hS rfl rs_nil)) ?_)
  have hI := hS.inv
  exact ⟨rfl, (hI.sub sn)⟩
 ·replace h0 := iteF hc h0
  refine wpC.skip ?_
  refine c_seqS ?_
  refine c_reg fun R hR => ?_
  refine pp1 hS rfl rfl ?_; clear hS
  intro tm hS
  refine o_len (k := 1) (r := rItem) hS (.inl rfl) rfl rfl rfl (.inl rfl) Fu90 rfl ?_; clear hS
  intro tm hS
  refine pp1 hS rfl rfl ?_; clear hS
  intro tm hS
  refine o_nil (hR _ _ ?_)
  clear hR R
  refine c_cond hS rfl (fun hc => ?_) (fun hc => ?_)
  ·replace h0 := iteT hc h0
   refine c_reg fun R hR => ?_
   refine pp1 hS rfl rfl ?_; clear hS
   intro tm hS
   obtain ⟨y1, hx2, h0⟩ := bindS h0
   refine o_ixA (k := 1) (r := rItem) hS (.inl rfl) rfl rfl rfl rfl (.inl rfl) Fu90 Fs83 hx2 ?_; clear hS
   intro tm hS
   refine o_ldFA (r := rItem) (k := 1) hS (.inl rfl) rfl rfl rfl (.inl rfl) hx2 Fu83 rfl Fs83 rfl flat_Item ?_; clear hS
   intro tm hS
   refine o_st (k := 0) hS (.inl rfl) rfl rfl rfl Fs83 rfl rfl (all_cons rfl (all_cons rfl all_nil)) rfl ?_; clear hS; try clear H
   intro H hS
   refine pp1 hS rfl rfl ?_; clear hS
   intro tm hS
   refine o_nil (hR _ _ ?_)
   clear hR R
   refine wpC.ret ?_
   obtain rfl := Option.some.inj h0
   refine Exists.intro _ (And.intro (rs_cellA (k := 0) hS rfl rfl (.inl rfl) Fu83 rfl Fs83 rfl (rs_tmp hS rfl rs_nil)) ?_)
   have hI := hS.inv
   exact ⟨rfl, (hI.sub sn)⟩
  ·replace h0 := iteF hc h0
   refine wpC.skip ?_
   refine c_reg fun R hR => ?_
   refine pp2 hS rfl rfl rfl rfl ?_; clear hS
   intro tm hS
   obtain ⟨l2, hx3, h0⟩ := bindS h0
   refine o_sl (k := 1) (r := rItem) hS (.inl rfl) rfl rfl rfl Fu90 Fs83 rfl rfl hx3 ?_; clear hS
   intro v2 tm hS
   obtain ⟨⟨r3, r4⟩, hx4, h0⟩ := bindS h0
   refine o_call hS (.inl rfl) rfl (fun wm' hw1 hw2 => ih  fn1 l2  v2 ((hS.sel hw2).ad 0 rfl) hx4) (fun wm' res H hw' hp => ?_)
   obtain ⟨hres, hI⟩ := hp
   replace hres := hres.symm; subst hres
   replace hS : S wm 46 _ H ((31, .tuple #[.agg #[.int .i64 r3.n, .bool r3.char], .int .i64 r4]) :: _) ([] ++ _) Fr := hS.after rfl hw' hI
   clear hI hw'
   refine pp3 hS rfl rfl rfl rfl rfl rfl ?_; clear hS
   intro tm hS
   refine o_alloc hS (.inl rfl) rfl Fz83 (by decide) ?_; clear hS
   intro b2 tm H hS
   refine o_st (k := 0) hS (.inl rfl) rfl rfl rfl Fs83 rfl rfl (all_cons rfl (all_cons rfl all_nil)) rfl ?_; clear hS; try clear H
   intro H hS
   refine pp1 hS rfl rfl ?_; clear hS
   intro tm hS
   refine o_nil (hR _ _ ?_)
   clear hR R
   refine c_seqS ?_
   refine cr2 hS rfl rfl rfl rfl ?_; clear hS
   intro tm hS
   refine c_cond hS rfl (fun hc => ?_) (fun hc => ?_)
   ·replace h0 := iteT hc h0
    refine c_reg fun R hR => ?_
    refine o_build hS (.inl rfl) rfl Fb83 rfl .nil rfl ?_; clear hS
    intro tm hS
    refine pp1 hS rfl rfl ?_; clear hS
    intro tm hS
    refine o_st (k := 2) hS (.inl rfl) rfl rfl rfl Fs83 rfl rfl (all_cons rfl (all_cons rfl all_nil)) rfl ?_; clear hS; try clear H
    intro H hS
    refine pp1 hS rfl rfl ?_; clear hS
    intro tm hS
    refine o_nil (hR _ _ ?_)
    clear hR R
    refine wpC.ret ?_
    obtain rfl := Option.some.inj h0
    refine Exists.intro _ (And.intro (rs_cellA (k := 2) hS rfl rfl (.inl rfl) Fu83 rfl Fs83 rfl (rs_tmp hS rfl rs_nil)) ?_)
    have hI := hS.inv
    exact ⟨rfl, (hI.sub sn)⟩
   ·replace h0 := iteF hc h0
    refine wpC.skip ?_
    refine c_reg fun R hR => ?_
    refine pp2 hS rfl rfl rfl rfl ?_; clear hS
    intro tm hS
    obtain ⟨y2, hx5, h0⟩ := bindS h0
    refine o_ixA (k := 3) (r := rItem) hS (.inl rfl) rfl rfl rfl rfl (.inl rfl) Fu90 Fs83 hx5 ?_; clear hS
    intro tm hS
    refine o_ldFA (r := rItem) (k := 3) hS (.inl rfl) rfl rfl rfl (.inl rfl) hx5 Fu83 rfl Fs83 rfl flat_Item ?_; clear hS
    intro tm hS
    refine o_ldA (k := 0) hS (.inl rfl) rfl rfl rfl (.inl rfl) Fu83 rfl Fs83 rfl ?_; clear hS
    intro tm hS
    obtain ⟨⟨r5, r6⟩, hx6, h0⟩ := bindS h0
    refine o_call hS (.inl rfl) rfl (fun wm' hw1 hw2 => wk44  fn1 y2 r3   (hS.sel hw2) hx6) (fun wm' res H hw' hp => ?_)
    obtain ⟨hres, hI⟩ := hp
    replace hres := hres.symm; subst hres
    replace hS : S wm 46 _ H ((43, .tuple #[.agg #[.int .i64 r5.n, .bool r5.char], .int .i64 r6]) :: _) ([] ++ _) Fr := hS.after rfl hw' hI
    clear hI hw'
    refine pp2 hS rfl rfl rfl rfl ?_; clear hS
    intro tm hS
    refine o_st (k := 2) hS (.inl rfl) rfl rfl rfl Fs83 rfl rfl (all_cons rfl (all_cons rfl all_nil)) rfl ?_; clear hS; try clear H
    intro H hS
    refine pp1 hS rfl rfl ?_; clear hS
    intro tm hS
    refine o_nil (hR _ _ ?_)
    clear hR R
    refine wpC.ret ?_
    obtain rfl := Option.some.inj h0
    refine Exists.intro _ (And.intro (rs_cellA (k := 2) hS rfl rfl (.inl rfl) Fu83 rfl Fs83 rfl (rs_tmp hS rfl rs_nil)) ?_)
    have hI := hS.inv
    exact ⟨rfl, (hI.sub sn)⟩
theorem wk50 {wm : Nat} {H : AHeap} {Fr : List Ent}  (fn1 : ByteArray) (l1 : (List Am.Item))  (v1 : Value) (hI : Kn wm H [.fz rItem v1 l1] Fr) {r : Am.Item × Int} (h0 : M.anamnesisref12_Row fn1 l1 = some r) :
  wpF Try.prog ora wm 50 [.string fn1, v1] H (fun res H => res = .tuple #[.agg #[.int .i64 r.1.n, .bool r.1.char], .int .i64 r.2] ∧ Kn wm H [] Fr) := wk50F _ fn1 l1 v1 hI h0
theorem wk17 {wm : Nat} {H : AHeap} {Fr : List Ent} (ho72 : ora 72 = false) (f1 : ByteArray) (g1 : ByteArray) (a1 : Val) (b1 : Val)  (v1 : Value) (v2 : Value) (v3 : Value) (v4 : Value) (hI : Kn wm H [.fz (rI .i64) v1 a1.Shape, .fz (rI .i64) v2 a1.Data, .fz (rI .i64) v3 b1.Shape, .fz (rI .i64) v4 b1.Data] Fr) {r : Val × Int} (h0 : M.anamnesisref12_Inner f1 g1 a1 b1 = some r) :
  wpF Try.prog ora wm 17 [.string f1, .string g1, .agg #[.bool a1.Char, v1, v2], .agg #[.bool b1.Char, v3, v4]] H (fun res H => ∃ v20 v21, res = .tuple #[.agg #[.bool r.1.Char, v20, v21], .int .i64 r.2] ∧ Kn wm H [.own (rI .i64) v20 r.1.Shape, .own (rI .i64) v21 r.1.Data] Fr) := by
 unfold M.anamnesisref12_Inner at h0
 refine f_enter (n := 160) Try.func17 rfl (by simp) hI rfl rfl rfl fun tm hS => ?_
 clear hI
 refine c_reg fun R hR => ?_
 refine o_box hS (.inl rfl) rfl rfl rfl (all_cons rfl (all_cons (hS.one (k := 0) rfl (.inl rfl)) (all_cons (hS.one (k := 1) rfl (.inl rfl)) all_nil))) ?_; clear hS
 intro b2 tm H hS
 refine o_box hS (.inl rfl) rfl rfl rfl (all_cons rfl (all_cons (hS.one (k := 3) rfl (.inl rfl)) (all_cons (hS.one (k := 4) rfl (.inl rfl)) all_nil))) ?_; clear hS
 intro b3 tm H hS
 refine o_alloc hS (.inl rfl) rfl Fz25 (by decide) ?_; clear hS
 intro b4 tm H hS
 refine pp1 hS rfl rfl ?_; clear hS
 intro tm hS
 refine o_nil (hR _ _ ?_)
 clear hR R
 refine c_seqS ?_
 refine c_reg fun R hR => ?_
 refine o_ldA (k := 2) hS (.inl rfl) rfl rfl rfl (.inl rfl) Fu25 rfl Fs25 rfl ?_; clear hS
 intro tm hS
 obtain ⟨r1, hx1, h0⟩ := bindS h0
 refine o_call hS (.inl rfl) rfl (fun wm' hw1 hw2 => wk41  a1  v1 v2 (((hS.sel hw2).ad 4 rfl).ad 3 rfl) hx1) (fun wm' res H hw' hp => ?_)
 obtain ⟨hres, hI⟩ := hp
 replace hres := hres.symm; subst hres
 replace hS : S wm 160 _ H ((26, .bool r1) :: _) ([] ++ _) Fr := hS.after rfl hw' hI
 clear hI hw'
 refine pp2 hS rfl rfl rfl rfl ?_; clear hS
 intro tm hS
 obtain ⟨c1, hc1, h0⟩ := bindS h0
 refine o_cutN 4 (J := fun tm H => S wm 160 tm H [(32, .bool c1), (0, .string f1), (1, .string g1), (6, .pointer (some ⟨b2, 0, none⟩)), (7, .pointer (some ⟨b3, 0, none⟩)), (8, .pointer (some ⟨b4, 0, none⟩))] [.box b4 [.bool false, (.slice none 0 0), (.slice none 0 0)], .box b3 [.bool b1.Char, v3, v4], .box b2 [.bool a1.Char, v1, v2], .fz (rI .i64) v1 a1.Shape, .fz (rI .i64) v2 a1.Data, .fz (rI .i64) v3 b1.Shape, .fz (rI .i64) v4 b1.Data] Fr) ?_ ?_
 ·rcases Bool.eq_false_or_eq_true (!r1) with hg1 | hg1
  ·replace hc1 := iteT hg1 hc1
   refine o_skip hS rfl rfl rfl hg1 ?_; clear hS
   intro tm hS
   refine o_skip hS rfl rfl rfl hg1 ?_; clear hS
   intro tm hS
   refine o_skip hS rfl rfl rfl hg1 ?_; clear hS
   intro tm hS
   refine o_pickT hS (.inl rfl) rfl rfl hg1 rfl ?_; clear hS
   intro tm hS
   obtain rfl := Option.some.inj hc1
   exact o_nil (hS.keep (k6 rfl rfl rfl rfl rfl rfl) (fun hI => (hI.sub (sc (sc (sc (sc (sc (sc (sc sn))))))))))
  ·replace hc1 := iteF hg1 hc1
   refine o_ldA (k := 1) hS (.inr ⟨_, _, _, _, rfl, rfl, rfl, hg1⟩) rfl rfl rfl (.inl rfl) Fu25 rfl Fs25 rfl ?_; clear hS
   intro tm hS
   obtain ⟨r2, hx2, hc1⟩ := bindS hc1
   refine o_call hS (.inr ⟨_, _, _, _, rfl, rfl, rfl, hg1⟩) rfl (fun wm' hw1 hw2 => wk41  b1  v3 v4 (((hS.sel hw2).ad 6 rfl).ad 5 rfl) hx2) (fun wm' res H hw' hp => ?_)
   obtain ⟨hres, hI⟩ := hp
   replace hres := hres.symm; subst hres
   replace hS : S wm 160 _ H ((30, .bool r2) :: _) ([] ++ _) Fr := hS.after rfl hw' hI
   clear hI hw'
   refine o_pure hS (.inr ⟨_, _, _, _, rfl, rfl, rfl, hg1⟩) rfl rfl ?_; clear hS
   intro tm hS
   refine o_pickF hS (.inl rfl) rfl rfl hg1 rfl ?_; clear hS
   intro tm hS
   obtain rfl := Option.some.inj hc1
   exact o_nil (hS.keep (k6 rfl rfl rfl rfl rfl rfl) (fun hI => (hI.sub (sc (sc (sc (sc (sc (sc (sc sn))))))))))
 intro tm H hS
 refine o_nil (hR _ _ ?_)
 clear hR R
 refine c_cond hS rfl (fun hc => ?_) (fun hc => ?_)
 ·replace h0 := iteT hc h0
  refine c_reg fun R hR => ?_
  refine o_build hS (.inl rfl) rfl Fb25 rfl .nil rfl ?_; clear hS
  intro tm hS
  refine o_st (k := 0) hS (.inl rfl) rfl rfl rfl Fs25 rfl rfl (all_cons rfl (all_cons rfl (all_cons rfl all_nil))) rfl ?_; clear hS; try clear H
  intro H hS
  refine pp1 hS rfl rfl ?_; clear hS
  intro tm hS
  refine o_nil (hR _ _ ?_)
  clear hR R
  refine wpC.ret ?_
  obtain rfl := Option.some.inj h0
  replace hS := hS.nilOwn (rI .i64)
  replace hS := hS.nilOwn (rI .i64)
  refine Exists.intro _ (And.intro (rs_cellA (k := 2) hS rfl rfl (.inl rfl) Fu25 rfl Fs25 rfl (rs_tmp hS rfl rs_nil)) ?_)
  have hI := hS.inv
  exact ⟨(.slice none 0 0), (.slice none 0 0), rfl, (((hI.pull 0 rfl).pull 1 rfl).take 2)⟩
 ·replace h0 := iteF hc h0
  refine wpC.skip ?_
  refine c_seqS ?_
  refine c_reg fun R hR => ?_
  refine pp1 hS rfl rfl ?_; clear hS
  intro tm hS
  obtain ⟨r3, hx3, h0⟩ := bindS h0
  refine o_call hS (.inl rfl) rfl (fun wm' hw1 hw2 => wk42 ho72 f1   (hS.sel hw2) hx3) (fun wm' res H hw' hp => ?_)
  obtain ⟨hres, hI⟩ := hp
  replace hres := hres.symm; subst hres
  replace hS : S wm 160 _ H ((35, .bool r3) :: _) ([] ++ _) Fr := hS.after rfl hw' hI
  clear hI hw'
  refine pp2 hS rfl rfl rfl rfl ?_; clear hS
  intro tm hS
  obtain ⟨c2, hc2, h0⟩ := bindS h0
  refine o_cutN 4 (J := fun tm H => S wm 160 tm H [(41, .bool c2), (0, .string f1), (1, .string g1), (6, .pointer (some ⟨b2, 0, none⟩)), (7, .pointer (some ⟨b3, 0, none⟩)), (8, .pointer (some ⟨b4, 0, none⟩))] [.box b4 [.bool false, (.slice none 0 0), (.slice none 0 0)], .box b3 [.bool b1.Char, v3, v4], .box b2 [.bool a1.Char, v1, v2], .fz (rI .i64) v1 a1.Shape, .fz (rI .i64) v2 a1.Data, .fz (rI .i64) v3 b1.Shape, .fz (rI .i64) v4 b1.Data] Fr) ?_ ?_
  ·rcases Bool.eq_false_or_eq_true (!r3) with hg2 | hg2
   ·replace hc2 := iteT hg2 hc2
    refine o_skip hS rfl rfl rfl hg2 ?_; clear hS
    intro tm hS
    refine o_skip hS rfl rfl rfl hg2 ?_; clear hS
    intro tm hS
    refine o_skip hS rfl rfl rfl hg2 ?_; clear hS
    intro tm hS
    refine o_pickT hS (.inl rfl) rfl rfl hg2 rfl ?_; clear hS
    intro tm hS
    obtain rfl := Option.some.inj hc2
    exact o_nil (hS.keep (k6 rfl rfl rfl rfl rfl rfl) (fun hI => (hI.sub (sc (sc (sc (sc (sc (sc (sc sn))))))))))
   ·replace hc2 := iteF hg2 hc2
    refine o_pure hS (.inr ⟨_, _, _, _, rfl, rfl, rfl, hg2⟩) rfl rfl ?_; clear hS
    intro tm hS
    obtain ⟨r4, hx4, hc2⟩ := bindS hc2
    refine o_call hS (.inr ⟨_, _, _, _, rfl, rfl, rfl, hg2⟩) rfl (fun wm' hw1 hw2 => wk42 ho72 g1   (hS.sel hw2) hx4) (fun wm' res H hw' hp => ?_)
    obtain ⟨hres, hI⟩ := hp
    replace hres := hres.symm; subst hres
    replace hS : S wm 160 _ H ((39, .bool r4) :: _) ([] ++ _) Fr := hS.after rfl hw' hI
    clear hI hw'
    refine o_pure hS (.inr ⟨_, _, _, _, rfl, rfl, rfl, hg2⟩) rfl rfl ?_; clear hS
    intro tm hS
    refine o_pickF hS (.inl rfl) rfl rfl hg2 rfl ?_; clear hS
    intro tm hS
    obtain rfl := Option.some.inj hc2
    exact o_nil (hS.keep (k6 rfl rfl rfl rfl rfl rfl) (fun hI => (hI.sub (sc (sc (sc (sc (sc (sc (sc sn))))))))))
  intro tm H hS
  refine o_nil (hR _ _ ?_)
  clear hR R
  refine c_cond hS rfl (fun hc => ?_) (fun hc => ?_)
  ·replace h0 := iteT hc h0
   refine c_reg fun R hR => ?_
   refine o_build hS (.inl rfl) rfl Fb25 rfl .nil rfl ?_; clear hS
   intro tm hS
   refine o_st (k := 0) hS (.inl rfl) rfl rfl rfl Fs25 rfl rfl (all_cons rfl (all_cons rfl (all_cons rfl all_nil))) rfl ?_; clear hS; try clear H
   intro H hS
   refine pp1 hS rfl rfl ?_; clear hS
   intro tm hS
   refine o_nil (hR _ _ ?_)
   clear hR R
   refine wpC.ret ?_
   obtain rfl := Option.some.inj h0
   replace hS := hS.nilOwn (rI .i64)
   replace hS := hS.nilOwn (rI .i64)
   refine Exists.intro _ (And.intro (rs_cellA (k := 2) hS rfl rfl (.inl rfl) Fu25 rfl Fs25 rfl (rs_tmp hS rfl rs_nil)) ?_)
   have hI := hS.inv
   exact ⟨(.slice none 0 0), (.slice none 0 0), rfl, (((hI.pull 0 rfl).pull 1 rfl).take 2)⟩
  ·replace h0 := iteF hc h0
   refine wpC.skip ?_
   refine c_reg fun R hR => ?_
   refine pp1 hS rfl rfl ?_; clear hS
   intro tm hS
   refine o_ld1 (k := 2) hS (.inl rfl) rfl rfl rfl (.inl rfl) Fu22 rfl rfl ?_; clear hS
   intro tm hS
   refine o_len (k := 3) (r := (rI .i64)) hS (.inl rfl) rfl rfl rfl (.inl rfl) Fu22 rfl ?_; clear hS
   intro tm hS
   refine pp2 hS rfl rfl rfl rfl ?_; clear hS
   intro tm hS
   refine o_nil (hR _ _ ?_)
   clear hR R
   refine c_reg fun R hR => ?_
   refine o_ldA (k := 2) hS (.inl rfl) rfl rfl rfl (.inl rfl) Fu25 rfl Fs25 rfl ?_; clear hS
   intro tm hS
   refine pp1 hS rfl rfl ?_; clear hS
   intro tm hS
   obtain ⟨r5, hx5, h0⟩ := bindS h0
   refine o_call hS (.inl rfl) rfl (fun wm' hw1 hw2 => wk47  a1 (IntKind.i64.wrap ((a1.Shape.length : Int) - 1))  v1 v2 (((hS.sel hw2).ad 4 rfl).ad 3 rfl) hx5) (fun wm' res H hw' hp => ?_)
   obtain ⟨hres, hI⟩ := hp
   replace hres := hres.symm; subst hres
   replace hS : S wm 160 _ H ((49, .int .i64 r5) :: _) ([] ++ _) Fr := hS.after rfl hw' hI
   clear hI hw'
   refine pp1 hS rfl rfl ?_; clear hS
   intro tm hS
   refine o_nil (hR _ _ ?_)
   clear hR R
   refine c_reg fun R hR => ?_
   refine o_ldA (k := 1) hS (.inl rfl) rfl rfl rfl (.inl rfl) Fu25 rfl Fs25 rfl ?_; clear hS
   intro tm hS
   obtain ⟨r6, hx6, h0⟩ := bindS h0
   refine o_call hS (.inl rfl) rfl (fun wm' hw1 hw2 => wk47  b1 0  v3 v4 (((hS.sel hw2).ad 6 rfl).ad 5 rfl) hx6) (fun wm' res H hw' hp => ?_)
   obtain ⟨hres, hI⟩ := hp
   replace hres := hres.symm; subst hres
   replace hS : S wm 160 _ H ((51, .int .i64 r6) :: _) ([] ++ _) Fr := hS.after rfl hw' hI
   clear hI hw'
   refine pp1 hS rfl rfl ?_; clear hS
   intro tm hS
   refine o_nil (hR _ _ ?_)
   clear hR R
   refine c_seqS ?_
   refine c_reg fun R hR => ?_
   refine pp4 hS rfl rfl rfl rfl rfl rfl rfl rfl ?_; clear hS
   intro tm hS
   obtain ⟨c3, hc3⟩ : ∃ x : Bool, x = ((r5 != r6) && (r5 != 1)) := ⟨_, rfl⟩
   refine o_cutN 3 (J := fun tm H => S wm 160 tm H [(58, .bool c3), (0, .string f1), (1, .string g1), (6, .pointer (some ⟨b2, 0, none⟩)), (7, .pointer (some ⟨b3, 0, none⟩)), (8, .pointer (some ⟨b4, 0, none⟩)), (10, .int .i64 (IntKind.i64.wrap ((a1.Shape.length : Int) - 1))), (11, .int .i64 r5), (12, .int .i64 r6)] [.box b4 [.bool false, (.slice none 0 0), (.slice none 0 0)], .box b3 [.bool b1.Char, v3, v4], .box b2 [.bool a1.Char, v1, v2], .fz (rI .i64) v1 a1.Shape, .fz (rI .i64) v2 a1.Data, .fz (rI .i64) v3 b1.Shape, .fz (rI .i64) v4 b1.Data] Fr) ?_ ?_
   ·rcases Bool.eq_false_or_eq_true (r5 != r6) with hg3 | hg3
    ·refine o_pure hS (.inr ⟨_, _, _, _, rfl, rfl, rfl, hg3⟩) rfl rfl ?_; clear hS
     intro tm hS
     refine o_pure hS (.inr ⟨_, _, _, _, rfl, rfl, rfl, hg3⟩) rfl rfl ?_; clear hS
     intro tm hS
     refine o_pickT hS (.inl rfl) rfl rfl hg3 rfl ?_; clear hS
     intro tm hS
     have hc3 : c3 = (r5 != 1) := hc3.trans (by rw [hg3]; first | rfl | simp)
     subst hc3
     exact o_nil (hS.keep (k9 rfl rfl rfl rfl rfl rfl rfl rfl rfl) (fun hI => (hI.sub (sc (sc (sc (sc (sc (sc (sc sn))))))))))
    ·refine o_skip hS rfl rfl rfl hg3 ?_; clear hS
     intro tm hS
     refine o_skip hS rfl rfl rfl hg3 ?_; clear hS
     intro tm hS
     refine o_pickF hS (.inl rfl) rfl rfl hg3 rfl ?_; clear hS
     intro tm hS
     have hc3 : c3 = false := hc3.trans (by rw [hg3]; first | rfl | simp)
     subst hc3
     exact o_nil (hS.keep (k9 rfl rfl rfl rfl rfl rfl rfl rfl rfl) (fun hI => (hI.sub (sc (sc (sc (sc (sc (sc (sc sn))))))))))
   intro tm H hS
   subst hc3
   refine pp1 hS rfl rfl ?_; clear hS
   intro tm hS
   obtain ⟨c4, hc4⟩ : ∃ x : Bool, x = (((r5 != r6) && (r5 != 1)) && (r6 != 1)) := ⟨_, rfl⟩
   refine o_cutN 3 (J := fun tm H => S wm 160 tm H [(62, .bool c4), (0, .string f1), (1, .string g1), (6, .pointer (some ⟨b2, 0, none⟩)), (7, .pointer (some ⟨b3, 0, none⟩)), (8, .pointer (some ⟨b4, 0, none⟩)), (10, .int .i64 (IntKind.i64.wrap ((a1.Shape.length : Int) - 1))), (11, .int .i64 r5), (12, .int .i64 r6)] [.box b4 [.bool false, (.slice none 0 0), (.slice none 0 0)], .box b3 [.bool b1.Char, v3, v4], .box b2 [.bool a1.Char, v1, v2], .fz (rI .i64) v1 a1.Shape, .fz (rI .i64) v2 a1.Data, .fz (rI .i64) v3 b1.Shape, .fz (rI .i64) v4 b1.Data] Fr) ?_ ?_
   ·rcases Bool.eq_false_or_eq_true ((r5 != r6) && (r5 != 1)) with hg4 | hg4
    ·refine o_pure hS (.inr ⟨_, _, _, _, rfl, rfl, rfl, hg4⟩) rfl rfl ?_; clear hS
     intro tm hS
     refine o_pure hS (.inr ⟨_, _, _, _, rfl, rfl, rfl, hg4⟩) rfl rfl ?_; clear hS
     intro tm hS
     refine o_pickT hS (.inl rfl) rfl rfl hg4 rfl ?_; clear hS
     intro tm hS
     have hc4 : c4 = (r6 != 1) := hc4.trans (by rw [hg4]; first | rfl | simp)
     subst hc4
     exact o_nil (hS.keep (k9 rfl rfl rfl rfl rfl rfl rfl rfl rfl) (fun hI => (hI.sub (sc (sc (sc (sc (sc (sc (sc sn))))))))))
    ·refine o_skip hS rfl rfl rfl hg4 ?_; clear hS
     intro tm hS
     refine o_skip hS rfl rfl rfl hg4 ?_; clear hS
     intro tm hS
     refine o_pickF hS (.inl rfl) rfl rfl hg4 rfl ?_; clear hS
     intro tm hS
     have hc4 : c4 = false := hc4.trans (by rw [hg4]; first | rfl | simp)
     subst hc4
     exact o_nil (hS.keep (k9 rfl rfl rfl rfl rfl rfl rfl rfl rfl) (fun hI => (hI.sub (sc (sc (sc (sc (sc (sc (sc sn))))))))))
   intro tm H hS
   subst hc4
   refine o_nil (hR _ _ ?_)
   clear hR R
   refine c_cond hS rfl (fun hc => ?_) (fun hc => ?_)
   ·replace h0 := iteT hc h0
    refine c_reg fun R hR => ?_
    refine o_build hS (.inl rfl) rfl Fb25 rfl .nil rfl ?_; clear hS
    intro tm hS
    refine o_st (k := 0) hS (.inl rfl) rfl rfl rfl Fs25 rfl rfl (all_cons rfl (all_cons rfl (all_cons rfl all_nil))) rfl ?_; clear hS; try clear H
    intro H hS
    refine pp1 hS rfl rfl ?_; clear hS
    intro tm hS
    refine o_nil (hR _ _ ?_)
    clear hR R
    refine wpC.ret ?_
    obtain rfl := Option.some.inj h0
    replace hS := hS.nilOwn (rI .i64)
    replace hS := hS.nilOwn (rI .i64)
    refine Exists.intro _ (And.intro (rs_cellA (k := 2) hS rfl rfl (.inl rfl) Fu25 rfl Fs25 rfl (rs_tmp hS rfl rs_nil)) ?_)
    have hI := hS.inv
    exact ⟨(.slice none 0 0), (.slice none 0 0), rfl, (((hI.pull 0 rfl).pull 1 rfl).take 2)⟩
   ·replace h0 := iteF hc h0
    refine wpC.skip ?_
    obtain ⟨m1, h1, h0⟩ := bindS h0
    refine c_seqJ (J := fun tm H => (match (generalizing := false) m1 with | m1 => S wm 160 tm H [(0, .string f1), (1, .string g1), (6, .pointer (some ⟨b2, 0, none⟩)), (7, .pointer (some ⟨b3, 0, none⟩)), (8, .pointer (some ⟨b4, 0, none⟩)), (10, .int .i64 (IntKind.i64.wrap ((a1.Shape.length : Int) - 1))), (11, .int .i64 m1)] [.box b2 [.bool a1.Char, v1, v2], .box b3 [.bool b1.Char, v3, v4], .box b4 [.bool false, (.slice none 0 0), (.slice none 0 0)], .fz (rI .i64) v1 a1.Shape, .fz (rI .i64) v2 a1.Data, .fz (rI .i64) v3 b1.Shape, .fz (rI .i64) v4 b1.Data] Fr)) ?_ ?_
    ·refine cr2 hS rfl rfl rfl rfl ?_; clear hS
     intro tm hS
     refine c_cond hS rfl (fun hc => ?_) (fun hc => ?_)
     ·replace h1 := iteT hc h1
      refine cs2 hS rfl rfl rfl rfl ?_; clear hS
      intro tm hS
      obtain rfl := Option.some.inj h1
      change S wm 160 _ _ _ _ Fr; exact hS.keep (k7 rfl rfl rfl rfl rfl rfl rfl) (fun hI => ((((((((hI.pull 6 rfl).pull 6 rfl).pull 6 rfl).pull 6 rfl).pull 4 rfl).pull 5 rfl).pull 6 rfl).take 7))
     ·replace h1 := iteF hc h1
      refine wpC.skip ?_
      obtain rfl := Option.some.inj h1
      change S wm 160 _ _ _ _ Fr; exact hS.keep (k7 rfl rfl rfl rfl rfl rfl rfl) (fun hI => ((((((((hI.pull 6 rfl).pull 6 rfl).pull 6 rfl).pull 6 rfl).pull 4 rfl).pull 5 rfl).pull 6 rfl).take 7))
    intro tm H hS
    change S wm 160 tm H [(0, .string f1), (1, .string g1), (6, .pointer (some ⟨b2, 0, none⟩)), (7, .pointer (some ⟨b3, 0, none⟩)), (8, .pointer (some ⟨b4, 0, none⟩)), (10, .int .i64 (IntKind.i64.wrap ((a1.Shape.length : Int) - 1))), (11, .int .i64 m1)] [.box b2 [.bool a1.Char, v1, v2], .box b3 [.bool b1.Char, v3, v4], .box b4 [.bool false, (.slice none 0 0), (.slice none 0 0)], .fz (rI .i64) v1 a1.Shape, .fz (rI .i64) v2 a1.Data, .fz (rI .i64) v3 b1.Shape, .fz (rI .i64) v4 b1.Data] Fr at hS
    refine cr1 hS rfl rfl ?_; clear hS
    intro tm hS
    obtain ⟨s1, h2, h0⟩ := bindS h0
    refine c_seqJ (J := fun tm H => (match (generalizing := false) s1 with | s1 => ∃ v5, S wm 160 tm H [(0, .string f1), (1, .string g1), (6, .pointer (some ⟨b2, 0, none⟩)), (7, .pointer (some ⟨b3, 0, none⟩)), (8, .pointer (some ⟨b4, 0, none⟩)), (10, .int .i64 (IntKind.i64.wrap ((a1.Shape.length : Int) - 1))), (11, .int .i64 m1), (13, v5)] [.box b2 [.bool a1.Char, v1, v2], .box b3 [.bool b1.Char, v3, v4], .box b4 [.bool false, (.slice none 0 0), (.slice none 0 0)], .own (rI .i64) v5 s1, .fz (rI .i64) v1 a1.Shape, .fz (rI .i64) v2 a1.Data, .fz (rI .i64) v3 b1.Shape, .fz (rI .i64) v4 b1.Data] Fr)) ?_ ?_
    ·refine cr2 hS rfl rfl rfl rfl ?_; clear hS
     intro tm hS
     refine c_cond hS rfl (fun hc => ?_) (fun hc => ?_)
     ·replace h2 := iteT hc h2
      refine c_reg1 fun R hR => ?_
      refine pp2 hS rfl rfl rfl rfl ?_; clear hS
      intro tm hS
      refine o_ld1 (k := 0) hS (.inl rfl) rfl rfl rfl (.inl rfl) Fu22 rfl rfl ?_; clear hS
      intro tm hS
      refine pp1 hS rfl rfl ?_; clear hS
      intro tm hS
      obtain ⟨l1, hx7, h2⟩ := bindS h2
      refine o_sl (k := 3) (r := (rI .i64)) hS (.inl rfl) rfl rfl rfl Fu22 Fs3 rfl rfl hx7 ?_; clear hS
      intro v6 tm hS
      replace hS := hS.nilOwn (rI .i64)
      obtain ⟨l2, hx8, h2⟩ := bindS h2
      refine o_app (k1 := 0) (k2 := 1) (r := (rI .i64)) hS (.inl rfl) rfl rfl rfl rfl rfl (.inl rfl) rfl Fe22_22 rfl hx8 ?_; clear hS
      intro v7 tm H hS
      refine pp1 hS rfl rfl ?_; clear hS
      intro tm hS
      refine o_nil (hR _ _ ?_)
      clear hR R
      obtain rfl := Option.some.inj h2
      refine Exists.intro v7 ?_; change S wm 160 _ _ _ _ Fr; exact hS.keep (k8 rfl rfl rfl rfl rfl rfl rfl rfl) (fun hI => (hI.pick [2, 3, 4, 0, 5, 6, 7, 8] rfl))
     ·replace h2 := iteF hc h2
      refine wpC.skip ?_
      obtain rfl := Option.some.inj h2
      replace hS := hS.nilOwn (rI .i64)
      refine Exists.intro (.slice none 0 0) ?_; change S wm 160 _ _ _ _ Fr; exact hS.keep (k8 rfl rfl rfl rfl rfl rfl rfl rfl) (fun hI => (hI.pick [1, 2, 3, 0, 4, 5, 6, 7] rfl))
    intro tm H hS
    obtain ⟨v5, hS⟩ := hS
    change S wm 160 tm H [(0, .string f1), (1, .string g1), (6, .pointer (some ⟨b2, 0, none⟩)), (7, .pointer (some ⟨b3, 0, none⟩)), (8, .pointer (some ⟨b4, 0, none⟩)), (10, .int .i64 (IntKind.i64.wrap ((a1.Shape.length : Int) - 1))), (11, .int .i64 m1), (13, v5)] [.box b2 [.bool a1.Char, v1, v2], .box b3 [.bool b1.Char, v3, v4], .box b4 [.bool false, (.slice none 0 0), (.slice none 0 0)], .own (rI .i64) v5 s1, .fz (rI .i64) v1 a1.Shape, .fz (rI .i64) v2 a1.Data, .fz (rI .i64) v3 b1.Shape, .fz (rI .i64) v4 b1.Data] Fr at hS
    refine c_reg fun R hR => ?_
    refine pp1 hS rfl rfl ?_; clear hS
    intro tm hS
    refine o_len (k := 3) (r := (rI .i64)) hS (.inl rfl) rfl rfl rfl (.inr (.inl rfl)) Fu22 rfl ?_; clear hS
    intro tm hS
    refine pp1 hS rfl rfl ?_; clear hS
    intro tm hS
    refine o_nil (hR _ _ ?_)
    clear hR R
    obtain ⟨s2, h3, h0⟩ := bindS h0
    refine c_seqJ (J := fun tm H => (match (generalizing := false) s2 with | s2 => ∃ v8, S wm 160 tm H [(0, .string f1), (1, .string g1), (6, .pointer (some ⟨b2, 0, none⟩)), (7, .pointer (some ⟨b3, 0, none⟩)), (8, .pointer (some ⟨b4, 0, none⟩)), (10, .int .i64 (IntKind.i64.wrap ((a1.Shape.length : Int) - 1))), (11, .int .i64 m1), (13, v8), (14, .int .i64 (s1.length : Int))] [.box b2 [.bool a1.Char, v1, v2], .box b3 [.bool b1.Char, v3, v4], .box b4 [.bool false, (.slice none 0 0), (.slice none 0 0)], .own (rI .i64) v8 s2, .fz (rI .i64) v1 a1.Shape, .fz (rI .i64) v2 a1.Data, .fz (rI .i64) v3 b1.Shape, .fz (rI .i64) v4 b1.Data] Fr)) ?_ ?_
    ·refine c_reg fun R hR => ?_
     refine pp1 hS rfl rfl ?_; clear hS
     intro tm hS
     refine o_ld1 (k := 1) hS (.inl rfl) rfl rfl rfl (.inl rfl) Fu22 rfl rfl ?_; clear hS
     intro tm hS
     refine o_len (k := 6) (r := (rI .i64)) hS (.inl rfl) rfl rfl rfl (.inl rfl) Fu22 rfl ?_; clear hS
     intro tm hS
     refine pp1 hS rfl rfl ?_; clear hS
     intro tm hS
     refine o_nil (hR _ _ ?_)
     clear hR R
     refine c_cond hS rfl (fun hc => ?_) (fun hc => ?_)
     ·replace h3 := iteT hc h3
      refine c_reg1 fun R hR => ?_
      refine pp2 hS rfl rfl rfl rfl ?_; clear hS
      intro tm hS
      refine o_ld1 (k := 1) hS (.inl rfl) rfl rfl rfl (.inl rfl) Fu22 rfl rfl ?_; clear hS
      intro tm hS
      obtain ⟨l3, hx9, h3⟩ := bindS h3
      refine o_sl (k := 6) (r := (rI .i64)) hS (.inl rfl) rfl rfl rfl Fu22 Fs3 rfl rfl hx9 ?_; clear hS
      intro v9 tm hS
      obtain ⟨l4, hx10, h3⟩ := bindS h3
      refine o_app (k1 := 4) (k2 := 0) (r := (rI .i64)) hS (.inl rfl) rfl rfl rfl rfl rfl (.inl rfl) rfl Fe22_22 rfl hx10 ?_; clear hS
      intro v10 tm H hS
      refine pp1 hS rfl rfl ?_; clear hS
      intro tm hS
      refine o_nil (hR _ _ ?_)
      clear hR R
      obtain rfl := Option.some.inj h3
      refine Exists.intro v10 ?_; change S wm 160 _ _ _ _ Fr; exact hS.keep (k9 rfl rfl rfl rfl rfl rfl rfl rfl rfl) (fun hI => (hI.sub (sd (sc (sc (sc (sc (sc (sc (sc (sc sn)))))))))))
     ·replace h3 := iteF hc h3
      refine wpC.skip ?_
      obtain rfl := Option.some.inj h3
      refine Exists.intro v5 ?_; change S wm 160 _ _ _ _ Fr; exact hS.keep (k9 rfl rfl rfl rfl rfl rfl rfl rfl rfl) (fun hI => (hI.sub (sc (sc (sc (sc (sc (sc (sc (sc sn))))))))))
    intro tm H hS
    obtain ⟨v8, hS⟩ := hS
    change S wm 160 tm H [(0, .string f1), (1, .string g1), (6, .pointer (some ⟨b2, 0, none⟩)), (7, .pointer (some ⟨b3, 0, none⟩)), (8, .pointer (some ⟨b4, 0, none⟩)), (10, .int .i64 (IntKind.i64.wrap ((a1.Shape.length : Int) - 1))), (11, .int .i64 m1), (13, v8), (14, .int .i64 (s1.length : Int))] [.box b2 [.bool a1.Char, v1, v2], .box b3 [.bool b1.Char, v3, v4], .box b4 [.bool false, (.slice none 0 0), (.slice none 0 0)], .own (rI .i64) v8 s2, .fz (rI .i64) v1 a1.Shape, .fz (rI .i64) v2 a1.Data, .fz (rI .i64) v3 b1.Shape, .fz (rI .i64) v4 b1.Data] Fr at hS
    refine c_seqS ?_
    refine c_reg fun R hR => ?_
    refine pp1 hS rfl rfl ?_; clear hS
    intro tm hS
    refine o_len (k := 3) (r := (rI .i64)) hS (.inl rfl) rfl rfl rfl (.inr (.inl rfl)) Fu22 rfl ?_; clear hS
    intro tm hS
    refine pp1 hS rfl rfl ?_; clear hS
    intro tm hS
    refine o_nil (hR _ _ ?_)
    clear hR R
    refine c_cond hS rfl (fun hc => ?_) (fun hc => ?_)
    ·replace h0 := iteT hc h0
     refine c_reg fun R hR => ?_
     refine o_build hS (.inl rfl) rfl Fb25 rfl .nil rfl ?_; clear hS
     intro tm hS
     refine o_st (k := 2) hS (.inl rfl) rfl rfl rfl Fs25 rfl rfl (all_cons rfl (all_cons rfl (all_cons rfl all_nil))) rfl ?_; clear hS; try clear H
     intro H hS
     refine pp1 hS rfl rfl ?_; clear hS
     intro tm hS
     refine o_nil (hR _ _ ?_)
     clear hR R
     refine wpC.ret ?_
     obtain rfl := Option.some.inj h0
     replace hS := hS.nilOwn (rI .i64)
     replace hS := hS.nilOwn (rI .i64)
     refine Exists.intro _ (And.intro (rs_cellA (k := 4) hS rfl rfl (.inl rfl) Fu25 rfl Fs25 rfl (rs_tmp hS rfl rs_nil)) ?_)
     have hI := hS.inv
     exact ⟨(.slice none 0 0), (.slice none 0 0), rfl, (((hI.pull 0 rfl).pull 1 rfl).take 2)⟩
    ·replace h0 := iteF hc h0
     refine wpC.skip ?_
     refine c_reg fun R hR => ?_
     refine pp1 hS rfl rfl ?_; clear hS
     intro tm hS
     obtain ⟨r7, hx11, h0⟩ := bindS h0
     refine o_call (Pc := fun _ res H => res = .int .i64 r7 ∧ Kn wm H ([.box b2 [.bool a1.Char, v1, v2], .box b3 [.bool b1.Char, v3, v4], .box b4 [.bool false, (.slice none 0 0), (.slice none 0 0)], .own (rI .i64) v8 s2, .fz (rI .i64) v1 a1.Shape, .fz (rI .i64) v2 a1.Data, .fz (rI .i64) v3 b1.Shape, .fz (rI .i64) v4 b1.Data]) Fr) hS (.inl rfl) rfl (fun wm' hw1 hw2 => by
      obtain ⟨F2, kk_1, kk_2⟩ := hS.inv.lend (La := [.fz (rI .i64) v8 s2]) (List.forall_mem_cons.mpr ⟨(.inr ⟨_, _, _, _, rfl, .inl (List.mem_of_getElem? (i := 3) rfl)⟩), (fun _ h => by cases h)⟩) hw1 hw2
      exact (wk43  s2  v8 kk_1 hx11).mono fun res H2 ⟨qq_1, qq_2⟩ => ⟨qq_1, kk_2 _ qq_2⟩) (fun wm' res H hw' hp => ?_)
     obtain ⟨hres, hI⟩ := hp
     replace hres := hres.symm; subst hres
     replace hS : S wm 160 _ H ((91, .int .i64 r7) :: _) ([.box b2 [.bool a1.Char, v1, v2], .box b3 [.bool b1.Char, v3, v4], .box b4 [.bool false, (.slice none 0 0), (.slice none 0 0)], .own (rI .i64) v8 s2, .fz (rI .i64) v1 a1.Shape, .fz (rI .i64) v2 a1.Data, .fz (rI .i64) v3 b1.Shape, .fz (rI .i64) v4 b1.Data]) Fr := (hS.put rfl _).withK hI
     clear hI hw'
     refine pp1 hS rfl rfl ?_; clear hS
     intro tm hS
     refine o_nil (hR _ _ ?_)
     clear hR R
     refine c_seqS ?_
     refine c_reg fun R hR => ?_
     refine pp3 hS rfl rfl rfl rfl rfl rfl ?_; clear hS
     intro tm hS
     obtain ⟨c5, hc5⟩ : ∃ x : Bool, x = ((decide (r7 < 0)) || (decide ((IntKind.i64.wrap (r7 * m1)) > 1000000))) := ⟨_, rfl⟩
     refine o_cutN 5 (J := fun tm H => S wm 160 tm H [(99, .bool c5), (0, .string f1), (1, .string g1), (6, .pointer (some ⟨b2, 0, none⟩)), (7, .pointer (some ⟨b3, 0, none⟩)), (8, .pointer (some ⟨b4, 0, none⟩)), (10, .int .i64 (IntKind.i64.wrap ((a1.Shape.length : Int) - 1))), (11, .int .i64 m1), (13, v8), (14, .int .i64 (s1.length : Int)), (15, .int .i64 r7)] [.box b2 [.bool a1.Char, v1, v2], .box b3 [.bool b1.Char, v3, v4], .box b4 [.bool false, (.slice none 0 0), (.slice none 0 0)], .own (rI .i64) v8 s2, .fz (rI .i64) v1 a1.Shape, .fz (rI .i64) v2 a1.Data, .fz (rI .i64) v3 b1.Shape, .fz (rI .i64) v4 b1.Data] Fr) ?_ ?_
     ·rcases Bool.eq_false_or_eq_true (decide (r7 < 0)) with hg5 | hg5
      ·refine o_skip hS rfl rfl rfl hg5 ?_; clear hS
       intro tm hS
       refine o_skip hS rfl rfl rfl hg5 ?_; clear hS
       intro tm hS
       refine o_skip hS rfl rfl rfl hg5 ?_; clear hS
       intro tm hS
       refine o_skip hS rfl rfl rfl hg5 ?_; clear hS
       intro tm hS
       refine o_pickT hS (.inl rfl) rfl rfl hg5 rfl ?_; clear hS
       intro tm hS
       have hc5 : c5 = true := hc5.trans (by rw [hg5]; first | rfl | simp)
       subst hc5
       exact o_nil (hS.keep (k11 rfl rfl rfl rfl rfl rfl rfl rfl rfl rfl rfl) (fun hI => (hI.sub (sc (sc (sc (sc (sc (sc (sc (sc sn)))))))))))
      ·refine o_pure hS (.inr ⟨_, _, _, _, rfl, rfl, rfl, hg5⟩) rfl rfl ?_; clear hS
       intro tm hS
       refine o_pure hS (.inr ⟨_, _, _, _, rfl, rfl, rfl, hg5⟩) rfl rfl ?_; clear hS
       intro tm hS
       refine o_pure hS (.inr ⟨_, _, _, _, rfl, rfl, rfl, hg5⟩) rfl rfl ?_; clear hS
       intro tm hS
       refine o_pure hS (.inr ⟨_, _, _, _, rfl, rfl, rfl, hg5⟩) rfl rfl ?_; clear hS
       intro tm hS
       refine o_pickF hS (.inl rfl) rfl rfl hg5 rfl ?_; clear hS
       intro tm hS
       have hc5 : c5 = (decide ((IntKind.i64.wrap (r7 * m1)) > 1000000)) := hc5.trans (by rw [hg5]; first | rfl | simp)
       subst hc5
       exact o_nil (hS.keep (k11 rfl rfl rfl rfl rfl rfl rfl rfl rfl rfl rfl) (fun hI => (hI.sub (sc (sc (sc (sc (sc (sc (sc (sc sn)))))))))))
     intro tm H hS
     subst hc5
     refine o_nil (hR _ _ ?_)
     clear hR R
     refine c_cond hS rfl (fun hc => ?_) (fun hc => ?_)
     ·replace h0 := iteT hc h0
      refine c_reg fun R hR => ?_
      refine o_build hS (.inl rfl) rfl Fb25 rfl .nil rfl ?_; clear hS
      intro tm hS
      refine o_st (k := 2) hS (.inl rfl) rfl rfl rfl Fs25 rfl rfl (all_cons rfl (all_cons rfl (all_cons rfl all_nil))) rfl ?_; clear hS; try clear H
      intro H hS
      refine pp1 hS rfl rfl ?_; clear hS
      intro tm hS
      refine o_nil (hR _ _ ?_)
      clear hR R
      refine wpC.ret ?_
      obtain rfl := Option.some.inj h0
      replace hS := hS.nilOwn (rI .i64)
      replace hS := hS.nilOwn (rI .i64)
      refine Exists.intro _ (And.intro (rs_cellA (k := 4) hS rfl rfl (.inl rfl) Fu25 rfl Fs25 rfl (rs_tmp hS rfl rs_nil)) ?_)
      have hI := hS.inv
      exact ⟨(.slice none 0 0), (.slice none 0 0), rfl, (((hI.pull 0 rfl).pull 1 rfl).take 2)⟩
     ·replace h0 := iteF hc h0
      refine wpC.skip ?_
      refine c_reg fun R hR => ?_
      refine pp1 hS rfl rfl ?_; clear hS
      intro tm hS
      refine o_build hS (.inl rfl) rfl Fb25 rfl (.cons (cells_one (hS.one (k := 3) rfl (.inr (.inl rfl)))) .nil) rfl ?_; clear hS
      intro tm hS
      refine o_alloc hS (.inl rfl) rfl Fz25 (by decide) ?_; clear hS
      intro b5 tm H hS
      refine o_st (k := 0) hS (.inl rfl) rfl rfl rfl Fs25 rfl rfl (all_cons rfl (all_cons (hS.one (k := 4) rfl (.inr (.inl rfl))) (all_cons rfl all_nil))) rfl ?_; clear hS; try clear H
      intro H hS
      refine o_nil (hR _ _ ?_)
      clear hR R
      refine c_seqS ?_
      refine cr1 hS rfl rfl ?_; clear hS
      intro tm hS
      obtain ⟨k2, hw1, h0⟩ := bindS h0
      refine wpC.block ?_
      replace hS := hS.nilOwn (rI .i64)
      refine c_loop (I := fun (s : Int × (List Int)) tm H => match (generalizing := false) s with | (k1, Data1) => ∃ v11, S wm 160 tm H [(0, .string f1), (1, .string g1), (6, .pointer (some ⟨b2, 0, none⟩)), (7, .pointer (some ⟨b3, 0, none⟩)), (8, .pointer (some ⟨b4, 0, none⟩)), (10, .int .i64 (IntKind.i64.wrap ((a1.Shape.length : Int) - 1))), (11, .int .i64 m1), (13, v8), (14, .int .i64 (s1.length : Int)), (15, .int .i64 r7), (16, .pointer (some ⟨b5, 0, none⟩)), (17, .int .i64 k1)] [.box b2 [.bool a1.Char, v1, v2], .box b3 [.bool b1.Char, v3, v4], .box b4 [.bool false, (.slice none 0 0), (.slice none 0 0)], .box b5 [.bool false, v8, v11], .own (rI .i64) v11 Data1, .fz (rI .i64) v1 a1.Shape, .fz (rI .i64) v2 a1.Data, .fz (rI .i64) v3 b1.Shape, .fz (rI .i64) v4 b1.Data, .own (rI .i64) v8 s2] Fr) hw1 (by refine Exists.intro (.slice none 0 0) ?_; change S wm 160 _ _ _ _ Fr; exact hS.keep (k12 rfl rfl rfl rfl rfl rfl rfl rfl rfl rfl rfl rfl) (fun hI => (hI.pick [2, 3, 4, 1, 0, 6, 7, 8, 9, 5] rfl))) ?_
      clear hS
      intro s3 tm H c6 hS h6 hq6
      obtain ⟨k1, Data1⟩ := s3
      obtain ⟨v11, hS⟩ := hS
      change S wm 160 tm H [(0, .string f1), (1, .string g1), (6, .pointer (some ⟨b2, 0, none⟩)), (7, .pointer (some ⟨b3, 0, none⟩)), (8, .pointer (some ⟨b4, 0, none⟩)), (10, .int .i64 (IntKind.i64.wrap ((a1.Shape.length : Int) - 1))), (11, .int .i64 m1), (13, v8), (14, .int .i64 (s1.length : Int)), (15, .int .i64 r7), (16, .pointer (some ⟨b5, 0, none⟩)), (17, .int .i64 k1)] [.box b2 [.bool a1.Char, v1, v2], .box b3 [.bool b1.Char, v3, v4], .box b4 [.bool false, (.slice none 0 0), (.slice none 0 0)], .box b5 [.bool false, v8, v11], .own (rI .i64) v11 Data1, .fz (rI .i64) v1 a1.Shape, .fz (rI .i64) v2 a1.Data, .fz (rI .i64) v3 b1.Shape, .fz (rI .i64) v4 b1.Data, .own (rI .i64) v8 s2] Fr at hS
      refine c_seqS ?_
      refine cr3 hS rfl rfl rfl rfl rfl rfl ?_; clear hS
      intro tm hS
      refine c_cond hS rfl (fun hc => ?_) (fun hc => ?_)
      ·replace h6 := iteT hc h6
       refine wpC.skip ?_
       refine c_seqS ?_
       refine wpC.block ?_
       refine c_reg fun R hR => ?_
       refine pp2 hS rfl rfl rfl rfl ?_; clear hS
       intro tm hS
       obtain ⟨r8, hx12, h6⟩ := bindS h6
       refine o_call (Pc := fun _ res H => ∃ v12, res = v12 ∧ Kn wm H ([.own (rI .i64) v12 r8] ++ [.box b2 [.bool a1.Char, v1, v2], .box b3 [.bool b1.Char, v3, v4], .box b4 [.bool false, (.slice none 0 0), (.slice none 0 0)], .box b5 [.bool false, v8, v11], .own (rI .i64) v11 Data1, .fz (rI .i64) v1 a1.Shape, .fz (rI .i64) v2 a1.Data, .fz (rI .i64) v3 b1.Shape, .fz (rI .i64) v4 b1.Data, .own (rI .i64) v8 s2]) Fr) hS (.inl rfl) rfl (fun wm' hw1 hw2 => by
        obtain ⟨F2, kk_1, kk_2⟩ := hS.inv.lendR (La := [.fz (rI .i64) v8 s2]) (List.forall_mem_cons.mpr ⟨(.inr ⟨_, _, _, _, rfl, .inl (List.mem_of_getElem? (i := 9) rfl)⟩), (fun _ h => by cases h)⟩) hw1 hw2
        exact (wk48  s2 k1  v8 kk_1 hx12).mono fun res H2 ⟨v12, qq_1, qq_2⟩ => ⟨v12, qq_1, kk_2 _ _ (List.forall_mem_cons.mpr ⟨⟨_, _, _, _, rfl, fun _ _ _ _ h => h⟩, (fun _ h => by cases h)⟩) qq_2⟩) (fun wm' res H hw' hp => ?_)
       obtain ⟨v12, hres, hI⟩ := hp
       replace hres := hres.symm; subst hres
       replace hS : S wm 160 _ H ((110, v12) :: _) ([.own (rI .i64) v12 r8] ++ [.box b2 [.bool a1.Char, v1, v2], .box b3 [.bool b1.Char, v3, v4], .box b4 [.bool false, (.slice none 0 0), (.slice none 0 0)], .box b5 [.bool false, v8, v11], .own (rI .i64) v11 Data1, .fz (rI .i64) v1 a1.Shape, .fz (rI .i64) v2 a1.Data, .fz (rI .i64) v3 b1.Shape, .fz (rI .i64) v4 b1.Data, .own (rI .i64) v8 s2]) Fr := (hS.put rfl _).withK hI
       clear hI hw'
       refine pp1 hS rfl rfl ?_; clear hS
       intro tm hS
       refine o_nil (hR _ _ ?_)
       clear hR R
       refine cr1 hS rfl rfl ?_; clear hS
       intro tm hS
       refine c_seqS ?_
       refine cr1 hS rfl rfl ?_; clear hS
       intro tm hS
       replace hS := hS.frz (k := 0) rfl
       obtain ⟨k3, hw2, h6⟩ := bindS h6
       refine wpC.block ?_
       replace hS := hS.nilOwn rItem
       refine c_loop (I := fun (s : (List Am.Item) × Int) tm H => match (generalizing := false) s with | (l5, i1) => ∃ v13, S wm 160 tm H [(0, .string f1), (1, .string g1), (6, .pointer (some ⟨b2, 0, none⟩)), (7, .pointer (some ⟨b3, 0, none⟩)), (8, .pointer (some ⟨b4, 0, none⟩)), (10, .int .i64 (IntKind.i64.wrap ((a1.Shape.length : Int) - 1))), (11, .int .i64 m1), (13, v8), (14, .int .i64 (s1.length : Int)), (15, .int .i64 r7), (16, .pointer (some ⟨b5, 0, none⟩)), (17, .int .i64 k1), (18, v12), (19, v13), (20, .int .i64 i1)] [.box b2 [.bool a1.Char, v1, v2], .box b3 [.bool b1.Char, v3, v4], .box b4 [.bool false, (.slice none 0 0), (.slice none 0 0)], .box b5 [.bool false, v8, v11], .own rItem v13 l5, .fz (rI .i64) v1 a1.Shape, .fz (rI .i64) v2 a1.Data, .fz (rI .i64) v3 b1.Shape, .fz (rI .i64) v4 b1.Data, .own (rI .i64) v8 s2, .own (rI .i64) v11 Data1, .fz (rI .i64) v12 r8] Fr) hw2 (by refine Exists.intro (.slice none 0 0) ?_; change S wm 160 _ _ _ _ Fr; exact hS.keep (ka_cons rfl (ka_cons rfl (ka_cons rfl (ka_cons rfl (ka_cons rfl (ka_cons rfl (ka_cons rfl (ka_cons rfl (ka_cons rfl (ka_cons rfl (ka_cons rfl (ka_cons rfl (ka_cons rfl (ka_cons rfl (ka_cons rfl ka_nil))))))))))))))) (fun hI => (hI.pick [2, 3, 4, 5, 0, 7, 8, 9, 10, 11, 6, 1] rfl))) ?_
       clear hS
       intro s4 tm H c7 hS h8 hq8
       obtain ⟨l5, i1⟩ := s4
       obtain ⟨v13, hS⟩ := hS
       change S wm 160 tm H [(0, .string f1), (1, .string g1), (6, .pointer (some ⟨b2, 0, none⟩)), (7, .pointer (some ⟨b3, 0, none⟩)), (8, .pointer (some ⟨b4, 0, none⟩)), (10, .int .i64 (IntKind.i64.wrap ((a1.Shape.length : Int) - 1))), (11, .int .i64 m1), (13, v8), (14, .int .i64 (s1.length : Int)), (15, .int .i64 r7), (16, .pointer (some ⟨b5, 0, none⟩)), (17, .int .i64 k1), (18, v12), (19, v13), (20, .int .i64 i1)] [.box b2 [.bool a1.Char, v1, v2], .box b3 [.bool b1.Char, v3, v4], .box b4 [.bool false, (.slice none 0 0), (.slice none 0 0)], .box b5 [.bool false, v8, v11], .own rItem v13 l5, .fz (rI .i64) v1 a1.Shape, .fz (rI .i64) v2 a1.Data, .fz (rI .i64) v3 b1.Shape, .fz (rI .i64) v4 b1.Data, .own (rI .i64) v8 s2, .own (rI .i64) v11 Data1, .fz (rI .i64) v12 r8] Fr at hS
       refine c_seqS ?_
       refine cr3 hS rfl rfl rfl rfl rfl rfl ?_; clear hS
       intro tm hS
       refine c_cond hS rfl (fun hc => ?_) (fun hc => ?_)
       ·replace h8 := iteT hc h8
        refine wpC.skip ?_
        refine c_seqS ?_
        refine wpC.block ?_
        refine c_reg fun R hR => ?_
        refine pp1 hS rfl rfl ?_; clear hS
        intro tm hS
        refine o_ldA (k := 0) hS (.inl rfl) rfl rfl rfl (.inl rfl) Fu25 rfl Fs25 rfl ?_; clear hS
        intro tm hS
        refine pp4 hS rfl rfl rfl rfl rfl rfl rfl rfl ?_; clear hS
        intro tm hS
        obtain ⟨l6, hx13, h8⟩ := bindS h8
        refine o_sl (k := 11) (r := (rI .i64)) hS (.inl rfl) rfl rfl rfl Fu22 Fs3 rfl rfl hx13 ?_; clear hS
        intro v14 tm hS
        obtain ⟨r9, hx14, h8⟩ := bindS h8
        refine o_call hS (.inl rfl) rfl (fun wm' hw1 hw2 => wk49  a1 (IntKind.i64.wrap ((a1.Shape.length : Int) - 1)) i1 l6  v1 v2 v14 ((((hS.sel hw2).ad 0 rfl).ad 7 rfl).ad 6 rfl) hx14) (fun wm' res H hw' hp => ?_)
        obtain ⟨hres, hI⟩ := hp
        replace hres := hres.symm; subst hres
        replace hS : S wm 160 _ H ((124, .agg #[.int .i64 r9.n, .bool r9.char]) :: _) ([] ++ _) Fr := hS.after rfl hw' hI
        clear hI hw'
        refine o_ldA (k := 2) hS (.inl rfl) rfl rfl rfl (.inl rfl) Fu25 rfl Fs25 rfl ?_; clear hS
        intro tm hS
        refine pp3 hS rfl rfl rfl rfl rfl rfl ?_; clear hS
        intro tm hS
        obtain ⟨l7, hx15, h8⟩ := bindS h8
        refine o_sl (k := 12) (r := (rI .i64)) hS (.inl rfl) rfl rfl rfl Fu22 Fs3 rfl rfl hx15 ?_; clear hS
        intro v15 tm hS
        obtain ⟨r10, hx16, h8⟩ := bindS h8
        refine o_call hS (.inl rfl) rfl (fun wm' hw1 hw2 => wk49  b1 0 i1 l7  v3 v4 v15 ((((hS.sel hw2).ad 0 rfl).ad 10 rfl).ad 9 rfl) hx16) (fun wm' res H hw' hp => ?_)
        obtain ⟨hres, hI⟩ := hp
        replace hres := hres.symm; subst hres
        replace hS : S wm 160 _ H ((130, .agg #[.int .i64 r10.n, .bool r10.char]) :: _) ([] ++ _) Fr := hS.after rfl hw' hI
        clear hI hw'
        obtain ⟨⟨r11, r12⟩, hx17, h8⟩ := bindS h8
        refine o_call hS (.inl rfl) rfl (fun wm' hw1 hw2 => wk44  g1 r9 r10   (hS.sel hw2) hx17) (fun wm' res H hw' hp => ?_)
        obtain ⟨hres, hI⟩ := hp
        replace hres := hres.symm; subst hres
        replace hS : S wm 160 _ H ((131, .tuple #[.agg #[.int .i64 r11.n, .bool r11.char], .int .i64 r12]) :: _) ([] ++ _) Fr := hS.after rfl hw' hI
        clear hI hw'
        refine pp3 hS rfl rfl rfl rfl rfl rfl ?_; clear hS
        intro tm hS
        refine o_alloc hS (.inl rfl) rfl Fz83 (by decide) ?_; clear hS
        intro b6 tm H hS
        refine o_st (k := 0) hS (.inl rfl) rfl rfl rfl Fs83 rfl rfl (all_cons rfl (all_cons rfl all_nil)) rfl ?_; clear hS; try clear H
        intro H hS
        refine pp1 hS rfl rfl ?_; clear hS
        intro tm hS
        refine o_nil (hR _ _ ?_)
        clear hR R
        refine c_seqS ?_
        refine cr2 hS rfl rfl rfl rfl ?_; clear hS
        intro tm hS
        refine c_cond hS rfl (fun hc => ?_) (fun hc => ?_)
        ·replace h8 := iteT hc h8
         refine c_reg fun R hR => ?_
         refine o_build hS (.inl rfl) rfl Fb25 rfl .nil rfl ?_; clear hS
         intro tm hS
         refine pp1 hS rfl rfl ?_; clear hS
         intro tm hS
         refine o_st (k := 5) hS (.inl rfl) rfl rfl rfl Fs25 rfl rfl (all_cons rfl (all_cons rfl (all_cons rfl all_nil))) rfl ?_; clear hS; try clear H
         intro H hS
         refine pp1 hS rfl rfl ?_; clear hS
         intro tm hS
         refine o_nil (hR _ _ ?_)
         clear hR R
         refine wpC.ret ?_
         obtain rfl := Option.some.inj h8
         obtain rfl := hq8 _ rfl
         refine And.intro rfl ?_
         obtain rfl := leave h6
         obtain rfl := hq6 _ rfl
         refine And.intro rfl ?_
         obtain rfl := leave h0
         replace hS := hS.nilOwn (rI .i64)
         replace hS := hS.nilOwn (rI .i64)
         refine Exists.intro _ (And.intro (rs_cellA (k := 7) hS rfl rfl (.inl rfl) Fu25 rfl Fs25 rfl (rs_tmp hS rfl rs_nil)) ?_)
         have hI := hS.inv
         exact ⟨(.slice none 0 0), (.slice none 0 0), rfl, (((hI.pull 0 rfl).pull 1 rfl).take 2)⟩
        ·replace h8 := iteF hc h8
         refine wpC.skip ?_
         refine c_reg1 fun R hR => ?_
         refine pp1 hS rfl rfl ?_; clear hS
         intro tm hS
         refine o_ldA (k := 0) hS (.inl rfl) rfl rfl rfl (.inl rfl) Fu83 rfl Fs83 rfl ?_; clear hS
         intro tm hS
         refine o_lit (r := rItem) (l := [r11]) hS (.inl rfl) rfl Fl90 rfl rfl rfl (.cons rfl .nil) rfl rfl (ri_2 (rd_flat fun _ => rfl) ri_nil) rfl ?_; clear hS
         intro v16 tm H hS
         obtain ⟨l8, hx18, h8⟩ := bindS h8
         refine o_app (k1 := 8) (k2 := 0) (r := rItem) hS (.inl rfl) rfl rfl rfl rfl rfl (.inr (.inr rfl)) rfl Fe90_90 rfl hx18 ?_; clear hS
         intro v17 tm H hS
         refine pp1 hS rfl rfl ?_; clear hS
         intro tm hS
         refine o_nil (hR _ _ ?_)
         clear hR R
         refine cs3 hS rfl rfl rfl rfl rfl rfl ?_; clear hS
         intro tm hS
         obtain rfl := Option.some.inj h8
         refine ⟨_, rfl, ?_⟩
         refine Exists.intro v17 ?_; change S wm 160 _ _ _ _ Fr; exact hS.keep (ka_cons rfl (ka_cons rfl (ka_cons rfl (ka_cons rfl (ka_cons rfl (ka_cons rfl (ka_cons rfl (ka_cons rfl (ka_cons rfl (ka_cons rfl (ka_cons rfl (ka_cons rfl (ka_cons rfl (ka_cons rfl (ka_cons rfl ka_nil))))))))))))))) (fun hI => (hI.sub (sd (sd (sd (sd (sc (sc (sc (sc (sc (sc (sc (sc (sc (sc (sc (sc sn))))))))))))))))))
       ·replace h8 := iteF hc h8
        refine wpC.exit ?_
        refine seqX ?_
        obtain rfl := Option.some.inj h8
        obtain rfl := hq8 _ rfl
        refine And.intro rfl (blk_eq ?_)
        replace h6 := joinN h6
        refine c_reg fun R hR => ?_
        refine pp2 hS rfl rfl rfl rfl ?_; clear hS
        intro tm hS
        obtain ⟨⟨r13, r14⟩, hx19, h6⟩ := bindS h6
        refine o_call (Pc := fun _ res H => res = .tuple #[.agg #[.int .i64 r13.n, .bool r13.char], .int .i64 r14] ∧ Kn wm H ([.box b2 [.bool a1.Char, v1, v2], .box b3 [.bool b1.Char, v3, v4], .box b4 [.bool false, (.slice none 0 0), (.slice none 0 0)], .box b5 [.bool false, v8, v11], .own rItem v13 l5, .fz (rI .i64) v1 a1.Shape, .fz (rI .i64) v2 a1.Data, .fz (rI .i64) v3 b1.Shape, .fz (rI .i64) v4 b1.Data, .own (rI .i64) v8 s2, .own (rI .i64) v11 Data1, .fz (rI .i64) v12 r8]) Fr) hS (.inl rfl) rfl (fun wm' hw1 hw2 => by
         obtain ⟨F2, kk_1, kk_2⟩ := hS.inv.lend (La := [.fz rItem v13 l5]) (List.forall_mem_cons.mpr ⟨(.inr ⟨_, _, _, _, rfl, .inl (List.mem_of_getElem? (i := 4) rfl)⟩), (fun _ h => by cases h)⟩) hw1 hw2
         exact (wk50  f1 l5  v13 kk_1 hx19).mono fun res H2 ⟨qq_1, qq_2⟩ => ⟨qq_1, kk_2 _ qq_2⟩) (fun wm' res H hw' hp => ?_)
        obtain ⟨hres, hI⟩ := hp
        replace hres := hres.symm; subst hres
        replace hS : S wm 160 _ H ((145, .tuple #[.agg #[.int .i64 r13.n, .bool r13.char], .int .i64 r14]) :: _) ([.box b2 [.bool a1.Char, v1, v2], .box b3 [.bool b1.Char, v3, v4], .box b4 [.bool false, (.slice none 0 0), (.slice none 0 0)], .box b5 [.bool false, v8, v11], .own rItem v13 l5, .fz (rI .i64) v1 a1.Shape, .fz (rI .i64) v2 a1.Data, .fz (rI .i64) v3 b1.Shape, .fz (rI .i64) v4 b1.Data, .own (rI .i64) v8 s2, .own (rI .i64) v11 Data1, .fz (rI .i64) v12 r8]) Fr := (hS.put rfl _).withK hI
        clear hI hw'
        refine pp3 hS rfl rfl rfl rfl rfl rfl ?_; clear hS
        intro tm hS
        refine o_alloc hS (.inl rfl) rfl Fz83 (by decide) ?_; clear hS
        intro b7 tm H hS
        refine o_st (k := 0) hS (.inl rfl) rfl rfl rfl Fs83 rfl rfl (all_cons rfl (all_cons rfl all_nil)) rfl ?_; clear hS; try clear H
        intro H hS
        refine pp1 hS rfl rfl ?_; clear hS
        intro tm hS
        refine o_nil (hR _ _ ?_)
        clear hR R
        refine c_seqS ?_
        refine cr2 hS rfl rfl rfl rfl ?_; clear hS
        intro tm hS
        refine c_cond hS rfl (fun hc => ?_) (fun hc => ?_)
        ·replace h6 := iteT hc h6
         refine c_reg fun R hR => ?_
         refine o_build hS (.inl rfl) rfl Fb25 rfl .nil rfl ?_; clear hS
         intro tm hS
         refine pp1 hS rfl rfl ?_; clear hS
         intro tm hS
         refine o_st (k := 3) hS (.inl rfl) rfl rfl rfl Fs25 rfl rfl (all_cons rfl (all_cons rfl (all_cons rfl all_nil))) rfl ?_; clear hS; try clear H
         intro H hS
         refine pp1 hS rfl rfl ?_; clear hS
         intro tm hS
         refine o_nil (hR _ _ ?_)
         clear hR R
         refine wpC.ret ?_
         obtain rfl := Option.some.inj h6
         obtain rfl := hq6 _ rfl
         refine And.intro rfl ?_
         obtain rfl := leave h0
         replace hS := hS.nilOwn (rI .i64)
         replace hS := hS.nilOwn (rI .i64)
         refine Exists.intro _ (And.intro (rs_cellA (k := 5) hS rfl rfl (.inl rfl) Fu25 rfl Fs25 rfl (rs_tmp hS rfl rs_nil)) ?_)
         have hI := hS.inv
         exact ⟨(.slice none 0 0), (.slice none 0 0), rfl, (((hI.pull 0 rfl).pull 1 rfl).take 2)⟩
        ·replace h6 := iteF hc h6
         refine wpC.skip ?_
         refine c_reg1 fun R hR => ?_
         refine pp1 hS rfl rfl ?_; clear hS
         intro tm hS
         refine o_ld1 (k := 4) hS (.inl rfl) rfl rfl rfl (.inl rfl) Fu23 rfl rfl ?_; clear hS
         intro tm hS
         refine pp1 hS rfl rfl ?_; clear hS
         intro tm hS
         refine o_ld1 (k := 0) hS (.inl rfl) rfl rfl rfl (.inl rfl) Fu2 rfl rfl ?_; clear hS
         intro tm hS
         refine o_lit (r := (rI .i64)) (l := [r13.n]) hS (.inl rfl) rfl Fl23 rfl rfl rfl (.cons rfl .nil) rfl rfl (ri_1 (rd_flat fun _ => rfl) ri_nil) rfl ?_; clear hS
         intro v18 tm H hS
         obtain ⟨l9, hx20, h6⟩ := bindS h6
         refine o_app (k1 := 12) (k2 := 0) (r := (rI .i64)) hS (.inl rfl) rfl rfl rfl rfl rfl (.inr (.inr rfl)) rfl Fe23_23 rfl hx20 ?_; clear hS
         intro v19 tm H hS
         refine pp1 hS rfl rfl ?_; clear hS
         intro tm hS
         refine o_st (k := 5) hS (.inl rfl) rfl rfl rfl Fs23 (cells_one (hS.one (k := 12) rfl (.inr (.inl rfl)))) rfl (all_cons (hS.one (k := 12) rfl (.inr (.inl rfl))) all_nil) rfl ?_; clear hS; try clear H
         intro H hS
         refine o_nil (hR _ _ ?_)
         clear hR R
         refine cs3 hS rfl rfl rfl rfl rfl rfl ?_; clear hS
         intro tm hS
         obtain rfl := Option.some.inj h6
         refine ⟨_, rfl, ?_⟩
         refine Exists.intro v19 ?_; change S wm 160 _ _ _ _ Fr; exact hS.keep (k12 rfl rfl rfl rfl rfl rfl rfl rfl rfl rfl rfl rfl) (fun hI => (hI.pick [2, 3, 4, 5, 12, 7, 8, 9, 10, 11] rfl))
      ·replace h6 := iteF hc h6
       refine wpC.exit ?_
       refine seqX ?_
       obtain rfl := Option.some.inj h6
       obtain rfl := hq6 _ rfl
       refine And.intro rfl (blk_eq ?_)
       replace h0 := joinN h0
       refine c_reg fun R hR => ?_
       refine o_ldA (k := 3) hS (.inl rfl) rfl rfl rfl (.inl rfl) Fu25 rfl Fs25 rfl ?_; clear hS
       intro tm hS
       refine o_st (k := 2) hS (.inl rfl) rfl rfl rfl Fs25 rfl rfl (all_cons rfl (all_cons (hS.one (k := 9) rfl (.inr (.inl rfl))) (all_cons (hS.one (k := 4) rfl (.inr (.inl rfl))) all_nil))) rfl ?_; clear hS; try clear H
       intro H hS
       refine pp1 hS rfl rfl ?_; clear hS
       intro tm hS
       refine o_nil (hR _ _ ?_)
       clear hR R
       refine wpC.ret ?_
       obtain rfl := Option.some.inj h0
       refine Exists.intro _ (And.intro (rs_cellA (k := 2) hS rfl rfl (.inl rfl) Fu25 rfl Fs25 rfl (rs_tmp hS rfl rs_nil)) ?_)
       have hI := hS.inv
       exact ⟨v8, v11, rfl, (((hI.pull 4 rfl).pull 9 rfl).take 2)⟩
theorem wk21 {wm : Nat} {H : AHeap} {Fr : List Ent}  (a1 : Val) (b1 : Val)  (v1 : Value) (v2 : Value) (v3 : Value) (v4 : Value) (hI : Kn wm H [.fz (rI .i64) v1 a1.Shape, .fz (rI .i64) v2 a1.Data, .fz (rI .i64) v3 b1.Shape, .fz (rI .i64) v4 b1.Data] Fr) {r : Bool} (h0 : M.anamnesisref02_Same a1 b1 = some r) :
  wpF Try.prog ora wm 21 [.agg #[.bool a1.Char, v1, v2], .agg #[.bool b1.Char, v3, v4]] H (fun res H => res = .bool r ∧ Kn wm H [] Fr) := by
 unfold M.anamnesisref02_Same at h0
 refine f_enter (n := 66) Try.func21 rfl (by simp) hI rfl rfl rfl fun tm hS => ?_
 clear hI
 refine c_reg fun R hR => ?_
 refine o_box hS (.inl rfl) rfl rfl rfl (all_cons rfl (all_cons (hS.one (k := 0) rfl (.inl rfl)) (all_cons (hS.one (k := 1) rfl (.inl rfl)) all_nil))) ?_; clear hS
 intro b2 tm H hS
 refine o_box hS (.inl rfl) rfl rfl rfl (all_cons rfl (all_cons (hS.one (k := 3) rfl (.inl rfl)) (all_cons (hS.one (k := 4) rfl (.inl rfl)) all_nil))) ?_; clear hS
 intro b3 tm H hS
 refine pp1 hS rfl rfl ?_; clear hS
 intro tm hS
 refine o_nil (hR _ _ ?_)
 clear hR R
 refine c_seqS ?_
 refine c_reg fun R hR => ?_
 refine pp1 hS rfl rfl ?_; clear hS
 intro tm hS
 refine o_ld1 (k := 1) hS (.inl rfl) rfl rfl rfl (.inl rfl) Fu4 rfl rfl ?_; clear hS
 intro tm hS
 refine pp1 hS rfl rfl ?_; clear hS
 intro tm hS
 refine o_ld1 (k := 0) hS (.inl rfl) rfl rfl rfl (.inl rfl) Fu4 rfl rfl ?_; clear hS
 intro tm hS
 refine pp2 hS rfl rfl rfl rfl ?_; clear hS
 intro tm hS
 obtain ⟨c1, hc1⟩ : ∃ x : Bool, x = ((!(a1.Char == b1.Char)) || ((a1.Shape.length : Int) != (b1.Shape.length : Int))) := ⟨_, rfl⟩
 refine o_cutN 8 (J := fun tm H => S wm 66 tm H [(20, .bool c1), (2, .pointer (some ⟨b2, 0, none⟩)), (3, .pointer (some ⟨b3, 0, none⟩))] [.box b3 [.bool b1.Char, v3, v4], .box b2 [.bool a1.Char, v1, v2], .fz (rI .i64) v1 a1.Shape, .fz (rI .i64) v2 a1.Data, .fz (rI .i64) v3 b1.Shape, .fz (rI .i64) v4 b1.Data] Fr) ?_ ?_
 ·rcases Bool.eq_false_or_eq_true (!(a1.Char == b1.Char)) with hg1 | hg1
  ·refine o_skip hS rfl rfl rfl hg1 ?_; clear hS
   intro tm hS
   refine o_skip hS rfl rfl rfl hg1 ?_; clear hS
   intro tm hS
   refine o_skip hS rfl rfl rfl hg1 ?_; clear hS
   intro tm hS
   refine o_skip hS rfl rfl rfl hg1 ?_; clear hS
   intro tm hS
   refine o_skip hS rfl rfl rfl hg1 ?_; clear hS
   intro tm hS
   refine o_skip hS rfl rfl rfl hg1 ?_; clear hS
   intro tm hS
   refine o_skip hS rfl rfl rfl hg1 ?_; clear hS
   intro tm hS
   refine o_pickT hS (.inl rfl) rfl rfl hg1 rfl ?_; clear hS
   intro tm hS
   have hc1 : c1 = true := hc1.trans (by rw [hg1]; first | rfl | simp)
   subst hc1
   exact o_nil (hS.keep (k3 rfl rfl rfl) (fun hI => (hI.sub (sc (sc (sc (sc (sc (sc sn)))))))))
  ·refine o_pure hS (.inr ⟨_, _, _, _, rfl, rfl, rfl, hg1⟩) rfl rfl ?_; clear hS
   intro tm hS
   refine o_ld1 (k := 1) hS (.inr ⟨_, _, _, _, rfl, rfl, rfl, hg1⟩) rfl rfl rfl (.inl rfl) Fu22 rfl rfl ?_; clear hS
   intro tm hS
   refine o_len (k := 2) (r := (rI .i64)) hS (.inr ⟨_, _, _, _, rfl, rfl, rfl, hg1⟩) rfl rfl rfl (.inl rfl) Fu22 rfl ?_; clear hS
   intro tm hS
   refine o_pure hS (.inr ⟨_, _, _, _, rfl, rfl, rfl, hg1⟩) rfl rfl ?_; clear hS
   intro tm hS
   refine o_ld1 (k := 0) hS (.inr ⟨_, _, _, _, rfl, rfl, rfl, hg1⟩) rfl rfl rfl (.inl rfl) Fu22 rfl rfl ?_; clear hS
   intro tm hS
   refine o_len (k := 4) (r := (rI .i64)) hS (.inr ⟨_, _, _, _, rfl, rfl, rfl, hg1⟩) rfl rfl rfl (.inl rfl) Fu22 rfl ?_; clear hS
   intro tm hS
   refine o_pure hS (.inr ⟨_, _, _, _, rfl, rfl, rfl, hg1⟩) rfl rfl ?_; clear hS
   intro tm hS
   refine o_pickF hS (.inl rfl) rfl rfl hg1 rfl ?_; clear hS
   intro tm hS
   have hc1 : c1 = ((a1.Shape.length : Int) != (b1.Shape.length : Int)) := hc1.trans (by rw [hg1]; first | rfl | simp)
   subst hc1
   exact o_nil (hS.keep (k3 rfl rfl rfl) (fun hI => (hI.sub (sc (sc (sc (sc (sc (sc sn)))))))))
 intro tm H hS
 subst hc1
 refine pp1 hS rfl rfl ?_; clear hS
 intro tm hS
 obtain ⟨c2, hc2⟩ : ∃ x : Bool, x = (((!(a1.Char == b1.Char)) || ((a1.Shape.length : Int) != (b1.Shape.length : Int))) || ((a1.Data.length : Int) != (b1.Data.length : Int))) := ⟨_, rfl⟩
 refine o_cutN 8 (J := fun tm H => S wm 66 tm H [(29, .bool c2), (2, .pointer (some ⟨b2, 0, none⟩)), (3, .pointer (some ⟨b3, 0, none⟩))] [.box b3 [.bool b1.Char, v3, v4], .box b2 [.bool a1.Char, v1, v2], .fz (rI .i64) v1 a1.Shape, .fz (rI .i64) v2 a1.Data, .fz (rI .i64) v3 b1.Shape, .fz (rI .i64) v4 b1.Data] Fr) ?_ ?_
 ·rcases Bool.eq_false_or_eq_true ((!(a1.Char == b1.Char)) || ((a1.Shape.length : Int) != (b1.Shape.length : Int))) with hg2 | hg2
  ·refine o_skip hS rfl rfl rfl hg2 ?_; clear hS
   intro tm hS
   refine o_skip hS rfl rfl rfl hg2 ?_; clear hS
   intro tm hS
   refine o_skip hS rfl rfl rfl hg2 ?_; clear hS
   intro tm hS
   refine o_skip hS rfl rfl rfl hg2 ?_; clear hS
   intro tm hS
   refine o_skip hS rfl rfl rfl hg2 ?_; clear hS
   intro tm hS
   refine o_skip hS rfl rfl rfl hg2 ?_; clear hS
   intro tm hS
   refine o_skip hS rfl rfl rfl hg2 ?_; clear hS
   intro tm hS
   refine o_pickT hS (.inl rfl) rfl rfl hg2 rfl ?_; clear hS
   intro tm hS
   have hc2 : c2 = true := hc2.trans (by rw [hg2]; first | rfl | simp)
   subst hc2
   exact o_nil (hS.keep (k3 rfl rfl rfl) (fun hI => (hI.sub (sc (sc (sc (sc (sc (sc sn)))))))))
  ·refine o_pure hS (.inr ⟨_, _, _, _, rfl, rfl, rfl, hg2⟩) rfl rfl ?_; clear hS
   intro tm hS
   refine o_ld1 (k := 1) hS (.inr ⟨_, _, _, _, rfl, rfl, rfl, hg2⟩) rfl rfl rfl (.inl rfl) Fu23 rfl rfl ?_; clear hS
   intro tm hS
   refine o_len (k := 3) (r := (rI .i64)) hS (.inr ⟨_, _, _, _, rfl, rfl, rfl, hg2⟩) rfl rfl rfl (.inl rfl) Fu23 rfl ?_; clear hS
   intro tm hS
   refine o_pure hS (.inr ⟨_, _, _, _, rfl, rfl, rfl, hg2⟩) rfl rfl ?_; clear hS
   intro tm hS
   refine o_ld1 (k := 0) hS (.inr ⟨_, _, _, _, rfl, rfl, rfl, hg2⟩) rfl rfl rfl (.inl rfl) Fu23 rfl rfl ?_; clear hS
   intro tm hS
   refine o_len (k := 5) (r := (rI .i64)) hS (.inr ⟨_, _, _, _, rfl, rfl, rfl, hg2⟩) rfl rfl rfl (.inl rfl) Fu23 rfl ?_; clear hS
   intro tm hS
   refine o_pure hS (.inr ⟨_, _, _, _, rfl, rfl, rfl, hg2⟩) rfl rfl ?_; clear hS
   intro tm hS
   refine o_pickF hS (.inl rfl) rfl rfl hg2 rfl ?_; clear hS
   intro tm hS
   have hc2 : c2 = ((a1.Data.length : Int) != (b1.Data.length : Int)) := hc2.trans (by rw [hg2]; first | rfl | simp)
   subst hc2
   exact o_nil (hS.keep (k3 rfl rfl rfl) (fun hI => (hI.sub (sc (sc (sc (sc (sc (sc sn)))))))))
 intro tm H hS
 subst hc2
 refine o_nil (hR _ _ ?_)
 clear hR R
 refine c_cond hS rfl (fun hc => ?_) (fun hc => ?_)
 ·replace h0 := iteT hc h0
  refine cr1 hS rfl rfl ?_; clear hS
  intro tm hS
  refine wpC.ret ?_
  obtain rfl := Option.some.inj h0
  refine Exists.intro _ (And.intro (rs_tmp hS rfl rs_nil) ?_)
  have hI := hS.inv
  exact ⟨rfl, (hI.sub sn)⟩
 ·replace h0 := iteF hc h0
  refine wpC.skip ?_
  refine c_seqS ?_
  refine cr1 hS rfl rfl ?_; clear hS
  intro tm hS
  obtain ⟨k1, hw1, h0⟩ := bindS h0
  refine wpC.block ?_
  refine c_loop (I := fun (s : Int) tm H => match (generalizing := false) s with | i1 => S wm 66 tm H [(2, .pointer (some ⟨b2, 0, none⟩)), (3, .pointer (some ⟨b3, 0, none⟩)), (5, .int .i64 i1)] [.box b2 [.bool a1.Char, v1, v2], .box b3 [.bool b1.Char, v3, v4], .fz (rI .i64) v1 a1.Shape, .fz (rI .i64) v2 a1.Data, .fz (rI .i64) v3 b1.Shape, .fz (rI .i64) v4 b1.Data] Fr) hw1 (by change S wm 66 _ _ _ _ Fr; exact hS.keep (k3 rfl rfl rfl) (fun hI => (((((((hI.pull 5 rfl).pull 5 rfl).pull 5 rfl).pull 5 rfl).pull 4 rfl).pull 5 rfl).take 6))) ?_
  clear hS
  intro i1 tm H c3 hS h1 hq1
  change S wm 66 tm H [(2, .pointer (some ⟨b2, 0, none⟩)), (3, .pointer (some ⟨b3, 0, none⟩)), (5, .int .i64 i1)] [.box b2 [.bool a1.Char, v1, v2], .box b3 [.bool b1.Char, v3, v4], .fz (rI .i64) v1 a1.Shape, .fz (rI .i64) v2 a1.Data, .fz (rI .i64) v3 b1.Shape, .fz (rI .i64) v4 b1.Data] Fr at hS
  refine c_seqS ?_
  refine c_reg fun R hR => ?_
  refine pp2 hS rfl rfl rfl rfl ?_; clear hS
  intro tm hS
  refine o_ld1 (k := 0) hS (.inl rfl) rfl rfl rfl (.inl rfl) Fu22 rfl rfl ?_; clear hS
  intro tm hS
  refine o_len (k := 2) (r := (rI .i64)) hS (.inl rfl) rfl rfl rfl (.inl rfl) Fu22 rfl ?_; clear hS
  intro tm hS
  refine pp1 hS rfl rfl ?_; clear hS
  intro tm hS
  refine o_nil (hR _ _ ?_)
  clear hR R
  refine c_cond hS rfl (fun hc => ?_) (fun hc => ?_)
  ·replace h1 := iteT hc h1
   refine wpC.skip ?_
   refine c_seqS ?_
   refine wpC.block ?_
   refine c_reg fun R hR => ?_
   refine pp1 hS rfl rfl ?_; clear hS
   intro tm hS
   refine o_ld1 (k := 0) hS (.inl rfl) rfl rfl rfl (.inl rfl) Fu22 rfl rfl ?_; clear hS
   intro tm hS
   refine pp1 hS rfl rfl ?_; clear hS
   intro tm hS
   obtain ⟨y1, hx1, h1⟩ := bindS h1
   refine o_ixA (k := 2) (r := (rI .i64)) hS (.inl rfl) rfl rfl rfl rfl (.inl rfl) Fu22 Fs3 hx1 ?_; clear hS
   intro tm hS
   refine o_ldF (r := (rI .i64)) (k := 2) hS (.inl rfl) rfl rfl rfl (.inl rfl) hx1 Fu3 rfl (flat_I _) rfl ?_; clear hS
   intro tm hS
   refine pp1 hS rfl rfl ?_; clear hS
   intro tm hS
   refine o_ld1 (k := 1) hS (.inl rfl) rfl rfl rfl (.inl rfl) Fu22 rfl rfl ?_; clear hS
   intro tm hS
   refine pp1 hS rfl rfl ?_; clear hS
   intro tm hS
   obtain ⟨y2, hx2, h1⟩ := bindS h1
   refine o_ixA (k := 4) (r := (rI .i64)) hS (.inl rfl) rfl rfl rfl rfl (.inl rfl) Fu22 Fs3 hx2 ?_; clear hS
   intro tm hS
   refine o_ldF (r := (rI .i64)) (k := 4) hS (.inl rfl) rfl rfl rfl (.inl rfl) hx2 Fu3 rfl (flat_I _) rfl ?_; clear hS
   intro tm hS
   refine pp1 hS rfl rfl ?_; clear hS
   intro tm hS
   refine o_nil (hR _ _ ?_)
   clear hR R
   refine c_cond hS rfl (fun hc => ?_) (fun hc => ?_)
   ·replace h1 := iteT hc h1
    refine cr1 hS rfl rfl ?_; clear hS
    intro tm hS
    refine wpC.ret ?_
    obtain rfl := Option.some.inj h1
    obtain rfl := hq1 _ rfl
    refine And.intro rfl ?_
    obtain rfl := leave h0
    refine Exists.intro _ (And.intro (rs_tmp hS rfl rs_nil) ?_)
    have hI := hS.inv
    exact ⟨rfl, (hI.sub sn)⟩
   ·replace h1 := iteF hc h1
    refine wpC.skip ?_
    refine cs3 hS rfl rfl rfl rfl rfl rfl ?_; clear hS
    intro tm hS
    obtain rfl := Option.some.inj h1
    refine ⟨_, rfl, ?_⟩
    change S wm 66 _ _ _ _ Fr; exact hS.keep (k3 rfl rfl rfl) (fun hI => (hI.sub (sc (sc (sc (sc (sc (sc sn))))))))
  ·replace h1 := iteF hc h1
   refine wpC.exit ?_
   refine seqX ?_
   obtain rfl := Option.some.inj h1
   obtain rfl := hq1 _ rfl
   refine And.intro rfl (blk_eq ?_)
   replace h0 := joinN h0
   refine c_seqS ?_
   refine cr1 hS rfl rfl ?_; clear hS
   intro tm hS
   obtain ⟨k2, hw2, h0⟩ := bindS h0
   refine wpC.block ?_
   refine c_loop (I := fun (s : Int) tm H => match (generalizing := false) s with | i2 => S wm 66 tm H [(2, .pointer (some ⟨b2, 0, none⟩)), (3, .pointer (some ⟨b3, 0, none⟩)), (6, .int .i64 i2)] [.box b2 [.bool a1.Char, v1, v2], .box b3 [.bool b1.Char, v3, v4], .fz (rI .i64) v1 a1.Shape, .fz (rI .i64) v2 a1.Data, .fz (rI .i64) v3 b1.Shape, .fz (rI .i64) v4 b1.Data] Fr) hw2 (by change S wm 66 _ _ _ _ Fr; exact hS.keep (k3 rfl rfl rfl) (fun hI => (hI.sub (sc (sc (sc (sc (sc (sc sn))))))))) ?_
   clear hS
   intro i2 tm H c4 hS h3 hq3
   change S wm 66 tm H [(2, .pointer (some ⟨b2, 0, none⟩)), (3, .pointer (some ⟨b3, 0, none⟩)), (6, .int .i64 i2)] [.box b2 [.bool a1.Char, v1, v2], .box b3 [.bool b1.Char, v3, v4], .fz (rI .i64) v1 a1.Shape, .fz (rI .i64) v2 a1.Data, .fz (rI .i64) v3 b1.Shape, .fz (rI .i64) v4 b1.Data] Fr at hS
   refine c_seqS ?_
   refine c_reg fun R hR => ?_
   refine pp2 hS rfl rfl rfl rfl ?_; clear hS
   intro tm hS
   refine o_ld1 (k := 0) hS (.inl rfl) rfl rfl rfl (.inl rfl) Fu23 rfl rfl ?_; clear hS
   intro tm hS
   refine o_len (k := 3) (r := (rI .i64)) hS (.inl rfl) rfl rfl rfl (.inl rfl) Fu23 rfl ?_; clear hS
   intro tm hS
   refine pp1 hS rfl rfl ?_; clear hS
   intro tm hS
   refine o_nil (hR _ _ ?_)
   clear hR R
   refine c_cond hS rfl (fun hc => ?_) (fun hc => ?_)
   ·replace h3 := iteT hc h3
    refine wpC.skip ?_
    refine c_seqS ?_
    refine wpC.block ?_
    refine c_reg fun R hR => ?_
    refine pp1 hS rfl rfl ?_; clear hS
    intro tm hS
    refine o_ld1 (k := 0) hS (.inl rfl) rfl rfl rfl (.inl rfl) Fu23 rfl rfl ?_; clear hS
    intro tm hS
    refine pp1 hS rfl rfl ?_; clear hS
    intro tm hS
    obtain ⟨y3, hx3, h3⟩ := bindS h3
    refine o_ixA (k := 3) (r := (rI .i64)) hS (.inl rfl) rfl rfl rfl rfl (.inl rfl) Fu23 Fs2 hx3 ?_; clear hS
    intro tm hS
    refine o_ldF (r := (rI .i64)) (k := 3) hS (.inl rfl) rfl rfl rfl (.inl rfl) hx3 Fu2 rfl (flat_I _) rfl ?_; clear hS
    intro tm hS
    refine pp1 hS rfl rfl ?_; clear hS
    intro tm hS
    refine o_ld1 (k := 1) hS (.inl rfl) rfl rfl rfl (.inl rfl) Fu23 rfl rfl ?_; clear hS
    intro tm hS
    refine pp1 hS rfl rfl ?_; clear hS
    intro tm hS
    obtain ⟨y4, hx4, h3⟩ := bindS h3
    refine o_ixA (k := 5) (r := (rI .i64)) hS (.inl rfl) rfl rfl rfl rfl (.inl rfl) Fu23 Fs2 hx4 ?_; clear hS
    intro tm hS
    refine o_ldF (r := (rI .i64)) (k := 5) hS (.inl rfl) rfl rfl rfl (.inl rfl) hx4 Fu2 rfl (flat_I _) rfl ?_; clear hS
    intro tm hS
    refine pp1 hS rfl rfl ?_; clear hS
    intro tm hS
    refine o_nil (hR _ _ ?_)
    clear hR R
    refine c_cond hS rfl (fun hc => ?_) (fun hc => ?_)
    ·replace h3 := iteT hc h3
     refine cr1 hS rfl rfl ?_; clear hS
     intro tm hS
     refine wpC.ret ?_
     obtain rfl := Option.some.inj h3
     obtain rfl := hq3 _ rfl
     refine And.intro rfl ?_
     obtain rfl := leave h0
     refine Exists.intro _ (And.intro (rs_tmp hS rfl rs_nil) ?_)
     have hI := hS.inv
     exact ⟨rfl, (hI.sub sn)⟩
    ·replace h3 := iteF hc h3
     refine wpC.skip ?_
     refine cs3 hS rfl rfl rfl rfl rfl rfl ?_; clear hS
     intro tm hS
     obtain rfl := Option.some.inj h3
     refine ⟨_, rfl, ?_⟩
     change S wm 66 _ _ _ _ Fr; exact hS.keep (k3 rfl rfl rfl) (fun hI => (hI.sub (sc (sc (sc (sc (sc (sc sn))))))))
   ·replace h3 := iteF hc h3
    refine wpC.exit ?_
    refine seqX ?_
    obtain rfl := Option.some.inj h3
    obtain rfl := hq3 _ rfl
    refine And.intro rfl (blk_eq ?_)
    replace h0 := joinN h0
    refine cr1 hS rfl rfl ?_; clear hS
    intro tm hS
    refine wpC.ret ?_
    obtain rfl := Option.some.inj h0
    refine Exists.intro _ (And.intro (rs_tmp hS rfl rs_nil) ?_)
    have hI := hS.inv
    exact ⟨rfl, (hI.sub sn)⟩
theorem wk18 {wm : Nat} {H : AHeap} {Fr : List Ent}  (v1 : Val) (e1 : Int) (w1 : Val) (f1 : Int)  (v2 : Value) (v3 : Value) (v4 : Value) (v5 : Value) (hI : Kn wm H [.fz (rI .i64) v2 v1.Shape, .fz (rI .i64) v3 v1.Data, .fz (rI .i64) v4 w1.Shape, .fz (rI .i64) v5 w1.Data] Fr) {r : Bool} (h0 : M.anamnesislaw12_told v1 e1 w1 f1 = some r) :
  wpF Try.prog ora wm 18 [.agg #[.bool v1.Char, v2, v3], .int .i64 e1, .agg #[.bool w1.Char, v4, v5], .int .i64 f1] H (fun res H => res = .bool r ∧ Kn wm H [] Fr) := by
 unfold M.anamnesislaw12_told at h0
 refine f_enter (n := 17) Try.func18 rfl (by simp) hI rfl rfl rfl fun tm hS => ?_
 clear hI
 refine c_reg fun R hR => ?_
 refine o_box hS (.inl rfl) rfl rfl rfl (all_cons rfl (all_cons (hS.one (k := 0) rfl (.inl rfl)) (all_cons (hS.one (k := 1) rfl (.inl rfl)) all_nil))) ?_; clear hS
 intro b1 tm H hS
 refine o_box hS (.inl rfl) rfl rfl rfl (all_cons rfl (all_cons (hS.one (k := 3) rfl (.inl rfl)) (all_cons (hS.one (k := 4) rfl (.inl rfl)) all_nil))) ?_; clear hS
 intro b2 tm H hS
 refine pp1 hS rfl rfl ?_; clear hS
 intro tm hS
 refine o_nil (hR _ _ ?_)
 clear hR R
 refine c_reg fun R hR => ?_
 refine pp4 hS rfl rfl rfl rfl rfl rfl rfl rfl ?_; clear hS
 intro tm hS
 obtain ⟨c1, hc1, h0⟩ := bindS h0
 refine o_cutN 4 (J := fun tm H => S wm 17 tm H [(16, .bool c1)] [] Fr) ?_ ?_
 ·rcases Bool.eq_false_or_eq_true (e1 == f1) with hg1 | hg1
  ·replace hc1 := iteT hg1 hc1
   refine o_ldA (k := 1) hS (.inr ⟨_, _, _, _, rfl, rfl, rfl, hg1⟩) rfl rfl rfl (.inl rfl) Fu25 rfl Fs25 rfl ?_; clear hS
   intro tm hS
   refine o_ldA (k := 0) hS (.inr ⟨_, _, _, _, rfl, rfl, rfl, hg1⟩) rfl rfl rfl (.inl rfl) Fu25 rfl Fs25 rfl ?_; clear hS
   intro tm hS
   obtain ⟨r1, hx1, hc1⟩ := bindS hc1
   refine o_call hS (.inr ⟨_, _, _, _, rfl, rfl, rfl, hg1⟩) rfl (fun wm' hw1 hw2 => wk21  v1 w1  v2 v3 v4 v5 (((((hS.sel hw2).ad 5 rfl).ad 4 rfl).ad 3 rfl).ad 2 rfl) hx1) (fun wm' res H hw' hp => ?_)
   obtain ⟨hres, hI⟩ := hp
   replace hres := hres.symm; subst hres
   replace hS : S wm 17 _ H ((15, .bool r1) :: _) ([] ++ _) Fr := hS.after rfl hw' hI
   clear hI hw'
   refine o_pickT hS (.inl rfl) rfl rfl hg1 rfl ?_; clear hS
   intro tm hS
   obtain rfl := Option.some.inj hc1
   exact o_nil (hS.keep (ka_cons rfl ka_nil) (fun hI => (hI.sub sn)))
  ·replace hc1 := iteF hg1 hc1
   refine o_skip hS rfl rfl rfl hg1 ?_; clear hS
   intro tm hS
   refine o_skip hS rfl rfl rfl hg1 ?_; clear hS
   intro tm hS
   refine o_skip hS rfl rfl rfl hg1 ?_; clear hS
   intro tm hS
   refine o_pickF hS (.inl rfl) rfl rfl hg1 rfl ?_; clear hS
   intro tm hS
   obtain rfl := Option.some.inj hc1
   exact o_nil (hS.keep (ka_cons rfl ka_nil) (fun hI => (hI.sub sn)))
 intro tm H hS
 refine pp1 hS rfl rfl ?_; clear hS
 intro tm hS
 refine o_nil (hR _ _ ?_)
 clear hR R
 refine wpC.ret ?_
 obtain rfl := Option.some.inj h0
 refine Exists.intro _ (And.intro (rs_tmp hS rfl rs_nil) ?_)
 have hI := hS.inv
 exact ⟨rfl, (hI.sub sn)⟩
theorem wk4 {wm : Nat} {H : AHeap} {Fr : List Ent} (ho9 : ora 9 = true) (ho72 : ora 72 = false) (ho100 : ora 100 = false) (f1 : ByteArray) (g1 : ByteArray) (v1 : Val) (w1 : Val)  (v2 : Value) (v3 : Value) (v4 : Value) (v5 : Value) (hI : Kn wm H [.fz (rI .i64) v2 v1.Shape, .fz (rI .i64) v3 v1.Data, .fz (rI .i64) v4 w1.Shape, .fz (rI .i64) v5 w1.Data] Fr) {r : Bool} (h0 : M.anamnesislaw12_OverTwo f1 g1 v1 w1 = some r) :
  wpF Try.prog ora wm 4 [.string f1, .string g1, .agg #[.bool v1.Char, v2, v3], .agg #[.bool w1.Char, v4, v5]] H (fun res H => res = .bool r ∧ Kn wm H [] Fr) := by
 unfold M.anamnesislaw12_OverTwo at h0
 refine f_enter (n := 71) Try.func4 rfl (by simp) hI rfl rfl rfl fun tm hS => ?_
 clear hI
 refine c_reg fun R hR => ?_
 refine o_box hS (.inl rfl) rfl rfl rfl (all_cons rfl (all_cons (hS.one (k := 0) rfl (.inl rfl)) (all_cons (hS.one (k := 1) rfl (.inl rfl)) all_nil))) ?_; clear hS
 intro b1 tm H hS
 refine o_box hS (.inl rfl) rfl rfl rfl (all_cons rfl (all_cons (hS.one (k := 3) rfl (.inl rfl)) (all_cons (hS.one (k := 4) rfl (.inl rfl)) all_nil))) ?_; clear hS
 intro b2 tm H hS
 refine pp1 hS rfl rfl ?_; clear hS
 intro tm hS
 refine o_nil (hR _ _ ?_)
 clear hR R
 refine c_seqS ?_
 refine c_reg fun R hR => ?_
 refine o_ldA (k := 1) hS (.inl rfl) rfl rfl rfl (.inl rfl) Fu25 rfl Fs25 rfl ?_; clear hS
 intro tm hS
 refine pp1 hS rfl rfl ?_; clear hS
 intro tm hS
 obtain ⟨r1, hx1, h0⟩ := bindS h0
 refine o_call hS (.inl rfl) rfl (fun wm' hw1 hw2 => wk13  v1 f1  v2 v3 (((hS.sel hw2).ad 3 rfl).ad 2 rfl) hx1) (fun wm' res H hw' hp => ?_)
 obtain ⟨hres, hI⟩ := hp
 replace hres := hres.symm; subst hres
 replace hS : S wm 71 _ H ((19, .bool r1) :: _) ([] ++ _) Fr := hS.after rfl hw' hI
 clear hI hw'
 refine pp1 hS rfl rfl ?_; clear hS
 intro tm hS
 obtain ⟨c1, hc1, h0⟩ := bindS h0
 refine o_cutN 4 (J := fun tm H => S wm 71 tm H [(24, .bool c1), (0, .string f1), (1, .string g1), (6, .pointer (some ⟨b1, 0, none⟩)), (7, .pointer (some ⟨b2, 0, none⟩))] [.box b2 [.bool w1.Char, v4, v5], .box b1 [.bool v1.Char, v2, v3], .fz (rI .i64) v2 v1.Shape, .fz (rI .i64) v3 v1.Data, .fz (rI .i64) v4 w1.Shape, .fz (rI .i64) v5 w1.Data] Fr) ?_ ?_
 ·rcases Bool.eq_false_or_eq_true r1 with hg1 | hg1
  ·replace hc1 := iteT hg1 hc1
   refine o_skip hS rfl rfl rfl hg1 ?_; clear hS
   intro tm hS
   refine o_skip hS rfl rfl rfl hg1 ?_; clear hS
   intro tm hS
   refine o_skip hS rfl rfl rfl hg1 ?_; clear hS
   intro tm hS
   refine o_pickT hS (.inl rfl) rfl rfl hg1 rfl ?_; clear hS
   intro tm hS
   obtain rfl := Option.some.inj hc1
   exact o_nil (hS.keep (k5 rfl rfl rfl rfl rfl) (fun hI => (hI.sub (sc (sc (sc (sc (sc (sc sn)))))))))
  ·replace hc1 := iteF hg1 hc1
   refine o_ldA (k := 0) hS (.inr ⟨_, _, _, _, rfl, rfl, rfl, hg1⟩) rfl rfl rfl (.inl rfl) Fu25 rfl Fs25 rfl ?_; clear hS
   intro tm hS
   refine o_pure hS (.inr ⟨_, _, _, _, rfl, rfl, rfl, hg1⟩) rfl rfl ?_; clear hS
   intro tm hS
   obtain ⟨r2, hx2, hc1⟩ := bindS hc1
   refine o_call hS (.inr ⟨_, _, _, _, rfl, rfl, rfl, hg1⟩) rfl (fun wm' hw1 hw2 => wk13  w1 g1  v4 v5 (((hS.sel hw2).ad 5 rfl).ad 4 rfl) hx2) (fun wm' res H hw' hp => ?_)
   obtain ⟨hres, hI⟩ := hp
   replace hres := hres.symm; subst hres
   replace hS : S wm 71 _ H ((23, .bool r2) :: _) ([] ++ _) Fr := hS.after rfl hw' hI
   clear hI hw'
   refine o_pickF hS (.inl rfl) rfl rfl hg1 rfl ?_; clear hS
   intro tm hS
   obtain rfl := Option.some.inj hc1
   exact o_nil (hS.keep (k5 rfl rfl rfl rfl rfl) (fun hI => (hI.sub (sc (sc (sc (sc (sc (sc sn)))))))))
 intro tm H hS
 refine o_nil (hR _ _ ?_)
 clear hR R
 refine c_cond hS rfl (fun hc => ?_) (fun hc => ?_)
 ·replace h0 := iteT hc h0
  refine c_reg fun R hR => ?_
  refine o_call hS (.inl rfl) rfl (fun wm' hw1 hw2 => wpF.told ho9 (Q := fun v H' => v = .bool true ∧ H' = H) ⟨rfl, rfl⟩) (fun wm' res H hw' hp => ?_)
  obtain ⟨rfl, rfl⟩ := hp
  replace hS := hS.put (d := 25) rfl (.bool true)
  clear hw'
  refine pp1 hS rfl rfl ?_; clear hS
  intro tm hS
  refine o_nil (hR _ _ ?_)
  clear hR R
  refine wpC.ret ?_
  obtain rfl := Option.some.inj h0
  refine Exists.intro _ (And.intro (rs_tmp hS rfl rs_nil) ?_)
  have hI := hS.inv
  exact ⟨rfl, (hI.sub sn)⟩
 ·replace h0 := iteF hc h0
  refine wpC.skip ?_
  refine c_reg fun R hR => ?_
  refine pp1 hS rfl rfl ?_; clear hS
  intro tm hS
  refine o_ldA (k := 1) hS (.inl rfl) rfl rfl rfl (.inl rfl) Fu25 rfl Fs25 rfl ?_; clear hS
  intro tm hS
  refine o_ldA (k := 0) hS (.inl rfl) rfl rfl rfl (.inl rfl) Fu25 rfl Fs25 rfl ?_; clear hS
  intro tm hS
  obtain ⟨⟨r3, r4⟩, hx3, h0⟩ := bindS h0
  refine o_call hS (.inl rfl) rfl (fun wm' hw1 hw2 => wk14 ho100 f1 v1 w1  v2 v3 v4 v5 (((((hS.sel hw2).ad 5 rfl).ad 4 rfl).ad 3 rfl).ad 2 rfl) hx3) (fun wm' res H hw' hp => ?_)
  obtain ⟨v6, v7, hres, hI⟩ := hp
  replace hres := hres.symm; subst hres
  replace hS : S wm 71 _ H ((30, .tuple #[.agg #[.bool r3.Char, v6, v7], .int .i64 r4]) :: _) ([.own (rI .i64) v6 r3.Shape, .own (rI .i64) v7 r3.Data] ++ _) Fr := hS.after rfl hw' hI
  clear hI hw'
  refine pp3 hS rfl rfl rfl rfl rfl rfl ?_; clear hS
  intro tm hS
  refine o_alloc hS (.inl rfl) rfl Fz25 (by decide) ?_; clear hS
  intro b3 tm H hS
  refine o_st (k := 0) hS (.inl rfl) rfl rfl rfl Fs25 rfl rfl (all_cons rfl (all_cons (hS.one (k := 1) rfl (.inr (.inl rfl))) (all_cons (hS.one (k := 2) rfl (.inr (.inl rfl))) all_nil))) rfl ?_; clear hS; try clear H
  intro H hS
  refine pp1 hS rfl rfl ?_; clear hS
  intro tm hS
  refine o_nil (hR _ _ ?_)
  clear hR R
  refine c_reg fun R hR => ?_
  refine pp1 hS rfl rfl ?_; clear hS
  intro tm hS
  refine o_ldA (k := 4) hS (.inl rfl) rfl rfl rfl (.inl rfl) Fu25 rfl Fs25 rfl ?_; clear hS
  intro tm hS
  refine o_ldA (k := 3) hS (.inl rfl) rfl rfl rfl (.inl rfl) Fu25 rfl Fs25 rfl ?_; clear hS
  intro tm hS
  obtain ⟨⟨r5, r6⟩, hx4, h0⟩ := bindS h0
  refine o_call hS (.inl rfl) rfl (fun wm' hw1 hw2 => wk15 ho72 f1 v1 w1  v2 v3 v4 v5 (((((hS.sel hw2).ad 8 rfl).ad 7 rfl).ad 6 rfl).ad 5 rfl) hx4) (fun wm' res H hw' hp => ?_)
  obtain ⟨v8, v9, hres, hI⟩ := hp
  replace hres := hres.symm; subst hres
  replace hS : S wm 71 _ H ((37, .tuple #[.agg #[.bool r5.Char, v8, v9], .int .i64 r6]) :: _) ([.own (rI .i64) v8 r5.Shape, .own (rI .i64) v9 r5.Data] ++ _) Fr := hS.after rfl hw' hI
  clear hI hw'
  refine pp3 hS rfl rfl rfl rfl rfl rfl ?_; clear hS
  intro tm hS
  refine o_alloc hS (.inl rfl) rfl Fz25 (by decide) ?_; clear hS
  intro b4 tm H hS
  refine o_st (k := 0) hS (.inl rfl) rfl rfl rfl Fs25 rfl rfl (all_cons rfl (all_cons (hS.one (k := 1) rfl (.inr (.inl rfl))) (all_cons (hS.one (k := 2) rfl (.inr (.inl rfl))) all_nil))) rfl ?_; clear hS; try clear H
  intro H hS
  refine pp1 hS rfl rfl ?_; clear hS
  intro tm hS
  refine o_nil (hR _ _ ?_)
  clear hR R
  refine c_reg fun R hR => ?_
  refine pp2 hS rfl rfl rfl rfl ?_; clear hS
  intro tm hS
  refine o_ldA (k := 7) hS (.inl rfl) rfl rfl rfl (.inl rfl) Fu25 rfl Fs25 rfl ?_; clear hS
  intro tm hS
  refine o_ldA (k := 6) hS (.inl rfl) rfl rfl rfl (.inl rfl) Fu25 rfl Fs25 rfl ?_; clear hS
  intro tm hS
  obtain ⟨⟨r7, r8⟩, hx5, h0⟩ := bindS h0
  refine o_call hS (.inl rfl) rfl (fun wm' hw1 hw2 => wk16 ho100 f1 g1 v1 w1  v2 v3 v4 v5 (((((hS.sel hw2).ad 11 rfl).ad 10 rfl).ad 9 rfl).ad 8 rfl) hx5) (fun wm' res H hw' hp => ?_)
  obtain ⟨v10, v11, hres, hI⟩ := hp
  replace hres := hres.symm; subst hres
  replace hS : S wm 71 _ H ((45, .tuple #[.agg #[.bool r7.Char, v10, v11], .int .i64 r8]) :: _) ([.own (rI .i64) v10 r7.Shape, .own (rI .i64) v11 r7.Data] ++ _) Fr := hS.after rfl hw' hI
  clear hI hw'
  refine pp3 hS rfl rfl rfl rfl rfl rfl ?_; clear hS
  intro tm hS
  refine o_alloc hS (.inl rfl) rfl Fz25 (by decide) ?_; clear hS
  intro b5 tm H hS
  refine o_st (k := 0) hS (.inl rfl) rfl rfl rfl Fs25 rfl rfl (all_cons rfl (all_cons (hS.one (k := 1) rfl (.inr (.inl rfl))) (all_cons (hS.one (k := 2) rfl (.inr (.inl rfl))) all_nil))) rfl ?_; clear hS; try clear H
  intro H hS
  refine pp1 hS rfl rfl ?_; clear hS
  intro tm hS
  refine o_nil (hR _ _ ?_)
  clear hR R
  refine c_reg fun R hR => ?_
  refine pp2 hS rfl rfl rfl rfl ?_; clear hS
  intro tm hS
  refine o_ldA (k := 10) hS (.inl rfl) rfl rfl rfl (.inl rfl) Fu25 rfl Fs25 rfl ?_; clear hS
  intro tm hS
  refine o_ldA (k := 9) hS (.inl rfl) rfl rfl rfl (.inl rfl) Fu25 rfl Fs25 rfl ?_; clear hS
  intro tm hS
  obtain ⟨⟨r9, r10⟩, hx6, h0⟩ := bindS h0
  refine o_call hS (.inl rfl) rfl (fun wm' hw1 hw2 => wk17 ho72 f1 g1 v1 w1  v2 v3 v4 v5 (((((hS.sel hw2).ad 14 rfl).ad 13 rfl).ad 12 rfl).ad 11 rfl) hx6) (fun wm' res H hw' hp => ?_)
  obtain ⟨v12, v13, hres, hI⟩ := hp
  replace hres := hres.symm; subst hres
  replace hS : S wm 71 _ H ((53, .tuple #[.agg #[.bool r9.Char, v12, v13], .int .i64 r10]) :: _) ([.own (rI .i64) v12 r9.Shape, .own (rI .i64) v13 r9.Data] ++ _) Fr := hS.after rfl hw' hI
  clear hI hw'
  refine pp3 hS rfl rfl rfl rfl rfl rfl ?_; clear hS
  intro tm hS
  refine o_alloc hS (.inl rfl) rfl Fz25 (by decide) ?_; clear hS
  intro b6 tm H hS
  refine o_st (k := 0) hS (.inl rfl) rfl rfl rfl Fs25 rfl rfl (all_cons rfl (all_cons (hS.one (k := 1) rfl (.inr (.inl rfl))) (all_cons (hS.one (k := 2) rfl (.inr (.inl rfl))) all_nil))) rfl ?_; clear hS; try clear H
  intro H hS
  refine pp1 hS rfl rfl ?_; clear hS
  intro tm hS
  refine o_nil (hR _ _ ?_)
  clear hR R
  refine c_reg fun R hR => ?_
  refine o_ldA (k := 9) hS (.inl rfl) rfl rfl rfl (.inl rfl) Fu25 rfl Fs25 rfl ?_; clear hS
  intro tm hS
  refine pp1 hS rfl rfl ?_; clear hS
  intro tm hS
  refine o_ldA (k := 6) hS (.inl rfl) rfl rfl rfl (.inl rfl) Fu25 rfl Fs25 rfl ?_; clear hS
  intro tm hS
  refine pp1 hS rfl rfl ?_; clear hS
  intro tm hS
  obtain ⟨r11, hx7, h0⟩ := bindS h0
  refine o_call (Pc := fun _ res H => res = .bool r11 ∧ Kn wm H ([.box b6 [.bool r9.Char, v12, v13], .own (rI .i64) v12 r9.Shape, .own (rI .i64) v13 r9.Data, .box b5 [.bool r7.Char, v10, v11], .own (rI .i64) v10 r7.Shape, .own (rI .i64) v11 r7.Data, .box b4 [.bool r5.Char, v8, v9], .own (rI .i64) v8 r5.Shape, .own (rI .i64) v9 r5.Data, .box b3 [.bool r3.Char, v6, v7], .own (rI .i64) v6 r3.Shape, .own (rI .i64) v7 r3.Data, .box b2 [.bool w1.Char, v4, v5], .box b1 [.bool v1.Char, v2, v3], .fz (rI .i64) v2 v1.Shape, .fz (rI .i64) v3 v1.Data, .fz (rI .i64) v4 w1.Shape, .fz (rI .i64) v5 w1.Data]) Fr) hS (.inl rfl) rfl (fun wm' hw1 hw2 => by
   obtain ⟨F2, kk_1, kk_2⟩ := hS.inv.lend (La := [.fz (rI .i64) v6 r3.Shape, .fz (rI .i64) v7 r3.Data, .fz (rI .i64) v8 r5.Shape, .fz (rI .i64) v9 r5.Data]) (List.forall_mem_cons.mpr ⟨(.inr ⟨_, _, _, _, rfl, .inl (List.mem_of_getElem? (i := 10) rfl)⟩), (List.forall_mem_cons.mpr ⟨(.inr ⟨_, _, _, _, rfl, .inl (List.mem_of_getElem? (i := 11) rfl)⟩), (List.forall_mem_cons.mpr ⟨(.inr ⟨_, _, _, _, rfl, .inl (List.mem_of_getElem? (i := 7) rfl)⟩), (List.forall_mem_cons.mpr ⟨(.inr ⟨_, _, _, _, rfl, .inl (List.mem_of_getElem? (i := 8) rfl)⟩), (fun _ h => by cases h)⟩)⟩)⟩)⟩) hw1 hw2
   exact (wk18  r3 r4 r5 r6  v6 v7 v8 v9 kk_1 hx7).mono fun res H2 ⟨qq_1, qq_2⟩ => ⟨qq_1, kk_2 _ qq_2⟩) (fun wm' res H hw' hp => ?_)
  obtain ⟨hres, hI⟩ := hp
  replace hres := hres.symm; subst hres
  replace hS : S wm 71 _ H ((60, .bool r11) :: _) ([.box b6 [.bool r9.Char, v12, v13], .own (rI .i64) v12 r9.Shape, .own (rI .i64) v13 r9.Data, .box b5 [.bool r7.Char, v10, v11], .own (rI .i64) v10 r7.Shape, .own (rI .i64) v11 r7.Data, .box b4 [.bool r5.Char, v8, v9], .own (rI .i64) v8 r5.Shape, .own (rI .i64) v9 r5.Data, .box b3 [.bool r3.Char, v6, v7], .own (rI .i64) v6 r3.Shape, .own (rI .i64) v7 r3.Data, .box b2 [.bool w1.Char, v4, v5], .box b1 [.bool v1.Char, v2, v3], .fz (rI .i64) v2 v1.Shape, .fz (rI .i64) v3 v1.Data, .fz (rI .i64) v4 w1.Shape, .fz (rI .i64) v5 w1.Data]) Fr := (hS.put rfl _).withK hI
  clear hI hw'
  refine pp1 hS rfl rfl ?_; clear hS
  intro tm hS
  obtain ⟨c2, hc2, h0⟩ := bindS h0
  refine o_cutN 6 (J := fun tm H => S wm 71 tm H [(67, .bool c2)] [] Fr) ?_ ?_
  ·rcases Bool.eq_false_or_eq_true r11 with hg2 | hg2
   ·replace hc2 := iteT hg2 hc2
    refine o_ldA (k := 3) hS (.inr ⟨_, _, _, _, rfl, rfl, rfl, hg2⟩) rfl rfl rfl (.inl rfl) Fu25 rfl Fs25 rfl ?_; clear hS
    intro tm hS
    refine o_pure hS (.inr ⟨_, _, _, _, rfl, rfl, rfl, hg2⟩) rfl rfl ?_; clear hS
    intro tm hS
    refine o_ldA (k := 0) hS (.inr ⟨_, _, _, _, rfl, rfl, rfl, hg2⟩) rfl rfl rfl (.inl rfl) Fu25 rfl Fs25 rfl ?_; clear hS
    intro tm hS
    refine o_pure hS (.inr ⟨_, _, _, _, rfl, rfl, rfl, hg2⟩) rfl rfl ?_; clear hS
    intro tm hS
    obtain ⟨r12, hx8, hc2⟩ := bindS hc2
    refine o_call (Pc := fun _ res H => res = .bool r12 ∧ Kn wm H ([.box b6 [.bool r9.Char, v12, v13], .own (rI .i64) v12 r9.Shape, .own (rI .i64) v13 r9.Data, .box b5 [.bool r7.Char, v10, v11], .own (rI .i64) v10 r7.Shape, .own (rI .i64) v11 r7.Data, .box b4 [.bool r5.Char, v8, v9], .own (rI .i64) v8 r5.Shape, .own (rI .i64) v9 r5.Data, .box b3 [.bool r3.Char, v6, v7], .own (rI .i64) v6 r3.Shape, .own (rI .i64) v7 r3.Data, .box b2 [.bool w1.Char, v4, v5], .box b1 [.bool v1.Char, v2, v3], .fz (rI .i64) v2 v1.Shape, .fz (rI .i64) v3 v1.Data, .fz (rI .i64) v4 w1.Shape, .fz (rI .i64) v5 w1.Data]) Fr) hS (.inr ⟨_, _, _, _, rfl, rfl, rfl, hg2⟩) rfl (fun wm' hw1 hw2 => by
     obtain ⟨F2, kk_1, kk_2⟩ := hS.inv.lend (La := [.fz (rI .i64) v10 r7.Shape, .fz (rI .i64) v11 r7.Data, .fz (rI .i64) v12 r9.Shape, .fz (rI .i64) v13 r9.Data]) (List.forall_mem_cons.mpr ⟨(.inr ⟨_, _, _, _, rfl, .inl (List.mem_of_getElem? (i := 4) rfl)⟩), (List.forall_mem_cons.mpr ⟨(.inr ⟨_, _, _, _, rfl, .inl (List.mem_of_getElem? (i := 5) rfl)⟩), (List.forall_mem_cons.mpr ⟨(.inr ⟨_, _, _, _, rfl, .inl (List.mem_of_getElem? (i := 1) rfl)⟩), (List.forall_mem_cons.mpr ⟨(.inr ⟨_, _, _, _, rfl, .inl (List.mem_of_getElem? (i := 2) rfl)⟩), (fun _ h => by cases h)⟩)⟩)⟩)⟩) hw1 hw2
     exact (wk18  r7 r8 r9 r10  v10 v11 v12 v13 kk_1 hx8).mono fun res H2 ⟨qq_1, qq_2⟩ => ⟨qq_1, kk_2 _ qq_2⟩) (fun wm' res H hw' hp => ?_)
    obtain ⟨hres, hI⟩ := hp
    replace hres := hres.symm; subst hres
    replace hS : S wm 71 _ H ((66, .bool r12) :: _) ([.box b6 [.bool r9.Char, v12, v13], .own (rI .i64) v12 r9.Shape, .own (rI .i64) v13 r9.Data, .box b5 [.bool r7.Char, v10, v11], .own (rI .i64) v10 r7.Shape, .own (rI .i64) v11 r7.Data, .box b4 [.bool r5.Char, v8, v9], .own (rI .i64) v8 r5.Shape, .own (rI .i64) v9 r5.Data, .box b3 [.bool r3.Char, v6, v7], .own (rI .i64) v6 r3.Shape, .own (rI .i64) v7 r3.Data, .box b2 [.bool w1.Char, v4, v5], .box b1 [.bool v1.Char, v2, v3], .fz (rI .i64) v2 v1.Shape, .fz (rI .i64) v3 v1.Data, .fz (rI .i64) v4 w1.Shape, .fz (rI .i64) v5 w1.Data]) Fr := (hS.put rfl _).withK hI
    clear hI hw'
    refine o_pickT hS (.inl rfl) rfl rfl hg2 rfl ?_; clear hS
    intro tm hS
    obtain rfl := Option.some.inj hc2
    exact o_nil (hS.keep (ka_cons rfl ka_nil) (fun hI => (hI.sub sn)))
   ·replace hc2 := iteF hg2 hc2
    refine o_skip hS rfl rfl rfl hg2 ?_; clear hS
    intro tm hS
    refine o_skip hS rfl rfl rfl hg2 ?_; clear hS
    intro tm hS
    refine o_skip hS rfl rfl rfl hg2 ?_; clear hS
    intro tm hS
    refine o_skip hS rfl rfl rfl hg2 ?_; clear hS
    intro tm hS
    refine o_skip hS rfl rfl rfl hg2 ?_; clear hS
    intro tm hS
    refine o_pickF hS (.inl rfl) rfl rfl hg2 rfl ?_; clear hS
    intro tm hS
    obtain rfl := Option.some.inj hc2
    exact o_nil (hS.keep (ka_cons rfl ka_nil) (fun hI => (hI.sub sn)))
  intro tm H hS
  refine pp1 hS rfl rfl ?_; clear hS
  intro tm hS
  obtain ⟨c3, hc3⟩ : ∃ x : Bool, x = (c2 && true) := ⟨_, rfl⟩
  refine o_cutN 2 (J := fun tm H => S wm 71 tm H [(70, .bool c3)] [] Fr) ?_ ?_
  ·rcases Bool.eq_false_or_eq_true c2 with hg3 | hg3
   ·refine o_call hS (.inr ⟨_, _, _, _, rfl, rfl, rfl, hg3⟩) rfl (fun wm' hw1 hw2 => wpF.told ho9 (Q := fun v H' => v = .bool true ∧ H' = H) ⟨rfl, rfl⟩) (fun wm' res H hw' hp => ?_)
    obtain ⟨rfl, rfl⟩ := hp
    replace hS := hS.put (d := 69) rfl (.bool true)
    clear hw'
    refine o_pickT hS (.inl rfl) rfl rfl hg3 rfl ?_; clear hS
    intro tm hS
    have hc3 : c3 = true := hc3.trans (by rw [hg3]; first | rfl | simp)
    subst hc3
    exact o_nil (hS.keep (ka_cons rfl ka_nil) (fun hI => (hI.sub sn)))
   ·refine o_skip hS rfl rfl rfl hg3 ?_; clear hS
    intro tm hS
    refine o_pickF hS (.inl rfl) rfl rfl hg3 rfl ?_; clear hS
    intro tm hS
    have hc3 : c3 = false := hc3.trans (by rw [hg3]; first | rfl | simp)
    subst hc3
    exact o_nil (hS.keep (ka_cons rfl ka_nil) (fun hI => (hI.sub sn)))
  intro tm H hS
  subst hc3
  refine pp1 hS rfl rfl ?_; clear hS
  intro tm hS
  refine o_nil (hR _ _ ?_)
  clear hR R
  refine wpC.ret ?_
  obtain rfl := Option.some.inj h0
  refine Exists.intro _ (And.intro (rs_tmp hS rfl rs_nil) ?_)
  have hI := hS.inv
  exact ⟨rfl, (hI.sub sn)⟩
end Go.Proofs.Ytblgdjpeedgnoaa.overTwo
