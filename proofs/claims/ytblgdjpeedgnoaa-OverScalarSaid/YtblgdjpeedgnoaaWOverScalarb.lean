/- OverScalar: walks of the code: the run of each function comes to what its plain function says. -/
import Derived.Test.YtblgdjpeedgnoaaWOverScalara
set_option maxHeartbeats 4000000
set_option linter.unusedVariables false
set_option linter.unusedSimpArgs false
set_option maxRecDepth 100000
open Go Go.Am Go.Proofs
namespace Go.Proofs.Ytblgdjpeedgnoaa.overScalar
variable {ora : FuncId → Bool}
theorem wk14 {wm : Nat} {H : AHeap} {Fr : List Ent} (ho100 : ora 100 = false) (fn1 : ByteArray) (a1 : Val) (b1 : Val)  (v1 : Value) (v2 : Value) (v3 : Value) (v4 : Value) (hI : Kn wm H [.fz (rI .i64) v1 a1.Shape, .fz (rI .i64) v2 a1.Data, .fz (rI .i64) v3 b1.Shape, .fz (rI .i64) v4 b1.Data] Fr) {r : Val × Int} (h0 : M.over_Outer fn1 a1 b1 = some r) :
  wpF Try.prog ora wm 14 [.string fn1, .agg #[.bool a1.Char, v1, v2], .agg #[.bool b1.Char, v3, v4]] H (fun res H => ∃ v15 v16, res = .tuple #[.agg #[.bool r.1.Char, v15, v16], .int .i64 r.2] ∧ Kn wm H [.own (rI .i64) v15 r.1.Shape, .own (rI .i64) v16 r.1.Data] Fr) := by
 unfold M.over_Outer at h0
 refine f_enter (n := 93) Try.func14 rfl (by simp) hI rfl rfl rfl fun tm hS => ?_
 clear hI
 refine c_reg fun R hR => ?_
 refine o_box hS (.inl rfl) rfl rfl rfl (all_cons rfl (all_cons (hS.one (k := 0) rfl (.inl rfl)) (all_cons (hS.one (k := 1) rfl (.inl rfl)) all_nil))) ?_; clear hS
 intro b2 tm H hS
 refine o_box hS (.inl rfl) rfl rfl rfl (all_cons rfl (all_cons (hS.one (k := 3) rfl (.inl rfl)) (all_cons (hS.one (k := 4) rfl (.inl rfl)) all_nil))) ?_; clear hS
 intro b3 tm H hS
 refine o_alloc hS (.inl rfl) rfl Fz25 (by decide) ?_; clear hS
 intro b4 tm H hS
 refine pp1 hS rfl rfl ?_; clear hS
 intro tm hS
 refine o_nil (hR _ _ ?_)
 clear hR R
 refine c_reg fun R hR => ?_
 refine pp1 hS rfl rfl ?_; clear hS
 intro tm hS
 refine o_ldA (k := 2) hS (.inl rfl) rfl rfl rfl (.inl rfl) Fu25 rfl Fs25 rfl ?_; clear hS
 intro tm hS
 refine o_ldA (k := 1) hS (.inl rfl) rfl rfl rfl (.inl rfl) Fu25 rfl Fs25 rfl ?_; clear hS
 intro tm hS
 refine o_lit (r := rVal) (l := [a1, b1]) hS (.inl rfl) rfl Fl103 rfl rfl rfl (.cons rfl (.cons rfl .nil)) rfl rfl (ri_3 (rd_Val ⟨3, rfl⟩ ⟨4, rfl⟩) (ri_3 (rd_Val ⟨5, rfl⟩ ⟨6, rfl⟩) ri_nil)) rfl ?_; clear hS
 intro v5 tm H hS
 replace hS := hS.litFrz (k := 0) rfl
 obtain ⟨⟨r1, r2⟩, hx1, h0⟩ := bindS h0
 refine o_call hS (.inl rfl) rfl (fun wm' hw1 hw2 => wk31  fn1 ([a1, b1])  v5 ((hS.sel hw2).ad 0 rfl) hx1) (fun wm' res H hw' hp => ?_)
 obtain ⟨v6, hres, hI⟩ := hp
 replace hres := hres.symm; subst hres
 replace hS : S wm 93 _ H ((22, .tuple #[v6, .int .i64 r2]) :: _) ([.el (rClo 87) [v6] r1] ++ _) Fr := hS.after rfl hw' hI
 clear hI hw'
 refine pp5 hS rfl rfl rfl rfl rfl rfl rfl rfl rfl rfl ?_; clear hS
 intro tm hS
 refine o_nil (hR _ _ ?_)
 clear hR R
 refine c_seqS ?_
 refine cr2 hS rfl rfl rfl rfl ?_; clear hS
 intro tm hS
 refine c_cond hS rfl (fun hc => ?_) (fun hc => ?_)
 ·replace h0 := iteT hc h0
  refine c_reg fun R hR => ?_
  refine o_build hS (.inl rfl) rfl Fb25 rfl .nil rfl ?_; clear hS
  intro tm hS
  refine pp1 hS rfl rfl ?_; clear hS
  intro tm hS
  refine o_st (k := 2) hS (.inl rfl) rfl rfl rfl Fs25 rfl rfl (all_cons rfl (all_cons rfl (all_cons rfl all_nil))) rfl ?_; clear hS; try clear H
  intro H hS
  refine pp1 hS rfl rfl ?_; clear hS
  intro tm hS
  refine o_nil (hR _ _ ?_)
  clear hR R
  refine wpC.ret ?_
  obtain rfl := Option.some.inj h0
  replace hS := hS.nilOwn (rI .i64)
  replace hS := hS.nilOwn (rI .i64)
  refine Exists.intro _ (And.intro (rs_cellA (k := 4) hS rfl rfl (.inl rfl) Fu25 rfl Fs25 rfl (rs_tmp hS rfl rs_nil)) ?_)
  have hI := hS.inv
  exact ⟨(.slice none 0 0), (.slice none 0 0), rfl, (((hI.pull 0 rfl).pull 1 rfl).take 2)⟩
 ·replace h0 := iteF hc h0
  refine wpC.skip ?_
  refine c_reg fun R hR => ?_
  refine o_lit (r := (rI .i64)) (l := ([] : List Int)) hS (.inl rfl) rfl Fl22 rfl rfl rfl .nil rfl rfl ri_nil rfl ?_; clear hS
  intro v7 tm H hS
  refine pp1 hS rfl rfl ?_; clear hS
  intro tm hS
  refine o_ld1 (k := 5) hS (.inl rfl) rfl rfl rfl (.inl rfl) Fu22 rfl rfl ?_; clear hS
  intro tm hS
  refine pp1 hS rfl rfl ?_; clear hS
  intro tm hS
  refine o_ld1 (k := 4) hS (.inl rfl) rfl rfl rfl (.inl rfl) Fu22 rfl rfl ?_; clear hS
  intro tm hS
  replace hS := hS.litFrz (k := 0) rfl
  refine o_lit (r := (rL (rI .i64))) (l := [([] : List Int), a1.Shape, b1.Shape]) hS (.inl rfl) rfl Fl113 rfl rfl rfl (.cons (cells_one (hS.one (k := 0) rfl (.inl rfl))) (.cons (cells_one (hS.one (k := 6) rfl (.inl rfl))) (.cons (cells_one (hS.one (k := 8) rfl (.inl rfl))) .nil))) rfl rfl (ri_1 (rd_S ⟨0, rfl⟩) (ri_1 (rd_S ⟨6, rfl⟩) (ri_1 (rd_S ⟨8, rfl⟩) ri_nil))) rfl ?_; clear hS
  intro v8 tm H hS
  obtain ⟨r3, hx2, h0⟩ := bindS h0
  refine o_call (Pc := fun _ res H => ∃ v9, res = v9 ∧ Kn wm H ([.own (rI .i64) v9 r3] ++ [.lit (rL (rI .i64)) v8 ([([] : List Int), a1.Shape, b1.Shape]), .fz (rI .i64) v7 ([] : List Int), .el (rClo 87) [v6] r1, .fz rVal v5 ([a1, b1]), .box b4 [.bool false, (.slice none 0 0), (.slice none 0 0)], .box b3 [.bool b1.Char, v3, v4], .box b2 [.bool a1.Char, v1, v2], .fz (rI .i64) v1 a1.Shape, .fz (rI .i64) v2 a1.Data, .fz (rI .i64) v3 b1.Shape, .fz (rI .i64) v4 b1.Data]) Fr) hS (.inl rfl) rfl (fun wm' hw1 hw2 => by
   obtain ⟨F2, kk_1, kk_2⟩ := hS.inv.lendR (La := [.fz (rL (rI .i64)) v8 ([([] : List Int), a1.Shape, b1.Shape])]) (List.forall_mem_cons.mpr ⟨(.inr ⟨_, _, _, _, rfl, .inr (List.mem_of_getElem? (i := 0) rfl)⟩), (fun _ h => by cases h)⟩) hw1 hw2
   exact (wk39  ([([] : List Int), a1.Shape, b1.Shape])  v8 kk_1 hx2).mono fun res H2 ⟨v9, qq_1, qq_2⟩ => ⟨v9, qq_1, kk_2 _ _ (List.forall_mem_cons.mpr ⟨⟨_, _, _, _, rfl, fun _ _ _ _ h => h⟩, (fun _ h => by cases h)⟩) qq_2⟩) (fun wm' res H hw' hp => ?_)
  obtain ⟨v9, hres, hI⟩ := hp
  replace hres := hres.symm; subst hres
  replace hS : S wm 93 _ H ((35, v9) :: _) ([.own (rI .i64) v9 r3] ++ [.lit (rL (rI .i64)) v8 ([([] : List Int), a1.Shape, b1.Shape]), .fz (rI .i64) v7 ([] : List Int), .el (rClo 87) [v6] r1, .fz rVal v5 ([a1, b1]), .box b4 [.bool false, (.slice none 0 0), (.slice none 0 0)], .box b3 [.bool b1.Char, v3, v4], .box b2 [.bool a1.Char, v1, v2], .fz (rI .i64) v1 a1.Shape, .fz (rI .i64) v2 a1.Data, .fz (rI .i64) v3 b1.Shape, .fz (rI .i64) v4 b1.Data]) Fr := (hS.put rfl _).withK hI
  clear hI hw'
  refine pp1 hS rfl rfl ?_; clear hS
  intro tm hS
  refine o_nil (hR _ _ ?_)
  clear hR R
  refine c_seqS ?_
  refine c_reg fun R hR => ?_
  refine pp1 hS rfl rfl ?_; clear hS
  intro tm hS
  refine o_len (k := 0) (r := (rI .i64)) hS (.inl rfl) rfl rfl rfl (.inr (.inl rfl)) Fu22 rfl ?_; clear hS
  intro tm hS
  refine pp1 hS rfl rfl ?_; clear hS
  intro tm hS
  refine o_nil (hR _ _ ?_)
  clear hR R
  refine c_cond hS rfl (fun hc => ?_) (fun hc => ?_)
  ·replace h0 := iteT hc h0
   refine c_reg fun R hR => ?_
   refine o_build hS (.inl rfl) rfl Fb25 rfl .nil rfl ?_; clear hS
   intro tm hS
   refine o_st (k := 5) hS (.inl rfl) rfl rfl rfl Fs25 rfl rfl (all_cons rfl (all_cons rfl (all_cons rfl all_nil))) rfl ?_; clear hS; try clear H
   intro H hS
   refine pp1 hS rfl rfl ?_; clear hS
   intro tm hS
   refine o_nil (hR _ _ ?_)
   clear hR R
   refine wpC.ret ?_
   obtain rfl := Option.some.inj h0
   replace hS := hS.nilOwn (rI .i64)
   replace hS := hS.nilOwn (rI .i64)
   refine Exists.intro _ (And.intro (rs_cellA (k := 7) hS rfl rfl (.inl rfl) Fu25 rfl Fs25 rfl (rs_tmp hS rfl rs_nil)) ?_)
   have hI := hS.inv
   exact ⟨(.slice none 0 0), (.slice none 0 0), rfl, (((hI.pull 0 rfl).pull 1 rfl).take 2)⟩
  ·replace h0 := iteF hc h0
   refine wpC.skip ?_
   refine c_reg fun R hR => ?_
   refine pp1 hS rfl rfl ?_; clear hS
   intro tm hS
   obtain ⟨⟨r4, r5⟩, hx3, h0⟩ := bindS h0
   refine o_call (Pc := fun _ res H => res = .tuple #[.int .i64 r4, .int .i64 r5] ∧ Kn wm H ([.own (rI .i64) v9 r3, .lit (rL (rI .i64)) v8 ([([] : List Int), a1.Shape, b1.Shape]), .fz (rI .i64) v7 ([] : List Int), .el (rClo 87) [v6] r1, .fz rVal v5 ([a1, b1]), .box b4 [.bool false, (.slice none 0 0), (.slice none 0 0)], .box b3 [.bool b1.Char, v3, v4], .box b2 [.bool a1.Char, v1, v2], .fz (rI .i64) v1 a1.Shape, .fz (rI .i64) v2 a1.Data, .fz (rI .i64) v3 b1.Shape, .fz (rI .i64) v4 b1.Data]) Fr) hS (.inl rfl) rfl (fun wm' hw1 hw2 => by
    obtain ⟨F2, kk_1, kk_2⟩ := hS.inv.lend (La := [.fz (rI .i64) v9 r3]) (List.forall_mem_cons.mpr ⟨(.inr ⟨_, _, _, _, rfl, .inl (List.mem_of_getElem? (i := 0) rfl)⟩), (fun _ h => by cases h)⟩) hw1 hw2
    exact (wk35  r3  v9 kk_1 hx3).mono fun res H2 ⟨qq_1, qq_2⟩ => ⟨qq_1, kk_2 _ qq_2⟩) (fun wm' res H hw' hp => ?_)
   obtain ⟨hres, hI⟩ := hp
   replace hres := hres.symm; subst hres
   replace hS : S wm 93 _ H ((42, .tuple #[.int .i64 r4, .int .i64 r5]) :: _) ([.own (rI .i64) v9 r3, .lit (rL (rI .i64)) v8 ([([] : List Int), a1.Shape, b1.Shape]), .fz (rI .i64) v7 ([] : List Int), .el (rClo 87) [v6] r1, .fz rVal v5 ([a1, b1]), .box b4 [.bool false, (.slice none 0 0), (.slice none 0 0)], .box b3 [.bool b1.Char, v3, v4], .box b2 [.bool a1.Char, v1, v2], .fz (rI .i64) v1 a1.Shape, .fz (rI .i64) v2 a1.Data, .fz (rI .i64) v3 b1.Shape, .fz (rI .i64) v4 b1.Data]) Fr := (hS.put rfl _).withK hI
   clear hI hw'
   refine pp5 hS rfl rfl rfl rfl rfl rfl rfl rfl rfl rfl ?_; clear hS
   intro tm hS
   refine o_nil (hR _ _ ?_)
   clear hR R
   refine c_seqS ?_
   refine cr2 hS rfl rfl rfl rfl ?_; clear hS
   intro tm hS
   refine c_cond hS rfl (fun hc => ?_) (fun hc => ?_)
   ·replace h0 := iteT hc h0
    refine c_reg fun R hR => ?_
    refine o_build hS (.inl rfl) rfl Fb25 rfl .nil rfl ?_; clear hS
    intro tm hS
    refine o_st (k := 5) hS (.inl rfl) rfl rfl rfl Fs25 rfl rfl (all_cons rfl (all_cons rfl (all_cons rfl all_nil))) rfl ?_; clear hS; try clear H
    intro H hS
    refine pp1 hS rfl rfl ?_; clear hS
    intro tm hS
    refine o_nil (hR _ _ ?_)
    clear hR R
    refine wpC.ret ?_
    obtain rfl := Option.some.inj h0
    replace hS := hS.nilOwn (rI .i64)
    replace hS := hS.nilOwn (rI .i64)
    refine Exists.intro _ (And.intro (rs_cellA (k := 7) hS rfl rfl (.inl rfl) Fu25 rfl Fs25 rfl (rs_tmp hS rfl rs_nil)) ?_)
    have hI := hS.inv
    exact ⟨(.slice none 0 0), (.slice none 0 0), rfl, (((hI.pull 0 rfl).pull 1 rfl).take 2)⟩
   ·replace h0 := iteF hc h0
    refine wpC.skip ?_
    refine c_reg fun R hR => ?_
    refine pp2 hS rfl rfl rfl rfl ?_; clear hS
    intro tm hS
    obtain ⟨l1, hx4, h0⟩ := bindS h0
    refine o_mk (r := (rI .i64)) hS (.inl rfl) rfl rfl rfl Fm23 rfl (fun _ => rfl) hx4 ?_; clear hS
    intro v10 tm H hS
    refine o_build hS (.inl rfl) rfl Fb25 rfl (.cons (cells_one (hS.one (k := 1) rfl (.inr (.inl rfl)))) (.cons (cells_one (hS.one (k := 0) rfl (.inr (.inl rfl)))) .nil)) rfl ?_; clear hS
    intro tm hS
    refine o_alloc hS (.inl rfl) rfl Fz25 (by decide) ?_; clear hS
    intro b5 tm H hS
    refine o_st (k := 0) hS (.inl rfl) rfl rfl rfl Fs25 rfl rfl (all_cons rfl (all_cons (hS.one (k := 2) rfl (.inr (.inl rfl))) (all_cons (hS.one (k := 1) rfl (.inr (.inl rfl))) all_nil))) rfl ?_; clear hS; try clear H
    intro H hS
    refine o_nil (hR _ _ ?_)
    clear hR R
    refine c_seqS ?_
    refine cr1 hS rfl rfl ?_; clear hS
    intro tm hS
    obtain ⟨k1, hw1, h0⟩ := bindS h0
    refine wpC.block ?_
    refine c_loop (I := fun (s : Int × (List Int)) tm H => match (generalizing := false) s with | (i1, Data1) => ∃ v11, S wm 93 tm H [(4, .pointer (some ⟨b2, 0, none⟩)), (5, .pointer (some ⟨b3, 0, none⟩)), (6, .pointer (some ⟨b4, 0, none⟩)), (8, v6), (11, .int .i64 r4), (12, .pointer (some ⟨b5, 0, none⟩)), (13, .int .i64 i1)] [.box b2 [.bool a1.Char, v1, v2], .box b3 [.bool b1.Char, v3, v4], .box b4 [.bool false, (.slice none 0 0), (.slice none 0 0)], .box b5 [.bool false, v9, v11], .own (rI .i64) v11 Data1, .fz (rI .i64) v1 a1.Shape, .fz (rI .i64) v2 a1.Data, .fz (rI .i64) v3 b1.Shape, .fz (rI .i64) v4 b1.Data, .el (rClo 87) [v6] r1, .own (rI .i64) v9 r3] Fr) hw1 (by refine Exists.intro v10 ?_; change S wm 93 _ _ _ _ Fr; exact hS.keep (k7 rfl rfl rfl rfl rfl rfl rfl) (fun hI => (hI.pick [9, 8, 7, 0, 1, 10, 11, 12, 13, 5, 2] rfl))) ?_
    clear hS
    intro s1 tm H c1 hS h3 hq3
    obtain ⟨i1, Data1⟩ := s1
    obtain ⟨v11, hS⟩ := hS
    change S wm 93 tm H [(4, .pointer (some ⟨b2, 0, none⟩)), (5, .pointer (some ⟨b3, 0, none⟩)), (6, .pointer (some ⟨b4, 0, none⟩)), (8, v6), (11, .int .i64 r4), (12, .pointer (some ⟨b5, 0, none⟩)), (13, .int .i64 i1)] [.box b2 [.bool a1.Char, v1, v2], .box b3 [.bool b1.Char, v3, v4], .box b4 [.bool false, (.slice none 0 0), (.slice none 0 0)], .box b5 [.bool false, v9, v11], .own (rI .i64) v11 Data1, .fz (rI .i64) v1 a1.Shape, .fz (rI .i64) v2 a1.Data, .fz (rI .i64) v3 b1.Shape, .fz (rI .i64) v4 b1.Data, .el (rClo 87) [v6] r1, .own (rI .i64) v9 r3] Fr at hS
    refine c_seqS ?_
    refine c_reg fun R hR => ?_
    refine pp2 hS rfl rfl rfl rfl ?_; clear hS
    intro tm hS
    refine o_ld1 (k := 0) hS (.inl rfl) rfl rfl rfl (.inl rfl) Fu23 rfl rfl ?_; clear hS
    intro tm hS
    refine o_len (k := 6) (r := (rI .i64)) hS (.inl rfl) rfl rfl rfl (.inl rfl) Fu23 rfl ?_; clear hS
    intro tm hS
    refine pp2 hS rfl rfl rfl rfl ?_; clear hS
    intro tm hS
    obtain ⟨c2, hc1⟩ : ∃ x : Bool, x = ((decide (i1 < (a1.Data.length : Int))) && (decide (r4 > 0))) := ⟨_, rfl⟩
    refine o_cutN 3 (J := fun tm H => S wm 93 tm H [(60, .bool c2), (4, .pointer (some ⟨b2, 0, none⟩)), (5, .pointer (some ⟨b3, 0, none⟩)), (6, .pointer (some ⟨b4, 0, none⟩)), (8, v6), (11, .int .i64 r4), (12, .pointer (some ⟨b5, 0, none⟩)), (13, .int .i64 i1)] [.box b2 [.bool a1.Char, v1, v2], .box b3 [.bool b1.Char, v3, v4], .box b4 [.bool false, (.slice none 0 0), (.slice none 0 0)], .box b5 [.bool false, v9, v11], .own (rI .i64) v11 Data1, .fz (rI .i64) v1 a1.Shape, .fz (rI .i64) v2 a1.Data, .fz (rI .i64) v3 b1.Shape, .fz (rI .i64) v4 b1.Data, .el (rClo 87) [v6] r1, .own (rI .i64) v9 r3] Fr) ?_ ?_
    ·rcases Bool.eq_false_or_eq_true (decide (i1 < (a1.Data.length : Int))) with hg1 | hg1
     ·refine o_pure hS (.inr ⟨_, _, _, _, rfl, rfl, rfl, hg1⟩) rfl rfl ?_; clear hS
      intro tm hS
      refine o_pure hS (.inr ⟨_, _, _, _, rfl, rfl, rfl, hg1⟩) rfl rfl ?_; clear hS
      intro tm hS
      refine o_pickT hS (.inl rfl) rfl rfl hg1 rfl ?_; clear hS
      intro tm hS
      have hc1 : c2 = (decide (r4 > 0)) := hc1.trans (by rw [hg1]; first | rfl | simp)
      subst hc1
      exact o_nil (hS.keep (k8 rfl rfl rfl rfl rfl rfl rfl rfl) (fun hI => (hI.sub (sc (sc (sc (sc (sc (sc (sc (sc (sc (sc (sc sn))))))))))))))
     ·refine o_skip hS rfl rfl rfl hg1 ?_; clear hS
      intro tm hS
      refine o_skip hS rfl rfl rfl hg1 ?_; clear hS
      intro tm hS
      refine o_pickF hS (.inl rfl) rfl rfl hg1 rfl ?_; clear hS
      intro tm hS
      have hc1 : c2 = false := hc1.trans (by rw [hg1]; first | rfl | simp)
      subst hc1
      exact o_nil (hS.keep (k8 rfl rfl rfl rfl rfl rfl rfl rfl) (fun hI => (hI.sub (sc (sc (sc (sc (sc (sc (sc (sc (sc (sc (sc sn))))))))))))))
    intro tm H hS
    subst hc1
    refine o_nil (hR _ _ ?_)
    clear hR R
    refine c_cond hS rfl (fun hc => ?_) (fun hc => ?_)
    ·replace h3 := iteT hc h3
     refine wpC.skip ?_
     refine c_seqS ?_
     refine wpC.block ?_
     refine c_reg fun R hR => ?_
     refine pp1 hS rfl rfl ?_; clear hS
     intro tm hS
     refine o_ld1 (k := 1) hS (.inl rfl) rfl rfl rfl (.inl rfl) Fu23 rfl rfl ?_; clear hS
     intro tm hS
     refine o_len (k := 8) (r := (rI .i64)) hS (.inl rfl) rfl rfl rfl (.inl rfl) Fu23 rfl ?_; clear hS
     intro tm hS
     refine pp1 hS rfl rfl ?_; clear hS
     intro tm hS
     refine o_nil (hR _ _ ?_)
     clear hR R
     obtain ⟨k2, hw2, h3⟩ := bindS h3
     refine wpC.block ?_
     refine c_loop (I := fun (s : Int × (List Int)) tm H => match (generalizing := false) s with | (t1, Data2) => ∃ v12, S wm 93 tm H [(4, .pointer (some ⟨b2, 0, none⟩)), (5, .pointer (some ⟨b3, 0, none⟩)), (6, .pointer (some ⟨b4, 0, none⟩)), (8, v6), (11, .int .i64 r4), (12, .pointer (some ⟨b5, 0, none⟩)), (13, .int .i64 i1), (65, .int .i64 (b1.Data.length : Int)), (66, .int .i64 t1)] [.box b2 [.bool a1.Char, v1, v2], .box b3 [.bool b1.Char, v3, v4], .box b4 [.bool false, (.slice none 0 0), (.slice none 0 0)], .box b5 [.bool false, v9, v12], .own (rI .i64) v12 Data2, .fz (rI .i64) v1 a1.Shape, .fz (rI .i64) v2 a1.Data, .fz (rI .i64) v3 b1.Shape, .fz (rI .i64) v4 b1.Data, .el (rClo 87) [v6] r1, .own (rI .i64) v9 r3] Fr) hw2 (by refine Exists.intro v11 ?_; change S wm 93 _ _ _ _ Fr; exact hS.keep (k9 rfl rfl rfl rfl rfl rfl rfl rfl rfl) (fun hI => (hI.sub (sc (sc (sc (sc (sc (sc (sc (sc (sc (sc (sc sn)))))))))))))) ?_
     clear hS
     intro s2 tm H c3 hS h5 hq5
     obtain ⟨t1, Data2⟩ := s2
     obtain ⟨v12, hS⟩ := hS
     change S wm 93 tm H [(4, .pointer (some ⟨b2, 0, none⟩)), (5, .pointer (some ⟨b3, 0, none⟩)), (6, .pointer (some ⟨b4, 0, none⟩)), (8, v6), (11, .int .i64 r4), (12, .pointer (some ⟨b5, 0, none⟩)), (13, .int .i64 i1), (65, .int .i64 (b1.Data.length : Int)), (66, .int .i64 t1)] [.box b2 [.bool a1.Char, v1, v2], .box b3 [.bool b1.Char, v3, v4], .box b4 [.bool false, (.slice none 0 0), (.slice none 0 0)], .box b5 [.bool false, v9, v12], .own (rI .i64) v12 Data2, .fz (rI .i64) v1 a1.Shape, .fz (rI .i64) v2 a1.Data, .fz (rI .i64) v3 b1.Shape, .fz (rI .i64) v4 b1.Data, .el (rClo 87) [v6] r1, .own (rI .i64) v9 r3] Fr at hS
     refine cr1 hS rfl rfl ?_; clear hS
     intro tm hS
     refine c_seqS ?_
     refine c_cond hS rfl (fun hc => ?_) (fun hc => ?_)
     ·replace h5 := iteT hc h5
      refine wpC.skip ?_
      refine c_seqS ?_
      refine wpC.block ?_
      refine cr2 hS rfl rfl rfl rfl ?_; clear hS
      intro tm hS
      refine c_reg fun R hR => ?_
      refine pp1 hS rfl rfl ?_; clear hS
      intro tm hS
      refine o_ldA (k := 0) hS (.inl rfl) rfl rfl rfl (.inl rfl) Fu25 rfl Fs25 rfl ?_; clear hS
      intro tm hS
      refine pp1 hS rfl rfl ?_; clear hS
      intro tm hS
      obtain ⟨r6, hx5, h5⟩ := bindS h5
      refine o_call hS (.inl rfl) rfl (fun wm' hw1 hw2 => wk40  a1 i1  v1 v2 (((hS.sel hw2).ad 6 rfl).ad 5 rfl) hx5) (fun wm' res H hw' hp => ?_)
      obtain ⟨hres, hI⟩ := hp
      replace hres := hres.symm; subst hres
      replace hS : S wm 93 _ H ((73, .agg #[.int .i64 r6.n, .bool r6.char]) :: _) ([] ++ _) Fr := hS.after rfl hw' hI
      clear hI hw'
      refine o_ldA (k := 1) hS (.inl rfl) rfl rfl rfl (.inl rfl) Fu25 rfl Fs25 rfl ?_; clear hS
      intro tm hS
      refine pp1 hS rfl rfl ?_; clear hS
      intro tm hS
      obtain ⟨r7, hx6, h5⟩ := bindS h5
      refine o_call hS (.inl rfl) rfl (fun wm' hw1 hw2 => wk40  b1 t1  v3 v4 (((hS.sel hw2).ad 8 rfl).ad 7 rfl) hx6) (fun wm' res H hw' hp => ?_)
      obtain ⟨hres, hI⟩ := hp
      replace hres := hres.symm; subst hres
      replace hS : S wm 93 _ H ((76, .agg #[.int .i64 r7.n, .bool r7.char]) :: _) ([] ++ _) Fr := hS.after rfl hw' hI
      clear hI hw'
      obtain ⟨fn2, hx7, h5⟩ := bindS h5
      obtain ⟨b6, hv1, hS⟩ := hS.unclo (k := 9) rfl hx7
      obtain ⟨⟨r8, r9⟩, hx8, h5⟩ := bindS h5
      refine o_call hS (.inl rfl) (by subst hv1; rfl) (fun wm' hw1 hw2 => wk87 ho100 r6 r7 fn2  b6 ((hS.sel hw2).adB 0 rfl) hx8) (fun wm' res H hw' hp => ?_)
      obtain ⟨hres, hI⟩ := hp
      replace hres := hres.symm; subst hres
      replace hS : S wm 93 _ H ((77, .tuple #[.agg #[.int .i64 r8.n, .bool r8.char], .int .i64 r9]) :: _) ([] ++ _) Fr := hS.after rfl hw' hI
      clear hI hw'
      refine pp3 hS rfl rfl rfl rfl rfl rfl ?_; clear hS
      intro tm hS
      refine o_alloc hS (.inl rfl) rfl Fz72 (by decide) ?_; clear hS
      intro b7 tm H hS
      refine o_st (k := 0) hS (.inl rfl) rfl rfl rfl Fs72 rfl rfl (all_cons rfl (all_cons rfl all_nil)) rfl ?_; clear hS; try clear H
      intro H hS
      refine pp1 hS rfl rfl ?_; clear hS
      intro tm hS
      refine o_nil (hR _ _ ?_)
      clear hR R
      refine c_seqS ?_
      refine cr2 hS rfl rfl rfl rfl ?_; clear hS
      intro tm hS
      refine c_cond hS rfl (fun hc => ?_) (fun hc => ?_)
      ·replace h5 := iteT hc h5
       refine c_reg fun R hR => ?_
       refine o_build hS (.inl rfl) rfl Fb25 rfl .nil rfl ?_; clear hS
       intro tm hS
       refine pp1 hS rfl rfl ?_; clear hS
       intro tm hS
       refine o_st (k := 4) hS (.inl rfl) rfl rfl rfl Fs25 rfl rfl (all_cons rfl (all_cons rfl (all_cons rfl all_nil))) rfl ?_; clear hS; try clear H
       intro H hS
       refine pp1 hS rfl rfl ?_; clear hS
       intro tm hS
       refine o_nil (hR _ _ ?_)
       clear hR R
       refine wpC.ret ?_
       obtain rfl := Option.some.inj h5
       obtain rfl := hq5 _ rfl
       refine And.intro rfl ?_
       obtain rfl := leave h3
       obtain rfl := hq3 _ rfl
       refine And.intro rfl ?_
       obtain rfl := leave h0
       replace hS := hS.nilOwn (rI .i64)
       replace hS := hS.nilOwn (rI .i64)
       refine Exists.intro _ (And.intro (rs_cellA (k := 6) hS rfl rfl (.inl rfl) Fu25 rfl Fs25 rfl (rs_tmp hS rfl rs_nil)) ?_)
       have hI := hS.inv
       exact ⟨(.slice none 0 0), (.slice none 0 0), rfl, (((hI.pull 0 rfl).pull 1 rfl).take 2)⟩
      ·replace h5 := iteF hc h5
       refine wpC.skip ?_
       refine c_reg1 fun R hR => ?_
       refine pp1 hS rfl rfl ?_; clear hS
       intro tm hS
       refine o_ld1 (k := 5) hS (.inl rfl) rfl rfl rfl (.inl rfl) Fu23 rfl rfl ?_; clear hS
       intro tm hS
       refine pp1 hS rfl rfl ?_; clear hS
       intro tm hS
       refine o_ld1 (k := 0) hS (.inl rfl) rfl rfl rfl (.inl rfl) Fu2 rfl rfl ?_; clear hS
       intro tm hS
       refine o_lit (r := (rI .i64)) (l := [r8.n]) hS (.inl rfl) rfl Fl23 rfl rfl rfl (.cons rfl .nil) rfl rfl (ri_1 (rd_flat fun _ => rfl) ri_nil) rfl ?_; clear hS
       intro v13 tm H hS
       obtain ⟨l2, hx9, h5⟩ := bindS h5
       refine o_app (k1 := 7) (k2 := 0) (r := (rI .i64)) hS (.inl rfl) rfl rfl rfl rfl rfl (.inr (.inr rfl)) rfl Fe23_23 rfl hx9 ?_; clear hS
       intro v14 tm H hS
       refine pp1 hS rfl rfl ?_; clear hS
       intro tm hS
       refine o_st (k := 6) hS (.inl rfl) rfl rfl rfl Fs23 (cells_one (hS.one (k := 7) rfl (.inr (.inl rfl)))) rfl (all_cons (hS.one (k := 7) rfl (.inr (.inl rfl))) all_nil) rfl ?_; clear hS; try clear H
       intro H hS
       refine o_nil (hR _ _ ?_)
       clear hR R
       refine cs2 hS rfl rfl rfl rfl ?_; clear hS
       intro tm hS
       obtain rfl := Option.some.inj h5
       refine ⟨_, rfl, ?_⟩
       refine Exists.intro v14 ?_; change S wm 93 _ _ _ _ Fr; exact hS.keep (k9 rfl rfl rfl rfl rfl rfl rfl rfl rfl) (fun hI => (hI.sub (sd (sd (sd (sc (sc (sc (sc (sc (sc (sc (sc (sc (sc (sc sn))))))))))))))))
     ·replace h5 := iteF hc h5
      refine wpC.exit ?_
      refine seqX ?_
      obtain rfl := Option.some.inj h5
      obtain rfl := hq5 _ rfl
      refine And.intro rfl (blk_eq ?_)
      replace h3 := joinN h3
      refine cs3 hS rfl rfl rfl rfl rfl rfl ?_; clear hS
      intro tm hS
      obtain rfl := Option.some.inj h3
      refine ⟨_, rfl, ?_⟩
      refine Exists.intro v12 ?_; change S wm 93 _ _ _ _ Fr; exact hS.keep (k7 rfl rfl rfl rfl rfl rfl rfl) (fun hI => (hI.sub (sc (sc (sc (sc (sc (sc (sc (sc (sc (sc (sc sn)))))))))))))
    ·replace h3 := iteF hc h3
     refine wpC.exit ?_
     refine seqX ?_
     obtain rfl := Option.some.inj h3
     obtain rfl := hq3 _ rfl
     refine And.intro rfl (blk_eq ?_)
     replace h0 := joinN h0
     refine c_reg fun R hR => ?_
     refine o_ldA (k := 3) hS (.inl rfl) rfl rfl rfl (.inl rfl) Fu25 rfl Fs25 rfl ?_; clear hS
     intro tm hS
     refine o_st (k := 2) hS (.inl rfl) rfl rfl rfl Fs25 rfl rfl (all_cons rfl (all_cons (hS.one (k := 10) rfl (.inr (.inl rfl))) (all_cons (hS.one (k := 4) rfl (.inr (.inl rfl))) all_nil))) rfl ?_; clear hS; try clear H
     intro H hS
     refine pp1 hS rfl rfl ?_; clear hS
     intro tm hS
     refine o_nil (hR _ _ ?_)
     clear hR R
     refine wpC.ret ?_
     obtain rfl := Option.some.inj h0
     refine Exists.intro _ (And.intro (rs_cellA (k := 2) hS rfl rfl (.inl rfl) Fu25 rfl Fs25 rfl (rs_tmp hS rfl rs_nil)) ?_)
     have hI := hS.inv
     exact ⟨v9, v11, rfl, (((hI.pull 4 rfl).pull 10 rfl).take 2)⟩
theorem wk21 {wm : Nat} {H : AHeap} {Fr : List Ent}  (a1 : Val) (b1 : Val)  (v1 : Value) (v2 : Value) (v3 : Value) (v4 : Value) (hI : Kn wm H [.fz (rI .i64) v1 a1.Shape, .fz (rI .i64) v2 a1.Data, .fz (rI .i64) v3 b1.Shape, .fz (rI .i64) v4 b1.Data] Fr) {r : Bool} (h0 : M.anamnesisref02_Same a1 b1 = some r) :
  wpF Try.prog ora wm 21 [.agg #[.bool a1.Char, v1, v2], .agg #[.bool b1.Char, v3, v4]] H (fun res H => res = .bool r ∧ Kn wm H [] Fr) := by
 unfold M.anamnesisref02_Same at h0
 refine f_enter (n := 66) Try.func21 rfl (by simp) hI rfl rfl rfl fun tm hS => ?_
 clear hI
 refine c_reg fun R hR => ?_
 refine o_box hS (.inl rfl) rfl rfl rfl (all_cons rfl (all_cons (hS.one (k := 0) rfl (.inl rfl)) (all_cons (hS.one (k := 1) rfl (.inl rfl)) all_nil))) ?_; clear hS
 intro b2 tm H hS
 refine o_box hS (.inl rfl) rfl rfl rfl (all_cons rfl (all_cons (hS.one (k := 3) rfl (.inl rfl)) (all_cons (hS.one (k := 4) rfl (.inl rfl)) all_nil))) ?_; clear hS
 intro b3 tm H hS
 refine pp1 hS rfl rfl ?_; clear hS
 intro tm hS
 refine o_nil (hR _ _ ?_)
 clear hR R
 refine c_seqS ?_
 refine c_reg fun R hR => ?_
 refine pp1 hS rfl rfl ?_; clear hS
 intro tm hS
 refine o_ld1 (k := 1) hS (.inl rfl) rfl rfl rfl (.inl rfl) Fu4 rfl rfl ?_; clear hS
 intro tm hS
 refine pp1 hS rfl rfl ?_; clear hS
 intro tm hS
 refine o_ld1 (k := 0) hS (.inl rfl) rfl rfl rfl (.inl rfl) Fu4 rfl rfl ?_; clear hS
 intro tm hS
 refine pp2 hS rfl rfl rfl rfl ?_; clear hS
 intro tm hS
 obtain ⟨c1, hc1⟩ : ∃ x : Bool, x = ((!(a1.Char == b1.Char)) || ((a1.Shape.length : Int) != (b1.Shape.length : Int))) := ⟨_, rfl⟩
 refine o_cutN 8 (J := fun tm H => S wm 66 tm H [(20, .bool c1), (2, .pointer (some ⟨b2, 0, none⟩)), (3, .pointer (some ⟨b3, 0, none⟩))] [.box b3 [.bool b1.Char, v3, v4], .box b2 [.bool a1.Char, v1, v2], .fz (rI .i64) v1 a1.Shape, .fz (rI .i64) v2 a1.Data, .fz (rI .i64) v3 b1.Shape, .fz (rI .i64) v4 b1.Data] Fr) ?_ ?_
 ·rcases Bool.eq_false_or_eq_true (!(a1.Char == b1.Char)) with hg1 | hg1
  ·refine o_skip hS rfl rfl rfl hg1 ?_; clear hS
   intro tm hS
   refine o_skip hS rfl rfl rfl hg1 ?_; clear hS
   intro tm hS
   refine o_skip hS rfl rfl rfl hg1 ?_; clear hS
   intro tm hS
   refine o_skip hS rfl rfl rfl hg1 ?_; clear hS
   intro tm hS
   refine o_skip hS rfl rfl rfl hg1 ?_; clear hS
   intro tm hS
   refine o_skip hS rfl rfl rfl hg1 ?_; clear hS
   intro tm hS
   refine o_skip hS rfl rfl rfl hg1 ?_; clear hS
   intro tm hS
   refine o_pickT hS (.inl rfl) rfl rfl hg1 rfl ?_; clear hS
   intro tm hS
   have hc1 : c1 = true := hc1.trans (by rw [hg1]; first | rfl | simp)
   subst hc1
   exact o_nil (hS.keep (k3 rfl rfl rfl) (fun hI => (hI.sub (sc (sc (sc (sc (sc (sc sn)))))))))
  ·refine o_pure hS (.inr ⟨_, _, _, _, rfl, rfl, rfl, hg1⟩) rfl rfl ?_; clear hS
   intro tm hS
   refine o_ld1 (k := 1) hS (.inr ⟨_, _, _, _, rfl, rfl, rfl, hg1⟩) rfl rfl rfl (.inl rfl) Fu22 rfl rfl ?_; clear hS
   intro tm hS
   refine o_len (k := 2) (r := (rI .i64)) hS (.inr ⟨_, _, _, _, rfl, rfl, rfl, hg1⟩) rfl rfl rfl (.inl rfl) Fu22 rfl ?_; clear hS
   intro tm hS
   refine o_pure hS (.inr ⟨_, _, _, _, rfl, rfl, rfl, hg1⟩) rfl rfl ?_; clear hS
   intro tm hS
   refine o_ld1 (k := 0) hS (.inr ⟨_, _, _, _, rfl, rfl, rfl, hg1⟩) rfl rfl rfl (.inl rfl) Fu22 rfl rfl ?_; clear hS
   intro tm hS
   refine o_len (k := 4) (r := (rI .i64)) hS (.inr ⟨_, _, _, _, rfl, rfl, rfl, hg1⟩) rfl rfl rfl (.inl rfl) Fu22 rfl ?_; clear hS
   intro tm hS
   refine o_pure hS (.inr ⟨_, _, _, _, rfl, rfl, rfl, hg1⟩) rfl rfl ?_; clear hS
   intro tm hS
   refine o_pickF hS (.inl rfl) rfl rfl hg1 rfl ?_; clear hS
   intro tm hS
   have hc1 : c1 = ((a1.Shape.length : Int) != (b1.Shape.length : Int)) := hc1.trans (by rw [hg1]; first | rfl | simp)
   subst hc1
   exact o_nil (hS.keep (k3 rfl rfl rfl) (fun hI => (hI.sub (sc (sc (sc (sc (sc (sc sn)))))))))
 intro tm H hS
 subst hc1
 refine pp1 hS rfl rfl ?_; clear hS
 intro tm hS
 obtain ⟨c2, hc2⟩ : ∃ x : Bool, x = (((!(a1.Char == b1.Char)) || ((a1.Shape.length : Int) != (b1.Shape.length : Int))) || ((a1.Data.length : Int) != (b1.Data.length : Int))) := ⟨_, rfl⟩
 refine o_cutN 8 (J := fun tm H => S wm 66 tm H [(29, .bool c2), (2, .pointer (some ⟨b2, 0, none⟩)), (3, .pointer (some ⟨b3, 0, none⟩))] [.box b3 [.bool b1.Char, v3, v4], .box b2 [.bool a1.Char, v1, v2], .fz (rI .i64) v1 a1.Shape, .fz (rI .i64) v2 a1.Data, .fz (rI .i64) v3 b1.Shape, .fz (rI .i64) v4 b1.Data] Fr) ?_ ?_
 ·rcases Bool.eq_false_or_eq_true ((!(a1.Char == b1.Char)) || ((a1.Shape.length : Int) != (b1.Shape.length : Int))) with hg2 | hg2
  ·refine o_skip hS rfl rfl rfl hg2 ?_; clear hS
   intro tm hS
   refine o_skip hS rfl rfl rfl hg2 ?_; clear hS
   intro tm hS
   refine o_skip hS rfl rfl rfl hg2 ?_; clear hS
   intro tm hS
   refine o_skip hS rfl rfl rfl hg2 ?_; clear hS
   intro tm hS
   refine o_skip hS rfl rfl rfl hg2 ?_; clear hS
   intro tm hS
   refine o_skip hS rfl rfl rfl hg2 ?_; clear hS
   intro tm hS
   refine o_skip hS rfl rfl rfl hg2 ?_; clear hS
   intro tm hS
   refine o_pickT hS (.inl rfl) rfl rfl hg2 rfl ?_; clear hS
   intro tm hS
   have hc2 : c2 = true := hc2.trans (by rw [hg2]; first | rfl | simp)
   subst hc2
   exact o_nil (hS.keep (k3 rfl rfl rfl) (fun hI => (hI.sub (sc (sc (sc (sc (sc (sc sn)))))))))
  ·refine o_pure hS (.inr ⟨_, _, _, _, rfl, rfl, rfl, hg2⟩) rfl rfl ?_; clear hS
   intro tm hS
   refine o_ld1 (k := 1) hS (.inr ⟨_, _, _, _, rfl, rfl, rfl, hg2⟩) rfl rfl rfl (.inl rfl) Fu23 rfl rfl ?_; clear hS
   intro tm hS
   refine o_len (k := 3) (r := (rI .i64)) hS (.inr ⟨_, _, _, _, rfl, rfl, rfl, hg2⟩) rfl rfl rfl (.inl rfl) Fu23 rfl ?_; clear hS
   intro tm hS
   refine o_pure hS (.inr ⟨_, _, _, _, rfl, rfl, rfl, hg2⟩) rfl rfl ?_; clear hS
   intro tm hS
   refine o_ld1 (k := 0) hS (.inr ⟨_, _, _, _, rfl, rfl, rfl, hg2⟩) rfl rfl rfl (.inl rfl) Fu23 rfl rfl ?_; clear hS
   intro tm hS
   refine o_len (k := 5) (r := (rI .i64)) hS (.inr ⟨_, _, _, _, rfl, rfl, rfl, hg2⟩) rfl rfl rfl (.inl rfl) Fu23 rfl ?_; clear hS
   intro tm hS
   refine o_pure hS (.inr ⟨_, _, _, _, rfl, rfl, rfl, hg2⟩) rfl rfl ?_; clear hS
   intro tm hS
   refine o_pickF hS (.inl rfl) rfl rfl hg2 rfl ?_; clear hS
   intro tm hS
   have hc2 : c2 = ((a1.Data.length : Int) != (b1.Data.length : Int)) := hc2.trans (by rw [hg2]; first | rfl | simp)
   subst hc2
   exact o_nil (hS.keep (k3 rfl rfl rfl) (fun hI => (hI.sub (sc (sc (sc (sc (sc (sc sn)))))))))
 intro tm H hS
 subst hc2
 refine o_nil (hR _ _ ?_)
 clear hR R
 refine c_cond hS rfl (fun hc => ?_) (fun hc => ?_)
 ·replace h0 := iteT hc h0
  refine cr1 hS rfl rfl ?_; clear hS
  intro tm hS
  refine wpC.ret ?_
  obtain rfl := Option.some.inj h0
  refine Exists.intro _ (And.intro (rs_tmp hS rfl rs_nil) ?_)
  have hI := hS.inv
  exact ⟨rfl, (hI.sub sn)⟩
 ·replace h0 := iteF hc h0
  refine wpC.skip ?_
  refine c_seqS ?_
  refine cr1 hS rfl rfl ?_; clear hS
  intro tm hS
  obtain ⟨k1, hw1, h0⟩ := bindS h0
  refine wpC.block ?_
  refine c_loop (I := fun (s : Int) tm H => match (generalizing := false) s with | i1 => S wm 66 tm H [(2, .pointer (some ⟨b2, 0, none⟩)), (3, .pointer (some ⟨b3, 0, none⟩)), (5, .int .i64 i1)] [.box b2 [.bool a1.Char, v1, v2], .box b3 [.bool b1.Char, v3, v4], .fz (rI .i64) v1 a1.Shape, .fz (rI .i64) v2 a1.Data, .fz (rI .i64) v3 b1.Shape, .fz (rI .i64) v4 b1.Data] Fr) hw1 (by change S wm 66 _ _ _ _ Fr; exact hS.keep (k3 rfl rfl rfl) (fun hI => (((((((hI.pull 5 rfl).pull 5 rfl).pull 5 rfl).pull 5 rfl).pull 4 rfl).pull 5 rfl).take 6))) ?_
  clear hS
  intro i1 tm H c3 hS h1 hq1
  change S wm 66 tm H [(2, .pointer (some ⟨b2, 0, none⟩)), (3, .pointer (some ⟨b3, 0, none⟩)), (5, .int .i64 i1)] [.box b2 [.bool a1.Char, v1, v2], .box b3 [.bool b1.Char, v3, v4], .fz (rI .i64) v1 a1.Shape, .fz (rI .i64) v2 a1.Data, .fz (rI .i64) v3 b1.Shape, .fz (rI .i64) v4 b1.Data] Fr at hS
  refine c_seqS ?_
  refine c_reg fun R hR => ?_
  refine pp2 hS rfl rfl rfl rfl ?_; clear hS
  intro tm hS
  refine o_ld1 (k := 0) hS (.inl rfl) rfl rfl rfl (.inl rfl) Fu22 rfl rfl ?_; clear hS
  intro tm hS
  refine o_len (k := 2) (r := (rI .i64)) hS (.inl rfl) rfl rfl rfl (.inl rfl) Fu22 rfl ?_; clear hS
  intro tm hS
  refine pp1 hS rfl rfl ?_; clear hS
  intro tm hS
  refine o_nil (hR _ _ ?_)
  clear hR R
  refine c_cond hS rfl (fun hc => ?_) (fun hc => ?_)
  ·replace h1 := iteT hc h1
   refine wpC.skip ?_
   refine c_seqS ?_
   refine wpC.block ?_
   refine c_reg fun R hR => ?_
   refine pp1 hS rfl rfl ?_; clear hS
   intro tm hS
   refine o_ld1 (k := 0) hS (.inl rfl) rfl rfl rfl (.inl rfl) Fu22 rfl rfl ?_; clear hS
   intro tm hS
   refine pp1 hS rfl rfl ?_; clear hS
   intro tm hS
   obtain ⟨y1, hx1, h1⟩ := bindS h1
   refine o_ixA (k := 2) (r := (rI .i64)) hS (.inl rfl) rfl rfl rfl rfl (.inl rfl) Fu22 Fs3 hx1 ?_; clear hS
   intro tm hS
   refine o_ldF (r := (rI .i64)) (k := 2) hS (.inl rfl) rfl rfl rfl (.inl rfl) hx1 Fu3 rfl (flat_I _) rfl ?_; clear hS
   intro tm hS
   refine pp1 hS rfl rfl ?_; clear hS
   intro tm hS
   refine o_ld1 (k := 1) hS (.inl rfl) rfl rfl rfl (.inl rfl) Fu22 rfl rfl ?_; clear hS
   intro tm hS
   refine pp1 hS rfl rfl ?_; clear hS
   intro tm hS
   obtain ⟨y2, hx2, h1⟩ := bindS h1
   refine o_ixA (k := 4) (r := (rI .i64)) hS (.inl rfl) rfl rfl rfl rfl (.inl rfl) Fu22 Fs3 hx2 ?_; clear hS
   intro tm hS
   refine o_ldF (r := (rI .i64)) (k := 4) hS (.inl rfl) rfl rfl rfl (.inl rfl) hx2 Fu3 rfl (flat_I _) rfl ?_; clear hS
   intro tm hS
   refine pp1 hS rfl rfl ?_; clear hS
   intro tm hS
   refine o_nil (hR _ _ ?_)
   clear hR R
   refine c_cond hS rfl (fun hc => ?_) (fun hc => ?_)
   ·replace h1 := iteT hc h1
    refine cr1 hS rfl rfl ?_; clear hS
    intro tm hS
    refine wpC.ret ?_
    obtain rfl := Option.some.inj h1
    obtain rfl := hq1 _ rfl
    refine And.intro rfl ?_
    obtain rfl := leave h0
    refine Exists.intro _ (And.intro (rs_tmp hS rfl rs_nil) ?_)
    have hI := hS.inv
    exact ⟨rfl, (hI.sub sn)⟩
   ·replace h1 := iteF hc h1
    refine wpC.skip ?_
    refine cs3 hS rfl rfl rfl rfl rfl rfl ?_; clear hS
    intro tm hS
    obtain rfl := Option.some.inj h1
    refine ⟨_, rfl, ?_⟩
    change S wm 66 _ _ _ _ Fr; exact hS.keep (k3 rfl rfl rfl) (fun hI => (hI.sub (sc (sc (sc (sc (sc (sc sn))))))))
  ·replace h1 := iteF hc h1
   refine wpC.exit ?_
   refine seqX ?_
   obtain rfl := Option.some.inj h1
   obtain rfl := hq1 _ rfl
   refine And.intro rfl (blk_eq ?_)
   replace h0 := joinN h0
   refine c_seqS ?_
   refine cr1 hS rfl rfl ?_; clear hS
   intro tm hS
   obtain ⟨k2, hw2, h0⟩ := bindS h0
   refine wpC.block ?_
   refine c_loop (I := fun (s : Int) tm H => match (generalizing := false) s with | i2 => S wm 66 tm H [(2, .pointer (some ⟨b2, 0, none⟩)), (3, .pointer (some ⟨b3, 0, none⟩)), (6, .int .i64 i2)] [.box b2 [.bool a1.Char, v1, v2], .box b3 [.bool b1.Char, v3, v4], .fz (rI .i64) v1 a1.Shape, .fz (rI .i64) v2 a1.Data, .fz (rI .i64) v3 b1.Shape, .fz (rI .i64) v4 b1.Data] Fr) hw2 (by change S wm 66 _ _ _ _ Fr; exact hS.keep (k3 rfl rfl rfl) (fun hI => (hI.sub (sc (sc (sc (sc (sc (sc sn))))))))) ?_
   clear hS
   intro i2 tm H c4 hS h3 hq3
   change S wm 66 tm H [(2, .pointer (some ⟨b2, 0, none⟩)), (3, .pointer (some ⟨b3, 0, none⟩)), (6, .int .i64 i2)] [.box b2 [.bool a1.Char, v1, v2], .box b3 [.bool b1.Char, v3, v4], .fz (rI .i64) v1 a1.Shape, .fz (rI .i64) v2 a1.Data, .fz (rI .i64) v3 b1.Shape, .fz (rI .i64) v4 b1.Data] Fr at hS
   refine c_seqS ?_
   refine c_reg fun R hR => ?_
   refine pp2 hS rfl rfl rfl rfl ?_; clear hS
   intro tm hS
   refine o_ld1 (k := 0) hS (.inl rfl) rfl rfl rfl (.inl rfl) Fu23 rfl rfl ?_; clear hS
   intro tm hS
   refine o_len (k := 3) (r := (rI .i64)) hS (.inl rfl) rfl rfl rfl (.inl rfl) Fu23 rfl ?_; clear hS
   intro tm hS
   refine pp1 hS rfl rfl ?_; clear hS
   intro tm hS
   refine o_nil (hR _ _ ?_)
   clear hR R
   refine c_cond hS rfl (fun hc => ?_) (fun hc => ?_)
   ·replace h3 := iteT hc h3
    refine wpC.skip ?_
    refine c_seqS ?_
    refine wpC.block ?_
    refine c_reg fun R hR => ?_
    refine pp1 hS rfl rfl ?_; clear hS
    intro tm hS
    refine o_ld1 (k := 0) hS (.inl rfl) rfl rfl rfl (.inl rfl) Fu23 rfl rfl ?_; clear hS
    intro tm hS
    refine pp1 hS rfl rfl ?_; clear hS
    intro tm hS
    obtain ⟨y3, hx3, h3⟩ := bindS h3
    refine o_ixA (k := 3) (r := (rI .i64)) hS (.inl rfl) rfl rfl rfl rfl (.inl rfl) Fu23 Fs2 hx3 ?_; clear hS
    intro tm hS
    refine o_ldF (r := (rI .i64)) (k := 3) hS (.inl rfl) rfl rfl rfl (.inl rfl) hx3 Fu2 rfl (flat_I _) rfl ?_; clear hS
    intro tm hS
    refine pp1 hS rfl rfl ?_; clear hS
    intro tm hS
    refine o_ld1 (k := 1) hS (.inl rfl) rfl rfl rfl (.inl rfl) Fu23 rfl rfl ?_; clear hS
    intro tm hS
    refine pp1 hS rfl rfl ?_; clear hS
    intro tm hS
    obtain ⟨y4, hx4, h3⟩ := bindS h3
    refine o_ixA (k := 5) (r := (rI .i64)) hS (.inl rfl) rfl rfl rfl rfl (.inl rfl) Fu23 Fs2 hx4 ?_; clear hS
    intro tm hS
    refine o_ldF (r := (rI .i64)) (k := 5) hS (.inl rfl) rfl rfl rfl (.inl rfl) hx4 Fu2 rfl (flat_I _) rfl ?_; clear hS
    intro tm hS
    refine pp1 hS rfl rfl ?_; clear hS
    intro tm hS
    refine o_nil (hR _ _ ?_)
    clear hR R
    refine c_cond hS rfl (fun hc => ?_) (fun hc => ?_)
    ·replace h3 := iteT hc h3
     refine cr1 hS rfl rfl ?_; clear hS
     intro tm hS
     refine wpC.ret ?_
     obtain rfl := Option.some.inj h3
     obtain rfl := hq3 _ rfl
     refine And.intro rfl ?_
     obtain rfl := leave h0
     refine Exists.intro _ (And.intro (rs_tmp hS rfl rs_nil) ?_)
     have hI := hS.inv
     exact ⟨rfl, (hI.sub sn)⟩
    ·replace h3 := iteF hc h3
     refine wpC.skip ?_
     refine cs3 hS rfl rfl rfl rfl rfl rfl ?_; clear hS
     intro tm hS
     obtain rfl := Option.some.inj h3
     refine ⟨_, rfl, ?_⟩
     change S wm 66 _ _ _ _ Fr; exact hS.keep (k3 rfl rfl rfl) (fun hI => (hI.sub (sc (sc (sc (sc (sc (sc sn))))))))
   ·replace h3 := iteF hc h3
    refine wpC.exit ?_
    refine seqX ?_
    obtain rfl := Option.some.inj h3
    obtain rfl := hq3 _ rfl
    refine And.intro rfl (blk_eq ?_)
    replace h0 := joinN h0
    refine cr1 hS rfl rfl ?_; clear hS
    intro tm hS
    refine wpC.ret ?_
    obtain rfl := Option.some.inj h0
    refine Exists.intro _ (And.intro (rs_tmp hS rfl rs_nil) ?_)
    have hI := hS.inv
    exact ⟨rfl, (hI.sub sn)⟩
theorem wk68 {wm : Nat} {H : AHeap} {Fr : List Ent}  (s1 : (List Int))  (v1 : Value) (hI : Kn wm H [.fz (rI .i64) v1 s1] Fr) {r : Bool} (h0 : M.shape_sized s1 = some r) :
  wpF Try.prog ora wm 68 [v1] H (fun res H => res = .bool r ∧ Kn wm H [] Fr) := by
 unfold M.shape_sized at h0
 refine f_enter (n := 12) Try.func68 rfl (by simp) hI rfl rfl rfl fun tm hS => ?_
 clear hI
 refine cr1 hS rfl rfl ?_; clear hS
 intro tm hS
 refine c_reg fun R hR => ?_
 refine pp1 hS rfl rfl ?_; clear hS
 intro tm hS
 obtain ⟨⟨r1, r2⟩, hx1, h0⟩ := bindS h0
 refine o_call hS (.inl rfl) rfl (fun wm' hw1 hw2 => wk35  s1  v1 ((hS.sel hw2).ad 0 rfl) hx1) (fun wm' res H hw' hp => ?_)
 obtain ⟨hres, hI⟩ := hp
 replace hres := hres.symm; subst hres
 replace hS : S wm 12 _ H ((7, .tuple #[.int .i64 r1, .int .i64 r2]) :: _) ([] ++ _) Fr := hS.after rfl hw' hI
 clear hI hw'
 refine pp5 hS rfl rfl rfl rfl rfl rfl rfl rfl rfl rfl ?_; clear hS
 intro tm hS
 refine o_nil (hR _ _ ?_)
 clear hR R
 refine cr3 hS rfl rfl rfl rfl rfl rfl ?_; clear hS
 intro tm hS
 refine wpC.ret ?_
 obtain rfl := Option.some.inj h0
 refine Exists.intro _ (And.intro (rs_tmp hS rfl rs_nil) ?_)
 have hI := hS.inv
 exact ⟨rfl, (hI.sub sn)⟩
theorem wk36 {wm : Nat} {H : AHeap} {Fr : List Ent}  (s1 : (List Int)) (axis1 : Int)  (v1 : Value) (hI : Kn wm H [.fz (rI .i64) v1 s1] Fr) {r : Int × Int × Int × Bool} (h0 : M.shape_Split s1 axis1 = some r) :
  wpF Try.prog ora wm 36 [v1, .int .i64 axis1] H (fun res H => res = .tuple #[.int .i64 r.1, .int .i64 r.2.1, .int .i64 r.2.2.1, .bool r.2.2.2] ∧ Kn wm H [] Fr) := by
 unfold M.shape_Split at h0
 refine f_enter (n := 34) Try.func36 rfl (by simp) hI rfl rfl rfl fun tm hS => ?_
 clear hI
 refine cr4 hS rfl rfl rfl rfl rfl rfl rfl rfl ?_; clear hS
 intro tm hS
 refine c_seqS ?_
 refine c_reg fun R hR => ?_
 refine pp3 hS rfl rfl rfl rfl rfl rfl ?_; clear hS
 intro tm hS
 obtain ⟨c1, hc1⟩ : ∃ x : Bool, x = ((decide (axis1 < 0)) || (decide (axis1 ≥ (s1.length : Int)))) := ⟨_, rfl⟩
 refine o_cutN 5 (J := fun tm H => S wm 34 tm H [(15, .bool c1), (0, v1), (1, .int .i64 axis1)] [.fz (rI .i64) v1 s1] Fr) ?_ ?_
 ·rcases Bool.eq_false_or_eq_true (decide (axis1 < 0)) with hg1 | hg1
  ·refine o_skip hS rfl rfl rfl hg1 ?_; clear hS
   intro tm hS
   refine o_skip hS rfl rfl rfl hg1 ?_; clear hS
   intro tm hS
   refine o_skip hS rfl rfl rfl hg1 ?_; clear hS
   intro tm hS
   refine o_skip hS rfl rfl rfl hg1 ?_; clear hS
   intro tm hS
   refine o_pickT hS (.inl rfl) rfl rfl hg1 rfl ?_; clear hS
   intro tm hS
   have hc1 : c1 = true := hc1.trans (by rw [hg1]; first | rfl | simp)
   subst hc1
   exact o_nil (hS.keep (k3 rfl rfl rfl) (fun hI => (hI.sub (sc sn))))
  ·refine o_pure hS (.inr ⟨_, _, _, _, rfl, rfl, rfl, hg1⟩) rfl rfl ?_; clear hS
   intro tm hS
   refine o_pure hS (.inr ⟨_, _, _, _, rfl, rfl, rfl, hg1⟩) rfl rfl ?_; clear hS
   intro tm hS
   refine o_len (k := 0) (r := (rI .i64)) hS (.inr ⟨_, _, _, _, rfl, rfl, rfl, hg1⟩) rfl rfl rfl (.inl rfl) Fu22 rfl ?_; clear hS
   intro tm hS
   refine o_pure hS (.inr ⟨_, _, _, _, rfl, rfl, rfl, hg1⟩) rfl rfl ?_; clear hS
   intro tm hS
   refine o_pickF hS (.inl rfl) rfl rfl hg1 rfl ?_; clear hS
   intro tm hS
   have hc1 : c1 = (decide (axis1 ≥ (s1.length : Int))) := hc1.trans (by rw [hg1]; first | rfl | simp)
   subst hc1
   exact o_nil (hS.keep (k3 rfl rfl rfl) (fun hI => (hI.sub (sc sn))))
 intro tm H hS
 subst hc1
 refine pp1 hS rfl rfl ?_; clear hS
 intro tm hS
 obtain ⟨c2, hc2, h0⟩ := bindS h0
 refine o_cutN 4 (J := fun tm H => S wm 34 tm H [(20, .bool c2), (0, v1), (1, .int .i64 axis1)] [.fz (rI .i64) v1 s1] Fr) ?_ ?_
 ·rcases Bool.eq_false_or_eq_true ((decide (axis1 < 0)) || (decide (axis1 ≥ (s1.length : Int)))) with hg2 | hg2
  ·replace hc2 := iteT hg2 hc2
   refine o_skip hS rfl rfl rfl hg2 ?_; clear hS
   intro tm hS
   refine o_skip hS rfl rfl rfl hg2 ?_; clear hS
   intro tm hS
   refine o_skip hS rfl rfl rfl hg2 ?_; clear hS
   intro tm hS
   refine o_pickT hS (.inl rfl) rfl rfl hg2 rfl ?_; clear hS
   intro tm hS
   obtain rfl := Option.some.inj hc2
   exact o_nil (hS.keep (k3 rfl rfl rfl) (fun hI => (hI.sub (sc sn))))
  ·replace hc2 := iteF hg2 hc2
   refine o_pure hS (.inr ⟨_, _, _, _, rfl, rfl, rfl, hg2⟩) rfl rfl ?_; clear hS
   intro tm hS
   obtain ⟨r1, hx1, hc2⟩ := bindS hc2
   refine o_call hS (.inr ⟨_, _, _, _, rfl, rfl, rfl, hg2⟩) rfl (fun wm' hw1 hw2 => wk68  s1  v1 ((hS.sel hw2).ad 0 rfl) hx1) (fun wm' res H hw' hp => ?_)
   obtain ⟨hres, hI⟩ := hp
   replace hres := hres.symm; subst hres
   replace hS : S wm 34 _ H ((18, .bool r1) :: _) ([] ++ _) Fr := hS.after rfl hw' hI
   clear hI hw'
   refine o_pure hS (.inr ⟨_, _, _, _, rfl, rfl, rfl, hg2⟩) rfl rfl ?_; clear hS
   intro tm hS
   refine o_pickF hS (.inl rfl) rfl rfl hg2 rfl ?_; clear hS
   intro tm hS
   obtain rfl := Option.some.inj hc2
   exact o_nil (hS.keep (k3 rfl rfl rfl) (fun hI => (hI.sub (sc sn))))
 intro tm H hS
 refine o_nil (hR _ _ ?_)
 clear hR R
 refine c_cond hS rfl (fun hc => ?_) (fun hc => ?_)
 ·replace h0 := iteT hc h0
  refine cr4 hS rfl rfl rfl rfl rfl rfl rfl rfl ?_; clear hS
  intro tm hS
  refine wpC.ret ?_
  obtain rfl := Option.some.inj h0
  refine Exists.intro _ (And.intro (rs_tmp hS rfl (rs_tmp hS rfl (rs_tmp hS rfl (rs_tmp hS rfl rs_nil)))) ?_)
  have hI := hS.inv
  exact ⟨rfl, (hI.sub sn)⟩
 ·replace h0 := iteF hc h0
  refine wpC.skip ?_
  refine c_reg fun R hR => ?_
  refine pp2 hS rfl rfl rfl rfl ?_; clear hS
  intro tm hS
  obtain ⟨l1, hx2, h0⟩ := bindS h0
  refine o_sl (k := 0) (r := (rI .i64)) hS (.inl rfl) rfl rfl rfl Fu22 Fs3 rfl rfl hx2 ?_; clear hS
  intro v2 tm hS
  obtain ⟨r2, hx3, h0⟩ := bindS h0
  refine o_call hS (.inl rfl) rfl (fun wm' hw1 hw2 => wk67  l1  v2 ((hS.sel hw2).ad 0 rfl) hx3) (fun wm' res H hw' hp => ?_)
  obtain ⟨hres, hI⟩ := hp
  replace hres := hres.symm; subst hres
  replace hS : S wm 34 _ H ((24, .int .i64 r2) :: _) ([] ++ _) Fr := hS.after rfl hw' hI
  clear hI hw'
  refine pp2 hS rfl rfl rfl rfl ?_; clear hS
  intro tm hS
  obtain ⟨y1, hx4, h0⟩ := bindS h0
  refine o_ixA (k := 1) (r := (rI .i64)) hS (.inl rfl) rfl rfl rfl rfl (.inl rfl) Fu22 Fs3 hx4 ?_; clear hS
  intro tm hS
  refine o_ldF (r := (rI .i64)) (k := 1) hS (.inl rfl) rfl rfl rfl (.inl rfl) hx4 Fu3 rfl (flat_I _) rfl ?_; clear hS
  intro tm hS
  refine pp3 hS rfl rfl rfl rfl rfl rfl ?_; clear hS
  intro tm hS
  obtain ⟨l2, hx5, h0⟩ := bindS h0
  refine o_sl (k := 1) (r := (rI .i64)) hS (.inl rfl) rfl rfl rfl Fu22 Fs3 rfl rfl hx5 ?_; clear hS
  intro v3 tm hS
  obtain ⟨r3, hx6, h0⟩ := bindS h0
  refine o_call hS (.inl rfl) rfl (fun wm' hw1 hw2 => wk67  l2  v3 ((hS.sel hw2).ad 0 rfl) hx6) (fun wm' res H hw' hp => ?_)
  obtain ⟨hres, hI⟩ := hp
  replace hres := hres.symm; subst hres
  replace hS : S wm 34 _ H ((33, .int .i64 r3) :: _) ([] ++ _) Fr := hS.after rfl hw' hI
  clear hI hw'
  refine pp4 hS rfl rfl rfl rfl rfl rfl rfl rfl ?_; clear hS
  intro tm hS
  refine o_nil (hR _ _ ?_)
  clear hR R
  refine wpC.ret ?_
  obtain rfl := Option.some.inj h0
  refine Exists.intro _ (And.intro (rs_tmp hS rfl (rs_tmp hS rfl (rs_tmp hS rfl (rs_tmp hS rfl rs_nil)))) ?_)
  have hI := hS.inv
  exact ⟨rfl, (hI.sub sn)⟩
theorem wk74 {wm : Nat} {H : AHeap} {Fr : List Ent}  (n1 : Int) (by1 : Int)   (hI : Kn wm H [] Fr) {r : Int} (h0 : M.over_step n1 by1 = some r) :
  wpF Try.prog ora wm 74 [.int .i64 n1, .int .i64 by1] H (fun res H => res = .int .i64 r ∧ Kn wm H [] Fr) := by
 unfold M.over_step at h0
 refine f_enter (n := 8) Try.func74 rfl (by simp) hI rfl rfl rfl fun tm hS => ?_
 clear hI
 refine cr1 hS rfl rfl ?_; clear hS
 intro tm hS
 refine c_seqS ?_
 refine cr2 hS rfl rfl rfl rfl ?_; clear hS
 intro tm hS
 refine c_cond hS rfl (fun hc => ?_) (fun hc => ?_)
 ·replace h0 := iteT hc h0
  refine cr1 hS rfl rfl ?_; clear hS
  intro tm hS
  refine wpC.ret ?_
  obtain rfl := Option.some.inj h0
  refine Exists.intro _ (And.intro (rs_tmp hS rfl rs_nil) ?_)
  have hI := hS.inv
  exact ⟨rfl, (hI.sub sn)⟩
 ·replace h0 := iteF hc h0
  refine wpC.skip ?_
  refine cr2 hS rfl rfl rfl rfl ?_; clear hS
  intro tm hS
  refine wpC.ret ?_
  obtain rfl := Option.some.inj h0
  refine Exists.intro _ (And.intro (rs_tmp hS rfl rs_nil) ?_)
  have hI := hS.inv
  exact ⟨rfl, (hI.sub sn)⟩
theorem wk45 {wm : Nat} {H : AHeap} {Fr : List Ent}  (v1 : Val)  (v2 : Value) (v3 : Value) (hI : Kn wm H [.fz (rI .i64) v2 v1.Shape, .fz (rI .i64) v3 v1.Data] Fr) {r : Am.Side} (h0 : M.over_left v1 = some r) :
  wpF Try.prog ora wm 45 [.agg #[.bool v1.Char, v2, v3]] H (fun res H => ∃ v5 v6 v7, res = .agg #[.bool r.v.Char, v5, v6, v7, .int .i64 r.n, .int .i64 r.size, .int .i64 r.across, .int .i64 r.inside] ∧ Kn wm H [.fz (rI .i64) v5 r.v.Shape, .fz (rI .i64) v6 r.v.Data, .fz (rI .i64) v7 r.s] Fr) := by
 unfold M.over_left at h0
 refine f_enter (n := 45) Try.func45 rfl (by simp) hI rfl rfl rfl fun tm hS => ?_
 clear hI
 refine c_reg fun R hR => ?_
 refine o_box hS (.inl rfl) rfl rfl rfl (all_cons rfl (all_cons (hS.one (k := 0) rfl (.inl rfl)) (all_cons (hS.one (k := 1) rfl (.inl rfl)) all_nil))) ?_; clear hS
 intro b1 tm H hS
 refine o_alloc hS (.inl rfl) rfl Fz87 (by decide) ?_; clear hS
 intro b2 tm H hS
 refine o_nil (hR _ _ ?_)
 clear hR R
 refine c_seqS ?_
 refine c_reg fun R hR => ?_
 refine pp1 hS rfl rfl ?_; clear hS
 intro tm hS
 refine o_ld1 (k := 1) hS (.inl rfl) rfl rfl rfl (.inl rfl) Fu22 rfl rfl ?_; clear hS
 intro tm hS
 refine o_len (k := 2) (r := (rI .i64)) hS (.inl rfl) rfl rfl rfl (.inl rfl) Fu22 rfl ?_; clear hS
 intro tm hS
 refine pp1 hS rfl rfl ?_; clear hS
 intro tm hS
 refine o_nil (hR _ _ ?_)
 clear hR R
 refine c_cond hS rfl (fun hc => ?_) (fun hc => ?_)
 ·replace h0 := iteT hc h0
  refine c_reg fun R hR => ?_
  refine o_ldA (k := 1) hS (.inl rfl) rfl rfl rfl (.inl rfl) Fu25 rfl Fs25 rfl ?_; clear hS
  intro tm hS
  refine o_build hS (.inl rfl) rfl Fb87 rfl (.cons rfl (.cons rfl (.cons rfl (.cons rfl (.cons rfl (.cons rfl .nil)))))) (fill_cons [.bool v1.Char, v2, v3, (.slice none 0 0), .int .i64 0, .int .i64 0, .int .i64 0, .int .i64 0] rfl rfl rfl (fill_cons [.bool v1.Char, v2, v3, (.slice none 0 0), .int .i64 0, .int .i64 0, .int .i64 0, .int .i64 0] rfl rfl rfl (fill_cons [.bool v1.Char, v2, v3, (.slice none 0 0), .int .i64 1, .int .i64 0, .int .i64 0, .int .i64 0] rfl rfl rfl (fill_cons [.bool v1.Char, v2, v3, (.slice none 0 0), .int .i64 1, .int .i64 1, .int .i64 0, .int .i64 0] rfl rfl rfl (fill_cons [.bool v1.Char, v2, v3, (.slice none 0 0), .int .i64 1, .int .i64 1, .int .i64 1, .int .i64 0] rfl rfl rfl (fill_cons [.bool v1.Char, v2, v3, (.slice none 0 0), .int .i64 1, .int .i64 1, .int .i64 1, .int .i64 0] rfl rfl rfl fill_nil)))))) ?_; clear hS
  intro tm hS
  refine o_stW (k := 0) hS (.inl rfl) rfl rfl rfl Fs87 rfl rfl (all_cons rfl (all_cons (hS.one (k := 2) rfl (.inl rfl)) (all_cons (hS.one (k := 3) rfl (.inl rfl)) (all_cons rfl (all_cons rfl (all_cons rfl (all_cons rfl (all_cons rfl all_nil)))))))) rfl ?_; clear hS; try clear H
  intro H hS
  refine o_nil (hR _ _ ?_)
  clear hR R
  refine wpC.ret ?_
  obtain rfl := Option.some.inj h0
  replace hS := hS.nilFz (rI .i64)
  refine Exists.intro _ (And.intro (rs_cellA (k := 1) hS rfl rfl (.inl rfl) Fu87 rfl Fs87 rfl rs_nil) ?_)
  have hI := hS.inv
  exact ⟨v2, v3, (.slice none 0 0), rfl, ((((hI.pull 0 rfl).pull 4 rfl).pull 4 rfl).take 3)⟩
 ·replace h0 := iteF hc h0
  refine wpC.skip ?_
  refine c_reg fun R hR => ?_
  refine pp1 hS rfl rfl ?_; clear hS
  intro tm hS
  refine o_ld1 (k := 1) hS (.inl rfl) rfl rfl rfl (.inl rfl) Fu22 rfl rfl ?_; clear hS
  intro tm hS
  refine o_len (k := 2) (r := (rI .i64)) hS (.inl rfl) rfl rfl rfl (.inl rfl) Fu22 rfl ?_; clear hS
  intro tm hS
  refine pp2 hS rfl rfl rfl rfl ?_; clear hS
  intro tm hS
  refine o_nil (hR _ _ ?_)
  clear hR R
  refine c_reg fun R hR => ?_
  refine pp1 hS rfl rfl ?_; clear hS
  intro tm hS
  refine o_ld1 (k := 1) hS (.inl rfl) rfl rfl rfl (.inl rfl) Fu22 rfl rfl ?_; clear hS
  intro tm hS
  refine pp1 hS rfl rfl ?_; clear hS
  intro tm hS
  obtain ⟨y1, hx1, h0⟩ := bindS h0
  refine o_ixA (k := 2) (r := (rI .i64)) hS (.inl rfl) rfl rfl rfl rfl (.inl rfl) Fu22 Fs3 hx1 ?_; clear hS
  intro tm hS
  refine o_ldF (r := (rI .i64)) (k := 2) hS (.inl rfl) rfl rfl rfl (.inl rfl) hx1 Fu3 rfl (flat_I _) rfl ?_; clear hS
  intro tm hS
  refine pp1 hS rfl rfl ?_; clear hS
  intro tm hS
  refine o_nil (hR _ _ ?_)
  clear hR R
  refine c_reg fun R hR => ?_
  refine pp1 hS rfl rfl ?_; clear hS
  intro tm hS
  refine o_ld1 (k := 1) hS (.inl rfl) rfl rfl rfl (.inl rfl) Fu22 rfl rfl ?_; clear hS
  intro tm hS
  refine pp1 hS rfl rfl ?_; clear hS
  intro tm hS
  obtain ⟨⟨r1, r2, r3, r4⟩, hx2, h0⟩ := bindS h0
  refine o_call hS (.inl rfl) rfl (fun wm' hw1 hw2 => wk36  v1.Shape (IntKind.i64.wrap ((v1.Shape.length : Int) - 1))  v2 ((hS.sel hw2).ad 2 rfl) hx2) (fun wm' res H hw' hp => ?_)
  obtain ⟨hres, hI⟩ := hp
  replace hres := hres.symm; subst hres
  replace hS : S wm 45 _ H ((28, .tuple #[.int .i64 r1, .int .i64 r2, .int .i64 r3, .bool r4]) :: _) ([] ++ _) Fr := hS.after rfl hw' hI
  clear hI hw'
  refine pp6 hS rfl rfl rfl rfl rfl rfl rfl rfl rfl rfl rfl rfl ?_; clear hS
  intro tm hS
  refine pp3 hS rfl rfl rfl rfl rfl rfl ?_; clear hS
  intro tm hS
  refine o_nil (hR _ _ ?_)
  clear hR R
  refine c_reg fun R hR => ?_
  refine o_ldA (k := 1) hS (.inl rfl) rfl rfl rfl (.inl rfl) Fu25 rfl Fs25 rfl ?_; clear hS
  intro tm hS
  refine pp1 hS rfl rfl ?_; clear hS
  intro tm hS
  refine o_ld1 (k := 1) hS (.inl rfl) rfl rfl rfl (.inl rfl) Fu22 rfl rfl ?_; clear hS
  intro tm hS
  refine pp2 hS rfl rfl rfl rfl ?_; clear hS
  intro tm hS
  obtain ⟨l1, hx3, h0⟩ := bindS h0
  refine o_sl3 (k := 2) (r := (rI .i64)) hS (.inl rfl) rfl rfl rfl Fu22 Fs3 rfl rfl rfl (by first | rfl | omega) hx3 ?_; clear hS
  intro v4 tm hS
  refine pp4 hS rfl rfl rfl rfl rfl rfl rfl rfl ?_; clear hS
  intro tm hS
  obtain ⟨r5, hx4, h0⟩ := bindS h0
  refine o_call hS (.inl rfl) rfl (fun wm' hw1 hw2 => wk74  y1 1   (hS.sel hw2) hx4) (fun wm' res H hw' hp => ?_)
  obtain ⟨hres, hI⟩ := hp
  replace hres := hres.symm; subst hres
  replace hS : S wm 45 _ H ((43, .int .i64 r5) :: _) ([] ++ _) Fr := hS.after rfl hw' hI
  clear hI hw'
  refine o_build hS (.inl rfl) rfl Fb87 rfl (.cons rfl (.cons (cells_one (hS.one (k := 0) rfl (.inl rfl))) (.cons rfl (.cons rfl (.cons rfl (.cons rfl .nil)))))) (fill_cons [.bool v1.Char, v2, v3, (.slice none 0 0), .int .i64 0, .int .i64 0, .int .i64 0, .int .i64 0] rfl rfl rfl (fill_cons [.bool v1.Char, v2, v3, v4, .int .i64 0, .int .i64 0, .int .i64 0, .int .i64 0] rfl rfl rfl (fill_cons [.bool v1.Char, v2, v3, v4, .int .i64 y1, .int .i64 0, .int .i64 0, .int .i64 0] rfl rfl rfl (fill_cons [.bool v1.Char, v2, v3, v4, .int .i64 y1, .int .i64 r1, .int .i64 0, .int .i64 0] rfl rfl rfl (fill_cons [.bool v1.Char, v2, v3, v4, .int .i64 y1, .int .i64 r1, .int .i64 y1, .int .i64 0] rfl rfl rfl (fill_cons [.bool v1.Char, v2, v3, v4, .int .i64 y1, .int .i64 r1, .int .i64 y1, .int .i64 r5] rfl rfl rfl fill_nil)))))) ?_; clear hS
  intro tm hS
  refine o_stW (k := 1) hS (.inl rfl) rfl rfl rfl Fs87 rfl rfl (all_cons rfl (all_cons (hS.one (k := 3) rfl (.inl rfl)) (all_cons (hS.one (k := 4) rfl (.inl rfl)) (all_cons (hS.one (k := 0) rfl (.inl rfl)) (all_cons rfl (all_cons rfl (all_cons rfl (all_cons rfl all_nil)))))))) rfl ?_; clear hS; try clear H
  intro H hS
  refine o_nil (hR _ _ ?_)
  clear hR R
  refine wpC.ret ?_
  obtain rfl := Option.some.inj h0
  refine Exists.intro _ (And.intro (rs_cellA (k := 1) hS rfl rfl (.inl rfl) Fu87 rfl Fs87 rfl rs_nil) ?_)
  have hI := hS.inv
  exact ⟨v2, v3, v4, rfl, ((((hI.pull 0 rfl).pull 4 rfl).pull 4 rfl).take 3)⟩
theorem wk46 {wm : Nat} {H : AHeap} {Fr : List Ent}  (v1 : Val)  (v2 : Value) (v3 : Value) (hI : Kn wm H [.fz (rI .i64) v2 v1.Shape, .fz (rI .i64) v3 v1.Data] Fr) {r : Am.Side} (h0 : M.over_right v1 = some r) :
  wpF Try.prog ora wm 46 [.agg #[.bool v1.Char, v2, v3]] H (fun res H => ∃ v5 v6 v7, res = .agg #[.bool r.v.Char, v5, v6, v7, .int .i64 r.n, .int .i64 r.size, .int .i64 r.across, .int .i64 r.inside] ∧ Kn wm H [.fz (rI .i64) v5 r.v.Shape, .fz (rI .i64) v6 r.v.Data, .fz (rI .i64) v7 r.s] Fr) := by
 unfold M.over_right at h0
 refine f_enter (n := 31) Try.func46 rfl (by simp) hI rfl rfl rfl fun tm hS => ?_
 clear hI
 refine c_reg fun R hR => ?_
 refine o_box hS (.inl rfl) rfl rfl rfl (all_cons rfl (all_cons (hS.one (k := 0) rfl (.inl rfl)) (all_cons (hS.one (k := 1) rfl (.inl rfl)) all_nil))) ?_; clear hS
 intro b1 tm H hS
 refine o_alloc hS (.inl rfl) rfl Fz87 (by decide) ?_; clear hS
 intro b2 tm H hS
 refine o_nil (hR _ _ ?_)
 clear hR R
 refine c_seqS ?_
 refine c_reg fun R hR => ?_
 refine pp1 hS rfl rfl ?_; clear hS
 intro tm hS
 refine o_ld1 (k := 1) hS (.inl rfl) rfl rfl rfl (.inl rfl) Fu22 rfl rfl ?_; clear hS
 intro tm hS
 refine o_len (k := 2) (r := (rI .i64)) hS (.inl rfl) rfl rfl rfl (.inl rfl) Fu22 rfl ?_; clear hS
 intro tm hS
 refine pp1 hS rfl rfl ?_; clear hS
 intro tm hS
 refine o_nil (hR _ _ ?_)
 clear hR R
 refine c_cond hS rfl (fun hc => ?_) (fun hc => ?_)
 ·replace h0 := iteT hc h0
  refine c_reg fun R hR => ?_
  refine o_ldA (k := 1) hS (.inl rfl) rfl rfl rfl (.inl rfl) Fu25 rfl Fs25 rfl ?_; clear hS
  intro tm hS
  refine o_build hS (.inl rfl) rfl Fb87 rfl (.cons rfl (.cons rfl (.cons rfl (.cons rfl (.cons rfl (.cons rfl .nil)))))) (fill_cons [.bool v1.Char, v2, v3, (.slice none 0 0), .int .i64 0, .int .i64 0, .int .i64 0, .int .i64 0] rfl rfl rfl (fill_cons [.bool v1.Char, v2, v3, (.slice none 0 0), .int .i64 0, .int .i64 0, .int .i64 0, .int .i64 0] rfl rfl rfl (fill_cons [.bool v1.Char, v2, v3, (.slice none 0 0), .int .i64 1, .int .i64 0, .int .i64 0, .int .i64 0] rfl rfl rfl (fill_cons [.bool v1.Char, v2, v3, (.slice none 0 0), .int .i64 1, .int .i64 1, .int .i64 0, .int .i64 0] rfl rfl rfl (fill_cons [.bool v1.Char, v2, v3, (.slice none 0 0), .int .i64 1, .int .i64 1, .int .i64 1, .int .i64 0] rfl rfl rfl (fill_cons [.bool v1.Char, v2, v3, (.slice none 0 0), .int .i64 1, .int .i64 1, .int .i64 1, .int .i64 0] rfl rfl rfl fill_nil)))))) ?_; clear hS
  intro tm hS
  refine o_stW (k := 0) hS (.inl rfl) rfl rfl rfl Fs87 rfl rfl (all_cons rfl (all_cons (hS.one (k := 2) rfl (.inl rfl)) (all_cons (hS.one (k := 3) rfl (.inl rfl)) (all_cons rfl (all_cons rfl (all_cons rfl (all_cons rfl (all_cons rfl all_nil)))))))) rfl ?_; clear hS; try clear H
  intro H hS
  refine o_nil (hR _ _ ?_)
  clear hR R
  refine wpC.ret ?_
  obtain rfl := Option.some.inj h0
  replace hS := hS.nilFz (rI .i64)
  refine Exists.intro _ (And.intro (rs_cellA (k := 1) hS rfl rfl (.inl rfl) Fu87 rfl Fs87 rfl rs_nil) ?_)
  have hI := hS.inv
  exact ⟨v2, v3, (.slice none 0 0), rfl, ((((hI.pull 0 rfl).pull 4 rfl).pull 4 rfl).take 3)⟩
 ·replace h0 := iteF hc h0
  refine wpC.skip ?_
  refine c_reg fun R hR => ?_
  refine pp1 hS rfl rfl ?_; clear hS
  intro tm hS
  refine o_ld1 (k := 1) hS (.inl rfl) rfl rfl rfl (.inl rfl) Fu22 rfl rfl ?_; clear hS
  intro tm hS
  obtain ⟨⟨r1, r2, r3, r4⟩, hx1, h0⟩ := bindS h0
  refine o_call hS (.inl rfl) rfl (fun wm' hw1 hw2 => wk36  v1.Shape 0  v2 ((hS.sel hw2).ad 2 rfl) hx1) (fun wm' res H hw' hp => ?_)
  obtain ⟨hres, hI⟩ := hp
  replace hres := hres.symm; subst hres
  replace hS : S wm 31 _ H ((16, .tuple #[.int .i64 r1, .int .i64 r2, .int .i64 r3, .bool r4]) :: _) ([] ++ _) Fr := hS.after rfl hw' hI
  clear hI hw'
  refine pp6 hS rfl rfl rfl rfl rfl rfl rfl rfl rfl rfl rfl rfl ?_; clear hS
  intro tm hS
  refine pp3 hS rfl rfl rfl rfl rfl rfl ?_; clear hS
  intro tm hS
  refine o_nil (hR _ _ ?_)
  clear hR R
  refine c_reg fun R hR => ?_
  refine o_ldA (k := 1) hS (.inl rfl) rfl rfl rfl (.inl rfl) Fu25 rfl Fs25 rfl ?_; clear hS
  intro tm hS
  refine pp1 hS rfl rfl ?_; clear hS
  intro tm hS
  refine o_ld1 (k := 1) hS (.inl rfl) rfl rfl rfl (.inl rfl) Fu22 rfl rfl ?_; clear hS
  intro tm hS
  obtain ⟨l1, hx2, h0⟩ := bindS h0
  refine o_sl (k := 2) (r := (rI .i64)) hS (.inl rfl) rfl rfl rfl Fu22 Fs3 rfl rfl hx2 ?_; clear hS
  intro v4 tm hS
  refine pp4 hS rfl rfl rfl rfl rfl rfl rfl rfl ?_; clear hS
  intro tm hS
  obtain ⟨r5, hx3, h0⟩ := bindS h0
  refine o_call hS (.inl rfl) rfl (fun wm' hw1 hw2 => wk74  r2 r3   (hS.sel hw2) hx3) (fun wm' res H hw' hp => ?_)
  obtain ⟨hres, hI⟩ := hp
  replace hres := hres.symm; subst hres
  replace hS : S wm 31 _ H ((29, .int .i64 r5) :: _) ([] ++ _) Fr := hS.after rfl hw' hI
  clear hI hw'
  refine o_build hS (.inl rfl) rfl Fb87 rfl (.cons rfl (.cons (cells_one (hS.one (k := 0) rfl (.inl rfl))) (.cons rfl (.cons rfl (.cons rfl (.cons rfl .nil)))))) (fill_cons [.bool v1.Char, v2, v3, (.slice none 0 0), .int .i64 0, .int .i64 0, .int .i64 0, .int .i64 0] rfl rfl rfl (fill_cons [.bool v1.Char, v2, v3, v4, .int .i64 0, .int .i64 0, .int .i64 0, .int .i64 0] rfl rfl rfl (fill_cons [.bool v1.Char, v2, v3, v4, .int .i64 r2, .int .i64 0, .int .i64 0, .int .i64 0] rfl rfl rfl (fill_cons [.bool v1.Char, v2, v3, v4, .int .i64 r2, .int .i64 r3, .int .i64 0, .int .i64 0] rfl rfl rfl (fill_cons [.bool v1.Char, v2, v3, v4, .int .i64 r2, .int .i64 r3, .int .i64 1, .int .i64 0] rfl rfl rfl (fill_cons [.bool v1.Char, v2, v3, v4, .int .i64 r2, .int .i64 r3, .int .i64 1, .int .i64 r5] rfl rfl rfl fill_nil)))))) ?_; clear hS
  intro tm hS
  refine o_stW (k := 1) hS (.inl rfl) rfl rfl rfl Fs87 rfl rfl (all_cons rfl (all_cons (hS.one (k := 3) rfl (.inl rfl)) (all_cons (hS.one (k := 4) rfl (.inl rfl)) (all_cons (hS.one (k := 0) rfl (.inl rfl)) (all_cons rfl (all_cons rfl (all_cons rfl (all_cons rfl all_nil)))))))) rfl ?_; clear hS; try clear H
  intro H hS
  refine o_nil (hR _ _ ?_)
  clear hR R
  refine wpC.ret ?_
  obtain rfl := Option.some.inj h0
  refine Exists.intro _ (And.intro (rs_cellA (k := 1) hS rfl rfl (.inl rfl) Fu87 rfl Fs87 rfl rs_nil) ?_)
  have hI := hS.inv
  exact ⟨v2, v3, v4, rfl, ((((hI.pull 0 rfl).pull 4 rfl).pull 4 rfl).take 3)⟩
theorem wk37 {wm : Nat} {H : AHeap} {Fr : List Ent} (ho100 : ora 100 = false) (fn1 : ByteArray) (f1 : (Option ByteArray)) (l1 : (List Am.Item))  (v1 : Value) (v2 : Value) (hI : Kn wm H [.el (rClo 87) [v1] f1, .fz rItem v2 l1] Fr) {r : Am.Item × Int} (h0 : M.over_reduced fn1 f1 l1 = some r) :
  wpF Try.prog ora wm 37 [.string fn1, v1, v2] H (fun res H => res = .tuple #[.agg #[.int .i64 r.1.n, .bool r.1.char], .int .i64 r.2] ∧ Kn wm H [] Fr) := by
 unfold M.over_reduced at h0
 refine f_enter (n := 52) Try.func37 rfl (by simp) hI rfl rfl rfl fun tm hS => ?_
 clear hI
 refine c_reg fun R hR => ?_
 refine o_alloc hS (.inl rfl) rfl Fz72 (by decide) ?_; clear hS
 intro b1 tm H hS
 refine pp1 hS rfl rfl ?_; clear hS
 intro tm hS
 refine o_nil (hR _ _ ?_)
 clear hR R
 refine c_seqS ?_
 refine c_reg fun R hR => ?_
 refine pp1 hS rfl rfl ?_; clear hS
 intro tm hS
 refine o_len (k := 2) (r := rItem) hS (.inl rfl) rfl rfl rfl (.inl rfl) Fu75 rfl ?_; clear hS
 intro tm hS
 refine pp1 hS rfl rfl ?_; clear hS
 intro tm hS
 refine o_nil (hR _ _ ?_)
 clear hR R
 refine c_cond hS rfl (fun hc => ?_) (fun hc => ?_)
 ·replace h0 := iteT hc h0
  refine c_reg fun R hR => ?_
  refine pp1 hS rfl rfl ?_; clear hS
  intro tm hS
  obtain ⟨⟨r1, r2⟩, hx1, h0⟩ := bindS h0
  refine o_call hS (.inl rfl) rfl (fun wm' hw1 hw2 => wk69  fn1   (hS.sel hw2) hx1) (fun wm' res H hw' hp => ?_)
  obtain ⟨hres, hI⟩ := hp
  replace hres := hres.symm; subst hres
  replace hS : S wm 52 _ H ((18, .tuple #[.int .i64 r1, .int .i64 r2]) :: _) ([] ++ _) Fr := hS.after rfl hw' hI
  clear hI hw'
  refine pp5 hS rfl rfl rfl rfl rfl rfl rfl rfl rfl rfl ?_; clear hS
  intro tm hS
  refine o_nil (hR _ _ ?_)
  clear hR R
  refine c_reg fun R hR => ?_
  refine pp1 hS rfl rfl ?_; clear hS
  intro tm hS
  refine o_build hS (.inl rfl) rfl Fb72 rfl (.cons rfl .nil) rfl ?_; clear hS
  intro tm hS
  refine pp1 hS rfl rfl ?_; clear hS
  intro tm hS
  refine o_st (k := 0) hS (.inl rfl) rfl rfl rfl Fs72 rfl rfl (all_cons rfl (all_cons rfl all_nil)) rfl ?_; clear hS; try clear H
  intro H hS
  refine pp1 hS rfl rfl ?_; clear hS
  intro tm hS
  refine o_nil (hR _ _ ?_)
  clear hR R
  refine wpC.ret ?_
  obtain rfl := Option.some.inj h0
  refine Exists.intro _ (And.intro (rs_cellA (k := 0) hS rfl rfl (.inl rfl) Fu72 rfl Fs72 rfl (rs_tmp hS rfl rs_nil)) ?_)
  have hI := hS.inv
  exact ⟨rfl, (hI.sub sn)⟩
 ·replace h0 := iteF hc h0
  refine wpC.skip ?_
  refine c_reg fun R hR => ?_
  refine pp2 hS rfl rfl rfl rfl ?_; clear hS
  intro tm hS
  refine o_len (k := 2) (r := rItem) hS (.inl rfl) rfl rfl rfl (.inl rfl) Fu75 rfl ?_; clear hS
  intro tm hS
  refine pp1 hS rfl rfl ?_; clear hS
  intro tm hS
  obtain ⟨y1, hx2, h0⟩ := bindS h0
  refine o_ixA (k := 2) (r := rItem) hS (.inl rfl) rfl rfl rfl rfl (.inl rfl) Fu75 Fs72 hx2 ?_; clear hS
  intro tm hS
  refine o_ldFA (r := rItem) (k := 2) hS (.inl rfl) rfl rfl rfl (.inl rfl) hx2 Fu72 rfl Fs72 rfl flat_Item ?_; clear hS
  intro tm hS
  refine o_alloc hS (.inl rfl) rfl Fz72 (by decide) ?_; clear hS
  intro b2 tm H hS
  refine o_st (k := 0) hS (.inl rfl) rfl rfl rfl Fs72 rfl rfl (all_cons rfl (all_cons rfl all_nil)) rfl ?_; clear hS; try clear H
  intro H hS
  refine o_nil (hR _ _ ?_)
  clear hR R
  refine c_seqS ?_
  refine c_reg fun R hR => ?_
  refine pp1 hS rfl rfl ?_; clear hS
  intro tm hS
  refine o_len (k := 3) (r := rItem) hS (.inl rfl) rfl rfl rfl (.inl rfl) Fu75 rfl ?_; clear hS
  intro tm hS
  refine pp2 hS rfl rfl rfl rfl ?_; clear hS
  intro tm hS
  refine o_nil (hR _ _ ?_)
  clear hR R
  obtain ⟨k1, hw1, h0⟩ := bindS h0
  refine wpC.block ?_
  refine c_loop (I := fun (s : Int × Int × Bool) tm H => match (generalizing := false) s with | (i1, n1, char1) => S wm 52 tm H [(1, v1), (2, v2), (6, .pointer (some ⟨b1, 0, none⟩)), (10, .pointer (some ⟨b2, 0, none⟩)), (11, .int .i64 i1)] [.box b1 [.int .i64 0, .bool false], .box b2 [.int .i64 n1, .bool char1], .el (rClo 87) [v1] f1, .fz rItem v2 l1] Fr) hw1 (by change S wm 52 _ _ _ _ Fr; exact hS.keep (k5 rfl rfl rfl rfl rfl) (fun hI => (((((hI.pull 3 rfl).pull 3 rfl).pull 2 rfl).pull 3 rfl).take 4))) ?_
  clear hS
  intro s1 tm H c1 hS h1 hq1
  obtain ⟨i1, n1, char1⟩ := s1
  change S wm 52 tm H [(1, v1), (2, v2), (6, .pointer (some ⟨b1, 0, none⟩)), (10, .pointer (some ⟨b2, 0, none⟩)), (11, .int .i64 i1)] [.box b1 [.int .i64 0, .bool false], .box b2 [.int .i64 n1, .bool char1], .el (rClo 87) [v1] f1, .fz rItem v2 l1] Fr at hS
  refine c_seqS ?_
  refine cr2 hS rfl rfl rfl rfl ?_; clear hS
  intro tm hS
  refine c_cond hS rfl (fun hc => ?_) (fun hc => ?_)
  ·replace h1 := iteT hc h1
   refine wpC.skip ?_
   refine c_seqS ?_
   refine wpC.block ?_
   refine cr1 hS rfl rfl ?_; clear hS
   intro tm hS
   refine c_reg fun R hR => ?_
   refine pp3 hS rfl rfl rfl rfl rfl rfl ?_; clear hS
   intro tm hS
   obtain ⟨y2, hx3, h1⟩ := bindS h1
   refine o_ixA (k := 3) (r := rItem) hS (.inl rfl) rfl rfl rfl rfl (.inl rfl) Fu75 Fs72 hx3 ?_; clear hS
   intro tm hS
   refine o_ldFA (r := rItem) (k := 3) hS (.inl rfl) rfl rfl rfl (.inl rfl) hx3 Fu72 rfl Fs72 rfl flat_Item ?_; clear hS
   intro tm hS
   refine o_ldA (k := 1) hS (.inl rfl) rfl rfl rfl (.inl rfl) Fu72 rfl Fs72 rfl ?_; clear hS
   intro tm hS
   obtain ⟨fn2, hx4, h1⟩ := bindS h1
   obtain ⟨b3, hv1, hS⟩ := hS.unclo (k := 2) rfl hx4
   obtain ⟨⟨r3, r4⟩, hx5, h1⟩ := bindS h1
   refine o_call hS (.inl rfl) (by subst hv1; rfl) (fun wm' hw1 hw2 => wk87 ho100 y2 (Am.Item.mk n1 char1) fn2  b3 ((hS.sel hw2).adB 0 rfl) hx5) (fun wm' res H hw' hp => ?_)
   obtain ⟨hres, hI⟩ := hp
   replace hres := hres.symm; subst hres
   replace hS : S wm 52 _ H ((44, .tuple #[.agg #[.int .i64 r3.n, .bool r3.char], .int .i64 r4]) :: _) ([] ++ _) Fr := hS.after rfl hw' hI
   clear hI hw'
   refine pp3 hS rfl rfl rfl rfl rfl rfl ?_; clear hS
   intro tm hS
   refine o_st (k := 2) hS (.inl rfl) rfl rfl rfl Fs72 rfl rfl (all_cons rfl (all_cons rfl all_nil)) rfl ?_; clear hS; try clear H
   intro H hS
   refine pp1 hS rfl rfl ?_; clear hS
   intro tm hS
   refine o_nil (hR _ _ ?_)
   clear hR R
   refine cr2 hS rfl rfl rfl rfl ?_; clear hS
   intro tm hS
   refine c_cond hS rfl (fun hc => ?_) (fun hc => ?_)
   ·replace h1 := iteT hc h1
    refine c_reg fun R hR => ?_
    refine o_build hS (.inl rfl) rfl Fb72 rfl .nil rfl ?_; clear hS
    intro tm hS
    refine pp1 hS rfl rfl ?_; clear hS
    intro tm hS
    refine o_st (k := 1) hS (.inl rfl) rfl rfl rfl Fs72 rfl rfl (all_cons rfl (all_cons rfl all_nil)) rfl ?_; clear hS; try clear H
    intro H hS
    refine pp1 hS rfl rfl ?_; clear hS
    intro tm hS
    refine o_nil (hR _ _ ?_)
    clear hR R
    refine wpC.ret ?_
    obtain rfl := Option.some.inj h1
    obtain rfl := hq1 _ rfl
    refine And.intro rfl ?_
    obtain rfl := leave h0
    refine Exists.intro _ (And.intro (rs_cellA (k := 1) hS rfl rfl (.inl rfl) Fu72 rfl Fs72 rfl (rs_tmp hS rfl rs_nil)) ?_)
    have hI := hS.inv
    exact ⟨rfl, (hI.sub sn)⟩
   ·replace h1 := iteF hc h1
    refine wpC.skip ?_
    refine cs3 hS rfl rfl rfl rfl rfl rfl ?_; clear hS
    intro tm hS
    obtain rfl := Option.some.inj h1
    refine ⟨_, rfl, ?_⟩
    change S wm 52 _ _ _ _ Fr; exact hS.keep (k5 rfl rfl rfl rfl rfl) (fun hI => (hI.sub (sd (sc (sc (sc (sc sn)))))))
  ·replace h1 := iteF hc h1
   refine wpC.exit ?_
   refine seqX ?_
   obtain rfl := Option.some.inj h1
   obtain rfl := hq1 _ rfl
   refine And.intro rfl (blk_eq ?_)
   replace h0 := joinN h0
   refine c_reg fun R hR => ?_
   refine o_ldA (k := 1) hS (.inl rfl) rfl rfl rfl (.inl rfl) Fu72 rfl Fs72 rfl ?_; clear hS
   intro tm hS
   refine o_st (k := 0) hS (.inl rfl) rfl rfl rfl Fs72 rfl rfl (all_cons rfl (all_cons rfl all_nil)) rfl ?_; clear hS; try clear H
   intro H hS
   refine pp1 hS rfl rfl ?_; clear hS
   intro tm hS
   refine o_nil (hR _ _ ?_)
   clear hR R
   refine wpC.ret ?_
   obtain rfl := Option.some.inj h0
   refine Exists.intro _ (And.intro (rs_cellA (k := 0) hS rfl rfl (.inl rfl) Fu72 rfl Fs72 rfl (rs_tmp hS rfl rs_nil)) ?_)
   have hI := hS.inv
   exact ⟨rfl, (hI.sub sn)⟩
theorem wk16 {wm : Nat} {H : AHeap} {Fr : List Ent} (ho100 : ora 100 = false) (f1 : ByteArray) (g1 : ByteArray) (a1 : Val) (b1 : Val)  (v1 : Value) (v2 : Value) (v3 : Value) (v4 : Value) (hI : Kn wm H [.fz (rI .i64) v1 a1.Shape, .fz (rI .i64) v2 a1.Data, .fz (rI .i64) v3 b1.Shape, .fz (rI .i64) v4 b1.Data] Fr) {r : Val × Int} (h0 : M.over_Inner f1 g1 a1 b1 = some r) :
  wpF Try.prog ora wm 16 [.string f1, .string g1, .agg #[.bool a1.Char, v1, v2], .agg #[.bool b1.Char, v3, v4]] H (fun res H => ∃ v23 v24, res = .tuple #[.agg #[.bool r.1.Char, v23, v24], .int .i64 r.2] ∧ Kn wm H [.own (rI .i64) v23 r.1.Shape, .own (rI .i64) v24 r.1.Data] Fr) := by
 unfold M.over_Inner at h0
 refine f_enter (n := 182) Try.func16 rfl (by simp) hI rfl rfl rfl fun tm hS => ?_
 clear hI
 refine c_reg fun R hR => ?_
 refine o_box hS (.inl rfl) rfl rfl rfl (all_cons rfl (all_cons (hS.one (k := 0) rfl (.inl rfl)) (all_cons (hS.one (k := 1) rfl (.inl rfl)) all_nil))) ?_; clear hS
 intro b2 tm H hS
 refine o_box hS (.inl rfl) rfl rfl rfl (all_cons rfl (all_cons (hS.one (k := 3) rfl (.inl rfl)) (all_cons (hS.one (k := 4) rfl (.inl rfl)) all_nil))) ?_; clear hS
 intro b3 tm H hS
 refine o_alloc hS (.inl rfl) rfl Fz25 (by decide) ?_; clear hS
 intro b4 tm H hS
 refine pp1 hS rfl rfl ?_; clear hS
 intro tm hS
 refine o_nil (hR _ _ ?_)
 clear hR R
 refine c_reg fun R hR => ?_
 refine pp1 hS rfl rfl ?_; clear hS
 intro tm hS
 refine o_ldA (k := 2) hS (.inl rfl) rfl rfl rfl (.inl rfl) Fu25 rfl Fs25 rfl ?_; clear hS
 intro tm hS
 refine o_ldA (k := 1) hS (.inl rfl) rfl rfl rfl (.inl rfl) Fu25 rfl Fs25 rfl ?_; clear hS
 intro tm hS
 refine o_lit (r := rVal) (l := [a1, b1]) hS (.inl rfl) rfl Fl103 rfl rfl rfl (.cons rfl (.cons rfl .nil)) rfl rfl (ri_3 (rd_Val ⟨3, rfl⟩ ⟨4, rfl⟩) (ri_3 (rd_Val ⟨5, rfl⟩ ⟨6, rfl⟩) ri_nil)) rfl ?_; clear hS
 intro v5 tm H hS
 replace hS := hS.litFrz (k := 0) rfl
 obtain ⟨⟨r1, r2⟩, hx1, h0⟩ := bindS h0
 refine o_call hS (.inl rfl) rfl (fun wm' hw1 hw2 => wk31  f1 ([a1, b1])  v5 ((hS.sel hw2).ad 0 rfl) hx1) (fun wm' res H hw' hp => ?_)
 obtain ⟨v6, hres, hI⟩ := hp
 replace hres := hres.symm; subst hres
 replace hS : S wm 182 _ H ((31, .tuple #[v6, .int .i64 r2]) :: _) ([.el (rClo 87) [v6] r1] ++ _) Fr := hS.after rfl hw' hI
 clear hI hw'
 refine pp5 hS rfl rfl rfl rfl rfl rfl rfl rfl rfl rfl ?_; clear hS
 intro tm hS
 refine o_nil (hR _ _ ?_)
 clear hR R
 refine c_seqS ?_
 refine cr2 hS rfl rfl rfl rfl ?_; clear hS
 intro tm hS
 refine c_cond hS rfl (fun hc => ?_) (fun hc => ?_)
 ·replace h0 := iteT hc h0
  refine c_reg fun R hR => ?_
  refine o_build hS (.inl rfl) rfl Fb25 rfl .nil rfl ?_; clear hS
  intro tm hS
  refine pp1 hS rfl rfl ?_; clear hS
  intro tm hS
  refine o_st (k := 2) hS (.inl rfl) rfl rfl rfl Fs25 rfl rfl (all_cons rfl (all_cons rfl (all_cons rfl all_nil))) rfl ?_; clear hS; try clear H
  intro H hS
  refine pp1 hS rfl rfl ?_; clear hS
  intro tm hS
  refine o_nil (hR _ _ ?_)
  clear hR R
  refine wpC.ret ?_
  obtain rfl := Option.some.inj h0
  replace hS := hS.nilOwn (rI .i64)
  replace hS := hS.nilOwn (rI .i64)
  refine Exists.intro _ (And.intro (rs_cellA (k := 4) hS rfl rfl (.inl rfl) Fu25 rfl Fs25 rfl (rs_tmp hS rfl rs_nil)) ?_)
  have hI := hS.inv
  exact ⟨(.slice none 0 0), (.slice none 0 0), rfl, (((hI.pull 0 rfl).pull 1 rfl).take 2)⟩
 ·replace h0 := iteF hc h0
  refine wpC.skip ?_
  refine c_reg fun R hR => ?_
  refine pp1 hS rfl rfl ?_; clear hS
  intro tm hS
  obtain ⟨⟨r3, r4⟩, hx2, h0⟩ := bindS h0
  refine o_call hS (.inl rfl) rfl (fun wm' hw1 hw2 => wk31  g1 ([])  (.slice none 0 0) ((hS.sel hw2).adNil rVal) hx2) (fun wm' res H hw' hp => ?_)
  obtain ⟨v7, hres, hI⟩ := hp
  replace hres := hres.symm; subst hres
  replace hS : S wm 182 _ H ((40, .tuple #[v7, .int .i64 r4]) :: _) ([.el (rClo 87) [v7] r3] ++ _) Fr := hS.after rfl hw' hI
  clear hI hw'
  refine pp5 hS rfl rfl rfl rfl rfl rfl rfl rfl rfl rfl ?_; clear hS
  intro tm hS
  refine o_nil (hR _ _ ?_)
  clear hR R
  refine c_seqS ?_
  refine cr2 hS rfl rfl rfl rfl ?_; clear hS
  intro tm hS
  refine c_cond hS rfl (fun hc => ?_) (fun hc => ?_)
  ·replace h0 := iteT hc h0
   refine c_reg fun R hR => ?_
   refine o_build hS (.inl rfl) rfl Fb25 rfl .nil rfl ?_; clear hS
   intro tm hS
   refine pp1 hS rfl rfl ?_; clear hS
   intro tm hS
   refine o_st (k := 3) hS (.inl rfl) rfl rfl rfl Fs25 rfl rfl (all_cons rfl (all_cons rfl (all_cons rfl all_nil))) rfl ?_; clear hS; try clear H
   intro H hS
   refine pp1 hS rfl rfl ?_; clear hS
   intro tm hS
   refine o_nil (hR _ _ ?_)
   clear hR R
   refine wpC.ret ?_
   obtain rfl := Option.some.inj h0
   replace hS := hS.nilOwn (rI .i64)
   replace hS := hS.nilOwn (rI .i64)
   refine Exists.intro _ (And.intro (rs_cellA (k := 5) hS rfl rfl (.inl rfl) Fu25 rfl Fs25 rfl (rs_tmp hS rfl rs_nil)) ?_)
   have hI := hS.inv
   exact ⟨(.slice none 0 0), (.slice none 0 0), rfl, (((hI.pull 0 rfl).pull 1 rfl).take 2)⟩
  ·replace h0 := iteF hc h0
   refine wpC.skip ?_
   refine c_reg fun R hR => ?_
   refine o_ldA (k := 5) hS (.inl rfl) rfl rfl rfl (.inl rfl) Fu25 rfl Fs25 rfl ?_; clear hS
   intro tm hS
   obtain ⟨r5, hx3, h0⟩ := bindS h0
   refine o_call hS (.inl rfl) rfl (fun wm' hw1 hw2 => wk45  a1  v1 v2 (((hS.sel hw2).ad 7 rfl).ad 6 rfl) hx3) (fun wm' res H hw' hp => ?_)
   obtain ⟨v8, v9, v10, hres, hI⟩ := hp
   replace hres := hres.symm; subst hres
   replace hS : S wm 182 _ H ((48, .agg #[.bool r5.v.Char, v8, v9, v10, .int .i64 r5.n, .int .i64 r5.size, .int .i64 r5.across, .int .i64 r5.inside]) :: _) ([.fz (rI .i64) v8 r5.v.Shape, .fz (rI .i64) v9 r5.v.Data, .fz (rI .i64) v10 r5.s] ++ _) Fr := hS.after rfl hw' hI
   clear hI hw'
   refine o_ldA (k := 7) hS (.inl rfl) rfl rfl rfl (.inl rfl) Fu25 rfl Fs25 rfl ?_; clear hS
   intro tm hS
   obtain ⟨r6, hx4, h0⟩ := bindS h0
   refine o_call hS (.inl rfl) rfl (fun wm' hw1 hw2 => wk46  b1  v3 v4 (((hS.sel hw2).ad 12 rfl).ad 11 rfl) hx4) (fun wm' res H hw' hp => ?_)
   obtain ⟨v11, v12, v13, hres, hI⟩ := hp
   replace hres := hres.symm; subst hres
   replace hS : S wm 182 _ H ((50, .agg #[.bool r6.v.Char, v11, v12, v13, .int .i64 r6.n, .int .i64 r6.size, .int .i64 r6.across, .int .i64 r6.inside]) :: _) ([.fz (rI .i64) v11 r6.v.Shape, .fz (rI .i64) v12 r6.v.Data, .fz (rI .i64) v13 r6.s] ++ _) Fr := hS.after rfl hw' hI
   clear hI hw'
   refine o_alloc hS (.inl rfl) rfl Fz87 (by decide) ?_; clear hS
   intro b5 tm H hS
   refine o_alloc hS (.inl rfl) rfl Fz87 (by decide) ?_; clear hS
   intro b6 tm H hS
   refine o_stW (k := 1) hS (.inl rfl) rfl rfl rfl Fs87 rfl rfl (all_cons rfl (all_cons (hS.one (k := 5) rfl (.inl rfl)) (all_cons (hS.one (k := 6) rfl (.inl rfl)) (all_cons (hS.one (k := 7) rfl (.inl rfl)) (all_cons rfl (all_cons rfl (all_cons rfl (all_cons rfl all_nil)))))))) rfl ?_; clear hS; try clear H
   intro H hS
   refine o_stW (k := 0) hS (.inl rfl) rfl rfl rfl Fs87 rfl rfl (all_cons rfl (all_cons (hS.one (k := 2) rfl (.inl rfl)) (all_cons (hS.one (k := 3) rfl (.inl rfl)) (all_cons (hS.one (k := 4) rfl (.inl rfl)) (all_cons rfl (all_cons rfl (all_cons rfl (all_cons rfl all_nil)))))))) rfl ?_; clear hS; try clear H
   intro H hS
   refine o_nil (hR _ _ ?_)
   clear hR R
   refine c_reg fun R hR => ?_
   refine pp1 hS rfl rfl ?_; clear hS
   intro tm hS
   refine o_ld1 (k := 1) hS (.inl rfl) rfl rfl rfl (.inl rfl) Fu3 rfl rfl ?_; clear hS
   intro tm hS
   refine pp1 hS rfl rfl ?_; clear hS
   intro tm hS
   refine o_nil (hR _ _ ?_)
   clear hR R
   obtain ⟨n1, h1, h0⟩ := bindS h0
   refine c_seqJ (J := fun tm H => (match (generalizing := false) n1 with | n1 => S wm 182 tm H [(0, .string f1), (6, .pointer (some ⟨b2, 0, none⟩)), (7, .pointer (some ⟨b3, 0, none⟩)), (8, .pointer (some ⟨b4, 0, none⟩)), (10, v6), (12, v7), (13, .pointer (some ⟨b5, 0, none⟩)), (14, .pointer (some ⟨b6, 0, none⟩)), (15, .int .i64 n1)] [.box b2 [.bool a1.Char, v1, v2], .box b3 [.bool b1.Char, v3, v4], .box b4 [.bool false, (.slice none 0 0), (.slice none 0 0)], .box b5 [.bool r5.v.Char, v8, v9, v10, .int .i64 r5.n, .int .i64 r5.size, .int .i64 r5.across, .int .i64 r5.inside], .box b6 [.bool r6.v.Char, v11, v12, v13, .int .i64 r6.n, .int .i64 r6.size, .int .i64 r6.across, .int .i64 r6.inside], .fz (rI .i64) v1 a1.Shape, .fz (rI .i64) v2 a1.Data, .fz (rI .i64) v3 b1.Shape, .fz (rI .i64) v4 b1.Data, .el (rClo 87) [v6] r1, .el (rClo 87) [v7] r3, .fz (rI .i64) v8 r5.v.Shape, .fz (rI .i64) v9 r5.v.Data, .fz (rI .i64) v10 r5.s, .fz (rI .i64) v11 r6.v.Shape, .fz (rI .i64) v12 r6.v.Data, .fz (rI .i64) v13 r6.s] Fr)) ?_ ?_
   ·refine cr2 hS rfl rfl rfl rfl ?_; clear hS
    intro tm hS
    refine c_cond hS rfl (fun hc => ?_) (fun hc => ?_)
    ·replace h1 := iteT hc h1
     refine c_reg1 fun R hR => ?_
     refine pp1 hS rfl rfl ?_; clear hS
     intro tm hS
     refine o_ld1 (k := 0) hS (.inl rfl) rfl rfl rfl (.inl rfl) Fu3 rfl rfl ?_; clear hS
     intro tm hS
     refine pp1 hS rfl rfl ?_; clear hS
     intro tm hS
     refine o_nil (hR _ _ ?_)
     clear hR R
     obtain rfl := Option.some.inj h1
     change S wm 182 _ _ _ _ Fr; exact hS.keep (k9 rfl rfl rfl rfl rfl rfl rfl rfl rfl) (fun hI => (hI.pick [13, 12, 11, 1, 0, 14, 15, 16, 17, 9, 8, 5, 6, 7, 2, 3, 4] rfl))
    ·replace h1 := iteF hc h1
     refine wpC.skip ?_
     obtain rfl := Option.some.inj h1
     change S wm 182 _ _ _ _ Fr; exact hS.keep (k9 rfl rfl rfl rfl rfl rfl rfl rfl rfl) (fun hI => (hI.pick [13, 12, 11, 1, 0, 14, 15, 16, 17, 9, 8, 5, 6, 7, 2, 3, 4] rfl))
   intro tm H hS
   change S wm 182 tm H [(0, .string f1), (6, .pointer (some ⟨b2, 0, none⟩)), (7, .pointer (some ⟨b3, 0, none⟩)), (8, .pointer (some ⟨b4, 0, none⟩)), (10, v6), (12, v7), (13, .pointer (some ⟨b5, 0, none⟩)), (14, .pointer (some ⟨b6, 0, none⟩)), (15, .int .i64 n1)] [.box b2 [.bool a1.Char, v1, v2], .box b3 [.bool b1.Char, v3, v4], .box b4 [.bool false, (.slice none 0 0), (.slice none 0 0)], .box b5 [.bool r5.v.Char, v8, v9, v10, .int .i64 r5.n, .int .i64 r5.size, .int .i64 r5.across, .int .i64 r5.inside], .box b6 [.bool r6.v.Char, v11, v12, v13, .int .i64 r6.n, .int .i64 r6.size, .int .i64 r6.across, .int .i64 r6.inside], .fz (rI .i64) v1 a1.Shape, .fz (rI .i64) v2 a1.Data, .fz (rI .i64) v3 b1.Shape, .fz (rI .i64) v4 b1.Data, .el (rClo 87) [v6] r1, .el (rClo 87) [v7] r3, .fz (rI .i64) v8 r5.v.Shape, .fz (rI .i64) v9 r5.v.Data, .fz (rI .i64) v10 r5.s, .fz (rI .i64) v11 r6.v.Shape, .fz (rI .i64) v12 r6.v.Data, .fz (rI .i64) v13 r6.s] Fr at hS
   obtain ⟨k1, h2, h0⟩ := bindS h0
   refine c_seqJ (J := fun tm H => ∃ st, k1 = .next st ∧ (match (generalizing := false) st with | _ => S wm 182 tm H [(0, .string f1), (6, .pointer (some ⟨b2, 0, none⟩)), (7, .pointer (some ⟨b3, 0, none⟩)), (8, .pointer (some ⟨b4, 0, none⟩)), (10, v6), (12, v7), (13, .pointer (some ⟨b5, 0, none⟩)), (14, .pointer (some ⟨b6, 0, none⟩)), (15, .int .i64 n1)] [.box b2 [.bool a1.Char, v1, v2], .box b3 [.bool b1.Char, v3, v4], .box b4 [.bool false, (.slice none 0 0), (.slice none 0 0)], .box b5 [.bool r5.v.Char, v8, v9, v10, .int .i64 r5.n, .int .i64 r5.size, .int .i64 r5.across, .int .i64 r5.inside], .box b6 [.bool r6.v.Char, v11, v12, v13, .int .i64 r6.n, .int .i64 r6.size, .int .i64 r6.across, .int .i64 r6.inside], .fz (rI .i64) v1 a1.Shape, .fz (rI .i64) v2 a1.Data, .fz (rI .i64) v3 b1.Shape, .fz (rI .i64) v4 b1.Data, .el (rClo 87) [v6] r1, .el (rClo 87) [v7] r3, .fz (rI .i64) v8 r5.v.Shape, .fz (rI .i64) v9 r5.v.Data, .fz (rI .i64) v10 r5.s, .fz (rI .i64) v11 r6.v.Shape, .fz (rI .i64) v12 r6.v.Data, .fz (rI .i64) v13 r6.s] Fr)) ?_ ?_
   ·refine c_reg fun R hR => ?_
    refine pp1 hS rfl rfl ?_; clear hS
    intro tm hS
    refine o_ld1 (k := 3) hS (.inl rfl) rfl rfl rfl (.inl rfl) Fu3 rfl rfl ?_; clear hS
    intro tm hS
    refine pp3 hS rfl rfl rfl rfl rfl rfl ?_; clear hS
    intro tm hS
    obtain ⟨c1, hc1⟩ : ∃ x : Bool, x = ((r5.n != n1) || (r6.n != n1)) := ⟨_, rfl⟩
    refine o_cutN 5 (J := fun tm H => S wm 182 tm H [(66, .bool c1), (0, .string f1), (6, .pointer (some ⟨b2, 0, none⟩)), (7, .pointer (some ⟨b3, 0, none⟩)), (8, .pointer (some ⟨b4, 0, none⟩)), (10, v6), (12, v7), (13, .pointer (some ⟨b5, 0, none⟩)), (14, .pointer (some ⟨b6, 0, none⟩)), (15, .int .i64 n1)] [.box b2 [.bool a1.Char, v1, v2], .box b3 [.bool b1.Char, v3, v4], .box b4 [.bool false, (.slice none 0 0), (.slice none 0 0)], .box b5 [.bool r5.v.Char, v8, v9, v10, .int .i64 r5.n, .int .i64 r5.size, .int .i64 r5.across, .int .i64 r5.inside], .box b6 [.bool r6.v.Char, v11, v12, v13, .int .i64 r6.n, .int .i64 r6.size, .int .i64 r6.across, .int .i64 r6.inside], .fz (rI .i64) v1 a1.Shape, .fz (rI .i64) v2 a1.Data, .fz (rI .i64) v3 b1.Shape, .fz (rI .i64) v4 b1.Data, .el (rClo 87) [v6] r1, .el (rClo 87) [v7] r3, .fz (rI .i64) v8 r5.v.Shape, .fz (rI .i64) v9 r5.v.Data, .fz (rI .i64) v10 r5.s, .fz (rI .i64) v11 r6.v.Shape, .fz (rI .i64) v12 r6.v.Data, .fz (rI .i64) v13 r6.s] Fr) ?_ ?_
    ·rcases Bool.eq_false_or_eq_true (r5.n != n1) with hg1 | hg1
     ·refine o_skip hS rfl rfl rfl hg1 ?_; clear hS
      intro tm hS
      refine o_skip hS rfl rfl rfl hg1 ?_; clear hS
      intro tm hS
      refine o_skip hS rfl rfl rfl hg1 ?_; clear hS
      intro tm hS
      refine o_skip hS rfl rfl rfl hg1 ?_; clear hS
      intro tm hS
      refine o_pickT hS (.inl rfl) rfl rfl hg1 rfl ?_; clear hS
      intro tm hS
      have hc1 : c1 = true := hc1.trans (by rw [hg1]; first | rfl | simp)
      subst hc1
      exact o_nil (hS.keep (k10 rfl rfl rfl rfl rfl rfl rfl rfl rfl rfl) (fun hI => (hI.sub (sc (sc (sc (sc (sc (sc (sc (sc (sc (sc (sc (sc (sc (sc (sc (sc (sc sn))))))))))))))))))))
     ·refine o_pure hS (.inr ⟨_, _, _, _, rfl, rfl, rfl, hg1⟩) rfl rfl ?_; clear hS
      intro tm hS
      refine o_ld1 (k := 4) hS (.inr ⟨_, _, _, _, rfl, rfl, rfl, hg1⟩) rfl rfl rfl (.inl rfl) Fu3 rfl rfl ?_; clear hS
      intro tm hS
      refine o_pure hS (.inr ⟨_, _, _, _, rfl, rfl, rfl, hg1⟩) rfl rfl ?_; clear hS
      intro tm hS
      refine o_pure hS (.inr ⟨_, _, _, _, rfl, rfl, rfl, hg1⟩) rfl rfl ?_; clear hS
      intro tm hS
      refine o_pickF hS (.inl rfl) rfl rfl hg1 rfl ?_; clear hS
      intro tm hS
      have hc1 : c1 = (r6.n != n1) := hc1.trans (by rw [hg1]; first | rfl | simp)
      subst hc1
      exact o_nil (hS.keep (k10 rfl rfl rfl rfl rfl rfl rfl rfl rfl rfl) (fun hI => (hI.sub (sc (sc (sc (sc (sc (sc (sc (sc (sc (sc (sc (sc (sc (sc (sc (sc (sc sn))))))))))))))))))))
    intro tm H hS
    subst hc1
    refine o_nil (hR _ _ ?_)
    clear hR R
    refine c_cond hS rfl (fun hc => ?_) (fun hc => ?_)
    ·replace h2 := iteT hc h2
     refine c_reg fun R hR => ?_
     refine pp1 hS rfl rfl ?_; clear hS
     intro tm hS
     refine o_ld1 (k := 3) hS (.inl rfl) rfl rfl rfl (.inl rfl) Fu3 rfl rfl ?_; clear hS
     intro tm hS
     refine pp2 hS rfl rfl rfl rfl ?_; clear hS
     intro tm hS
     obtain ⟨c2, hc2⟩ : ∃ x : Bool, x = ((r5.n != 1) && (r6.n != 1)) := ⟨_, rfl⟩
     refine o_cutN 4 (J := fun tm H => S wm 182 tm H [(74, .bool c2), (0, .string f1), (6, .pointer (some ⟨b2, 0, none⟩)), (7, .pointer (some ⟨b3, 0, none⟩)), (8, .pointer (some ⟨b4, 0, none⟩)), (10, v6), (12, v7), (13, .pointer (some ⟨b5, 0, none⟩)), (14, .pointer (some ⟨b6, 0, none⟩)), (15, .int .i64 n1)] [.box b2 [.bool a1.Char, v1, v2], .box b3 [.bool b1.Char, v3, v4], .box b4 [.bool false, (.slice none 0 0), (.slice none 0 0)], .box b5 [.bool r5.v.Char, v8, v9, v10, .int .i64 r5.n, .int .i64 r5.size, .int .i64 r5.across, .int .i64 r5.inside], .box b6 [.bool r6.v.Char, v11, v12, v13, .int .i64 r6.n, .int .i64 r6.size, .int .i64 r6.across, .int .i64 r6.inside], .fz (rI .i64) v1 a1.Shape, .fz (rI .i64) v2 a1.Data, .fz (rI .i64) v3 b1.Shape, .fz (rI .i64) v4 b1.Data, .el (rClo 87) [v6] r1, .el (rClo 87) [v7] r3, .fz (rI .i64) v8 r5.v.Shape, .fz (rI .i64) v9 r5.v.Data, .fz (rI .i64) v10 r5.s, .fz (rI .i64) v11 r6.v.Shape, .fz (rI .i64) v12 r6.v.Data, .fz (rI .i64) v13 r6.s] Fr) ?_ ?_
     ·rcases Bool.eq_false_or_eq_true (r5.n != 1) with hg2 | hg2
      ·refine o_pure hS (.inr ⟨_, _, _, _, rfl, rfl, rfl, hg2⟩) rfl rfl ?_; clear hS
       intro tm hS
       refine o_ld1 (k := 4) hS (.inr ⟨_, _, _, _, rfl, rfl, rfl, hg2⟩) rfl rfl rfl (.inl rfl) Fu3 rfl rfl ?_; clear hS
       intro tm hS
       refine o_pure hS (.inr ⟨_, _, _, _, rfl, rfl, rfl, hg2⟩) rfl rfl ?_; clear hS
       intro tm hS
       refine o_pickT hS (.inl rfl) rfl rfl hg2 rfl ?_; clear hS
       intro tm hS
       have hc2 : c2 = (r6.n != 1) := hc2.trans (by rw [hg2]; first | rfl | simp)
       subst hc2
       exact o_nil (hS.keep (k10 rfl rfl rfl rfl rfl rfl rfl rfl rfl rfl) (fun hI => (hI.sub (sc (sc (sc (sc (sc (sc (sc (sc (sc (sc (sc (sc (sc (sc (sc (sc (sc sn))))))))))))))))))))
      ·refine o_skip hS rfl rfl rfl hg2 ?_; clear hS
       intro tm hS
       refine o_skip hS rfl rfl rfl hg2 ?_; clear hS
       intro tm hS
       refine o_skip hS rfl rfl rfl hg2 ?_; clear hS
       intro tm hS
       refine o_pickF hS (.inl rfl) rfl rfl hg2 rfl ?_; clear hS
       intro tm hS
       have hc2 : c2 = false := hc2.trans (by rw [hg2]; first | rfl | simp)
       subst hc2
       exact o_nil (hS.keep (k10 rfl rfl rfl rfl rfl rfl rfl rfl rfl rfl) (fun hI => (hI.sub (sc (sc (sc (sc (sc (sc (sc (sc (sc (sc (sc (sc (sc (sc (sc (sc (sc sn))))))))))))))))))))
     intro tm H hS
     subst hc2
     refine o_nil (hR _ _ ?_)
     clear hR R
     refine c_cond hS rfl (fun hc => ?_) (fun hc => ?_)
     ·replace h2 := iteT hc h2
      refine c_reg fun R hR => ?_
      refine o_build hS (.inl rfl) rfl Fb25 rfl .nil rfl ?_; clear hS
      intro tm hS
      refine o_st (k := 2) hS (.inl rfl) rfl rfl rfl Fs25 rfl rfl (all_cons rfl (all_cons rfl (all_cons rfl all_nil))) rfl ?_; clear hS; try clear H
      intro H hS
      refine pp1 hS rfl rfl ?_; clear hS
      intro tm hS
      refine o_nil (hR _ _ ?_)
      clear hR R
      refine wpC.ret ?_
      obtain rfl := Option.some.inj h2
      obtain rfl := leave h0
      replace hS := hS.nilOwn (rI .i64)
      replace hS := hS.nilOwn (rI .i64)
      refine Exists.intro _ (And.intro (rs_cellA (k := 4) hS rfl rfl (.inl rfl) Fu25 rfl Fs25 rfl (rs_tmp hS rfl rs_nil)) ?_)
      have hI := hS.inv
      exact ⟨(.slice none 0 0), (.slice none 0 0), rfl, (((hI.pull 0 rfl).pull 1 rfl).take 2)⟩
     ·replace h2 := iteF hc h2
      refine wpC.skip ?_
      obtain rfl := Option.some.inj h2
      refine ⟨_, rfl, ?_⟩
      change S wm 182 _ _ _ _ Fr; exact hS.keep (k9 rfl rfl rfl rfl rfl rfl rfl rfl rfl) (fun hI => (hI.sub (sc (sc (sc (sc (sc (sc (sc (sc (sc (sc (sc (sc (sc (sc (sc (sc (sc sn)))))))))))))))))))
    ·replace h2 := iteF hc h2
     refine wpC.skip ?_
     obtain rfl := Option.some.inj h2
     refine ⟨_, rfl, ?_⟩
     change S wm 182 _ _ _ _ Fr; exact hS.keep (k9 rfl rfl rfl rfl rfl rfl rfl rfl rfl) (fun hI => (hI.sub (sc (sc (sc (sc (sc (sc (sc (sc (sc (sc (sc (sc (sc (sc (sc (sc (sc sn)))))))))))))))))))
   intro tm H hS
   obtain ⟨st1, rfl, hS⟩ := hS
   replace h0 := joinN h0
   change S wm 182 tm H [(0, .string f1), (6, .pointer (some ⟨b2, 0, none⟩)), (7, .pointer (some ⟨b3, 0, none⟩)), (8, .pointer (some ⟨b4, 0, none⟩)), (10, v6), (12, v7), (13, .pointer (some ⟨b5, 0, none⟩)), (14, .pointer (some ⟨b6, 0, none⟩)), (15, .int .i64 n1)] [.box b2 [.bool a1.Char, v1, v2], .box b3 [.bool b1.Char, v3, v4], .box b4 [.bool false, (.slice none 0 0), (.slice none 0 0)], .box b5 [.bool r5.v.Char, v8, v9, v10, .int .i64 r5.n, .int .i64 r5.size, .int .i64 r5.across, .int .i64 r5.inside], .box b6 [.bool r6.v.Char, v11, v12, v13, .int .i64 r6.n, .int .i64 r6.size, .int .i64 r6.across, .int .i64 r6.inside], .fz (rI .i64) v1 a1.Shape, .fz (rI .i64) v2 a1.Data, .fz (rI .i64) v3 b1.Shape, .fz (rI .i64) v4 b1.Data, .el (rClo 87) [v6] r1, .el (rClo 87) [v7] r3, .fz (rI .i64) v8 r5.v.Shape, .fz (rI .i64) v9 r5.v.Data, .fz (rI .i64) v10 r5.s, .fz (rI .i64) v11 r6.v.Shape, .fz (rI .i64) v12 r6.v.Data, .fz (rI .i64) v13 r6.s] Fr at hS
   refine c_reg fun R hR => ?_
   refine o_lit (r := (rI .i64)) (l := ([] : List Int)) hS (.inl rfl) rfl Fl22 rfl rfl rfl .nil rfl rfl ri_nil rfl ?_; clear hS
   intro v14 tm H hS
   refine pp1 hS rfl rfl ?_; clear hS
   intro tm hS
   refine o_ld1 (k := 4) hS (.inl rfl) rfl rfl rfl (.inl rfl) Fu22 rfl rfl ?_; clear hS
   intro tm hS
   refine pp1 hS rfl rfl ?_; clear hS
   intro tm hS
   refine o_ld1 (k := 5) hS (.inl rfl) rfl rfl rfl (.inl rfl) Fu22 rfl rfl ?_; clear hS
   intro tm hS
   replace hS := hS.litFrz (k := 0) rfl
   refine o_lit (r := (rL (rI .i64))) (l := [([] : List Int), r5.s, r6.s]) hS (.inl rfl) rfl Fl113 rfl rfl rfl (.cons (cells_one (hS.one (k := 0) rfl (.inl rfl))) (.cons (cells_one (hS.one (k := 14) rfl (.inl rfl))) (.cons (cells_one (hS.one (k := 17) rfl (.inl rfl))) .nil))) rfl rfl (ri_1 (rd_S ⟨0, rfl⟩) (ri_1 (rd_S ⟨14, rfl⟩) (ri_1 (rd_S ⟨17, rfl⟩) ri_nil))) rfl ?_; clear hS
   intro v15 tm H hS
   obtain ⟨r7, hx5, h0⟩ := bindS h0
   refine o_call (Pc := fun _ res H => ∃ v16, res = v16 ∧ Kn wm H ([.own (rI .i64) v16 r7] ++ [.lit (rL (rI .i64)) v15 ([([] : List Int), r5.s, r6.s]), .fz (rI .i64) v14 ([] : List Int), .box b2 [.bool a1.Char, v1, v2], .box b3 [.bool b1.Char, v3, v4], .box b4 [.bool false, (.slice none 0 0), (.slice none 0 0)], .box b5 [.bool r5.v.Char, v8, v9, v10, .int .i64 r5.n, .int .i64 r5.size, .int .i64 r5.across, .int .i64 r5.inside], .box b6 [.bool r6.v.Char, v11, v12, v13, .int .i64 r6.n, .int .i64 r6.size, .int .i64 r6.across, .int .i64 r6.inside], .fz (rI .i64) v1 a1.Shape, .fz (rI .i64) v2 a1.Data, .fz (rI .i64) v3 b1.Shape, .fz (rI .i64) v4 b1.Data, .el (rClo 87) [v6] r1, .el (rClo 87) [v7] r3, .fz (rI .i64) v8 r5.v.Shape, .fz (rI .i64) v9 r5.v.Data, .fz (rI .i64) v10 r5.s, .fz (rI .i64) v11 r6.v.Shape, .fz (rI .i64) v12 r6.v.Data, .fz (rI .i64) v13 r6.s]) Fr) hS (.inl rfl) rfl (fun wm' hw1 hw2 => by
    obtain ⟨F2, kk_1, kk_2⟩ := hS.inv.lendR (La := [.fz (rL (rI .i64)) v15 ([([] : List Int), r5.s, r6.s])]) (List.forall_mem_cons.mpr ⟨(.inr ⟨_, _, _, _, rfl, .inr (List.mem_of_getElem? (i := 0) rfl)⟩), (fun _ h => by cases h)⟩) hw1 hw2
    exact (wk39  ([([] : List Int), r5.s, r6.s])  v15 kk_1 hx5).mono fun res H2 ⟨v16, qq_1, qq_2⟩ => ⟨v16, qq_1, kk_2 _ _ (List.forall_mem_cons.mpr ⟨⟨_, _, _, _, rfl, fun _ _ _ _ h => h⟩, (fun _ h => by cases h)⟩) qq_2⟩) (fun wm' res H hw' hp => ?_)
   obtain ⟨v16, hres, hI⟩ := hp
   replace hres := hres.symm; subst hres
   replace hS : S wm 182 _ H ((82, v16) :: _) ([.own (rI .i64) v16 r7] ++ [.lit (rL (rI .i64)) v15 ([([] : List Int), r5.s, r6.s]), .fz (rI .i64) v14 ([] : List Int), .box b2 [.bool a1.Char, v1, v2], .box b3 [.bool b1.Char, v3, v4], .box b4 [.bool false, (.slice none 0 0), (.slice none 0 0)], .box b5 [.bool r5.v.Char, v8, v9, v10, .int .i64 r5.n, .int .i64 r5.size, .int .i64 r5.across, .int .i64 r5.inside], .box b6 [.bool r6.v.Char, v11, v12, v13, .int .i64 r6.n, .int .i64 r6.size, .int .i64 r6.across, .int .i64 r6.inside], .fz (rI .i64) v1 a1.Shape, .fz (rI .i64) v2 a1.Data, .fz (rI .i64) v3 b1.Shape, .fz (rI .i64) v4 b1.Data, .el (rClo 87) [v6] r1, .el (rClo 87) [v7] r3, .fz (rI .i64) v8 r5.v.Shape, .fz (rI .i64) v9 r5.v.Data, .fz (rI .i64) v10 r5.s, .fz (rI .i64) v11 r6.v.Shape, .fz (rI .i64) v12 r6.v.Data, .fz (rI .i64) v13 r6.s]) Fr := (hS.put rfl _).withK hI
   clear hI hw'
   refine pp1 hS rfl rfl ?_; clear hS
   intro tm hS
   refine o_nil (hR _ _ ?_)
   clear hR R
   refine c_seqS ?_
   refine c_reg fun R hR => ?_
   refine pp1 hS rfl rfl ?_; clear hS
   intro tm hS
   refine o_len (k := 0) (r := (rI .i64)) hS (.inl rfl) rfl rfl rfl (.inr (.inl rfl)) Fu22 rfl ?_; clear hS
   intro tm hS
   refine pp1 hS rfl rfl ?_; clear hS
   intro tm hS
   refine o_nil (hR _ _ ?_)
   clear hR R
   refine c_cond hS rfl (fun hc => ?_) (fun hc => ?_)
   ·replace h0 := iteT hc h0
    refine c_reg fun R hR => ?_
    refine o_build hS (.inl rfl) rfl Fb25 rfl .nil rfl ?_; clear hS
    intro tm hS
    refine o_st (k := 5) hS (.inl rfl) rfl rfl rfl Fs25 rfl rfl (all_cons rfl (all_cons rfl (all_cons rfl all_nil))) rfl ?_; clear hS; try clear H
    intro H hS
    refine pp1 hS rfl rfl ?_; clear hS
    intro tm hS
    refine o_nil (hR _ _ ?_)
    clear hR R
    refine wpC.ret ?_
    obtain rfl := Option.some.inj h0
    replace hS := hS.nilOwn (rI .i64)
    replace hS := hS.nilOwn (rI .i64)
    refine Exists.intro _ (And.intro (rs_cellA (k := 7) hS rfl rfl (.inl rfl) Fu25 rfl Fs25 rfl (rs_tmp hS rfl rs_nil)) ?_)
    have hI := hS.inv
    exact ⟨(.slice none 0 0), (.slice none 0 0), rfl, (((hI.pull 0 rfl).pull 1 rfl).take 2)⟩
   ·replace h0 := iteF hc h0
    refine wpC.skip ?_
    refine c_reg fun R hR => ?_
    refine pp1 hS rfl rfl ?_; clear hS
    intro tm hS
    obtain ⟨⟨r8, r9⟩, hx6, h0⟩ := bindS h0
    refine o_call (Pc := fun _ res H => res = .tuple #[.int .i64 r8, .int .i64 r9] ∧ Kn wm H ([.own (rI .i64) v16 r7, .lit (rL (rI .i64)) v15 ([([] : List Int), r5.s, r6.s]), .fz (rI .i64) v14 ([] : List Int), .box b2 [.bool a1.Char, v1, v2], .box b3 [.bool b1.Char, v3, v4], .box b4 [.bool false, (.slice none 0 0), (.slice none 0 0)], .box b5 [.bool r5.v.Char, v8, v9, v10, .int .i64 r5.n, .int .i64 r5.size, .int .i64 r5.across, .int .i64 r5.inside], .box b6 [.bool r6.v.Char, v11, v12, v13, .int .i64 r6.n, .int .i64 r6.size, .int .i64 r6.across, .int .i64 r6.inside], .fz (rI .i64) v1 a1.Shape, .fz (rI .i64) v2 a1.Data, .fz (rI .i64) v3 b1.Shape, .fz (rI .i64) v4 b1.Data, .el (rClo 87) [v6] r1, .el (rClo 87) [v7] r3, .fz (rI .i64) v8 r5.v.Shape, .fz (rI .i64) v9 r5.v.Data, .fz (rI .i64) v10 r5.s, .fz (rI .i64) v11 r6.v.Shape, .fz (rI .i64) v12 r6.v.Data, .fz (rI .i64) v13 r6.s]) Fr) hS (.inl rfl) rfl (fun wm' hw1 hw2 => by
     obtain ⟨F2, kk_1, kk_2⟩ := hS.inv.lend (La := [.fz (rI .i64) v16 r7]) (List.forall_mem_cons.mpr ⟨(.inr ⟨_, _, _, _, rfl, .inl (List.mem_of_getElem? (i := 0) rfl)⟩), (fun _ h => by cases h)⟩) hw1 hw2
     exact (wk35  r7  v16 kk_1 hx6).mono fun res H2 ⟨qq_1, qq_2⟩ => ⟨qq_1, kk_2 _ qq_2⟩) (fun wm' res H hw' hp => ?_)
    obtain ⟨hres, hI⟩ := hp
    replace hres := hres.symm; subst hres
    replace hS : S wm 182 _ H ((89, .tuple #[.int .i64 r8, .int .i64 r9]) :: _) ([.own (rI .i64) v16 r7, .lit (rL (rI .i64)) v15 ([([] : List Int), r5.s, r6.s]), .fz (rI .i64) v14 ([] : List Int), .box b2 [.bool a1.Char, v1, v2], .box b3 [.bool b1.Char, v3, v4], .box b4 [.bool false, (.slice none 0 0), (.slice none 0 0)], .box b5 [.bool r5.v.Char, v8, v9, v10, .int .i64 r5.n, .int .i64 r5.size, .int .i64 r5.across, .int .i64 r5.inside], .box b6 [.bool r6.v.Char, v11, v12, v13, .int .i64 r6.n, .int .i64 r6.size, .int .i64 r6.across, .int .i64 r6.inside], .fz (rI .i64) v1 a1.Shape, .fz (rI .i64) v2 a1.Data, .fz (rI .i64) v3 b1.Shape, .fz (rI .i64) v4 b1.Data, .el (rClo 87) [v6] r1, .el (rClo 87) [v7] r3, .fz (rI .i64) v8 r5.v.Shape, .fz (rI .i64) v9 r5.v.Data, .fz (rI .i64) v10 r5.s, .fz (rI .i64) v11 r6.v.Shape, .fz (rI .i64) v12 r6.v.Data, .fz (rI .i64) v13 r6.s]) Fr := (hS.put rfl _).withK hI
    clear hI hw'
    refine pp5 hS rfl rfl rfl rfl rfl rfl rfl rfl rfl rfl ?_; clear hS
    intro tm hS
    refine o_nil (hR _ _ ?_)
    clear hR R
    refine c_seqS ?_
    refine c_reg fun R hR => ?_
    refine pp3 hS rfl rfl rfl rfl rfl rfl ?_; clear hS
    intro tm hS
    obtain ⟨c3, hc3⟩ : ∃ x : Bool, x = ((r9 != 0) || (decide ((IntKind.i64.wrap (r8 * n1)) > 1000000))) := ⟨_, rfl⟩
    refine o_cutN 5 (J := fun tm H => S wm 182 tm H [(99, .bool c3), (0, .string f1), (6, .pointer (some ⟨b2, 0, none⟩)), (7, .pointer (some ⟨b3, 0, none⟩)), (8, .pointer (some ⟨b4, 0, none⟩)), (10, v6), (12, v7), (13, .pointer (some ⟨b5, 0, none⟩)), (14, .pointer (some ⟨b6, 0, none⟩)), (15, .int .i64 n1), (16, v16), (17, .int .i64 r8)] [.own (rI .i64) v16 r7, .box b2 [.bool a1.Char, v1, v2], .box b3 [.bool b1.Char, v3, v4], .box b4 [.bool false, (.slice none 0 0), (.slice none 0 0)], .box b5 [.bool r5.v.Char, v8, v9, v10, .int .i64 r5.n, .int .i64 r5.size, .int .i64 r5.across, .int .i64 r5.inside], .box b6 [.bool r6.v.Char, v11, v12, v13, .int .i64 r6.n, .int .i64 r6.size, .int .i64 r6.across, .int .i64 r6.inside], .fz (rI .i64) v1 a1.Shape, .fz (rI .i64) v2 a1.Data, .fz (rI .i64) v3 b1.Shape, .fz (rI .i64) v4 b1.Data, .el (rClo 87) [v6] r1, .el (rClo 87) [v7] r3, .fz (rI .i64) v8 r5.v.Shape, .fz (rI .i64) v9 r5.v.Data, .fz (rI .i64) v10 r5.s, .fz (rI .i64) v11 r6.v.Shape, .fz (rI .i64) v12 r6.v.Data, .fz (rI .i64) v13 r6.s] Fr) ?_ ?_
    ·rcases Bool.eq_false_or_eq_true (r9 != 0) with hg3 | hg3
     ·refine o_skip hS rfl rfl rfl hg3 ?_; clear hS
      intro tm hS
      refine o_skip hS rfl rfl rfl hg3 ?_; clear hS
      intro tm hS
      refine o_skip hS rfl rfl rfl hg3 ?_; clear hS
      intro tm hS
      refine o_skip hS rfl rfl rfl hg3 ?_; clear hS
      intro tm hS
      refine o_pickT hS (.inl rfl) rfl rfl hg3 rfl ?_; clear hS
      intro tm hS
      have hc3 : c3 = true := hc3.trans (by rw [hg3]; first | rfl | simp)
      subst hc3
      exact o_nil (hS.keep (k12 rfl rfl rfl rfl rfl rfl rfl rfl rfl rfl rfl rfl) (fun hI => (hI.sub (sc (sd (sd (sc (sc (sc (sc (sc (sc (sc (sc (sc (sc (sc (sc (sc (sc (sc (sc (sc sn)))))))))))))))))))))))
     ·refine o_pure hS (.inr ⟨_, _, _, _, rfl, rfl, rfl, hg3⟩) rfl rfl ?_; clear hS
      intro tm hS
      refine o_pure hS (.inr ⟨_, _, _, _, rfl, rfl, rfl, hg3⟩) rfl rfl ?_; clear hS
      intro tm hS
      refine o_pure hS (.inr ⟨_, _, _, _, rfl, rfl, rfl, hg3⟩) rfl rfl ?_; clear hS
      intro tm hS
      refine o_pure hS (.inr ⟨_, _, _, _, rfl, rfl, rfl, hg3⟩) rfl rfl ?_; clear hS
      intro tm hS
      refine o_pickF hS (.inl rfl) rfl rfl hg3 rfl ?_; clear hS
      intro tm hS
      have hc3 : c3 = (decide ((IntKind.i64.wrap (r8 * n1)) > 1000000)) := hc3.trans (by rw [hg3]; first | rfl | simp)
      subst hc3
      exact o_nil (hS.keep (k12 rfl rfl rfl rfl rfl rfl rfl rfl rfl rfl rfl rfl) (fun hI => (hI.sub (sc (sd (sd (sc (sc (sc (sc (sc (sc (sc (sc (sc (sc (sc (sc (sc (sc (sc (sc (sc sn)))))))))))))))))))))))
    intro tm H hS
    subst hc3
    refine o_nil (hR _ _ ?_)
    clear hR R
    refine c_cond hS rfl (fun hc => ?_) (fun hc => ?_)
    ·replace h0 := iteT hc h0
     refine c_reg fun R hR => ?_
     refine o_build hS (.inl rfl) rfl Fb25 rfl .nil rfl ?_; clear hS
     intro tm hS
     refine o_st (k := 3) hS (.inl rfl) rfl rfl rfl Fs25 rfl rfl (all_cons rfl (all_cons rfl (all_cons rfl all_nil))) rfl ?_; clear hS; try clear H
     intro H hS
     refine pp1 hS rfl rfl ?_; clear hS
     intro tm hS
     refine o_nil (hR _ _ ?_)
     clear hR R
     refine wpC.ret ?_
     obtain rfl := Option.some.inj h0
     replace hS := hS.nilOwn (rI .i64)
     replace hS := hS.nilOwn (rI .i64)
     refine Exists.intro _ (And.intro (rs_cellA (k := 5) hS rfl rfl (.inl rfl) Fu25 rfl Fs25 rfl (rs_tmp hS rfl rs_nil)) ?_)
     have hI := hS.inv
     exact ⟨(.slice none 0 0), (.slice none 0 0), rfl, (((hI.pull 0 rfl).pull 1 rfl).take 2)⟩
    ·replace h0 := iteF hc h0
     refine wpC.skip ?_
     refine c_reg fun R hR => ?_
     refine pp2 hS rfl rfl rfl rfl ?_; clear hS
     intro tm hS
     obtain ⟨l1, hx7, h0⟩ := bindS h0
     refine o_mk (r := (rI .i64)) hS (.inl rfl) rfl rfl rfl Fm23 rfl (fun _ => rfl) hx7 ?_; clear hS
     intro v17 tm H hS
     refine o_build hS (.inl rfl) rfl Fb25 rfl (.cons (cells_one (hS.one (k := 1) rfl (.inr (.inl rfl)))) (.cons (cells_one (hS.one (k := 0) rfl (.inr (.inl rfl)))) .nil)) rfl ?_; clear hS
     intro tm hS
     refine o_alloc hS (.inl rfl) rfl Fz25 (by decide) ?_; clear hS
     intro b7 tm H hS
     refine o_st (k := 0) hS (.inl rfl) rfl rfl rfl Fs25 rfl rfl (all_cons rfl (all_cons (hS.one (k := 2) rfl (.inr (.inl rfl))) (all_cons (hS.one (k := 1) rfl (.inr (.inl rfl))) all_nil))) rfl ?_; clear hS; try clear H
     intro H hS
     refine o_nil (hR _ _ ?_)
     clear hR R
     refine c_seqS ?_
     refine cr1 hS rfl rfl ?_; clear hS
     intro tm hS
     obtain ⟨k2, hw1, h0⟩ := bindS h0
     refine wpC.block ?_
     refine c_loop (I := fun (s : Int × (List Int)) tm H => match (generalizing := false) s with | (i1, Data1) => ∃ v18, S wm 182 tm H [(0, .string f1), (6, .pointer (some ⟨b2, 0, none⟩)), (7, .pointer (some ⟨b3, 0, none⟩)), (8, .pointer (some ⟨b4, 0, none⟩)), (10, v6), (12, v7), (13, .pointer (some ⟨b5, 0, none⟩)), (14, .pointer (some ⟨b6, 0, none⟩)), (15, .int .i64 n1), (17, .int .i64 r8), (18, .pointer (some ⟨b7, 0, none⟩)), (19, .int .i64 i1)] [.box b2 [.bool a1.Char, v1, v2], .box b3 [.bool b1.Char, v3, v4], .box b4 [.bool false, (.slice none 0 0), (.slice none 0 0)], .box b5 [.bool r5.v.Char, v8, v9, v10, .int .i64 r5.n, .int .i64 r5.size, .int .i64 r5.across, .int .i64 r5.inside], .box b6 [.bool r6.v.Char, v11, v12, v13, .int .i64 r6.n, .int .i64 r6.size, .int .i64 r6.across, .int .i64 r6.inside], .box b7 [.bool false, v16, v18], .own (rI .i64) v18 Data1, .fz (rI .i64) v1 a1.Shape, .fz (rI .i64) v2 a1.Data, .fz (rI .i64) v3 b1.Shape, .fz (rI .i64) v4 b1.Data, .el (rClo 87) [v6] r1, .el (rClo 87) [v7] r3, .fz (rI .i64) v8 r5.v.Shape, .fz (rI .i64) v9 r5.v.Data, .fz (rI .i64) v10 r5.s, .fz (rI .i64) v11 r6.v.Shape, .fz (rI .i64) v12 r6.v.Data, .fz (rI .i64) v13 r6.s, .own (rI .i64) v16 r7] Fr) hw1 (by refine Exists.intro v17 ?_; change S wm 182 _ _ _ _ Fr; exact hS.keep (k12 rfl rfl rfl rfl rfl rfl rfl rfl rfl rfl rfl rfl) (fun hI => (hI.pick [3, 4, 5, 6, 7, 0, 1, 8, 9, 10, 11, 12, 13, 14, 15, 16, 17, 18, 19, 2] rfl))) ?_
     clear hS
     intro s1 tm H c4 hS h13 hq13
     obtain ⟨i1, Data1⟩ := s1
     obtain ⟨v18, hS⟩ := hS
     change S wm 182 tm H [(0, .string f1), (6, .pointer (some ⟨b2, 0, none⟩)), (7, .pointer (some ⟨b3, 0, none⟩)), (8, .pointer (some ⟨b4, 0, none⟩)), (10, v6), (12, v7), (13, .pointer (some ⟨b5, 0, none⟩)), (14, .pointer (some ⟨b6, 0, none⟩)), (15, .int .i64 n1), (17, .int .i64 r8), (18, .pointer (some ⟨b7, 0, none⟩)), (19, .int .i64 i1)] [.box b2 [.bool a1.Char, v1, v2], .box b3 [.bool b1.Char, v3, v4], .box b4 [.bool false, (.slice none 0 0), (.slice none 0 0)], .box b5 [.bool r5.v.Char, v8, v9, v10, .int .i64 r5.n, .int .i64 r5.size, .int .i64 r5.across, .int .i64 r5.inside], .box b6 [.bool r6.v.Char, v11, v12, v13, .int .i64 r6.n, .int .i64 r6.size, .int .i64 r6.across, .int .i64 r6.inside], .box b7 [.bool false, v16, v18], .own (rI .i64) v18 Data1, .fz (rI .i64) v1 a1.Shape, .fz (rI .i64) v2 a1.Data, .fz (rI .i64) v3 b1.Shape, .fz (rI .i64) v4 b1.Data, .el (rClo 87) [v6] r1, .el (rClo 87) [v7] r3, .fz (rI .i64) v8 r5.v.Shape, .fz (rI .i64) v9 r5.v.Data, .fz (rI .i64) v10 r5.s, .fz (rI .i64) v11 r6.v.Shape, .fz (rI .i64) v12 r6.v.Data, .fz (rI .i64) v13 r6.s, .own (rI .i64) v16 r7] Fr at hS
     refine c_seqS ?_
     refine c_reg fun R hR => ?_
     refine pp2 hS rfl rfl rfl rfl ?_; clear hS
     intro tm hS
     refine o_ld1 (k := 3) hS (.inl rfl) rfl rfl rfl (.inl rfl) Fu3 rfl rfl ?_; clear hS
     intro tm hS
     refine pp2 hS rfl rfl rfl rfl ?_; clear hS
     intro tm hS
     obtain ⟨c5, hc4⟩ : ∃ x : Bool, x = ((decide (i1 < r5.size)) && (decide (r8 > 0))) := ⟨_, rfl⟩
     refine o_cutN 3 (J := fun tm H => S wm 182 tm H [(112, .bool c5), (0, .string f1), (6, .pointer (some ⟨b2, 0, none⟩)), (7, .pointer (some ⟨b3, 0, none⟩)), (8, .pointer (some ⟨b4, 0, none⟩)), (10, v6), (12, v7), (13, .pointer (some ⟨b5, 0, none⟩)), (14, .pointer (some ⟨b6, 0, none⟩)), (15, .int .i64 n1), (17, .int .i64 r8), (18, .pointer (some ⟨b7, 0, none⟩)), (19, .int .i64 i1)] [.box b2 [.bool a1.Char, v1, v2], .box b3 [.bool b1.Char, v3, v4], .box b4 [.bool false, (.slice none 0 0), (.slice none 0 0)], .box b5 [.bool r5.v.Char, v8, v9, v10, .int .i64 r5.n, .int .i64 r5.size, .int .i64 r5.across, .int .i64 r5.inside], .box b6 [.bool r6.v.Char, v11, v12, v13, .int .i64 r6.n, .int .i64 r6.size, .int .i64 r6.across, .int .i64 r6.inside], .box b7 [.bool false, v16, v18], .own (rI .i64) v18 Data1, .fz (rI .i64) v1 a1.Shape, .fz (rI .i64) v2 a1.Data, .fz (rI .i64) v3 b1.Shape, .fz (rI .i64) v4 b1.Data, .el (rClo 87) [v6] r1, .el (rClo 87) [v7] r3, .fz (rI .i64) v8 r5.v.Shape, .fz (rI .i64) v9 r5.v.Data, .fz (rI .i64) v10 r5.s, .fz (rI .i64) v11 r6.v.Shape, .fz (rI .i64) v12 r6.v.Data, .fz (rI .i64) v13 r6.s, .own (rI .i64) v16 r7] Fr) ?_ ?_
     ·rcases Bool.eq_false_or_eq_true (decide (i1 < r5.size)) with hg4 | hg4
      ·refine o_pure hS (.inr ⟨_, _, _, _, rfl, rfl, rfl, hg4⟩) rfl rfl ?_; clear hS
       intro tm hS
       refine o_pure hS (.inr ⟨_, _, _, _, rfl, rfl, rfl, hg4⟩) rfl rfl ?_; clear hS
       intro tm hS
       refine o_pickT hS (.inl rfl) rfl rfl hg4 rfl ?_; clear hS
       intro tm hS
       have hc4 : c5 = (decide (r8 > 0)) := hc4.trans (by rw [hg4]; first | rfl | simp)
       subst hc4
       exact o_nil (hS.keep (ka_cons rfl (ka_cons rfl (ka_cons rfl (ka_cons rfl (ka_cons rfl (ka_cons rfl (ka_cons rfl (ka_cons rfl (ka_cons rfl (ka_cons rfl (ka_cons rfl (ka_cons rfl (ka_cons rfl ka_nil))))))))))))) (fun hI => (hI.sub (sc (sc (sc (sc (sc (sc (sc (sc (sc (sc (sc (sc (sc (sc (sc (sc (sc (sc (sc (sc sn)))))))))))))))))))))))
      ·refine o_skip hS rfl rfl rfl hg4 ?_; clear hS
       intro tm hS
       refine o_skip hS rfl rfl rfl hg4 ?_; clear hS
       intro tm hS
       refine o_pickF hS (.inl rfl) rfl rfl hg4 rfl ?_; clear hS
       intro tm hS
       have hc4 : c5 = false := hc4.trans (by rw [hg4]; first | rfl | simp)
       subst hc4
       exact o_nil (hS.keep (ka_cons rfl (ka_cons rfl (ka_cons rfl (ka_cons rfl (ka_cons rfl (ka_cons rfl (ka_cons rfl (ka_cons rfl (ka_cons rfl (ka_cons rfl (ka_cons rfl (ka_cons rfl (ka_cons rfl ka_nil))))))))))))) (fun hI => (hI.sub (sc (sc (sc (sc (sc (sc (sc (sc (sc (sc (sc (sc (sc (sc (sc (sc (sc (sc (sc (sc sn)))))))))))))))))))))))
     intro tm H hS
     subst hc4
     refine o_nil (hR _ _ ?_)
     clear hR R
     refine c_cond hS rfl (fun hc => ?_) (fun hc => ?_)
     ·replace h13 := iteT hc h13
      refine wpC.skip ?_
      refine c_seqS ?_
      refine wpC.block ?_
      refine c_reg fun R hR => ?_
      refine pp1 hS rfl rfl ?_; clear hS
      intro tm hS
      refine o_ld1 (k := 4) hS (.inl rfl) rfl rfl rfl (.inl rfl) Fu3 rfl rfl ?_; clear hS
      intro tm hS
      refine pp1 hS rfl rfl ?_; clear hS
      intro tm hS
      refine o_nil (hR _ _ ?_)
      clear hR R
      obtain ⟨k3, hw2, h13⟩ := bindS h13
      refine wpC.block ?_
      refine c_loop (I := fun (s : Int × (List Int)) tm H => match (generalizing := false) s with | (t1, Data2) => ∃ v19, S wm 182 tm H [(0, .string f1), (6, .pointer (some ⟨b2, 0, none⟩)), (7, .pointer (some ⟨b3, 0, none⟩)), (8, .pointer (some ⟨b4, 0, none⟩)), (10, v6), (12, v7), (13, .pointer (some ⟨b5, 0, none⟩)), (14, .pointer (some ⟨b6, 0, none⟩)), (15, .int .i64 n1), (17, .int .i64 r8), (18, .pointer (some ⟨b7, 0, none⟩)), (19, .int .i64 i1), (116, .int .i64 r6.size), (117, .int .i64 t1)] [.box b2 [.bool a1.Char, v1, v2], .box b3 [.bool b1.Char, v3, v4], .box b4 [.bool false, (.slice none 0 0), (.slice none 0 0)], .box b5 [.bool r5.v.Char, v8, v9, v10, .int .i64 r5.n, .int .i64 r5.size, .int .i64 r5.across, .int .i64 r5.inside], .box b6 [.bool r6.v.Char, v11, v12, v13, .int .i64 r6.n, .int .i64 r6.size, .int .i64 r6.across, .int .i64 r6.inside], .box b7 [.bool false, v16, v19], .own (rI .i64) v19 Data2, .fz (rI .i64) v1 a1.Shape, .fz (rI .i64) v2 a1.Data, .fz (rI .i64) v3 b1.Shape, .fz (rI .i64) v4 b1.Data, .el (rClo 87) [v6] r1, .el (rClo 87) [v7] r3, .fz (rI .i64) v8 r5.v.Shape, .fz (rI .i64) v9 r5.v.Data, .fz (rI .i64) v10 r5.s, .fz (rI .i64) v11 r6.v.Shape, .fz (rI .i64) v12 r6.v.Data, .fz (rI .i64) v13 r6.s, .own (rI .i64) v16 r7] Fr) hw2 (by refine Exists.intro v18 ?_; change S wm 182 _ _ _ _ Fr; exact hS.keep (ka_cons rfl (ka_cons rfl (ka_cons rfl (ka_cons rfl (ka_cons rfl (ka_cons rfl (ka_cons rfl (ka_cons rfl (ka_cons rfl (ka_cons rfl (ka_cons rfl (ka_cons rfl (ka_cons rfl (ka_cons rfl ka_nil)))))))))))))) (fun hI => (hI.sub (sc (sc (sc (sc (sc (sc (sc (sc (sc (sc (sc (sc (sc (sc (sc (sc (sc (sc (sc (sc sn))))))))))))))))))))))) ?_
      clear hS
      intro s2 tm H c6 hS h21 hq21
      obtain ⟨t1, Data2⟩ := s2
      obtain ⟨v19, hS⟩ := hS
      change S wm 182 tm H [(0, .string f1), (6, .pointer (some ⟨b2, 0, none⟩)), (7, .pointer (some ⟨b3, 0, none⟩)), (8, .pointer (some ⟨b4, 0, none⟩)), (10, v6), (12, v7), (13, .pointer (some ⟨b5, 0, none⟩)), (14, .pointer (some ⟨b6, 0, none⟩)), (15, .int .i64 n1), (17, .int .i64 r8), (18, .pointer (some ⟨b7, 0, none⟩)), (19, .int .i64 i1), (116, .int .i64 r6.size), (117, .int .i64 t1)] [.box b2 [.bool a1.Char, v1, v2], .box b3 [.bool b1.Char, v3, v4], .box b4 [.bool false, (.slice none 0 0), (.slice none 0 0)], .box b5 [.bool r5.v.Char, v8, v9, v10, .int .i64 r5.n, .int .i64 r5.size, .int .i64 r5.across, .int .i64 r5.inside], .box b6 [.bool r6.v.Char, v11, v12, v13, .int .i64 r6.n, .int .i64 r6.size, .int .i64 r6.across, .int .i64 r6.inside], .box b7 [.bool false, v16, v19], .own (rI .i64) v19 Data2, .fz (rI .i64) v1 a1.Shape, .fz (rI .i64) v2 a1.Data, .fz (rI .i64) v3 b1.Shape, .fz (rI .i64) v4 b1.Data, .el (rClo 87) [v6] r1, .el (rClo 87) [v7] r3, .fz (rI .i64) v8 r5.v.Shape, .fz (rI .i64) v9 r5.v.Data, .fz (rI .i64) v10 r5.s, .fz (rI .i64) v11 r6.v.Shape, .fz (rI .i64) v12 r6.v.Data, .fz (rI .i64) v13 r6.s, .own (rI .i64) v16 r7] Fr at hS
      refine cr1 hS rfl rfl ?_; clear hS
      intro tm hS
      refine c_seqS ?_
      refine c_cond hS rfl (fun hc => ?_) (fun hc => ?_)
      ·replace h21 := iteT hc h21
       refine wpC.skip ?_
       refine c_seqS ?_
       refine wpC.block ?_
       refine cr2 hS rfl rfl rfl rfl ?_; clear hS
       intro tm hS
       refine c_reg fun R hR => ?_
       refine pp1 hS rfl rfl ?_; clear hS
       intro tm hS
       obtain ⟨l2, hx8, h21⟩ := bindS h21
       refine o_mkW (r := rItem) (z := (Am.Item.mk 0 false)) hS (.inl rfl) rfl rfl rfl Fm75 rfl (fun _ => rfl) hx8 ?_; clear hS
       intro v20 tm H hS
       refine pp1 hS rfl rfl ?_; clear hS
       intro tm hS
       refine o_nil (hR _ _ ?_)
       clear hR R
       refine c_seqS ?_
       refine c_reg fun R hR => ?_
       refine pp1 hS rfl rfl ?_; clear hS
       intro tm hS
       refine o_len (k := 0) (r := rItem) hS (.inl rfl) rfl rfl rfl (.inr (.inl rfl)) Fu75 rfl ?_; clear hS
       intro tm hS
       refine pp1 hS rfl rfl ?_; clear hS
       intro tm hS
       refine o_nil (hR _ _ ?_)
       clear hR R
       obtain ⟨k4, hw3, h21⟩ := bindS h21
       refine wpC.block ?_
       refine c_loop (I := fun (s : Int × (List Am.Item)) tm H => match (generalizing := false) s with | (t2, l3) => S wm 182 tm H [(0, .string f1), (6, .pointer (some ⟨b2, 0, none⟩)), (7, .pointer (some ⟨b3, 0, none⟩)), (8, .pointer (some ⟨b4, 0, none⟩)), (10, v6), (12, v7), (13, .pointer (some ⟨b5, 0, none⟩)), (14, .pointer (some ⟨b6, 0, none⟩)), (15, .int .i64 n1), (17, .int .i64 r8), (18, .pointer (some ⟨b7, 0, none⟩)), (19, .int .i64 i1), (20, .int .i64 t1), (21, v20), (116, .int .i64 r6.size), (117, .int .i64 t1), (123, .int .i64 (l2.length : Int)), (124, .int .i64 t2)] [.box b2 [.bool a1.Char, v1, v2], .box b3 [.bool b1.Char, v3, v4], .box b4 [.bool false, (.slice none 0 0), (.slice none 0 0)], .box b5 [.bool r5.v.Char, v8, v9, v10, .int .i64 r5.n, .int .i64 r5.size, .int .i64 r5.across, .int .i64 r5.inside], .box b6 [.bool r6.v.Char, v11, v12, v13, .int .i64 r6.n, .int .i64 r6.size, .int .i64 r6.across, .int .i64 r6.inside], .box b7 [.bool false, v16, v19], .fz (rI .i64) v1 a1.Shape, .fz (rI .i64) v2 a1.Data, .fz (rI .i64) v3 b1.Shape, .fz (rI .i64) v4 b1.Data, .el (rClo 87) [v6] r1, .el (rClo 87) [v7] r3, .fz (rI .i64) v8 r5.v.Shape, .fz (rI .i64) v9 r5.v.Data, .fz (rI .i64) v10 r5.s, .fz (rI .i64) v11 r6.v.Shape, .fz (rI .i64) v12 r6.v.Data, .fz (rI .i64) v13 r6.s, .own (rI .i64) v16 r7, .own (rI .i64) v19 Data2, .own rItem v20 l3] Fr) hw3 (by change S wm 182 _ _ _ _ Fr; exact hS.keep (ka_cons rfl (ka_cons rfl (ka_cons rfl (ka_cons rfl (ka_cons rfl (ka_cons rfl (ka_cons rfl (ka_cons rfl (ka_cons rfl (ka_cons rfl (ka_cons rfl (ka_cons rfl (ka_cons rfl (ka_cons rfl (ka_cons rfl (ka_cons rfl (ka_cons rfl (ka_cons rfl ka_nil)))))))))))))))))) (fun hI => (hI.pick [1, 2, 3, 4, 5, 6, 8, 9, 10, 11, 12, 13, 14, 15, 16, 17, 18, 19, 20, 7, 0] rfl))) ?_
       clear hS
       intro s3 tm H c7 hS h23 hq23
       obtain ⟨t2, l3⟩ := s3
       change S wm 182 tm H [(0, .string f1), (6, .pointer (some ⟨b2, 0, none⟩)), (7, .pointer (some ⟨b3, 0, none⟩)), (8, .pointer (some ⟨b4, 0, none⟩)), (10, v6), (12, v7), (13, .pointer (some ⟨b5, 0, none⟩)), (14, .pointer (some ⟨b6, 0, none⟩)), (15, .int .i64 n1), (17, .int .i64 r8), (18, .pointer (some ⟨b7, 0, none⟩)), (19, .int .i64 i1), (20, .int .i64 t1), (21, v20), (116, .int .i64 r6.size), (117, .int .i64 t1), (123, .int .i64 (l2.length : Int)), (124, .int .i64 t2)] [.box b2 [.bool a1.Char, v1, v2], .box b3 [.bool b1.Char, v3, v4], .box b4 [.bool false, (.slice none 0 0), (.slice none 0 0)], .box b5 [.bool r5.v.Char, v8, v9, v10, .int .i64 r5.n, .int .i64 r5.size, .int .i64 r5.across, .int .i64 r5.inside], .box b6 [.bool r6.v.Char, v11, v12, v13, .int .i64 r6.n, .int .i64 r6.size, .int .i64 r6.across, .int .i64 r6.inside], .box b7 [.bool false, v16, v19], .fz (rI .i64) v1 a1.Shape, .fz (rI .i64) v2 a1.Data, .fz (rI .i64) v3 b1.Shape, .fz (rI .i64) v4 b1.Data, .el (rClo 87) [v6] r1, .el (rClo 87) [v7] r3, .fz (rI .i64) v8 r5.v.Shape, .fz (rI .i64) v9 r5.v.Data, .fz (rI .i64) v10 r5.s, .fz (rI .i64) v11 r6.v.Shape, .fz (rI .i64) v12 r6.v.Data, .fz (rI .i64) v13 r6.s, .own (rI .i64) v16 r7, .own (rI .i64) v19 Data2, .own rItem v20 l3] Fr at hS
       refine cr1 hS rfl rfl ?_; clear hS
       intro tm hS
       refine c_seqS ?_
       refine c_cond hS rfl (fun hc => ?_) (fun hc => ?_)
       ·replace h23 := iteT hc h23
        refine wpC.skip ?_
        refine c_seqS ?_
        refine wpC.block ?_
        refine cr2 hS rfl rfl rfl rfl ?_; clear hS
        intro tm hS
        refine cr1 hS rfl rfl ?_; clear hS
        intro tm hS
        refine c_reg fun R hR => ?_
        refine pp3 hS rfl rfl rfl rfl rfl rfl ?_; clear hS
        intro tm hS
        refine o_ldA (k := 0) hS (.inl rfl) rfl rfl rfl (.inl rfl) Fu25 rfl Fs25 rfl ?_; clear hS
        intro tm hS
        refine pp2 hS rfl rfl rfl rfl ?_; clear hS
        intro tm hS
        refine o_ld1 (k := 3) hS (.inl rfl) rfl rfl rfl (.inl rfl) Fu3 rfl rfl ?_; clear hS
        intro tm hS
        refine pp3 hS rfl rfl rfl rfl rfl rfl ?_; clear hS
        intro tm hS
        refine o_ld1 (k := 3) hS (.inl rfl) rfl rfl rfl (.inl rfl) Fu3 rfl rfl ?_; clear hS
        intro tm hS
        refine pp2 hS rfl rfl rfl rfl ?_; clear hS
        intro tm hS
        obtain ⟨r10, hx9, h23⟩ := bindS h23
        refine o_call hS (.inl rfl) rfl (fun wm' hw1 hw2 => wk40  a1 (IntKind.i64.wrap ((IntKind.i64.wrap (i1 * r5.across)) + (IntKind.i64.wrap (t2 * r5.inside))))  v1 v2 (((hS.sel hw2).ad 7 rfl).ad 6 rfl) hx9) (fun wm' res H hw' hp => ?_)
        obtain ⟨hres, hI⟩ := hp
        replace hres := hres.symm; subst hres
        replace hS : S wm 182 _ H ((141, .agg #[.int .i64 r10.n, .bool r10.char]) :: _) ([] ++ _) Fr := hS.after rfl hw' hI
        clear hI hw'
        refine o_ldA (k := 1) hS (.inl rfl) rfl rfl rfl (.inl rfl) Fu25 rfl Fs25 rfl ?_; clear hS
        intro tm hS
        refine pp2 hS rfl rfl rfl rfl ?_; clear hS
        intro tm hS
        refine o_ld1 (k := 4) hS (.inl rfl) rfl rfl rfl (.inl rfl) Fu3 rfl rfl ?_; clear hS
        intro tm hS
        refine pp3 hS rfl rfl rfl rfl rfl rfl ?_; clear hS
        intro tm hS
        refine o_ld1 (k := 4) hS (.inl rfl) rfl rfl rfl (.inl rfl) Fu3 rfl rfl ?_; clear hS
        intro tm hS
        refine pp2 hS rfl rfl rfl rfl ?_; clear hS
        intro tm hS
        obtain ⟨r11, hx10, h23⟩ := bindS h23
        refine o_call hS (.inl rfl) rfl (fun wm' hw1 hw2 => wk40  b1 (IntKind.i64.wrap ((IntKind.i64.wrap (t1 * r6.across)) + (IntKind.i64.wrap (t2 * r6.inside))))  v3 v4 (((hS.sel hw2).ad 9 rfl).ad 8 rfl) hx10) (fun wm' res H hw' hp => ?_)
        obtain ⟨hres, hI⟩ := hp
        replace hres := hres.symm; subst hres
        replace hS : S wm 182 _ H ((152, .agg #[.int .i64 r11.n, .bool r11.char]) :: _) ([] ++ _) Fr := hS.after rfl hw' hI
        clear hI hw'
        obtain ⟨fn1, hx11, h23⟩ := bindS h23
        obtain ⟨b8, hv1, hS⟩ := hS.unclo (k := 11) rfl hx11
        obtain ⟨⟨r12, r13⟩, hx12, h23⟩ := bindS h23
        refine o_call hS (.inl rfl) (by subst hv1; rfl) (fun wm' hw1 hw2 => wk87 ho100 r10 r11 fn1  b8 ((hS.sel hw2).adB 0 rfl) hx12) (fun wm' res H hw' hp => ?_)
        obtain ⟨hres, hI⟩ := hp
        replace hres := hres.symm; subst hres
        replace hS : S wm 182 _ H ((153, .tuple #[.agg #[.int .i64 r12.n, .bool r12.char], .int .i64 r13]) :: _) ([] ++ _) Fr := hS.after rfl hw' hI
        clear hI hw'
        refine pp3 hS rfl rfl rfl rfl rfl rfl ?_; clear hS
        intro tm hS
        obtain ⟨y1, hx13, h23⟩ := bindS h23
        refine o_ixA (k := 21) (r := rItem) hS (.inl rfl) rfl rfl rfl rfl (.inr (.inl rfl)) Fu75 Fs72 hx13 ?_; clear hS
        intro tm hS
        obtain ⟨l4, hx14, h23⟩ := bindS h23
        refine o_stE (k := 21) (r := rItem) hS (.inl rfl) rfl rfl rfl Fs72 rfl rfl (rd_flat fun _ => rfl) hx14 ?_; clear hS; try clear H
        intro H hS
        refine pp1 hS rfl rfl ?_; clear hS
        intro tm hS
        refine o_nil (hR _ _ ?_)
        clear hR R
        refine cr2 hS rfl rfl rfl rfl ?_; clear hS
        intro tm hS
        refine c_cond hS rfl (fun hc => ?_) (fun hc => ?_)
        ·replace h23 := iteT hc h23
         refine c_reg fun R hR => ?_
         refine o_build hS (.inl rfl) rfl Fb25 rfl .nil rfl ?_; clear hS
         intro tm hS
         refine pp1 hS rfl rfl ?_; clear hS
         intro tm hS
         refine o_st (k := 3) hS (.inl rfl) rfl rfl rfl Fs25 rfl rfl (all_cons rfl (all_cons rfl (all_cons rfl all_nil))) rfl ?_; clear hS; try clear H
         intro H hS
         refine pp1 hS rfl rfl ?_; clear hS
         intro tm hS
         refine o_nil (hR _ _ ?_)
         clear hR R
         refine wpC.ret ?_
         obtain rfl := Option.some.inj h23
         obtain rfl := hq23 _ rfl
         refine And.intro rfl ?_
         obtain rfl := leave h21
         obtain rfl := hq21 _ rfl
         refine And.intro rfl ?_
         obtain rfl := leave h13
         obtain rfl := hq13 _ rfl
         refine And.intro rfl ?_
         obtain rfl := leave h0
         replace hS := hS.nilOwn (rI .i64)
         replace hS := hS.nilOwn (rI .i64)
         refine Exists.intro _ (And.intro (rs_cellA (k := 5) hS rfl rfl (.inl rfl) Fu25 rfl Fs25 rfl (rs_tmp hS rfl rs_nil)) ?_)
         have hI := hS.inv
         exact ⟨(.slice none 0 0), (.slice none 0 0), rfl, (((hI.pull 0 rfl).pull 1 rfl).take 2)⟩
        ·replace h23 := iteF hc h23
         refine wpC.skip ?_
         refine cs2 hS rfl rfl rfl rfl ?_; clear hS
         intro tm hS
         obtain rfl := Option.some.inj h23
         refine ⟨_, rfl, ?_⟩
         change S wm 182 _ _ _ _ Fr; exact hS.keep (ka_cons rfl (ka_cons rfl (ka_cons rfl (ka_cons rfl (ka_cons rfl (ka_cons rfl (ka_cons rfl (ka_cons rfl (ka_cons rfl (ka_cons rfl (ka_cons rfl (ka_cons rfl (ka_cons rfl (ka_cons rfl (ka_cons rfl (ka_cons rfl (ka_cons rfl (ka_cons rfl ka_nil)))))))))))))))))) (fun hI => (hI.sub (sd (sc (sc (sc (sc (sc (sc (sc (sc (sc (sc (sc (sc (sc (sc (sc (sc (sc (sc (sc (sc (sc sn))))))))))))))))))))))))
       ·replace h23 := iteF hc h23
        refine wpC.exit ?_
        refine seqX ?_
        obtain rfl := Option.some.inj h23
        obtain rfl := hq23 _ rfl
        refine And.intro rfl (blk_eq ?_)
        replace h21 := joinN h21
        refine c_reg fun R hR => ?_
        refine pp3 hS rfl rfl rfl rfl rfl rfl ?_; clear hS
        intro tm hS
        obtain ⟨⟨r14, r15⟩, hx15, h21⟩ := bindS h21
        refine o_call (Pc := fun _ res H => res = .tuple #[.agg #[.int .i64 r14.n, .bool r14.char], .int .i64 r15] ∧ Kn wm H ([.box b2 [.bool a1.Char, v1, v2], .box b3 [.bool b1.Char, v3, v4], .box b4 [.bool false, (.slice none 0 0), (.slice none 0 0)], .box b5 [.bool r5.v.Char, v8, v9, v10, .int .i64 r5.n, .int .i64 r5.size, .int .i64 r5.across, .int .i64 r5.inside], .box b6 [.bool r6.v.Char, v11, v12, v13, .int .i64 r6.n, .int .i64 r6.size, .int .i64 r6.across, .int .i64 r6.inside], .box b7 [.bool false, v16, v19], .fz (rI .i64) v1 a1.Shape, .fz (rI .i64) v2 a1.Data, .fz (rI .i64) v3 b1.Shape, .fz (rI .i64) v4 b1.Data, .el (rClo 87) [v6] r1, .el (rClo 87) [v7] r3, .fz (rI .i64) v8 r5.v.Shape, .fz (rI .i64) v9 r5.v.Data, .fz (rI .i64) v10 r5.s, .fz (rI .i64) v11 r6.v.Shape, .fz (rI .i64) v12 r6.v.Data, .fz (rI .i64) v13 r6.s, .own (rI .i64) v16 r7, .own (rI .i64) v19 Data2, .own rItem v20 l3]) Fr) hS (.inl rfl) rfl (fun wm' hw1 hw2 => by
         obtain ⟨F2, kk_1, kk_2⟩ := hS.inv.lend (La := [.el (rClo 87) [v6] r1, .fz rItem v20 l3]) (List.forall_mem_cons.mpr ⟨(.inl ⟨rfl, List.mem_of_getElem? (i := 10) rfl⟩), (List.forall_mem_cons.mpr ⟨(.inr ⟨_, _, _, _, rfl, .inl (List.mem_of_getElem? (i := 20) rfl)⟩), (fun _ h => by cases h)⟩)⟩) hw1 hw2
         exact (wk37 ho100 f1 r1 l3  v6 v20 kk_1 hx15).mono fun res H2 ⟨qq_1, qq_2⟩ => ⟨qq_1, kk_2 _ qq_2⟩) (fun wm' res H hw' hp => ?_)
        obtain ⟨hres, hI⟩ := hp
        replace hres := hres.symm; subst hres
        replace hS : S wm 182 _ H ((166, .tuple #[.agg #[.int .i64 r14.n, .bool r14.char], .int .i64 r15]) :: _) ([.box b2 [.bool a1.Char, v1, v2], .box b3 [.bool b1.Char, v3, v4], .box b4 [.bool false, (.slice none 0 0), (.slice none 0 0)], .box b5 [.bool r5.v.Char, v8, v9, v10, .int .i64 r5.n, .int .i64 r5.size, .int .i64 r5.across, .int .i64 r5.inside], .box b6 [.bool r6.v.Char, v11, v12, v13, .int .i64 r6.n, .int .i64 r6.size, .int .i64 r6.across, .int .i64 r6.inside], .box b7 [.bool false, v16, v19], .fz (rI .i64) v1 a1.Shape, .fz (rI .i64) v2 a1.Data, .fz (rI .i64) v3 b1.Shape, .fz (rI .i64) v4 b1.Data, .el (rClo 87) [v6] r1, .el (rClo 87) [v7] r3, .fz (rI .i64) v8 r5.v.Shape, .fz (rI .i64) v9 r5.v.Data, .fz (rI .i64) v10 r5.s, .fz (rI .i64) v11 r6.v.Shape, .fz (rI .i64) v12 r6.v.Data, .fz (rI .i64) v13 r6.s, .own (rI .i64) v16 r7, .own (rI .i64) v19 Data2, .own rItem v20 l3]) Fr := (hS.put rfl _).withK hI
        clear hI hw'
        refine pp3 hS rfl rfl rfl rfl rfl rfl ?_; clear hS
        intro tm hS
        refine o_alloc hS (.inl rfl) rfl Fz72 (by decide) ?_; clear hS
        intro b9 tm H hS
        refine o_st (k := 0) hS (.inl rfl) rfl rfl rfl Fs72 rfl rfl (all_cons rfl (all_cons rfl all_nil)) rfl ?_; clear hS; try clear H
        intro H hS
        refine pp1 hS rfl rfl ?_; clear hS
        intro tm hS
        refine o_nil (hR _ _ ?_)
        clear hR R
        refine c_seqS ?_
        refine cr2 hS rfl rfl rfl rfl ?_; clear hS
        intro tm hS
        refine c_cond hS rfl (fun hc => ?_) (fun hc => ?_)
        ·replace h21 := iteT hc h21
         refine c_reg fun R hR => ?_
         refine o_build hS (.inl rfl) rfl Fb25 rfl .nil rfl ?_; clear hS
         intro tm hS
         refine pp1 hS rfl rfl ?_; clear hS
         intro tm hS
         refine o_st (k := 3) hS (.inl rfl) rfl rfl rfl Fs25 rfl rfl (all_cons rfl (all_cons rfl (all_cons rfl all_nil))) rfl ?_; clear hS; try clear H
         intro H hS
         refine pp1 hS rfl rfl ?_; clear hS
         intro tm hS
         refine o_nil (hR _ _ ?_)
         clear hR R
         refine wpC.ret ?_
         obtain rfl := Option.some.inj h21
         obtain rfl := hq21 _ rfl
         refine And.intro rfl ?_
         obtain rfl := leave h13
         obtain rfl := hq13 _ rfl
         refine And.intro rfl ?_
         obtain rfl := leave h0
         replace hS := hS.nilOwn (rI .i64)
         replace hS := hS.nilOwn (rI .i64)
         refine Exists.intro _ (And.intro (rs_cellA (k := 5) hS rfl rfl (.inl rfl) Fu25 rfl Fs25 rfl (rs_tmp hS rfl rs_nil)) ?_)
         have hI := hS.inv
         exact ⟨(.slice none 0 0), (.slice none 0 0), rfl, (((hI.pull 0 rfl).pull 1 rfl).take 2)⟩
        ·replace h21 := iteF hc h21
         refine wpC.skip ?_
         refine c_reg1 fun R hR => ?_
         refine pp1 hS rfl rfl ?_; clear hS
         intro tm hS
         refine o_ld1 (k := 6) hS (.inl rfl) rfl rfl rfl (.inl rfl) Fu23 rfl rfl ?_; clear hS
         intro tm hS
         refine pp1 hS rfl rfl ?_; clear hS
         intro tm hS
         refine o_ld1 (k := 0) hS (.inl rfl) rfl rfl rfl (.inl rfl) Fu2 rfl rfl ?_; clear hS
         intro tm hS
         refine o_lit (r := (rI .i64)) (l := [r14.n]) hS (.inl rfl) rfl Fl23 rfl rfl rfl (.cons rfl .nil) rfl rfl (ri_1 (rd_flat fun _ => rfl) ri_nil) rfl ?_; clear hS
         intro v21 tm H hS
         obtain ⟨l5, hx16, h21⟩ := bindS h21
         refine o_app (k1 := 21) (k2 := 0) (r := (rI .i64)) hS (.inl rfl) rfl rfl rfl rfl rfl (.inr (.inr rfl)) rfl Fe23_23 rfl hx16 ?_; clear hS
         intro v22 tm H hS
         refine pp1 hS rfl rfl ?_; clear hS
         intro tm hS
         refine o_st (k := 7) hS (.inl rfl) rfl rfl rfl Fs23 (cells_one (hS.one (k := 21) rfl (.inr (.inl rfl)))) rfl (all_cons (hS.one (k := 21) rfl (.inr (.inl rfl))) all_nil) rfl ?_; clear hS; try clear H
         intro H hS
         refine o_nil (hR _ _ ?_)
         clear hR R
         refine cs2 hS rfl rfl rfl rfl ?_; clear hS
         intro tm hS
         obtain rfl := Option.some.inj h21
         refine ⟨_, rfl, ?_⟩
         refine Exists.intro v22 ?_; change S wm 182 _ _ _ _ Fr; exact hS.keep (ka_cons rfl (ka_cons rfl (ka_cons rfl (ka_cons rfl (ka_cons rfl (ka_cons rfl (ka_cons rfl (ka_cons rfl (ka_cons rfl (ka_cons rfl (ka_cons rfl (ka_cons rfl (ka_cons rfl (ka_cons rfl ka_nil)))))))))))))) (fun hI => (hI.pick [2, 3, 4, 5, 6, 7, 21, 8, 9, 10, 11, 12, 13, 14, 15, 16, 17, 18, 19, 20] rfl))
      ·replace h21 := iteF hc h21
       refine wpC.exit ?_
       refine seqX ?_
       obtain rfl := Option.some.inj h21
       obtain rfl := hq21 _ rfl
       refine And.intro rfl (blk_eq ?_)
       replace h13 := joinN h13
       refine cs3 hS rfl rfl rfl rfl rfl rfl ?_; clear hS
       intro tm hS
       obtain rfl := Option.some.inj h13
       refine ⟨_, rfl, ?_⟩
       refine Exists.intro v19 ?_; change S wm 182 _ _ _ _ Fr; exact hS.keep (k12 rfl rfl rfl rfl rfl rfl rfl rfl rfl rfl rfl rfl) (fun hI => (hI.sub (sc (sc (sc (sc (sc (sc (sc (sc (sc (sc (sc (sc (sc (sc (sc (sc (sc (sc (sc (sc sn))))))))))))))))))))))
     ·replace h13 := iteF hc h13
      refine wpC.exit ?_
      refine seqX ?_
      obtain rfl := Option.some.inj h13
      obtain rfl := hq13 _ rfl
      refine And.intro rfl (blk_eq ?_)
      replace h0 := joinN h0
      refine c_reg fun R hR => ?_
      refine o_ldA (k := 5) hS (.inl rfl) rfl rfl rfl (.inl rfl) Fu25 rfl Fs25 rfl ?_; clear hS
      intro tm hS
      refine o_st (k := 2) hS (.inl rfl) rfl rfl rfl Fs25 rfl rfl (all_cons rfl (all_cons (hS.one (k := 19) rfl (.inr (.inl rfl))) (all_cons (hS.one (k := 6) rfl (.inr (.inl rfl))) all_nil))) rfl ?_; clear hS; try clear H
      intro H hS
      refine pp1 hS rfl rfl ?_; clear hS
      intro tm hS
      refine o_nil (hR _ _ ?_)
      clear hR R
      refine wpC.ret ?_
      obtain rfl := Option.some.inj h0
      refine Exists.intro _ (And.intro (rs_cellA (k := 2) hS rfl rfl (.inl rfl) Fu25 rfl Fs25 rfl (rs_tmp hS rfl rs_nil)) ?_)
      have hI := hS.inv
      exact ⟨v16, v18, rfl, (((hI.pull 6 rfl).pull 19 rfl).take 2)⟩
theorem wk19o01 {wm : Nat} {H : AHeap} {Fr : List Ent}  (shape1 : (List Int)) (l1 : (List Int))  (v1 : Value) (v2 : Value) (hI : Kn wm H [.own (rI .i64) v1 shape1, .own (rI .i64) v2 l1] Fr) {r : Val} (h0 : M.anamnesislaw07_Of shape1 l1 = some r) :
  wpF Try.prog ora wm 19 [v1, v2] H (fun res H => ∃ v3 v4, res = .agg #[.bool r.Char, v3, v4] ∧ Kn wm H [.own (rI .i64) v3 r.Shape, .own (rI .i64) v4 r.Data] Fr) := by
 unfold M.anamnesislaw07_Of at h0
 refine f_enter (n := 8) Try.func19 rfl (by simp) hI rfl rfl rfl fun tm hS => ?_
 clear hI
 refine c_reg fun R hR => ?_
 refine o_alloc hS (.inl rfl) rfl Fz25 (by decide) ?_; clear hS
 intro b1 tm H hS
 refine o_nil (hR _ _ ?_)
 clear hR R
 refine c_reg fun R hR => ?_
 refine pp2 hS rfl rfl rfl rfl ?_; clear hS
 intro tm hS
 refine o_build hS (.inl rfl) rfl Fb25 rfl (.cons (cells_one (hS.one (k := 1) rfl (.inr (.inl rfl)))) (.cons (cells_one (hS.one (k := 2) rfl (.inr (.inl rfl)))) .nil)) rfl ?_; clear hS
 intro tm hS
 refine o_st (k := 0) hS (.inl rfl) rfl rfl rfl Fs25 rfl rfl (all_cons rfl (all_cons (hS.one (k := 1) rfl (.inr (.inl rfl))) (all_cons (hS.one (k := 2) rfl (.inr (.inl rfl))) all_nil))) rfl ?_; clear hS; try clear H
 intro H hS
 refine o_nil (hR _ _ ?_)
 clear hR R
 refine wpC.ret ?_
 obtain rfl := Option.some.inj h0
 refine Exists.intro _ (And.intro (rs_cellA (k := 0) hS rfl rfl (.inl rfl) Fu25 rfl Fs25 rfl rs_nil) ?_)
 have hI := hS.inv
 exact ⟨v1, v2, rfl, (hI.sub (sd (sc (sc sn))))⟩
theorem wk62 {wm : Nat} {H : AHeap} {Fr : List Ent} (s1 : (List Int)) (v1 : Value) (hI : Kn wm H [.fz (rI .i64) v1 s1] Fr) {r : (List Int)} (h0 : M.slices_Clone__int s1 = some r) :
  wpF Try.prog ora wm 62 [v1] H (fun res H => ∃ v2, res = v2 ∧ Kn wm H [.own (rI .i64) v2 r] Fr) := by
 unfold M.slices_Clone__int at h0
 refine f_enter (n := 8) Try.func62 rfl (by simp) hI rfl rfl rfl fun tm hS => ?_
 refine c_reg fun R hR => ?_
 refine o_pure hS (.inl rfl) rfl rfl fun tm hS => ?_
 refine o_nil (hR _ _ ?_)
 refine c_seqS ?_
 refine c_reg fun R hR => ?_
 refine o_pure hS (.inl rfl) rfl rfl fun tm hS => ?_
 refine o_nilcmp (k := 0) (r := (rI .i64)) hS (.inl rfl) rfl rfl rfl rfl (.inl rfl) Fu22 (fun hl tm hS => ?_) (fun tm hS => ?_)
 ·subst hl
  have hr : r = [] := by simpa [app] using h0.symm
  subst hr
  refine o_nil (hR _ _ ?_)
  refine c_cond hS rfl (fun _ => ?_) (fun h => by cases h)
  refine c_reg fun R hR => ?_
  refine o_pure hS (.inl rfl) rfl rfl fun tm hS => ?_
  refine o_nil (hR _ _ ?_)
  refine wpC.ret ?_
  replace hS := hS.nilOwn (rI .i64)
  refine Exists.intro _ (And.intro (rs_tmp hS rfl rs_nil) ?_)
  exact ⟨_, rfl, hS.inv.take 1⟩
 ·refine o_nil (hR _ _ ?_)
  refine c_cond hS rfl (fun h => by cases h) (fun _ => ?_)
  refine wpC.skip ?_
  refine c_reg fun R hR => ?_
  refine o_lit (r := (rI .i64)) (l := []) hS (.inl rfl) rfl Fl22 rfl rfl rfl .nil rfl rfl ri_nil rfl fun v2 tm H hS => ?_
  refine o_pure hS (.inl rfl) rfl rfl fun tm hS => ?_
  refine o_appL (k1 := 0) (k2 := 1) (r := (rI .i64)) hS (.inl rfl) rfl rfl rfl rfl rfl (.inl rfl) rfl Fe22_22 h0 fun v3 tm H hS => ?_
  refine o_pure hS (.inl rfl) rfl rfl fun tm hS => ?_
  refine o_nil (hR _ _ ?_)
  refine wpC.ret ?_
  refine Exists.intro _ (And.intro (rs_tmp hS rfl rs_nil) ?_)
  exact ⟨_, rfl, hS.inv.take 1⟩
theorem wk30 {wm : Nat} {H : AHeap} {Fr : List Ent} (s1 : (List Int)) (v1 : Value) (hI : Kn wm H [.fz (rI .i64) v1 s1] Fr) {r : (List Int)} (h0 : M.slices_Clone__int64 s1 = some r) :
  wpF Try.prog ora wm 30 [v1] H (fun res H => ∃ v2, res = v2 ∧ Kn wm H [.own (rI .i64) v2 r] Fr) := by
 unfold M.slices_Clone__int64 at h0
 refine f_enter (n := 8) Try.func30 rfl (by simp) hI rfl rfl rfl fun tm hS => ?_
 refine c_reg fun R hR => ?_
 refine o_pure hS (.inl rfl) rfl rfl fun tm hS => ?_
 refine o_nil (hR _ _ ?_)
 refine c_seqS ?_
 refine c_reg fun R hR => ?_
 refine o_pure hS (.inl rfl) rfl rfl fun tm hS => ?_
 refine o_nilcmp (k := 0) (r := (rI .i64)) hS (.inl rfl) rfl rfl rfl rfl (.inl rfl) Fu23 (fun hl tm hS => ?_) (fun tm hS => ?_)
 ·subst hl
  have hr : r = [] := by simpa [app] using h0.symm
  subst hr
  refine o_nil (hR _ _ ?_)
  refine c_cond hS rfl (fun _ => ?_) (fun h => by cases h)
  refine c_reg fun R hR => ?_
  refine o_pure hS (.inl rfl) rfl rfl fun tm hS => ?_
  refine o_nil (hR _ _ ?_)
  refine wpC.ret ?_
  replace hS := hS.nilOwn (rI .i64)
  refine Exists.intro _ (And.intro (rs_tmp hS rfl rs_nil) ?_)
  exact ⟨_, rfl, hS.inv.take 1⟩
 ·refine o_nil (hR _ _ ?_)
  refine c_cond hS rfl (fun h => by cases h) (fun _ => ?_)
  refine wpC.skip ?_
  refine c_reg fun R hR => ?_
  refine o_lit (r := (rI .i64)) (l := []) hS (.inl rfl) rfl Fl23 rfl rfl rfl .nil rfl rfl ri_nil rfl fun v2 tm H hS => ?_
  refine o_pure hS (.inl rfl) rfl rfl fun tm hS => ?_
  refine o_appL (k1 := 0) (k2 := 1) (r := (rI .i64)) hS (.inl rfl) rfl rfl rfl rfl rfl (.inl rfl) rfl Fe23_23 h0 fun v3 tm H hS => ?_
  refine o_pure hS (.inl rfl) rfl rfl fun tm hS => ?_
  refine o_nil (hR _ _ ?_)
  refine wpC.ret ?_
  refine Exists.intro _ (And.intro (rs_tmp hS rfl rs_nil) ?_)
  exact ⟨_, rfl, hS.inv.take 1⟩
theorem wk32 {wm : Nat} {H : AHeap} {Fr : List Ent}  (v1 : Val)  (v2 : Value) (v3 : Value) (hI : Kn wm H [.fz (rI .i64) v2 v1.Shape, .fz (rI .i64) v3 v1.Data] Fr) {r : Val} (h0 : M.value_Copy v1 = some r) :
  wpF Try.prog ora wm 32 [.agg #[.bool v1.Char, v2, v3]] H (fun res H => ∃ v6 v7, res = .agg #[.bool r.Char, v6, v7] ∧ Kn wm H [.own (rI .i64) v6 r.Shape, .own (rI .i64) v7 r.Data] Fr) := by
 unfold M.value_Copy at h0
 refine f_enter (n := 12) Try.func32 rfl (by simp) hI rfl rfl rfl fun tm hS => ?_
 clear hI
 refine c_reg fun R hR => ?_
 refine o_box hS (.inl rfl) rfl rfl rfl (all_cons rfl (all_cons (hS.one (k := 0) rfl (.inl rfl)) (all_cons (hS.one (k := 1) rfl (.inl rfl)) all_nil))) ?_; clear hS
 intro b1 tm H hS
 refine o_alloc hS (.inl rfl) rfl Fz25 (by decide) ?_; clear hS
 intro b2 tm H hS
 refine o_nil (hR _ _ ?_)
 clear hR R
 refine c_reg fun R hR => ?_
 refine pp1 hS rfl rfl ?_; clear hS
 intro tm hS
 refine o_ld1 (k := 1) hS (.inl rfl) rfl rfl rfl (.inl rfl) Fu4 rfl rfl ?_; clear hS
 intro tm hS
 refine pp1 hS rfl rfl ?_; clear hS
 intro tm hS
 refine o_ld1 (k := 1) hS (.inl rfl) rfl rfl rfl (.inl rfl) Fu22 rfl rfl ?_; clear hS
 intro tm hS
 obtain ⟨r1, hx1, h0⟩ := bindS h0
 refine o_call hS (.inl rfl) rfl (fun wm' hw1 hw2 => wk62  v1.Shape  v2 ((hS.sel hw2).ad 2 rfl) hx1) (fun wm' res H hw' hp => ?_)
 obtain ⟨v4, hres, hI⟩ := hp
 replace hres := hres.symm; subst hres
 replace hS : S wm 12 _ H ((7, v4) :: _) ([.own (rI .i64) v4 r1] ++ _) Fr := hS.after rfl hw' hI
 clear hI hw'
 refine pp1 hS rfl rfl ?_; clear hS
 intro tm hS
 refine o_ld1 (k := 2) hS (.inl rfl) rfl rfl rfl (.inl rfl) Fu23 rfl rfl ?_; clear hS
 intro tm hS
 obtain ⟨r2, hx2, h0⟩ := bindS h0
 refine o_call hS (.inl rfl) rfl (fun wm' hw1 hw2 => wk30  v1.Data  v3 ((hS.sel hw2).ad 4 rfl) hx2) (fun wm' res H hw' hp => ?_)
 obtain ⟨v5, hres, hI⟩ := hp
 replace hres := hres.symm; subst hres
 replace hS : S wm 12 _ H ((10, v5) :: _) ([.own (rI .i64) v5 r2] ++ _) Fr := hS.after rfl hw' hI
 clear hI hw'
 refine o_build hS (.inl rfl) rfl Fb25 rfl (.cons rfl (.cons (cells_one (hS.one (k := 1) rfl (.inr (.inl rfl)))) (.cons (cells_one (hS.one (k := 0) rfl (.inr (.inl rfl)))) .nil))) rfl ?_; clear hS
 intro tm hS
 refine o_st (k := 2) hS (.inl rfl) rfl rfl rfl Fs25 rfl rfl (all_cons rfl (all_cons (hS.one (k := 1) rfl (.inr (.inl rfl))) (all_cons (hS.one (k := 0) rfl (.inr (.inl rfl))) all_nil))) rfl ?_; clear hS; try clear H
 intro H hS
 refine o_nil (hR _ _ ?_)
 clear hR R
 refine wpC.ret ?_
 obtain rfl := Option.some.inj h0
 refine Exists.intro _ (And.intro (rs_cellA (k := 2) hS rfl rfl (.inl rfl) Fu25 rfl Fs25 rfl rs_nil) ?_)
 have hI := hS.inv
 exact ⟨v4, v5, rfl, (((hI.pull 0 rfl).pull 1 rfl).take 2)⟩
theorem wk33 {wm : Nat} {H : AHeap} {Fr : List Ent}  (v1 : Val) (axis1 : Int)  (v2 : Value) (v3 : Value) (hI : Kn wm H [.fz (rI .i64) v2 v1.Shape, .fz (rI .i64) v3 v1.Data] Fr) {r : Int × Bool} (h0 : M.over_along v1 axis1 = some r) :
  wpF Try.prog ora wm 33 [.agg #[.bool v1.Char, v2, v3], .int .i64 axis1] H (fun res H => res = .tuple #[.int .i64 r.1, .bool r.2] ∧ Kn wm H [] Fr) := by
 unfold M.over_along at h0
 refine f_enter (n := 22) Try.func33 rfl (by simp) hI rfl rfl rfl fun tm hS => ?_
 clear hI
 refine c_reg fun R hR => ?_
 refine o_box hS (.inl rfl) rfl rfl rfl (all_cons rfl (all_cons (hS.one (k := 0) rfl (.inl rfl)) (all_cons (hS.one (k := 1) rfl (.inl rfl)) all_nil))) ?_; clear hS
 intro b1 tm H hS
 refine pp2 hS rfl rfl rfl rfl ?_; clear hS
 intro tm hS
 refine o_nil (hR _ _ ?_)
 clear hR R
 obtain ⟨axis2, h1, h0⟩ := bindS h0
 refine c_seqJ (J := fun tm H => (match (generalizing := false) axis2 with | axis2 => S wm 22 tm H [(1, .int .i64 axis2), (2, .pointer (some ⟨b1, 0, none⟩))] [.box b1 [.bool v1.Char, v2, v3], .fz (rI .i64) v2 v1.Shape, .fz (rI .i64) v3 v1.Data] Fr)) ?_ ?_
 ·refine cr2 hS rfl rfl rfl rfl ?_; clear hS
  intro tm hS
  refine c_cond hS rfl (fun hc => ?_) (fun hc => ?_)
  ·replace h1 := iteT hc h1
   refine c_reg1 fun R hR => ?_
   refine pp1 hS rfl rfl ?_; clear hS
   intro tm hS
   refine o_ld1 (k := 0) hS (.inl rfl) rfl rfl rfl (.inl rfl) Fu22 rfl rfl ?_; clear hS
   intro tm hS
   refine o_len (k := 1) (r := (rI .i64)) hS (.inl rfl) rfl rfl rfl (.inl rfl) Fu22 rfl ?_; clear hS
   intro tm hS
   refine pp2 hS rfl rfl rfl rfl ?_; clear hS
   intro tm hS
   refine o_nil (hR _ _ ?_)
   clear hR R
   obtain rfl := Option.some.inj h1
   change S wm 22 _ _ _ _ Fr; exact hS.keep (k2 rfl rfl) (fun hI => (hI.sub (sc (sc (sc sn)))))
  ·replace h1 := iteF hc h1
   refine wpC.skip ?_
   obtain rfl := Option.some.inj h1
   change S wm 22 _ _ _ _ Fr; exact hS.keep (k2 rfl rfl) (fun hI => (hI.sub (sc (sc (sc sn)))))
 intro tm H hS
 change S wm 22 tm H [(1, .int .i64 axis2), (2, .pointer (some ⟨b1, 0, none⟩))] [.box b1 [.bool v1.Char, v2, v3], .fz (rI .i64) v2 v1.Shape, .fz (rI .i64) v3 v1.Data] Fr at hS
 refine c_reg fun R hR => ?_
 refine pp4 hS rfl rfl rfl rfl rfl rfl rfl rfl ?_; clear hS
 intro tm hS
 obtain ⟨c1, hc1⟩ : ∃ x : Bool, x = ((decide (axis2 ≥ 0)) && (decide (axis2 < (v1.Shape.length : Int)))) := ⟨_, rfl⟩
 refine o_cutN 6 (J := fun tm H => S wm 22 tm H [(21, .bool c1), (12, .int .i64 axis2)] [] Fr) ?_ ?_
 ·rcases Bool.eq_false_or_eq_true (decide (axis2 ≥ 0)) with hg1 | hg1
  ·refine o_pure hS (.inr ⟨_, _, _, _, rfl, rfl, rfl, hg1⟩) rfl rfl ?_; clear hS
   intro tm hS
   refine o_pure hS (.inr ⟨_, _, _, _, rfl, rfl, rfl, hg1⟩) rfl rfl ?_; clear hS
   intro tm hS
   refine o_ld1 (k := 0) hS (.inr ⟨_, _, _, _, rfl, rfl, rfl, hg1⟩) rfl rfl rfl (.inl rfl) Fu22 rfl rfl ?_; clear hS
   intro tm hS
   refine o_len (k := 1) (r := (rI .i64)) hS (.inr ⟨_, _, _, _, rfl, rfl, rfl, hg1⟩) rfl rfl rfl (.inl rfl) Fu22 rfl ?_; clear hS
   intro tm hS
   refine o_pure hS (.inr ⟨_, _, _, _, rfl, rfl, rfl, hg1⟩) rfl rfl ?_; clear hS
   intro tm hS
   refine o_pickT hS (.inl rfl) rfl rfl hg1 rfl ?_; clear hS
   intro tm hS
   have hc1 : c1 = (decide (axis2 < (v1.Shape.length : Int))) := hc1.trans (by rw [hg1]; first | rfl | simp)
   subst hc1
   exact o_nil (hS.keep (k2 rfl rfl) (fun hI => (hI.sub sn)))
  ·refine o_skip hS rfl rfl rfl hg1 ?_; clear hS
   intro tm hS
   refine o_skip hS rfl rfl rfl hg1 ?_; clear hS
   intro tm hS
   refine o_skip hS rfl rfl rfl hg1 ?_; clear hS
   intro tm hS
   refine o_skip hS rfl rfl rfl hg1 ?_; clear hS
   intro tm hS
   refine o_skip hS rfl rfl rfl hg1 ?_; clear hS
   intro tm hS
   refine o_pickF hS (.inl rfl) rfl rfl hg1 rfl ?_; clear hS
   intro tm hS
   have hc1 : c1 = false := hc1.trans (by rw [hg1]; first | rfl | simp)
   subst hc1
   exact o_nil (hS.keep (k2 rfl rfl) (fun hI => (hI.sub sn)))
 intro tm H hS
 subst hc1
 refine pp2 hS rfl rfl rfl rfl ?_; clear hS
 intro tm hS
 refine o_nil (hR _ _ ?_)
 clear hR R
 refine wpC.ret ?_
 obtain rfl := Option.some.inj h0
 refine Exists.intro _ (And.intro (rs_tmp hS rfl (rs_tmp hS rfl rs_nil)) ?_)
 have hI := hS.inv
 exact ⟨rfl, (hI.sub sn)⟩
theorem wk63 {wm : Nat} {H : AHeap} {Fr : List Ent} (s1 : (List Int)) (i1 j1 : Int) (v1 : Value) (hI : Kn wm H [.own (rI .i64) v1 s1] Fr) {r : (List Int)} (h0 : M.slices_Delete__int s1 i1 j1 = some r) :
  wpF Try.prog ora wm 63 [v1, .int .i64 i1, .int .i64 j1] H (fun res H => ∃ v2, res = v2 ∧ Kn wm H [.own (rI .i64) v2 r] Fr) := by
 unfold M.slices_Delete__int del at h0
 split at h0
 case isFalse => cases h0
 rename_i hij
 obtain rfl := Option.some.inj h0
 obtain ⟨i, rfl⟩ : ∃ i : Nat, i1 = i := ⟨i1.toNat, by omega⟩
 obtain ⟨j, rfl⟩ : ∃ j : Nat, j1 = j := ⟨j1.toNat, by omega⟩
 simp only [Int.toNat_natCast]
 have hi : i ≤ j := by omega
 have hj : j ≤ s1.length := by omega
 obtain ⟨Z, hK⟩ := hI
 have hsh := hK.slAt (k := 0) (r := (rI .i64)) (v := v1) (l := s1) rfl (.inr (.inl rfl))
 refine f_enter (n := 33) Try.func63 rfl (by simp) ⟨Z, hK⟩ rfl rfl rfl fun tm hS => ?_
 refine c_reg fun R hR => ?_
 refine o_pure hS (.inl rfl) rfl rfl fun tm hS => ?_
 refine o_nil (hR _ _ ?_)
 refine c_reg fun R hR => ?_
 refine o_pure hS (.inl rfl) rfl rfl fun tm hS => ?_
 refine o_pure hS (.inl rfl) rfl rfl fun tm hS => ?_
 refine o_pure hS (.inl rfl) rfl rfl fun tm hS => ?_
 refine o_pure hS (.inl rfl) rfl rfl fun tm hS => ?_
 refine o_len (k := 0) (r := (rI .i64)) hS (.inl rfl) rfl rfl rfl (.inr (.inl rfl)) Fu22 rfl fun tm hS => ?_
 have hsl : ∃ v, aSlice Try.prog H 22 v1 (some (.int .i64 (i : Int))) (some (.int .i64 (j : Int))) (some (.int .i64 (s1.length : Int))) = some v := by
  rcases hsh with ⟨rfl, rfl⟩ | ⟨b, o, cap, own, gr, cells, cs, rfl, q1, q2, q3, q4⟩
  ·obtain rfl : i = 0 := by simp at hj; omega
   obtain rfl : j = 0 := by simp at hj; omega
   have e : bnd 0 (some (.int .i64 ((0 : Nat) : Int))) = some (some 0) := bnd_some (Nat.le_refl 0)
   have e' : bnd 0 (some (.int .i64 (([] : (List Int)).length : Int))) = some (some 0) := bnd_some (Nat.le_refl 0)
   refine ⟨.slice none 0 0, ?_⟩
   unfold aSlice
   simp only [Fu22, Fs3, e, e', Option.isSome_some, Option.isNone_some, Bool.and_false, Bool.false_eq_true, if_false, Option.getD_some]
  ·exact ⟨_, aSlice_row Fu22 Fs3 q2 (bnd_some q1) rfl (bnd_some hj) (bnd_some hi)⟩
 obtain ⟨sv, hsv⟩ := hsl
 refine o_sliceV hS (.inl rfl) rfl rfl (vlo := [.int .i64 (i : Int)]) (vhi := [.int .i64 (j : Int)]) (vmx := [.int .i64 (s1.length : Int)]) rfl rfl rfl hsv fun tm hS => ?_
 refine o_nil (hR _ _ ?_)
 refine c_seqS ?_
 refine c_reg fun R hR => ?_
 refine o_pure hS (.inl rfl) rfl rfl fun tm hS => ?_
 refine o_pure hS (.inl rfl) rfl rfl fun tm hS => ?_
 refine o_pure hS (.inl rfl) rfl rfl fun tm hS => ?_
 refine o_nil (hR _ _ ?_)
 refine c_cond hS rfl (fun hc => ?_) (fun hc => ?_)
 ·refine c_reg fun R hR => ?_
  refine o_pure hS (.inl rfl) rfl rfl fun tm hS => ?_
  refine o_pure hS (.inl rfl) rfl rfl fun tm hS => ?_
  refine o_nil (hR _ _ ?_)
  refine wpC.ret ?_
  have hij2 : i = j := by
   have : (i : Int) = (j : Int) := by simpa using hc
   omega
  subst hij2
  rw [List.take_append_drop]
  refine Exists.intro _ (And.intro (rs_tmp hS rfl rs_nil) ?_)
  exact ⟨_, rfl, hS.inv⟩
 ·have hlt : i < j := by
   have : ¬ ((i : Int) = (j : Int)) := by simpa using hc
   omega
  refine wpC.skip ?_
  refine c_reg fun R hR => ?_
  refine o_pure hS (.inl rfl) rfl rfl fun tm hS => ?_
  refine o_len (k := 0) (r := (rI .i64)) hS (.inl rfl) rfl rfl rfl (.inr (.inl rfl)) Fu22 rfl fun tm hS => ?_
  refine o_pure hS (.inl rfl) rfl rfl fun tm hS => ?_
  refine o_nil (hR _ _ ?_)
  rcases hsh with ⟨rfl, rfl⟩ | ⟨b, o, cap, own0, gr0, cells0, cs0, rfl, q1, _, _, _⟩
  ·simp at hj; omega
  obtain ⟨_, hwm, hbn, gr, cells, cs, g1, g2, g3, g4, g5⟩ := hK.ownAt (k := 0) rfl
  have hsz1 : ((rI .i64)).sz = 1 := rfl
  rw [hsz1] at g1 g2 g4
  simp only [Nat.mul_one] at g2 g4
  have hcl : cs.length = s1.length := by have := g5.len; rw [hsz1] at this; omega
  refine c_reg fun R hR => ?_
  refine o_pure hS (.inl rfl) rfl rfl fun tm hS => ?_
  refine o_pure hS (.inl rfl) rfl rfl fun tm hS => ?_
  refine o_sliceV hS (.inl rfl) rfl rfl (vlo := []) (vhi := [.int .i64 (i : Int)]) (vmx := []) rfl rfl rfl (aSlice_row Fu22 Fs3 g1 (m := none) (h := some i) (l := none) rfl rfl (bnd_some (by simp; omega)) rfl) fun tm hS => ?_
  refine o_pure hS (.inl rfl) rfl rfl fun tm hS => ?_
  refine o_pure hS (.inl rfl) rfl rfl fun tm hS => ?_
  refine o_sliceV hS (.inl rfl) rfl rfl (vlo := [.int .i64 (j : Int)]) (vhi := []) (vmx := []) rfl rfl rfl (aSlice_row Fu22 Fs3 g1 (m := none) (h := none) (l := some j) rfl rfl rfl (bnd_some hj)) fun tm hS => ?_
  simp only [Option.getD_none, Option.getD_some, Nat.sub_zero, Nat.zero_mul, Nat.add_zero, Nat.mul_one] at hS ⊢
  have hcut2 : cut cells (o + j) (s1.length - j) = some ((cs.drop j).take (s1.length - j)) := cut_part g4 (by omega)
  have hdr : (cs.drop j).take (s1.length - j) = cs.drop j := List.take_of_length_le (by simp; omega)
  rw [hdr] at hcut2
  have hrow1 : rowOf (rI .i64) Z (cs.take i) (s1.take i) := by have := g5.take i; rw [hsz1, Nat.mul_one] at this; exact this
  have hrow2 : rowOf (rI .i64) Z (cs.drop j) (s1.drop j) := by have := g5.drop j; rw [hsz1, Nat.mul_one] at this; exact this
  have hcut1 : cut cells o i = some (cs.take i) := by have := cut_part (i := 0) (k := i) g4 (by omega); simpa using this
  have ha : ∃ cells2 gr2, ∃ H2, aAppend Try.prog wm H 22 22 (.slice (some ⟨b, o, none⟩) i cap) (.slice (some ⟨b, o + j, none⟩) (s1.length - j) (cap - j)) = some (.slice (some ⟨b, o, none⟩) (i + (s1.length - j)) cap, H2) ∧
    H2.get b = some (.row true gr2 1 cells2) ∧ cells2.length = cells.length ∧ Kn0 Z wm H2 [.own (rI .i64) (.slice (some ⟨b, o, none⟩) (s1.take i ++ s1.drop j).length cap) (s1.take i ++ s1.drop j)] Fr := by
   have hlen2 : (s1.take i ++ s1.drop j).length = i + (s1.length - j) := by simp; omega
   have hac : aCells H ((rI .i64)).sz (.slice (some ⟨b, o + j, none⟩) (s1.length - j) (cap - j)) = some ((s1.drop j).length, cs.drop j) := by
    simp only [aCells, g1, hsz1, Nat.mul_one, hcut2, Option.map_some]
    simp
   by_cases hz : s1.drop j = []
   ·have hjl : j = s1.length := by
     have := congrArg List.length hz; simp at this; omega
    subst hjl
    refine ⟨cells, gr, H, ?_, g1, rfl, ?_⟩
    ·have hac0 : aCells H 1 (.slice (some ⟨b, o + s1.length, none⟩) (s1.length - s1.length) (cap - s1.length)) = some (0, []) := by
      simp only [aCells, g1, Nat.sub_self, Nat.zero_mul]
      unfold cut
      rw [if_pos (by omega)]; simp
     have := append_none (P := Try.prog) (wm := wm) (a := some ⟨b, o, none⟩) (x := i) (y := cap) Fe22_22 hac0
     simpa using this
    ·have := hK.ownSet (k := 0) (o' := o) (cap' := cap) (gr := gr) (l' := s1.take i ++ s1.drop s1.length) (cells := cells) (cs' := cs.take i) rfl (by rw [hsz1]; omega) (by rw [hlen2]; omega) (by rw [hlen2, hsz1]; simpa using hcut1) (by simpa using hrow1)
     have hsame : (H.set b (.row true gr ((rI .i64)).sz cells)).n = H.n := rfl
     refine this.heq ?_ rfl
     intro x
     by_cases hx : x = b
     ·subst hx; rw [AHeap.get_set_same]; exact g1.symm
     ·rw [AHeap.get_set_ne _ _ hx]
   ·have hne := hz
    have hdl : (cs.drop j).length = s1.length - j := by simp; omega
    obtain ⟨cells2, hl2, hl3⟩ := lay_ok (cells := cells) (vs := cs.drop j) (o := o + i) (by rw [hdl]; omega)
    obtain ⟨c1, _⟩ := lay_cut2 hcut1 hl2
    refine ⟨cells2, gr, H.set b (.row true gr 1 cells2), ?_, AHeap.get_set_same _ _ _, hl3, ?_⟩
    ·have := append_in (P := Try.prog) (wm := wm) (st := 22) (xt := 22) Fe22_22 hac hne hwm (by rw [hsz1]; exact g1) (len := i) (cap := cap) (o := o) (by simp; omega) (by rw [hsz1, Nat.mul_one]; exact hl2)
     simpa [hsz1] using this
    ·have := hK.ownSet (k := 0) (o' := o) (cap' := cap) (gr := gr) (l' := s1.take i ++ s1.drop j) (cells := cells2) (cs' := cs.take i ++ cs.drop j) rfl (by rw [hsz1]; omega) (by rw [hlen2]; omega) (by rw [hlen2, hsz1, Nat.mul_one]; rw [hdl] at c1; exact c1) (hrow1.app hrow2)
     exact this
  obtain ⟨cells2, gr2, H2, hap, hg2, hcl2, hK2⟩ := ha
  have hlen2 : (s1.take i ++ s1.drop j).length = i + (s1.length - j) := by simp; omega
  refine o_appV hS (.inl rfl) rfl rfl rfl rfl Fu22 rfl hap ⟨Z, hK2⟩ fun tm hS => ?_
  refine o_pure hS (.inl rfl) rfl rfl fun tm hS => ?_
  refine o_nil (hR _ _ ?_)
  rw [← hlen2] at hS
  refine c_reg fun R hR => ?_
  refine o_pure hS (.inl rfl) rfl rfl fun tm hS => ?_
  refine o_pure hS (.inl rfl) rfl rfl fun tm hS => ?_
  refine o_len (k := 0) (r := (rI .i64)) hS (.inl rfl) rfl rfl rfl (.inr (.inl rfl)) Fu22 rfl fun tm hS => ?_
  refine o_pure hS (.inl rfl) rfl rfl fun tm hS => ?_
  refine o_sliceV hS (.inl rfl) rfl rfl (vlo := [.int .i64 ((s1.take i ++ s1.drop j).length : Int)]) (vhi := [.int .i64 (s1.length : Int)]) (vmx := []) rfl rfl rfl (aSlice_row Fu22 Fs3 hg2 (m := none) (h := some s1.length) (l := some (s1.take i ++ s1.drop j).length) rfl rfl (bnd_some (by simp; omega)) (bnd_some (by simp; omega))) fun tm hS => ?_
  simp only [Option.getD_none, Option.getD_some, Nat.mul_one] at hS ⊢
  obtain ⟨q, hq⟩ : ∃ q, s1.length - (s1.take i ++ s1.drop j).length = q + 1 := ⟨s1.length - (s1.take i ++ s1.drop j).length - 1, by rw [hlen2]; omega⟩
  obtain ⟨cells3, hl4, hl5⟩ := lay_ok (cells := cells2) (vs := (zeros (((Try.prog.info? 3).getD default).zero.getD undef) (q + 1)).toList) (o := o + (s1.take i ++ s1.drop j).length) (by
   have : (zeros (((Try.prog.info? 3).getD default).zero.getD undef) (q + 1)).toList.length = q + 1 := by simp [zeros]
   rw [this, hcl2]; omega)
  obtain ⟨_, _, _, gr3, cells4, cs4, k1, k2, k3, k4, k5⟩ := hK2.ownAt (k := 0) rfl
  rw [hg2] at k1
  obtain ⟨rfl, rfl⟩ : gr2 = gr3 ∧ cells2 = cells4 := by simpa [hsz1] using k1
  refine o_clrV (H' := H2.set b (.row true gr2 1 cells3)) (L' := [.own (rI .i64) (.slice (some ⟨b, o, none⟩) (s1.take i ++ s1.drop j).length cap) (s1.take i ++ s1.drop j)]) hS (.inl rfl) rfl rfl ?_ ⟨Z, ?_⟩ fun tm hS => ?_
  ·rw [hq]
   exact clear_in Fm22 hwm hg2 hl4
  ·have := hK2.ownSet (k := 0) (o' := o) (cap' := cap) (gr := gr2) (l' := s1.take i ++ s1.drop j) (cells := cells3) (cs' := cs4) rfl (by rw [hsz1] at k2 ⊢; omega) k3 (by
    rw [hsz1, Nat.mul_one] at k4 ⊢
    rw [lay_after hl4]; exact k4) k5
   exact this
  refine o_nil (hR _ _ ?_)
  refine c_reg fun R hR => ?_
  refine o_pure hS (.inl rfl) rfl rfl fun tm hS => ?_
  refine o_pure hS (.inl rfl) rfl rfl fun tm hS => ?_
  refine o_nil (hR _ _ ?_)
  refine wpC.ret ?_
  refine Exists.intro _ (And.intro (rs_tmp hS rfl rs_nil) ?_)
  exact ⟨_, rfl, hS.inv⟩
theorem wk34 {wm : Nat} {H : AHeap} {Fr : List Ent}  (s1 : (List Int)) (axis1 : Int)  (v1 : Value) (hI : Kn wm H [.fz (rI .i64) v1 s1] Fr) {r : (List Int)} (h0 : M.shape_Without s1 axis1 = some r) :
  wpF Try.prog ora wm 34 [v1, .int .i64 axis1] H (fun res H => ∃ v4, res = v4 ∧ Kn wm H [.own (rI .i64) v4 r] Fr) := by
 unfold M.shape_Without at h0
 refine f_enter (n := 22) Try.func34 rfl (by simp) hI rfl rfl rfl fun tm hS => ?_
 clear hI
 refine cr1 hS rfl rfl ?_; clear hS
 intro tm hS
 refine c_reg fun R hR => ?_
 refine pp1 hS rfl rfl ?_; clear hS
 intro tm hS
 obtain ⟨r1, hx1, h0⟩ := bindS h0
 refine o_call hS (.inl rfl) rfl (fun wm' hw1 hw2 => wk62  s1  v1 ((hS.sel hw2).ad 0 rfl) hx1) (fun wm' res H hw' hp => ?_)
 obtain ⟨v2, hres, hI⟩ := hp
 replace hres := hres.symm; subst hres
 replace hS : S wm 22 _ H ((7, v2) :: _) ([.own (rI .i64) v2 r1] ++ _) Fr := hS.after rfl hw' hI
 clear hI hw'
 refine pp1 hS rfl rfl ?_; clear hS
 intro tm hS
 refine o_nil (hR _ _ ?_)
 clear hR R
 refine c_seqS ?_
 refine c_reg fun R hR => ?_
 refine pp3 hS rfl rfl rfl rfl rfl rfl ?_; clear hS
 intro tm hS
 obtain ⟨c1, hc1⟩ : ∃ x : Bool, x = ((decide (axis1 < 0)) || (decide (axis1 ≥ (s1.length : Int)))) := ⟨_, rfl⟩
 refine o_cutN 5 (J := fun tm H => S wm 22 tm H [(15, .bool c1), (1, .int .i64 axis1), (5, v2)] [.own (rI .i64) v2 r1] Fr) ?_ ?_
 ·rcases Bool.eq_false_or_eq_true (decide (axis1 < 0)) with hg1 | hg1
  ·refine o_skip hS rfl rfl rfl hg1 ?_; clear hS
   intro tm hS
   refine o_skip hS rfl rfl rfl hg1 ?_; clear hS
   intro tm hS
   refine o_skip hS rfl rfl rfl hg1 ?_; clear hS
   intro tm hS
   refine o_skip hS rfl rfl rfl hg1 ?_; clear hS
   intro tm hS
   refine o_pickT hS (.inl rfl) rfl rfl hg1 rfl ?_; clear hS
   intro tm hS
   have hc1 : c1 = true := hc1.trans (by rw [hg1]; first | rfl | simp)
   subst hc1
   exact o_nil (hS.keep (k3 rfl rfl rfl) (fun hI => (hI.sub (sc sn))))
  ·refine o_pure hS (.inr ⟨_, _, _, _, rfl, rfl, rfl, hg1⟩) rfl rfl ?_; clear hS
   intro tm hS
   refine o_pure hS (.inr ⟨_, _, _, _, rfl, rfl, rfl, hg1⟩) rfl rfl ?_; clear hS
   intro tm hS
   refine o_len (k := 1) (r := (rI .i64)) hS (.inr ⟨_, _, _, _, rfl, rfl, rfl, hg1⟩) rfl rfl rfl (.inl rfl) Fu22 rfl ?_; clear hS
   intro tm hS
   refine o_pure hS (.inr ⟨_, _, _, _, rfl, rfl, rfl, hg1⟩) rfl rfl ?_; clear hS
   intro tm hS
   refine o_pickF hS (.inl rfl) rfl rfl hg1 rfl ?_; clear hS
   intro tm hS
   have hc1 : c1 = (decide (axis1 ≥ (s1.length : Int))) := hc1.trans (by rw [hg1]; first | rfl | simp)
   subst hc1
   exact o_nil (hS.keep (k3 rfl rfl rfl) (fun hI => (hI.sub (sc sn))))
 intro tm H hS
 subst hc1
 refine o_nil (hR _ _ ?_)
 clear hR R
 refine c_cond hS rfl (fun hc => ?_) (fun hc => ?_)
 ·replace h0 := iteT hc h0
  refine cr2 hS rfl rfl rfl rfl ?_; clear hS
  intro tm hS
  refine wpC.ret ?_
  obtain rfl := Option.some.inj h0
  refine Exists.intro _ (And.intro (rs_tmp hS rfl rs_nil) ?_)
  have hI := hS.inv
  exact ⟨v2, rfl, (hI.sub (sc sn))⟩
 ·replace h0 := iteF hc h0
  refine wpC.skip ?_
  refine c_reg fun R hR => ?_
  refine pp4 hS rfl rfl rfl rfl rfl rfl rfl rfl ?_; clear hS
  intro tm hS
  replace hS := hS.front 0 rfl
  obtain ⟨r2, hx2, h0⟩ := bindS h0
  refine o_callO hS (.inl rfl) rfl rfl (wk63  r1 axis1 (IntKind.i64.wrap (axis1 + 1))  v2 (hS.selN 1) hx2) (fun res H hp => ?_)
  obtain ⟨v3, hres, hI⟩ := hp
  replace hres := hres.symm; subst hres
  replace hS : S wm 22 _ H ((21, v3) :: _) ([.own (rI .i64) v3 r2] ++ _) Fr := hS.afterN rfl hI
  clear hI
  refine pp1 hS rfl rfl ?_; clear hS
  intro tm hS
  refine o_nil (hR _ _ ?_)
  clear hR R
  refine wpC.ret ?_
  obtain rfl := Option.some.inj h0
  refine Exists.intro _ (And.intro (rs_tmp hS rfl rs_nil) ?_)
  have hI := hS.inv
  exact ⟨v3, rfl, (hI.sub (sc sn))⟩
theorem wk38 {wm : Nat} {H : AHeap} {Fr : List Ent}  (v1 : Val) (n1 : Int) (behind1 : Int) (i1 : Int) (k1 : Int)  (v2 : Value) (v3 : Value) (hI : Kn wm H [.fz (rI .i64) v2 v1.Shape, .fz (rI .i64) v3 v1.Data] Fr) {r : (List Am.Item)} (h0 : M.over_row v1 n1 behind1 i1 k1 = some r) :
  wpF Try.prog ora wm 38 [.agg #[.bool v1.Char, v2, v3], .int .i64 n1, .int .i64 behind1, .int .i64 i1, .int .i64 k1] H (fun res H => ∃ v5, res = v5 ∧ Kn wm H [.own rItem v5 r] Fr) := by
 unfold M.over_row at h0
 refine f_enter (n := 36) Try.func38 rfl (by simp) hI rfl rfl rfl fun tm hS => ?_
 clear hI
 refine c_reg fun R hR => ?_
 refine o_box hS (.inl rfl) rfl rfl rfl (all_cons rfl (all_cons (hS.one (k := 0) rfl (.inl rfl)) (all_cons (hS.one (k := 1) rfl (.inl rfl)) all_nil))) ?_; clear hS
 intro b1 tm H hS
 refine pp1 hS rfl rfl ?_; clear hS
 intro tm hS
 refine o_nil (hR _ _ ?_)
 clear hR R
 refine c_reg fun R hR => ?_
 refine pp1 hS rfl rfl ?_; clear hS
 intro tm hS
 obtain ⟨l1, hx1, h0⟩ := bindS h0
 refine o_mkW (r := rItem) (z := (Am.Item.mk 0 false)) hS (.inl rfl) rfl rfl rfl Fm75 rfl (fun _ => rfl) hx1 ?_; clear hS
 intro v4 tm H hS
 refine pp1 hS rfl rfl ?_; clear hS
 intro tm hS
 refine o_nil (hR _ _ ?_)
 clear hR R
 refine c_seqS ?_
 refine c_reg fun R hR => ?_
 refine pp1 hS rfl rfl ?_; clear hS
 intro tm hS
 refine o_len (k := 0) (r := rItem) hS (.inl rfl) rfl rfl rfl (.inr (.inl rfl)) Fu75 rfl ?_; clear hS
 intro tm hS
 refine pp1 hS rfl rfl ?_; clear hS
 intro tm hS
 refine o_nil (hR _ _ ?_)
 clear hR R
 obtain ⟨k2, hw1, h0⟩ := bindS h0
 refine wpC.block ?_
 refine c_loop (I := fun (s : Int × (List Am.Item)) tm H => match (generalizing := false) s with | (t1, l2) => S wm 36 tm H [(1, .int .i64 n1), (2, .int .i64 behind1), (3, .int .i64 i1), (4, .int .i64 k1), (5, .pointer (some ⟨b1, 0, none⟩)), (11, v4), (16, .int .i64 (l1.length : Int)), (17, .int .i64 t1)] [.box b1 [.bool v1.Char, v2, v3], .fz (rI .i64) v2 v1.Shape, .fz (rI .i64) v3 v1.Data, .own rItem v4 l2] Fr) hw1 (by change S wm 36 _ _ _ _ Fr; exact hS.keep (k8 rfl rfl rfl rfl rfl rfl rfl rfl) (fun hI => (((((hI.pull 0 rfl).pull 3 rfl).pull 3 rfl).pull 3 rfl).take 4))) ?_
 clear hS
 intro s1 tm H c1 hS h1 hq1
 obtain ⟨t1, l2⟩ := s1
 change S wm 36 tm H [(1, .int .i64 n1), (2, .int .i64 behind1), (3, .int .i64 i1), (4, .int .i64 k1), (5, .pointer (some ⟨b1, 0, none⟩)), (11, v4), (16, .int .i64 (l1.length : Int)), (17, .int .i64 t1)] [.box b1 [.bool v1.Char, v2, v3], .fz (rI .i64) v2 v1.Shape, .fz (rI .i64) v3 v1.Data, .own rItem v4 l2] Fr at hS
 refine cr1 hS rfl rfl ?_; clear hS
 intro tm hS
 refine c_seqS ?_
 refine c_cond hS rfl (fun hc => ?_) (fun hc => ?_)
 ·replace h1 := iteT hc h1
  refine wpC.skip ?_
  refine c_seqS ?_
  refine wpC.block ?_
  refine cr2 hS rfl rfl rfl rfl ?_; clear hS
  intro tm hS
  refine c_reg1 fun R hR => ?_
  refine pp2 hS rfl rfl rfl rfl ?_; clear hS
  intro tm hS
  refine o_ldA (k := 0) hS (.inl rfl) rfl rfl rfl (.inl rfl) Fu25 rfl Fs25 rfl ?_; clear hS
  intro tm hS
  refine pp6 hS rfl rfl rfl rfl rfl rfl rfl rfl rfl rfl rfl rfl ?_; clear hS
  intro tm hS
  refine pp3 hS rfl rfl rfl rfl rfl rfl ?_; clear hS
  intro tm hS
  obtain ⟨r1, hx2, h1⟩ := bindS h1
  refine o_call hS (.inl rfl) rfl (fun wm' hw1 hw2 => wk40  v1 (IntKind.i64.wrap ((IntKind.i64.wrap ((IntKind.i64.wrap ((IntKind.i64.wrap (i1 * n1)) + t1)) * behind1)) + k1))  v2 v3 (((hS.sel hw2).ad 2 rfl).ad 1 rfl) hx2) (fun wm' res H hw' hp => ?_)
  obtain ⟨hres, hI⟩ := hp
  replace hres := hres.symm; subst hres
  replace hS : S wm 36 _ H ((32, .agg #[.int .i64 r1.n, .bool r1.char]) :: _) ([] ++ _) Fr := hS.after rfl hw' hI
  clear hI hw'
  obtain ⟨y1, hx3, h1⟩ := bindS h1
  refine o_ixA (k := 3) (r := rItem) hS (.inl rfl) rfl rfl rfl rfl (.inr (.inl rfl)) Fu75 Fs72 hx3 ?_; clear hS
  intro tm hS
  obtain ⟨l3, hx4, h1⟩ := bindS h1
  refine o_stE (k := 3) (r := rItem) hS (.inl rfl) rfl rfl rfl Fs72 rfl rfl (rd_flat fun _ => rfl) hx4 ?_; clear hS; try clear H
  intro H hS
  refine o_nil (hR _ _ ?_)
  clear hR R
  refine cs2 hS rfl rfl rfl rfl ?_; clear hS
  intro tm hS
  obtain rfl := Option.some.inj h1
  refine ⟨_, rfl, ?_⟩
  change S wm 36 _ _ _ _ Fr; exact hS.keep (k8 rfl rfl rfl rfl rfl rfl rfl rfl) (fun hI => (hI.sub (sc (sc (sc (sc sn))))))
 ·replace h1 := iteF hc h1
  refine wpC.exit ?_
  refine seqX ?_
  obtain rfl := Option.some.inj h1
  obtain rfl := hq1 _ rfl
  refine And.intro rfl (blk_eq ?_)
  replace h0 := joinN h0
  refine cr2 hS rfl rfl rfl rfl ?_; clear hS
  intro tm hS
  refine wpC.ret ?_
  obtain rfl := Option.some.inj h0
  refine Exists.intro _ (And.intro (rs_tmp hS rfl rs_nil) ?_)
  have hI := hS.inv
  exact ⟨v4, rfl, (hI.sub (sd (sd (sd (sc sn)))))⟩
theorem wk11 {wm : Nat} {H : AHeap} {Fr : List Ent} (ho100 : ora 100 = false) (fn1 : ByteArray) (v1 : Val) (axis1 : Int)  (v2 : Value) (v3 : Value) (hI : Kn wm H [.fz (rI .i64) v2 v1.Shape, .fz (rI .i64) v3 v1.Data] Fr) {r : Val × Int} (h0 : M.over_Reduce fn1 v1 axis1 = some r) :
  wpF Try.prog ora wm 11 [.string fn1, .agg #[.bool v1.Char, v2, v3], .int .i64 axis1] H (fun res H => ∃ v15 v16, res = .tuple #[.agg #[.bool r.1.Char, v15, v16], .int .i64 r.2] ∧ Kn wm H [.own (rI .i64) v15 r.1.Shape, .own (rI .i64) v16 r.1.Data] Fr) := by
 unfold M.over_Reduce at h0
 refine f_enter (n := 117) Try.func11 rfl (by simp) hI rfl rfl rfl fun tm hS => ?_
 clear hI
 refine c_reg fun R hR => ?_
 refine o_box hS (.inl rfl) rfl rfl rfl (all_cons rfl (all_cons (hS.one (k := 0) rfl (.inl rfl)) (all_cons (hS.one (k := 1) rfl (.inl rfl)) all_nil))) ?_; clear hS
 intro b1 tm H hS
 refine o_alloc hS (.inl rfl) rfl Fz25 (by decide) ?_; clear hS
 intro b2 tm H hS
 refine pp1 hS rfl rfl ?_; clear hS
 intro tm hS
 refine o_nil (hR _ _ ?_)
 clear hR R
 refine c_reg fun R hR => ?_
 refine pp1 hS rfl rfl ?_; clear hS
 intro tm hS
 refine o_ldA (k := 1) hS (.inl rfl) rfl rfl rfl (.inl rfl) Fu25 rfl Fs25 rfl ?_; clear hS
 intro tm hS
 refine o_lit (r := rVal) (l := [v1]) hS (.inl rfl) rfl Fl103 rfl rfl rfl (.cons rfl .nil) rfl rfl (ri_3 (rd_Val ⟨2, rfl⟩ ⟨3, rfl⟩) ri_nil) rfl ?_; clear hS
 intro v4 tm H hS
 replace hS := hS.litFrz (k := 0) rfl
 obtain ⟨⟨r1, r2⟩, hx1, h0⟩ := bindS h0
 refine o_call hS (.inl rfl) rfl (fun wm' hw1 hw2 => wk31  fn1 ([v1])  v4 ((hS.sel hw2).ad 0 rfl) hx1) (fun wm' res H hw' hp => ?_)
 obtain ⟨v5, hres, hI⟩ := hp
 replace hres := hres.symm; subst hres
 replace hS : S wm 117 _ H ((26, .tuple #[v5, .int .i64 r2]) :: _) ([.el (rClo 87) [v5] r1] ++ _) Fr := hS.after rfl hw' hI
 clear hI hw'
 refine pp5 hS rfl rfl rfl rfl rfl rfl rfl rfl rfl rfl ?_; clear hS
 intro tm hS
 refine o_nil (hR _ _ ?_)
 clear hR R
 refine c_seqS ?_
 refine cr2 hS rfl rfl rfl rfl ?_; clear hS
 intro tm hS
 refine c_cond hS rfl (fun hc => ?_) (fun hc => ?_)
 ·replace h0 := iteT hc h0
  refine c_reg fun R hR => ?_
  refine o_build hS (.inl rfl) rfl Fb25 rfl .nil rfl ?_; clear hS
  intro tm hS
  refine pp1 hS rfl rfl ?_; clear hS
  intro tm hS
  refine o_st (k := 2) hS (.inl rfl) rfl rfl rfl Fs25 rfl rfl (all_cons rfl (all_cons rfl (all_cons rfl all_nil))) rfl ?_; clear hS; try clear H
  intro H hS
  refine pp1 hS rfl rfl ?_; clear hS
  intro tm hS
  refine o_nil (hR _ _ ?_)
  clear hR R
  refine wpC.ret ?_
  obtain rfl := Option.some.inj h0
  replace hS := hS.nilOwn (rI .i64)
  replace hS := hS.nilOwn (rI .i64)
  refine Exists.intro _ (And.intro (rs_cellA (k := 4) hS rfl rfl (.inl rfl) Fu25 rfl Fs25 rfl (rs_tmp hS rfl rs_nil)) ?_)
  have hI := hS.inv
  exact ⟨(.slice none 0 0), (.slice none 0 0), rfl, (((hI.pull 0 rfl).pull 1 rfl).take 2)⟩
 ·replace h0 := iteF hc h0
  refine wpC.skip ?_
  refine c_seqS ?_
  refine c_reg fun R hR => ?_
  refine pp1 hS rfl rfl ?_; clear hS
  intro tm hS
  refine o_ld1 (k := 3) hS (.inl rfl) rfl rfl rfl (.inl rfl) Fu22 rfl rfl ?_; clear hS
  intro tm hS
  refine o_len (k := 4) (r := (rI .i64)) hS (.inl rfl) rfl rfl rfl (.inl rfl) Fu22 rfl ?_; clear hS
  intro tm hS
  refine pp1 hS rfl rfl ?_; clear hS
  intro tm hS
  refine o_nil (hR _ _ ?_)
  clear hR R
  refine c_cond hS rfl (fun hc => ?_) (fun hc => ?_)
  ·replace h0 := iteT hc h0
   refine c_reg fun R hR => ?_
   refine o_ldA (k := 3) hS (.inl rfl) rfl rfl rfl (.inl rfl) Fu25 rfl Fs25 rfl ?_; clear hS
   intro tm hS
   obtain ⟨r3, hx2, h0⟩ := bindS h0
   refine o_call hS (.inl rfl) rfl (fun wm' hw1 hw2 => wk32  v1  v2 v3 (((hS.sel hw2).ad 5 rfl).ad 4 rfl) hx2) (fun wm' res H hw' hp => ?_)
   obtain ⟨v6, v7, hres, hI⟩ := hp
   replace hres := hres.symm; subst hres
   replace hS : S wm 117 _ H ((38, .agg #[.bool r3.Char, v6, v7]) :: _) ([.own (rI .i64) v6 r3.Shape, .own (rI .i64) v7 r3.Data] ++ _) Fr := hS.after rfl hw' hI
   clear hI hw'
   refine o_st (k := 4) hS (.inl rfl) rfl rfl rfl Fs25 rfl rfl (all_cons rfl (all_cons (hS.one (k := 0) rfl (.inr (.inl rfl))) (all_cons (hS.one (k := 1) rfl (.inr (.inl rfl))) all_nil))) rfl ?_; clear hS; try clear H
   intro H hS
   refine pp1 hS rfl rfl ?_; clear hS
   intro tm hS
   refine o_nil (hR _ _ ?_)
   clear hR R
   refine wpC.ret ?_
   obtain rfl := Option.some.inj h0
   refine Exists.intro _ (And.intro (rs_cellA (k := 4) hS rfl rfl (.inl rfl) Fu25 rfl Fs25 rfl (rs_tmp hS rfl rs_nil)) ?_)
   have hI := hS.inv
   exact ⟨v6, v7, rfl, (hI.sub (sc (sc sn)))⟩
  ·replace h0 := iteF hc h0
   refine wpC.skip ?_
   refine c_reg fun R hR => ?_
   refine o_ldA (k := 3) hS (.inl rfl) rfl rfl rfl (.inl rfl) Fu25 rfl Fs25 rfl ?_; clear hS
   intro tm hS
   refine pp1 hS rfl rfl ?_; clear hS
   intro tm hS
   obtain ⟨⟨r4, r5⟩, hx3, h0⟩ := bindS h0
   refine o_call hS (.inl rfl) rfl (fun wm' hw1 hw2 => wk33  v1 axis1  v2 v3 (((hS.sel hw2).ad 5 rfl).ad 4 rfl) hx3) (fun wm' res H hw' hp => ?_)
   obtain ⟨hres, hI⟩ := hp
   replace hres := hres.symm; subst hres
   replace hS : S wm 117 _ H ((42, .tuple #[.int .i64 r4, .bool r5]) :: _) ([] ++ _) Fr := hS.after rfl hw' hI
   clear hI hw'
   refine pp5 hS rfl rfl rfl rfl rfl rfl rfl rfl rfl rfl ?_; clear hS
   intro tm hS
   refine o_nil (hR _ _ ?_)
   clear hR R
   refine c_seqS ?_
   refine cr2 hS rfl rfl rfl rfl ?_; clear hS
   intro tm hS
   refine c_cond hS rfl (fun hc => ?_) (fun hc => ?_)
   ·replace h0 := iteT hc h0
    refine c_reg fun R hR => ?_
    refine o_build hS (.inl rfl) rfl Fb25 rfl .nil rfl ?_; clear hS
    intro tm hS
    refine o_st (k := 2) hS (.inl rfl) rfl rfl rfl Fs25 rfl rfl (all_cons rfl (all_cons rfl (all_cons rfl all_nil))) rfl ?_; clear hS; try clear H
    intro H hS
    refine pp1 hS rfl rfl ?_; clear hS
    intro tm hS
    refine o_nil (hR _ _ ?_)
    clear hR R
    refine wpC.ret ?_
    obtain rfl := Option.some.inj h0
    replace hS := hS.nilOwn (rI .i64)
    replace hS := hS.nilOwn (rI .i64)
    refine Exists.intro _ (And.intro (rs_cellA (k := 4) hS rfl rfl (.inl rfl) Fu25 rfl Fs25 rfl (rs_tmp hS rfl rs_nil)) ?_)
    have hI := hS.inv
    exact ⟨(.slice none 0 0), (.slice none 0 0), rfl, (((hI.pull 0 rfl).pull 1 rfl).take 2)⟩
   ·replace h0 := iteF hc h0
    refine wpC.skip ?_
    refine c_reg fun R hR => ?_
    refine pp1 hS rfl rfl ?_; clear hS
    intro tm hS
    refine o_ld1 (k := 3) hS (.inl rfl) rfl rfl rfl (.inl rfl) Fu22 rfl rfl ?_; clear hS
    intro tm hS
    refine pp1 hS rfl rfl ?_; clear hS
    intro tm hS
    obtain ⟨r6, hx4, h0⟩ := bindS h0
    refine o_call hS (.inl rfl) rfl (fun wm' hw1 hw2 => wk34  v1.Shape r4  v2 ((hS.sel hw2).ad 4 rfl) hx4) (fun wm' res H hw' hp => ?_)
    obtain ⟨v8, hres, hI⟩ := hp
    replace hres := hres.symm; subst hres
    replace hS : S wm 117 _ H ((51, v8) :: _) ([.own (rI .i64) v8 r6] ++ _) Fr := hS.after rfl hw' hI
    clear hI hw'
    refine pp1 hS rfl rfl ?_; clear hS
    intro tm hS
    refine o_nil (hR _ _ ?_)
    clear hR R
    refine c_reg fun R hR => ?_
    refine pp1 hS rfl rfl ?_; clear hS
    intro tm hS
    obtain ⟨⟨r7, r8⟩, hx5, h0⟩ := bindS h0
    refine o_call (Pc := fun _ res H => res = .tuple #[.int .i64 r7, .int .i64 r8] ∧ Kn wm H ([.own (rI .i64) v8 r6, .el (rClo 87) [v5] r1, .fz rVal v4 ([v1]), .box b2 [.bool false, (.slice none 0 0), (.slice none 0 0)], .box b1 [.bool v1.Char, v2, v3], .fz (rI .i64) v2 v1.Shape, .fz (rI .i64) v3 v1.Data]) Fr) hS (.inl rfl) rfl (fun wm' hw1 hw2 => by
     obtain ⟨F2, kk_1, kk_2⟩ := hS.inv.lend (La := [.fz (rI .i64) v8 r6]) (List.forall_mem_cons.mpr ⟨(.inr ⟨_, _, _, _, rfl, .inl (List.mem_of_getElem? (i := 0) rfl)⟩), (fun _ h => by cases h)⟩) hw1 hw2
     exact (wk35  r6  v8 kk_1 hx5).mono fun res H2 ⟨qq_1, qq_2⟩ => ⟨qq_1, kk_2 _ qq_2⟩) (fun wm' res H hw' hp => ?_)
    obtain ⟨hres, hI⟩ := hp
    replace hres := hres.symm; subst hres
    replace hS : S wm 117 _ H ((54, .tuple #[.int .i64 r7, .int .i64 r8]) :: _) ([.own (rI .i64) v8 r6, .el (rClo 87) [v5] r1, .fz rVal v4 ([v1]), .box b2 [.bool false, (.slice none 0 0), (.slice none 0 0)], .box b1 [.bool v1.Char, v2, v3], .fz (rI .i64) v2 v1.Shape, .fz (rI .i64) v3 v1.Data]) Fr := (hS.put rfl _).withK hI
    clear hI hw'
    refine pp5 hS rfl rfl rfl rfl rfl rfl rfl rfl rfl rfl ?_; clear hS
    intro tm hS
    refine o_nil (hR _ _ ?_)
    clear hR R
    refine c_seqS ?_
    refine cr2 hS rfl rfl rfl rfl ?_; clear hS
    intro tm hS
    refine c_cond hS rfl (fun hc => ?_) (fun hc => ?_)
    ·replace h0 := iteT hc h0
     refine c_reg fun R hR => ?_
     refine o_build hS (.inl rfl) rfl Fb25 rfl .nil rfl ?_; clear hS
     intro tm hS
     refine o_st (k := 3) hS (.inl rfl) rfl rfl rfl Fs25 rfl rfl (all_cons rfl (all_cons rfl (all_cons rfl all_nil))) rfl ?_; clear hS; try clear H
     intro H hS
     refine pp1 hS rfl rfl ?_; clear hS
     intro tm hS
     refine o_nil (hR _ _ ?_)
     clear hR R
     refine wpC.ret ?_
     obtain rfl := Option.some.inj h0
     replace hS := hS.nilOwn (rI .i64)
     replace hS := hS.nilOwn (rI .i64)
     refine Exists.intro _ (And.intro (rs_cellA (k := 5) hS rfl rfl (.inl rfl) Fu25 rfl Fs25 rfl (rs_tmp hS rfl rs_nil)) ?_)
     have hI := hS.inv
     exact ⟨(.slice none 0 0), (.slice none 0 0), rfl, (((hI.pull 0 rfl).pull 1 rfl).take 2)⟩
    ·replace h0 := iteF hc h0
     refine wpC.skip ?_
     refine c_reg fun R hR => ?_
     refine pp1 hS rfl rfl ?_; clear hS
     intro tm hS
     refine o_ld1 (k := 4) hS (.inl rfl) rfl rfl rfl (.inl rfl) Fu22 rfl rfl ?_; clear hS
     intro tm hS
     refine pp1 hS rfl rfl ?_; clear hS
     intro tm hS
     obtain ⟨⟨r9, r10, r11, r12⟩, hx6, h0⟩ := bindS h0
     refine o_call hS (.inl rfl) rfl (fun wm' hw1 hw2 => wk36  v1.Shape r4  v2 ((hS.sel hw2).ad 5 rfl) hx6) (fun wm' res H hw' hp => ?_)
     obtain ⟨hres, hI⟩ := hp
     replace hres := hres.symm; subst hres
     replace hS : S wm 117 _ H ((64, .tuple #[.int .i64 r9, .int .i64 r10, .int .i64 r11, .bool r12]) :: _) ([] ++ _) Fr := hS.after rfl hw' hI
     clear hI hw'
     refine pp6 hS rfl rfl rfl rfl rfl rfl rfl rfl rfl rfl rfl rfl ?_; clear hS
     intro tm hS
     refine pp3 hS rfl rfl rfl rfl rfl rfl ?_; clear hS
     intro tm hS
     refine o_nil (hR _ _ ?_)
     clear hR R
     refine c_reg fun R hR => ?_
     refine pp1 hS rfl rfl ?_; clear hS
     intro tm hS
     refine o_ld1 (k := 4) hS (.inl rfl) rfl rfl rfl (.inl rfl) Fu4 rfl rfl ?_; clear hS
     intro tm hS
     refine pp1 hS rfl rfl ?_; clear hS
     intro tm hS
     obtain ⟨c1, hc1⟩ : ∃ x : Bool, x = (v1.Char && (r10 == 1)) := ⟨_, rfl⟩
     refine o_cutN 3 (J := fun tm H => S wm 117 tm H [(74, .bool c1), (0, .string fn1), (4, .pointer (some ⟨b1, 0, none⟩)), (6, .pointer (some ⟨b2, 0, none⟩)), (8, v5), (11, v8), (12, .int .i64 r7), (13, .int .i64 r9), (14, .int .i64 r10), (15, .int .i64 r11)] [.own (rI .i64) v8 r6, .el (rClo 87) [v5] r1, .box b2 [.bool false, (.slice none 0 0), (.slice none 0 0)], .box b1 [.bool v1.Char, v2, v3], .fz (rI .i64) v2 v1.Shape, .fz (rI .i64) v3 v1.Data] Fr) ?_ ?_
     ·rcases Bool.eq_false_or_eq_true v1.Char with hg1 | hg1
      ·refine o_pure hS (.inr ⟨_, _, _, _, rfl, rfl, rfl, hg1⟩) rfl rfl ?_; clear hS
       intro tm hS
       refine o_pure hS (.inr ⟨_, _, _, _, rfl, rfl, rfl, hg1⟩) rfl rfl ?_; clear hS
       intro tm hS
       refine o_pickT hS (.inl rfl) rfl rfl hg1 rfl ?_; clear hS
       intro tm hS
       have hc1 : c1 = (r10 == 1) := hc1.trans (by rw [hg1]; first | rfl | simp)
       subst hc1
       exact o_nil (hS.keep (k10 rfl rfl rfl rfl rfl rfl rfl rfl rfl rfl) (fun hI => (hI.sub (sc (sc (sd (sc (sc (sc (sc sn))))))))))
      ·refine o_skip hS rfl rfl rfl hg1 ?_; clear hS
       intro tm hS
       refine o_skip hS rfl rfl rfl hg1 ?_; clear hS
       intro tm hS
       refine o_pickF hS (.inl rfl) rfl rfl hg1 rfl ?_; clear hS
       intro tm hS
       have hc1 : c1 = false := hc1.trans (by rw [hg1]; first | rfl | simp)
       subst hc1
       exact o_nil (hS.keep (k10 rfl rfl rfl rfl rfl rfl rfl rfl rfl rfl) (fun hI => (hI.sub (sc (sc (sd (sc (sc (sc (sc sn))))))))))
     intro tm H hS
     subst hc1
     refine pp2 hS rfl rfl rfl rfl ?_; clear hS
     intro tm hS
     obtain ⟨l1, hx7, h0⟩ := bindS h0
     refine o_mk (r := (rI .i64)) hS (.inl rfl) rfl rfl rfl Fm23 rfl (fun _ => rfl) hx7 ?_; clear hS
     intro v9 tm H hS
     refine o_build hS (.inl rfl) rfl Fb25 rfl (.cons rfl (.cons (cells_one (hS.one (k := 1) rfl (.inr (.inl rfl)))) (.cons (cells_one (hS.one (k := 0) rfl (.inr (.inl rfl)))) .nil))) rfl ?_; clear hS
     intro tm hS
     refine o_alloc hS (.inl rfl) rfl Fz25 (by decide) ?_; clear hS
     intro b3 tm H hS
     refine o_st (k := 0) hS (.inl rfl) rfl rfl rfl Fs25 rfl rfl (all_cons rfl (all_cons (hS.one (k := 2) rfl (.inr (.inl rfl))) (all_cons (hS.one (k := 1) rfl (.inr (.inl rfl))) all_nil))) rfl ?_; clear hS; try clear H
     intro H hS
     refine o_nil (hR _ _ ?_)
     clear hR R
     refine c_seqS ?_
     refine cr1 hS rfl rfl ?_; clear hS
     intro tm hS
     obtain ⟨k1, hw1, h0⟩ := bindS h0
     refine wpC.block ?_
     refine c_loop (I := fun (s : Int × (List Int)) tm H => match (generalizing := false) s with | (i1, Data1) => ∃ v10, S wm 117 tm H [(0, .string fn1), (4, .pointer (some ⟨b1, 0, none⟩)), (6, .pointer (some ⟨b2, 0, none⟩)), (8, v5), (12, .int .i64 r7), (13, .int .i64 r9), (14, .int .i64 r10), (15, .int .i64 r11), (17, .pointer (some ⟨b3, 0, none⟩)), (18, .int .i64 i1)] [.box b1 [.bool v1.Char, v2, v3], .box b2 [.bool false, (.slice none 0 0), (.slice none 0 0)], .box b3 [.bool (v1.Char && (r10 == 1)), v8, v10], .own (rI .i64) v10 Data1, .fz (rI .i64) v2 v1.Shape, .fz (rI .i64) v3 v1.Data, .el (rClo 87) [v5] r1, .own (rI .i64) v8 r6] Fr) hw1 (by refine Exists.intro v9 ?_; change S wm 117 _ _ _ _ Fr; exact hS.keep (k10 rfl rfl rfl rfl rfl rfl rfl rfl rfl rfl) (fun hI => (hI.pick [5, 4, 0, 1, 6, 7, 3, 2] rfl))) ?_
     clear hS
     intro s1 tm H c2 hS h3 hq3
     obtain ⟨i1, Data1⟩ := s1
     obtain ⟨v10, hS⟩ := hS
     change S wm 117 tm H [(0, .string fn1), (4, .pointer (some ⟨b1, 0, none⟩)), (6, .pointer (some ⟨b2, 0, none⟩)), (8, v5), (12, .int .i64 r7), (13, .int .i64 r9), (14, .int .i64 r10), (15, .int .i64 r11), (17, .pointer (some ⟨b3, 0, none⟩)), (18, .int .i64 i1)] [.box b1 [.bool v1.Char, v2, v3], .box b2 [.bool false, (.slice none 0 0), (.slice none 0 0)], .box b3 [.bool (v1.Char && (r10 == 1)), v8, v10], .own (rI .i64) v10 Data1, .fz (rI .i64) v2 v1.Shape, .fz (rI .i64) v3 v1.Data, .el (rClo 87) [v5] r1, .own (rI .i64) v8 r6] Fr at hS
     refine c_seqS ?_
     refine c_reg fun R hR => ?_
     refine pp4 hS rfl rfl rfl rfl rfl rfl rfl rfl ?_; clear hS
     intro tm hS
     obtain ⟨c3, hc2⟩ : ∃ x : Bool, x = ((decide (i1 < r9)) && (decide (r7 > 0))) := ⟨_, rfl⟩
     refine o_cutN 3 (J := fun tm H => S wm 117 tm H [(85, .bool c3), (0, .string fn1), (4, .pointer (some ⟨b1, 0, none⟩)), (6, .pointer (some ⟨b2, 0, none⟩)), (8, v5), (12, .int .i64 r7), (13, .int .i64 r9), (14, .int .i64 r10), (15, .int .i64 r11), (17, .pointer (some ⟨b3, 0, none⟩)), (18, .int .i64 i1)] [.box b1 [.bool v1.Char, v2, v3], .box b2 [.bool false, (.slice none 0 0), (.slice none 0 0)], .box b3 [.bool (v1.Char && (r10 == 1)), v8, v10], .own (rI .i64) v10 Data1, .fz (rI .i64) v2 v1.Shape, .fz (rI .i64) v3 v1.Data, .el (rClo 87) [v5] r1, .own (rI .i64) v8 r6] Fr) ?_ ?_
     ·rcases Bool.eq_false_or_eq_true (decide (i1 < r9)) with hg2 | hg2
      ·refine o_pure hS (.inr ⟨_, _, _, _, rfl, rfl, rfl, hg2⟩) rfl rfl ?_; clear hS
       intro tm hS
       refine o_pure hS (.inr ⟨_, _, _, _, rfl, rfl, rfl, hg2⟩) rfl rfl ?_; clear hS
       intro tm hS
       refine o_pickT hS (.inl rfl) rfl rfl hg2 rfl ?_; clear hS
       intro tm hS
       have hc2 : c3 = (decide (r7 > 0)) := hc2.trans (by rw [hg2]; first | rfl | simp)
       subst hc2
       exact o_nil (hS.keep (k11 rfl rfl rfl rfl rfl rfl rfl rfl rfl rfl rfl) (fun hI => (hI.sub (sc (sc (sc (sc (sc (sc (sc (sc sn)))))))))))
      ·refine o_skip hS rfl rfl rfl hg2 ?_; clear hS
       intro tm hS
       refine o_skip hS rfl rfl rfl hg2 ?_; clear hS
       intro tm hS
       refine o_pickF hS (.inl rfl) rfl rfl hg2 rfl ?_; clear hS
       intro tm hS
       have hc2 : c3 = false := hc2.trans (by rw [hg2]; first | rfl | simp)
       subst hc2
       exact o_nil (hS.keep (k11 rfl rfl rfl rfl rfl rfl rfl rfl rfl rfl rfl) (fun hI => (hI.sub (sc (sc (sc (sc (sc (sc (sc (sc sn)))))))))))
     intro tm H hS
     subst hc2
     refine o_nil (hR _ _ ?_)
     clear hR R
     refine c_cond hS rfl (fun hc => ?_) (fun hc => ?_)
     ·replace h3 := iteT hc h3
      refine wpC.skip ?_
      refine c_seqS ?_
      refine wpC.block ?_
      refine cr2 hS rfl rfl rfl rfl ?_; clear hS
      intro tm hS
      obtain ⟨k2, hw2, h3⟩ := bindS h3
      refine wpC.block ?_
      refine c_loop (I := fun (s : Int × (List Int)) tm H => match (generalizing := false) s with | (t1, Data2) => ∃ v11, S wm 117 tm H [(0, .string fn1), (4, .pointer (some ⟨b1, 0, none⟩)), (6, .pointer (some ⟨b2, 0, none⟩)), (8, v5), (12, .int .i64 r7), (13, .int .i64 r9), (14, .int .i64 r10), (15, .int .i64 r11), (17, .pointer (some ⟨b3, 0, none⟩)), (18, .int .i64 i1), (88, .int .i64 r11), (89, .int .i64 t1)] [.box b1 [.bool v1.Char, v2, v3], .box b2 [.bool false, (.slice none 0 0), (.slice none 0 0)], .box b3 [.bool (v1.Char && (r10 == 1)), v8, v11], .own (rI .i64) v11 Data2, .fz (rI .i64) v2 v1.Shape, .fz (rI .i64) v3 v1.Data, .el (rClo 87) [v5] r1, .own (rI .i64) v8 r6] Fr) hw2 (by refine Exists.intro v10 ?_; change S wm 117 _ _ _ _ Fr; exact hS.keep (k12 rfl rfl rfl rfl rfl rfl rfl rfl rfl rfl rfl rfl) (fun hI => (hI.sub (sc (sc (sc (sc (sc (sc (sc (sc sn))))))))))) ?_
      clear hS
      intro s2 tm H c4 hS h5 hq5
      obtain ⟨t1, Data2⟩ := s2
      obtain ⟨v11, hS⟩ := hS
      change S wm 117 tm H [(0, .string fn1), (4, .pointer (some ⟨b1, 0, none⟩)), (6, .pointer (some ⟨b2, 0, none⟩)), (8, v5), (12, .int .i64 r7), (13, .int .i64 r9), (14, .int .i64 r10), (15, .int .i64 r11), (17, .pointer (some ⟨b3, 0, none⟩)), (18, .int .i64 i1), (88, .int .i64 r11), (89, .int .i64 t1)] [.box b1 [.bool v1.Char, v2, v3], .box b2 [.bool false, (.slice none 0 0), (.slice none 0 0)], .box b3 [.bool (v1.Char && (r10 == 1)), v8, v11], .own (rI .i64) v11 Data2, .fz (rI .i64) v2 v1.Shape, .fz (rI .i64) v3 v1.Data, .el (rClo 87) [v5] r1, .own (rI .i64) v8 r6] Fr at hS
      refine cr1 hS rfl rfl ?_; clear hS
      intro tm hS
      refine c_seqS ?_
      refine c_cond hS rfl (fun hc => ?_) (fun hc => ?_)
      ·replace h5 := iteT hc h5
       refine wpC.skip ?_
       refine c_seqS ?_
       refine wpC.block ?_
       refine cr2 hS rfl rfl rfl rfl ?_; clear hS
       intro tm hS
       refine c_reg fun R hR => ?_
       refine pp2 hS rfl rfl rfl rfl ?_; clear hS
       intro tm hS
       refine o_ldA (k := 0) hS (.inl rfl) rfl rfl rfl (.inl rfl) Fu25 rfl Fs25 rfl ?_; clear hS
       intro tm hS
       refine pp4 hS rfl rfl rfl rfl rfl rfl rfl rfl ?_; clear hS
       intro tm hS
       obtain ⟨r13, hx8, h5⟩ := bindS h5
       refine o_call hS (.inl rfl) rfl (fun wm' hw1 hw2 => wk38  v1 r10 r11 i1 t1  v2 v3 (((hS.sel hw2).ad 5 rfl).ad 4 rfl) hx8) (fun wm' res H hw' hp => ?_)
       obtain ⟨v12, hres, hI⟩ := hp
       replace hres := hres.symm; subst hres
       replace hS : S wm 117 _ H ((100, v12) :: _) ([.own rItem v12 r13] ++ _) Fr := hS.after rfl hw' hI
       clear hI hw'
       obtain ⟨⟨r14, r15⟩, hx9, h5⟩ := bindS h5
       refine o_call (Pc := fun _ res H => res = .tuple #[.agg #[.int .i64 r14.n, .bool r14.char], .int .i64 r15] ∧ Kn wm H ([.own rItem v12 r13, .box b1 [.bool v1.Char, v2, v3], .box b2 [.bool false, (.slice none 0 0), (.slice none 0 0)], .box b3 [.bool (v1.Char && (r10 == 1)), v8, v11], .own (rI .i64) v11 Data2, .fz (rI .i64) v2 v1.Shape, .fz (rI .i64) v3 v1.Data, .el (rClo 87) [v5] r1, .own (rI .i64) v8 r6]) Fr) hS (.inl rfl) rfl (fun wm' hw1 hw2 => by
        obtain ⟨F2, kk_1, kk_2⟩ := hS.inv.lend (La := [.el (rClo 87) [v5] r1, .fz rItem v12 r13]) (List.forall_mem_cons.mpr ⟨(.inl ⟨rfl, List.mem_of_getElem? (i := 7) rfl⟩), (List.forall_mem_cons.mpr ⟨(.inr ⟨_, _, _, _, rfl, .inl (List.mem_of_getElem? (i := 0) rfl)⟩), (fun _ h => by cases h)⟩)⟩) hw1 hw2
        exact (wk37 ho100 fn1 r1 r13  v5 v12 kk_1 hx9).mono fun res H2 ⟨qq_1, qq_2⟩ => ⟨qq_1, kk_2 _ qq_2⟩) (fun wm' res H hw' hp => ?_)
       obtain ⟨hres, hI⟩ := hp
       replace hres := hres.symm; subst hres
       replace hS : S wm 117 _ H ((101, .tuple #[.agg #[.int .i64 r14.n, .bool r14.char], .int .i64 r15]) :: _) ([.own rItem v12 r13, .box b1 [.bool v1.Char, v2, v3], .box b2 [.bool false, (.slice none 0 0), (.slice none 0 0)], .box b3 [.bool (v1.Char && (r10 == 1)), v8, v11], .own (rI .i64) v11 Data2, .fz (rI .i64) v2 v1.Shape, .fz (rI .i64) v3 v1.Data, .el (rClo 87) [v5] r1, .own (rI .i64) v8 r6]) Fr := (hS.put rfl _).withK hI
       clear hI hw'
       refine pp3 hS rfl rfl rfl rfl rfl rfl ?_; clear hS
       intro tm hS
       refine o_alloc hS (.inl rfl) rfl Fz72 (by decide) ?_; clear hS
       intro b4 tm H hS
       refine o_st (k := 0) hS (.inl rfl) rfl rfl rfl Fs72 rfl rfl (all_cons rfl (all_cons rfl all_nil)) rfl ?_; clear hS; try clear H
       intro H hS
       refine pp1 hS rfl rfl ?_; clear hS
       intro tm hS
       refine o_nil (hR _ _ ?_)
       clear hR R
       refine c_seqS ?_
       refine cr2 hS rfl rfl rfl rfl ?_; clear hS
       intro tm hS
       refine c_cond hS rfl (fun hc => ?_) (fun hc => ?_)
       ·replace h5 := iteT hc h5
        refine c_reg fun R hR => ?_
        refine o_build hS (.inl rfl) rfl Fb25 rfl .nil rfl ?_; clear hS
        intro tm hS
        refine pp1 hS rfl rfl ?_; clear hS
        intro tm hS
        refine o_st (k := 3) hS (.inl rfl) rfl rfl rfl Fs25 rfl rfl (all_cons rfl (all_cons rfl (all_cons rfl all_nil))) rfl ?_; clear hS; try clear H
        intro H hS
        refine pp1 hS rfl rfl ?_; clear hS
        intro tm hS
        refine o_nil (hR _ _ ?_)
        clear hR R
        refine wpC.ret ?_
        obtain rfl := Option.some.inj h5
        obtain rfl := hq5 _ rfl
        refine And.intro rfl ?_
        obtain rfl := leave h3
        obtain rfl := hq3 _ rfl
        refine And.intro rfl ?_
        obtain rfl := leave h0
        replace hS := hS.nilOwn (rI .i64)
        replace hS := hS.nilOwn (rI .i64)
        refine Exists.intro _ (And.intro (rs_cellA (k := 5) hS rfl rfl (.inl rfl) Fu25 rfl Fs25 rfl (rs_tmp hS rfl rs_nil)) ?_)
        have hI := hS.inv
        exact ⟨(.slice none 0 0), (.slice none 0 0), rfl, (((hI.pull 0 rfl).pull 1 rfl).take 2)⟩
       ·replace h5 := iteF hc h5
        refine wpC.skip ?_
        refine c_reg1 fun R hR => ?_
        refine pp1 hS rfl rfl ?_; clear hS
        intro tm hS
        refine o_ld1 (k := 4) hS (.inl rfl) rfl rfl rfl (.inl rfl) Fu23 rfl rfl ?_; clear hS
        intro tm hS
        refine pp1 hS rfl rfl ?_; clear hS
        intro tm hS
        refine o_ld1 (k := 0) hS (.inl rfl) rfl rfl rfl (.inl rfl) Fu2 rfl rfl ?_; clear hS
        intro tm hS
        refine o_lit (r := (rI .i64)) (l := [r14.n]) hS (.inl rfl) rfl Fl23 rfl rfl rfl (.cons rfl .nil) rfl rfl (ri_1 (rd_flat fun _ => rfl) ri_nil) rfl ?_; clear hS
        intro v13 tm H hS
        obtain ⟨l2, hx10, h5⟩ := bindS h5
        refine o_app (k1 := 6) (k2 := 0) (r := (rI .i64)) hS (.inl rfl) rfl rfl rfl rfl rfl (.inr (.inr rfl)) rfl Fe23_23 rfl hx10 ?_; clear hS
        intro v14 tm H hS
        refine pp1 hS rfl rfl ?_; clear hS
        intro tm hS
        refine o_st (k := 5) hS (.inl rfl) rfl rfl rfl Fs23 (cells_one (hS.one (k := 6) rfl (.inr (.inl rfl)))) rfl (all_cons (hS.one (k := 6) rfl (.inr (.inl rfl))) all_nil) rfl ?_; clear hS; try clear H
        intro H hS
        refine o_nil (hR _ _ ?_)
        clear hR R
        refine cs2 hS rfl rfl rfl rfl ?_; clear hS
        intro tm hS
        obtain rfl := Option.some.inj h5
        refine ⟨_, rfl, ?_⟩
        refine Exists.intro v14 ?_; change S wm 117 _ _ _ _ Fr; exact hS.keep (k12 rfl rfl rfl rfl rfl rfl rfl rfl rfl rfl rfl rfl) (fun hI => (hI.sub (sd (sd (sd (sc (sc (sc (sc (sc (sc (sc (sc sn)))))))))))))
      ·replace h5 := iteF hc h5
       refine wpC.exit ?_
       refine seqX ?_
       obtain rfl := Option.some.inj h5
       obtain rfl := hq5 _ rfl
       refine And.intro rfl (blk_eq ?_)
       replace h3 := joinN h3
       refine cs3 hS rfl rfl rfl rfl rfl rfl ?_; clear hS
       intro tm hS
       obtain rfl := Option.some.inj h3
       refine ⟨_, rfl, ?_⟩
       refine Exists.intro v11 ?_; change S wm 117 _ _ _ _ Fr; exact hS.keep (k10 rfl rfl rfl rfl rfl rfl rfl rfl rfl rfl) (fun hI => (hI.sub (sc (sc (sc (sc (sc (sc (sc (sc sn))))))))))
     ·replace h3 := iteF hc h3
      refine wpC.exit ?_
      refine seqX ?_
      obtain rfl := Option.some.inj h3
      obtain rfl := hq3 _ rfl
      refine And.intro rfl (blk_eq ?_)
      replace h0 := joinN h0
      refine c_reg fun R hR => ?_
      refine o_ldA (k := 2) hS (.inl rfl) rfl rfl rfl (.inl rfl) Fu25 rfl Fs25 rfl ?_; clear hS
      intro tm hS
      refine o_st (k := 1) hS (.inl rfl) rfl rfl rfl Fs25 rfl rfl (all_cons rfl (all_cons (hS.one (k := 7) rfl (.inr (.inl rfl))) (all_cons (hS.one (k := 3) rfl (.inr (.inl rfl))) all_nil))) rfl ?_; clear hS; try clear H
      intro H hS
      refine pp1 hS rfl rfl ?_; clear hS
      intro tm hS
      refine o_nil (hR _ _ ?_)
      clear hR R
      refine wpC.ret ?_
      obtain rfl := Option.some.inj h0
      refine Exists.intro _ (And.intro (rs_cellA (k := 1) hS rfl rfl (.inl rfl) Fu25 rfl Fs25 rfl (rs_tmp hS rfl rs_nil)) ?_)
      have hI := hS.inv
      exact ⟨v8, v10, rfl, (((hI.pull 3 rfl).pull 7 rfl).take 2)⟩
theorem wk12 {wm : Nat} {H : AHeap} {Fr : List Ent}  (v1 : Val) (e1 : Int) (want1 : Val)  (v2 : Value) (v3 : Value) (v4 : Value) (v5 : Value) (hI : Kn wm H [.fz (rI .i64) v2 v1.Shape, .fz (rI .i64) v3 v1.Data, .fz (rI .i64) v4 want1.Shape, .fz (rI .i64) v5 want1.Data] Fr) {r : Bool} (h0 : M.anamnesislaw07_Is v1 e1 want1 = some r) :
  wpF Try.prog ora wm 12 [.agg #[.bool v1.Char, v2, v3], .int .i64 e1, .agg #[.bool want1.Char, v4, v5]] H (fun res H => res = .bool r ∧ Kn wm H [] Fr) := by
 unfold M.anamnesislaw07_Is at h0
 refine f_enter (n := 14) Try.func12 rfl (by simp) hI rfl rfl rfl fun tm hS => ?_
 clear hI
 refine c_reg fun R hR => ?_
 refine o_box hS (.inl rfl) rfl rfl rfl (all_cons rfl (all_cons (hS.one (k := 0) rfl (.inl rfl)) (all_cons (hS.one (k := 1) rfl (.inl rfl)) all_nil))) ?_; clear hS
 intro b1 tm H hS
 refine o_box hS (.inl rfl) rfl rfl rfl (all_cons rfl (all_cons (hS.one (k := 3) rfl (.inl rfl)) (all_cons (hS.one (k := 4) rfl (.inl rfl)) all_nil))) ?_; clear hS
 intro b2 tm H hS
 refine pp1 hS rfl rfl ?_; clear hS
 intro tm hS
 refine o_nil (hR _ _ ?_)
 clear hR R
 refine c_reg fun R hR => ?_
 refine pp3 hS rfl rfl rfl rfl rfl rfl ?_; clear hS
 intro tm hS
 obtain ⟨c1, hc1, h0⟩ := bindS h0
 refine o_cutN 4 (J := fun tm H => S wm 14 tm H [(13, .bool c1)] [] Fr) ?_ ?_
 ·rcases Bool.eq_false_or_eq_true (e1 == 0) with hg1 | hg1
  ·replace hc1 := iteT hg1 hc1
   refine o_ldA (k := 1) hS (.inr ⟨_, _, _, _, rfl, rfl, rfl, hg1⟩) rfl rfl rfl (.inl rfl) Fu25 rfl Fs25 rfl ?_; clear hS
   intro tm hS
   refine o_ldA (k := 0) hS (.inr ⟨_, _, _, _, rfl, rfl, rfl, hg1⟩) rfl rfl rfl (.inl rfl) Fu25 rfl Fs25 rfl ?_; clear hS
   intro tm hS
   obtain ⟨r1, hx1, hc1⟩ := bindS hc1
   refine o_call hS (.inr ⟨_, _, _, _, rfl, rfl, rfl, hg1⟩) rfl (fun wm' hw1 hw2 => wk21  v1 want1  v2 v3 v4 v5 (((((hS.sel hw2).ad 5 rfl).ad 4 rfl).ad 3 rfl).ad 2 rfl) hx1) (fun wm' res H hw' hp => ?_)
   obtain ⟨hres, hI⟩ := hp
   replace hres := hres.symm; subst hres
   replace hS : S wm 14 _ H ((12, .bool r1) :: _) ([] ++ _) Fr := hS.after rfl hw' hI
   clear hI hw'
   refine o_pickT hS (.inl rfl) rfl rfl hg1 rfl ?_; clear hS
   intro tm hS
   obtain rfl := Option.some.inj hc1
   exact o_nil (hS.keep (ka_cons rfl ka_nil) (fun hI => (hI.sub sn)))
  ·replace hc1 := iteF hg1 hc1
   refine o_skip hS rfl rfl rfl hg1 ?_; clear hS
   intro tm hS
   refine o_skip hS rfl rfl rfl hg1 ?_; clear hS
   intro tm hS
   refine o_skip hS rfl rfl rfl hg1 ?_; clear hS
   intro tm hS
   refine o_pickF hS (.inl rfl) rfl rfl hg1 rfl ?_; clear hS
   intro tm hS
   obtain rfl := Option.some.inj hc1
   exact o_nil (hS.keep (ka_cons rfl ka_nil) (fun hI => (hI.sub sn)))
 intro tm H hS
 refine pp1 hS rfl rfl ?_; clear hS
 intro tm hS
 refine o_nil (hR _ _ ?_)
 clear hR R
 refine wpC.ret ?_
 obtain rfl := Option.some.inj h0
 refine Exists.intro _ (And.intro (rs_tmp hS rfl rs_nil) ?_)
 have hI := hS.inv
 exact ⟨rfl, (hI.sub sn)⟩
end Go.Proofs.Ytblgdjpeedgnoaa.overScalar
