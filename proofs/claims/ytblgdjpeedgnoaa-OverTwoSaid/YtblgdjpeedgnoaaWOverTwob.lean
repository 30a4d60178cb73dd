/- OverTwo: walks of the code: the run of each function comes to what its plain function says. -/
import Derived.Test.YtblgdjpeedgnoaaWOverTwoa
set_option maxHeartbeats 4000000
set_option linter.unusedVariables false
set_option linter.unusedSimpArgs false
set_option maxRecDepth 100000
open Go Go.Am Go.Proofs
namespace Go.Proofs.Ytblgdjpeedgnoaa.overTwo
variable {ora : FuncId → Bool}
theorem wk14 {wm : Nat} {H : AHeap} {Fr : List Ent} (ho100 : ora 100 = false) (fn1 : ByteArray) (a1 : Val) (b1 : Val)  (v1 : Value) (v2 : Value) (v3 : Value) (v4 : Value) (hI : Kn wm H [.fz (rI .i64) v1 a1.Shape, .fz (rI .i64) v2 a1.Data, .fz (rI .i64) v3 b1.Shape, .fz (rI .i64) v4 b1.Data] Fr) {r : Val × Int} (h0 : M.over_Outer fn1 a1 b1 = some r) :
  wpF Try.prog ora wm 14 [.string fn1, .agg #[.bool a1.Char, v1, v2], .agg #[.bool b1.Char, v3, v4]] H (fun res H => ∃ v15 v16, res = .tuple #[.agg #[.bool r.1.Char, v15, v16], .int .i64 r.2] ∧ Kn wm H [.own (rI .i64) v15 r.1.Shape, .own (rI .i64) v16 r.1.Data] Fr) := by
 unfold M.over_Outer at h0
 refine f_enter (n := 93) Try.func14 rfl (by simp) hI rfl rfl rfl fun tm hS => ?_
 clear hI
 refine c_reg fun R hR => ?_
 refine o_box hS (.inl rfl) rfl rfl rfl (all_cons rfl (all_cons (hS.one (k := 0) rfl (.inl rfl)) (all_cons (hS.one (k := 1) rfl (.inl rfl)) all_nil))) ?_; clear hS
 intro b2 tm H hS
 refine o_box hS (.inl rfl) rfl rfl rfl (all_cons rfl (all_cons (hS.one (k := 3) rfl (.inl rfl)) (all_cons (hS.one (k := 4) rfl (.inl rfl)) all_nil))) ?_; clear hS
 intro b3 tm H hS
 refine o_alloc hS (.inl rfl) rfl Fz25 (by decide) ?_; clear hS
 intro b4 tm H hS
 refine pp1 hS rfl rfl ?_; clear hS
 intro tm hS
 refine o_nil (hR _ _ ?_)
 clear hR R
 refine c_reg fun R hR => ?_
 refine pp1 hS rfl rfl ?_; clear hS
 intro tm hS
 refine o_ldA (k := 2) hS (.inl rfl) rfl rfl rfl (.inl rfl) Fu25 rfl Fs25 rfl ?_; clear hS
 intro tm hS
 refine o_ldA (k := 1) hS (.inl rfl) rfl rfl rfl (.inl rfl) Fu25 rfl Fs25 rfl ?_; clear hS
 intro tm hS
 refine o_lit (r := rVal) (l := [a1, b1]) hS (.inl rfl) rfl Fl103 rfl rfl rfl (.cons rfl (.cons rfl .nil)) rfl rfl (ri_3 (rd_Val ⟨3, rfl⟩ ⟨4, rfl⟩) (ri_3 (rd_Val ⟨5, rfl⟩ ⟨6, rfl⟩) ri_nil)) rfl ?_; clear hS
 intro v5 tm H hS
 replace hS := hS.litFrz (k := 0) rfl
 obtain ⟨⟨r1, r2⟩, hx1, h0⟩ := bindS h0
 refine o_call hS (.inl rfl) rfl (fun wm' hw1 hw2 => wk31  fn1 ([a1, b1])  v5 ((hS.sel hw2).ad 0 rfl) hx1) (fun wm' res H hw' hp => ?_)
 obtain ⟨v6, hres, hI⟩ := hp
 replace hres := hres.symm; subst hres
 replace hS : S wm 93 _ H ((22, .tuple #[v6, .int .i64 r2]) :: _) ([.el (rClo 87) [v6] r1] ++ _) Fr := hS.after rfl hw' hI
 clear hI hw'
 refine pp5 hS rfl rfl rfl rfl rfl rfl rfl rfl rfl rfl ?_; clear hS
 intro tm hS
 refine o_nil (hR _ _ ?_)
 clear hR R
 refine c_seqS ?_
 refine cr2 hS rfl rfl rfl rfl ?_; clear hS
 intro tm hS
 refine c_cond hS rfl (fun hc => ?_) (fun hc => ?_)
 ·replace h0 := iteT hc h0
  refine c_reg fun R hR => ?_
  refine o_build hS (.inl rfl) rfl Fb25 rfl .nil rfl ?_; clear hS
  intro tm hS
  refine pp1 hS rfl rfl ?_; clear hS
  intro tm hS
  refine o_st (k := 2) hS (.inl rfl) rfl rfl rfl Fs25 rfl rfl (all_cons rfl (all_cons rfl (all_cons rfl all_nil))) rfl ?_; clear hS; try clear H
  intro H hS
  refine pp1 hS rfl rfl ?_; clear hS
  intro tm hS
  refine o_nil (hR _ _ ?_)
  clear hR R
  refine wpC.ret ?_
  obtain rfl := Option.some.inj h0
  replace hS := hS.nilOwn (rI .i64)
  replace hS := hS.nilOwn (rI .i64)
  refine Exists.intro _ (And.intro (rs_cellA (k := 4) hS rfl rfl (.inl rfl) Fu25 rfl Fs25 rfl (rs_tmp hS rfl rs_nil)) ?_)
  have hI := hS.inv
  exact ⟨(.slice none 0 0), (.slice none 0 0), rfl, (((hI.pull 0 rfl).pull 1 rfl).take 2)⟩
 ·replace h0 := iteF hc h0
  refine wpC.skip ?_
  refine c_reg fun R hR => ?_
  refine o_lit (r := (rI .i64)) (l := ([] : List Int)) hS (.inl rfl) rfl Fl22 rfl rfl rfl .nil rfl rfl ri_nil rfl ?_; clear hS
  intro v7 tm H hS
  refine pp1 hS rfl rfl ?_; clear hS
  intro tm hS
  refine o_ld1 (k := 5) hS (.inl rfl) rfl rfl rfl (.inl rfl) Fu22 rfl rfl ?_; clear hS
  intro tm hS
  refine pp1 hS rfl rfl ?_; clear hS
  intro tm hS
  refine o_ld1 (k := 4) hS (.inl rfl) rfl rfl rfl (.inl rfl) Fu22 rfl rfl ?_; clear hS
  intro tm hS
  replace hS := hS.litFrz (k := 0) rfl
  refine o_lit (r := (rL (rI .i64))) (l := [([] : List Int), a1.Shape, b1.Shape]) hS (.inl rfl) rfl Fl113 rfl rfl rfl (.cons (cells_one (hS.one (k := 0) rfl (.inl rfl))) (.cons (cells_one (hS.one (k := 6) rfl (.inl rfl))) (.cons (cells_one (hS.one (k := 8) rfl (.inl rfl))) .nil))) rfl rfl (ri_1 (rd_S ⟨0, rfl⟩) (ri_1 (rd_S ⟨6, rfl⟩) (ri_1 (rd_S ⟨8, rfl⟩) ri_nil))) rfl ?_; clear hS
  intro v8 tm H hS
  obtain ⟨r3, hx2, h0⟩ := bindS h0
  refine o_call (Pc := fun _ res H => ∃ v9, res = v9 ∧ Kn wm H ([.own (rI .i64) v9 r3] ++ [.lit (rL (rI .i64)) v8 ([([] : List Int), a1.Shape, b1.Shape]), .fz (rI .i64) v7 ([] : List Int), .el (rClo 87) [v6] r1, .fz rVal v5 ([a1, b1]), .box b4 [.bool false, (.slice none 0 0), (.slice none 0 0)], .box b3 [.bool b1.Char, v3, v4], .box b2 [.bool a1.Char, v1, v2], .fz (rI .i64) v1 a1.Shape, .fz (rI .i64) v2 a1.Data, .fz (rI .i64) v3 b1.Shape, .fz (rI .i64) v4 b1.Data]) Fr) hS (.inl rfl) rfl (fun wm' hw1 hw2 => by
   obtain ⟨F2, kk_1, kk_2⟩ := hS.inv.lendR (La := [.fz (rL (rI .i64)) v8 ([([] : List Int), a1.Shape, b1.Shape])]) (List.forall_mem_cons.mpr ⟨(.inr ⟨_, _, _, _, rfl, .inr (List.mem_of_getElem? (i := 0) rfl)⟩), (fun _ h => by cases h)⟩) hw1 hw2
   exact (wk39  ([([] : List Int), a1.Shape, b1.Shape])  v8 kk_1 hx2).mono fun res H2 ⟨v9, qq_1, qq_2⟩ => ⟨v9, qq_1, kk_2 _ _ (List.forall_mem_cons.mpr ⟨⟨_, _, _, _, rfl, fun _ _ _ _ h => h⟩, (fun _ h => by cases h)⟩) qq_2⟩) (fun wm' res H hw' hp => ?_)
  obtain ⟨v9, hres, hI⟩ := hp
  replace hres := hres.symm; subst hres
  replace hS : S wm 93 _ H ((35, v9) :: _) ([.own (rI .i64) v9 r3] ++ [.lit (rL (rI .i64)) v8 ([([] : List Int), a1.Shape, b1.Shape]), .fz (rI .i64) v7 ([] : List Int), .el (rClo 87) [v6] r1, .fz rVal v5 ([a1, b1]), .box b4 [.bool false, (.slice none 0 0), (.slice none 0 0)], .box b3 [.bool b1.Char, v3, v4], .box b2 [.bool a1.Char, v1, v2], .fz (rI .i64) v1 a1.Shape, .fz (rI .i64) v2 a1.Data, .fz (rI .i64) v3 b1.Shape, .fz (rI .i64) v4 b1.Data]) Fr := (hS.put rfl _).withK hI
  clear hI hw'
  refine pp1 hS rfl rfl ?_; clear hS
  intro tm hS
  refine o_nil (hR _ _ ?_)
  clear hR R
  refine c_seqS ?_
  refine c_reg fun R hR => ?_
  refine pp1 hS rfl rfl ?_; clear hS
  intro tm hS
  refine o_len (k := 0) (r := (rI .i64)) hS (.inl rfl) rfl rfl rfl (.inr (.inl rfl)) Fu22 rfl ?_; clear hS
  intro tm hS
  refine pp1 hS rfl rfl ?_; clear hS
  intro tm hS
  refine o_nil (hR _ _ ?_)
  clear hR R
  refine c_cond hS rfl (fun hc => ?_) (fun hc => ?_)
  ·replace h0 := iteT hc h0
   refine c_reg fun R hR => ?_
   refine o_build hS (.inl rfl) rfl Fb25 rfl .nil rfl ?_; clear hS
   intro tm hS
   refine o_st (k := 5) hS (.inl rfl) rfl rfl rfl Fs25 rfl rfl (all_cons rfl (all_cons rfl (all_cons rfl all_nil))) rfl ?_; clear hS; try clear H
   intro H hS
   refine pp1 hS rfl rfl ?_; clear hS
   intro tm hS
   refine o_nil (hR _ _ ?_)
   clear hR R
   refine wpC.ret ?_
   obtain rfl := Option.some.inj h0
   replace hS := hS.nilOwn (rI .i64)
   replace hS := hS.nilOwn (rI .i64)
   refine Exists.intro _ (And.intro (rs_cellA (k := 7) hS rfl rfl (.inl rfl) Fu25 rfl Fs25 rfl (rs_tmp hS rfl rs_nil)) ?_)
   have hI := hS.inv
   exact ⟨(.slice none 0 0), (.slice none 0 0), rfl, (((hI.pull 0 rfl).pull 1 rfl).take 2)⟩
  ·replace h0 := iteF hc h0
   refine wpC.skip ?_
   refine c_reg fun R hR => ?_
   refine pp1 hS rfl rfl ?_; clear hS
   intro tm hS
   obtain ⟨⟨r4, r5⟩, hx3, h0⟩ := bindS h0
   refine o_call (Pc := fun _ res H => res = .tuple #[.int .i64 r4, .int .i64 r5] ∧ Kn wm H ([.own (rI .i64) v9 r3, .lit (rL (rI .i64)) v8 ([([] : List Int), a1.Shape, b1.Shape]), .fz (rI .i64) v7 ([] : List Int), .el (rClo 87) [v6] r1, .fz rVal v5 ([a1, b1]), .box b4 [.bool false, (.slice none 0 0), (.slice none 0 0)], .box b3 [.bool b1.Char, v3, v4], .box b2 [.bool a1.Char, v1, v2], .fz (rI .i64) v1 a1.Shape, .fz (rI .i64) v2 a1.Data, .fz (rI .i64) v3 b1.Shape, .fz (rI .i64) v4 b1.Data]) Fr) hS (.inl rfl) rfl (fun wm' hw1 hw2 => by
    obtain ⟨F2, kk_1, kk_2⟩ := hS.inv.lend (La := [.fz (rI .i64) v9 r3]) (List.forall_mem_cons.mpr ⟨(.inr ⟨_, _, _, _, rfl, .inl (List.mem_of_getElem? (i := 0) rfl)⟩), (fun _ h => by cases h)⟩) hw1 hw2
    exact (wk35  r3  v9 kk_1 hx3).mono fun res H2 ⟨qq_1, qq_2⟩ => ⟨qq_1, kk_2 _ qq_2⟩) (fun wm' res H hw' hp => ?_)
   obtain ⟨hres, hI⟩ := hp
   replace hres := hres.symm; subst hres
   replace hS : S wm 93 _ H ((42, .tuple #[.int .i64 r4, .int .i64 r5]) :: _) ([.own (rI .i64) v9 r3, .lit (rL (rI .i64)) v8 ([([] : List Int), a1.Shape, b1.Shape]), .fz (rI .i64) v7 ([] : List Int), .el (rClo 87) [v6] r1, .fz rVal v5 ([a1, b1]), .box b4 [.bool false, (.slice none 0 0), (.slice none 0 0)], .box b3 [.bool b1.Char, v3, v4], .box b2 [.bool a1.Char, v1, v2], .fz (rI .i64) v1 a1.Shape, .fz (rI .i64) v2 a1.Data, .fz (rI .i64) v3 b1.Shape, .fz (rI .i64) v4 b1.Data]) Fr := (hS.put rfl _).withK hI
   clear hI hw'
   refine pp5 hS rfl rfl rfl rfl rfl rfl rfl rfl rfl rfl ?_; clear hS
   intro tm hS
   refine o_nil (hR _ _ ?_)
   clear hR R
   refine c_seqS ?_
   refine cr2 hS rfl rfl rfl rfl ?_; clear hS
   intro tm hS
   refine c_cond hS rfl (fun hc => ?_) (fun hc => ?_)
   ·replace h0 := iteT hc h0
    refine c_reg fun R hR => ?_
    refine o_build hS (.inl rfl) rfl Fb25 rfl .nil rfl ?_; clear hS
    intro tm hS
    refine o_st (k := 5) hS (.inl rfl) rfl rfl rfl Fs25 rfl rfl (all_cons rfl (all_cons rfl (all_cons rfl all_nil))) rfl ?_; clear hS; try clear H
    intro H hS
    refine pp1 hS rfl rfl ?_; clear hS
    intro tm hS
    refine o_nil (hR _ _ ?_)
    clear hR R
    refine wpC.ret ?_
    obtain rfl := Option.some.inj h0
    replace hS := hS.nilOwn (rI .i64)
    replace hS := hS.nilOwn (rI .i64)
    refine Exists.intro _ (And.intro (rs_cellA (k := 7) hS rfl rfl (.inl rfl) Fu25 rfl Fs25 rfl (rs_tmp hS rfl rs_nil)) ?_)
    have hI := hS.inv
    exact ⟨(.slice none 0 0), (.slice none 0 0), rfl, (((hI.pull 0 rfl).pull 1 rfl).take 2)⟩
   ·replace h0 := iteF hc h0
    refine wpC.skip ?_
    refine c_reg fun R hR => ?_
    refine pp2 hS rfl rfl rfl rfl ?_; clear hS
    intro tm hS
    obtain ⟨l1, hx4, h0⟩ := bindS h0
    refine o_mk (r := (rI .i64)) hS (.inl rfl) rfl rfl rfl Fm23 rfl (fun _ => rfl) hx4 ?_; clear hS
    intro v10 tm H hS
    refine o_build hS (.inl rfl) rfl Fb25 rfl (.cons (cells_one (hS.one (k := 1) rfl (.inr (.inl rfl)))) (.cons (cells_one (hS.one (k := 0) rfl (.inr (.inl rfl)))) .nil)) rfl ?_; clear hS
    intro tm hS
    refine o_alloc hS (.inl rfl) rfl Fz25 (by decide) ?_; clear hS
    intro b5 tm H hS
    refine o_st (k := 0) hS (.inl rfl) rfl rfl rfl Fs25 rfl rfl (all_cons rfl (all_cons (hS.one (k := 2) rfl (.inr (.inl rfl))) (all_cons (hS.one (k := 1) rfl (.inr (.inl rfl))) all_nil))) rfl ?_; clear hS; try clear H
    intro H hS
    refine o_nil (hR _ _ ?_)
    clear hR R
    refine c_seqS ?_
    refine cr1 hS rfl rfl ?_; clear hS
    intro tm hS
    obtain ⟨k1, hw1, h0⟩ := bindS h0
    refine wpC.block ?_
    refine c_loop (I := fun (s : Int × (List Int)) tm H => match (generalizing := false) s with | (i1, Data1) => ∃ v11, S wm 93 tm H [(4, .pointer (some ⟨b2, 0, none⟩)), (5, .pointer (some ⟨b3, 0, none⟩)), (6, .pointer (some ⟨b4, 0, none⟩)), (8, v6), (11, .int .i64 r4), (12, .pointer (some ⟨b5, 0, none⟩)), (13, .int .i64 i1)] [.box b2 [.bool a1.Char, v1, v2], .box b3 [.bool b1.Char, v3, v4], .box b4 [.bool false, (.slice none 0 0), (.slice none 0 0)], .box b5 [.bool false, v9, v11], .own (rI .i64) v11 Data1, .fz (rI .i64) v1 a1.Shape, .fz (rI .i64) v2 a1.Data, .fz (rI .i64) v3 b1.Shape, .fz (rI .i64) v4 b1.Data, .el (rClo 87) [v6] r1, .own (rI .i64) v9 r3] Fr) hw1 (by refine Exists.intro v10 ?_; change S wm 93 _ _ _ _ Fr; exact hS.keep (k7 rfl rfl rfl rfl rfl rfl rfl) (fun hI => (hI.pick [9, 8, 7, 0, 1, 10, 11, 12, 13, 5, 2] rfl))) ?_
    clear hS
    intro s1 tm H c1 hS h3 hq3
    obtain ⟨i1, Data1⟩ := s1
    obtain ⟨v11, hS⟩ := hS
    change S wm 93 tm H [(4, .pointer (some ⟨b2, 0, none⟩)), (5, .pointer (some ⟨b3, 0, none⟩)), (6, .pointer (some ⟨b4, 0, none⟩)), (8, v6), (11, .int .i64 r4), (12, .pointer (some ⟨b5, 0, none⟩)), (13, .int .i64 i1)] [.box b2 [.bool a1.Char, v1, v2], .box b3 [.bool b1.Char, v3, v4], .box b4 [.bool false, (.slice none 0 0), (.slice none 0 0)], .box b5 [.bool false, v9, v11], .own (rI .i64) v11 Data1, .fz (rI .i64) v1 a1.Shape, .fz (rI .i64) v2 a1.Data, .fz (rI .i64) v3 b1.Shape, .fz (rI .i64) v4 b1.Data, .el (rClo 87) [v6] r1, .own (rI .i64) v9 r3] Fr at hS
    refine c_seqS ?_
    refine c_reg fun R hR => ?_
    refine pp2 hS rfl rfl rfl rfl ?_; clear hS
    intro tm hS
    refine o_ld1 (k := 0) hS (.inl rfl) rfl rfl rfl (.inl rfl) Fu23 rfl rfl ?_; clear hS
    intro tm hS
    refine o_len (k := 6) (r := (rI .i64)) hS (.inl rfl) rfl rfl rfl (.inl rfl) Fu23 rfl ?_; clear hS
    intro tm hS
    refine pp2 hS rfl rfl rfl rfl ?_; clear hS
    intro tm hS
    obtain ⟨c2, hc1⟩ : ∃ x : Bool, x = ((decide (i1 < (a1.Data.length : Int))) && (decide (r4 > 0))) := ⟨_, rfl⟩
    refine o_cutN 3 (J := fun tm H => S wm 93 tm H [(60, .bool c2), (4, .pointer (some ⟨b2, 0, none⟩)), (5, .pointer (some ⟨b3, 0, none⟩)), (6, .pointer (some ⟨b4, 0, none⟩)), (8, v6), (11, .int .i64 r4), (12, .pointer (some ⟨b5, 0, none⟩)), (13, .int .i64 i1)] [.box b2 [.bool a1.Char, v1, v2], .box b3 [.bool b1.Char, v3, v4], .box b4 [.bool false, (.slice none 0 0), (.slice none 0 0)], .box b5 [.bool false, v9, v11], .own (rI .i64) v11 Data1, .fz (rI .i64) v1 a1.Shape, .fz (rI .i64) v2 a1.Data, .fz (rI .i64) v3 b1.Shape, .fz (rI .i64) v4 b1.Data, .el (rClo 87) [v6] r1, .own (rI .i64) v9 r3] Fr) ?_ ?_
    ·rcases Bool.eq_false_or_eq_true (decide (i1 < (a1.Data.length : Int))) with hg1 | hg1
     ·refine o_pure hS (.inr ⟨_, _, _, _, rfl, rfl, rfl, hg1⟩) rfl rfl ?_; clear hS
      intro tm hS
      refine o_pure hS (.inr ⟨_, _, _, _, rfl, rfl, rfl, hg1⟩) rfl rfl ?_; clear hS
      intro tm hS
      refine o_pickT hS (.inl rfl) rfl rfl hg1 rfl ?_; clear hS
      intro tm hS
      have hc1 : c2 = (decide (r4 > 0)) := hc1.trans (by rw [hg1]; first | rfl | simp)
      subst hc1
      exact o_nil (hS.keep (k8 rfl rfl rfl rfl rfl rfl rfl rfl) (fun hI => (hI.sub (sc (sc (sc (sc (sc (sc (sc (sc (sc (sc (sc sn))))))))))))))
     ·refine o_skip hS rfl rfl rfl hg1 ?_; clear hS
      intro tm hS
      refine o_skip hS rfl rfl rfl hg1 ?_; clear hS
      intro tm hS
      refine o_pickF hS (.inl rfl) rfl rfl hg1 rfl ?_; clear hS
      intro tm hS
      have hc1 : c2 = false := hc1.trans (by rw [hg1]; first | rfl | simp)
      subst hc1
      exact o_nil (hS.keep (k8 rfl rfl rfl rfl rfl rfl rfl rfl) (fun hI => (hI.sub (sc (sc (sc (sc (sc (sc (sc (sc (sc (sc (sc sn))))))))))))))
    intro tm H hS
    subst hc1
    refine o_nil (hR _ _ ?_)
    clear hR R
    refine c_cond hS rfl (fun hc => ?_) (fun hc => ?_)
    ·replace h3 := iteT hc h3
     refine wpC.skip ?_
     refine c_seqS ?_
     refine wpC.block ?_
     refine c_reg fun R hR => ?_
     refine pp1 hS rfl rfl ?_; clear hS
     intro tm hS
     refine o_ld1 (k := 1) hS (.inl rfl) rfl rfl rfl (.inl rfl) Fu23 rfl rfl ?_; clear hS
     intro tm hS
     refine o_len (k := 8) (r := (rI .i64)) hS (.inl rfl) rfl rfl rfl (.inl rfl) Fu23 rfl ?_; clear hS
     intro tm hS
     refine pp1 hS rfl rfl ?_; clear hS
     intro tm hS
     refine o_nil (hR _ _ ?_)
     clear hR R
     obtain ⟨k2, hw2, h3⟩ := bindS h3
     refine wpC.block ?_
     refine c_loop (I := fun (s : Int × (List Int)) tm H => match (generalizing := false) s with | (t1, Data2) => ∃ v12, S wm 93 tm H [(4, .pointer (some ⟨b2, 0, none⟩)), (5, .pointer (some ⟨b3, 0, none⟩)), (6, .pointer (some ⟨b4, 0, none⟩)), (8, v6), (11, .int .i64 r4), (12, .pointer (some ⟨b5, 0, none⟩)), (13, .int .i64 i1), (65, .int .i64 (b1.Data.length : Int)), (66, .int .i64 t1)] [.box b2 [.bool a1.Char, v1, v2], .box b3 [.bool b1.Char, v3, v4], .box b4 [.bool false, (.slice none 0 0), (.slice none 0 0)], .box b5 [.bool false, v9, v12], .own (rI .i64) v12 Data2, .fz (rI .i64) v1 a1.Shape, .fz (rI .i64) v2 a1.Data, .fz (rI .i64) v3 b1.Shape, .fz (rI .i64) v4 b1.Data, .el (rClo 87) [v6] r1, .own (rI .i64) v9 r3] Fr) hw2 (by refine Exists.intro v11 ?_; change S wm 93 _ _ _ _ Fr; exact hS.keep (k9 rfl rfl rfl rfl rfl rfl rfl rfl rfl) (fun hI => (hI.sub (sc (sc (sc (sc (sc (sc (sc (sc (sc (sc (sc sn)))))))))))))) ?_
     clear hS
     intro s2 tm H c3 hS h5 hq5
     obtain ⟨t1, Data2⟩ := s2
     obtain ⟨v12, hS⟩ := hS
     change S wm 93 tm H [(4, .pointer (some ⟨b2, 0, none⟩)), (5, .pointer (some ⟨b3, 0, none⟩)), (6, .pointer (some ⟨b4, 0, none⟩)), (8, v6), (11, .int .i64 r4), (12, .pointer (some ⟨b5, 0, none⟩)), (13, .int .i64 i1), (65, .int .i64 (b1.Data.length : Int)), (66, .int .i64 t1)] [.box b2 [.bool a1.Char, v1, v2], .box b3 [.bool b1.Char, v3, v4], .box b4 [.bool false, (.slice none 0 0), (.slice none 0 0)], .box b5 [.bool false, v9, v12], .own (rI .i64) v12 Data2, .fz (rI .i64) v1 a1.Shape, .fz (rI .i64) v2 a1.Data, .fz (rI .i64) v3 b1.Shape, .fz (rI .i64) v4 b1.Data, .el (rClo 87) [v6] r1, .own (rI .i64) v9 r3] Fr at hS
     refine cr1 hS rfl rfl ?_; clear hS
     intro tm hS
     refine c_seqS ?_
     refine c_cond hS rfl (fun hc => ?_) (fun hc => ?_)
     ·replace h5 := iteT hc h5
      refine wpC.skip ?_
      refine c_seqS ?_
      refine wpC.block ?_
      refine cr2 hS rfl rfl rfl rfl ?_; clear hS
      intro tm hS
      refine c_reg fun R hR => ?_
      refine pp1 hS rfl rfl ?_; clear hS
      intro tm hS
      refine o_ldA (k := 0) hS (.inl rfl) rfl rfl rfl (.inl rfl) Fu25 rfl Fs25 rfl ?_; clear hS
      intro tm hS
      refine pp1 hS rfl rfl ?_; clear hS
      intro tm hS
      obtain ⟨r6, hx5, h5⟩ := bindS h5
      refine o_call hS (.inl rfl) rfl (fun wm' hw1 hw2 => wk40  a1 i1  v1 v2 (((hS.sel hw2).ad 6 rfl).ad 5 rfl) hx5) (fun wm' res H hw' hp => ?_)
      obtain ⟨hres, hI⟩ := hp
      replace hres := hres.symm; subst hres
      replace hS : S wm 93 _ H ((73, .agg #[.int .i64 r6.n, .bool r6.char]) :: _) ([] ++ _) Fr := hS.after rfl hw' hI
      clear hI hw'
      refine o_ldA (k := 1) hS (.inl rfl) rfl rfl rfl (.inl rfl) Fu25 rfl Fs25 rfl ?_; clear hS
      intro tm hS
      refine pp1 hS rfl rfl ?_; clear hS
      intro tm hS
      obtain ⟨r7, hx6, h5⟩ := bindS h5
      refine o_call hS (.inl rfl) rfl (fun wm' hw1 hw2 => wk40  b1 t1  v3 v4 (((hS.sel hw2).ad 8 rfl).ad 7 rfl) hx6) (fun wm' res H hw' hp => ?_)
      obtain ⟨hres, hI⟩ := hp
      replace hres := hres.symm; subst hres
      replace hS : S wm 93 _ H ((76, .agg #[.int .i64 r7.n, .bool r7.char]) :: _) ([] ++ _) Fr := hS.after rfl hw' hI
      clear hI hw'
      obtain ⟨fn2, hx7, h5⟩ := bindS h5
      obtain ⟨b6, hv1, hS⟩ := hS.unclo (k := 9) rfl hx7
      obtain ⟨⟨r8, r9⟩, hx8, h5⟩ := bindS h5
      refine o_call hS (.inl rfl) (by subst hv1; rfl) (fun wm' hw1 hw2 => wk87 ho100 r6 r7 fn2  b6 ((hS.sel hw2).adB 0 rfl) hx8) (fun wm' res H hw' hp => ?_)
      obtain ⟨hres, hI⟩ := hp
      replace hres := hres.symm; subst hres
      replace hS : S wm 93 _ H ((77, .tuple #[.agg #[.int .i64 r8.n, .bool r8.char], .int .i64 r9]) :: _) ([] ++ _) Fr := hS.after rfl hw' hI
      clear hI hw'
      refine pp3 hS rfl rfl rfl rfl rfl rfl ?_; clear hS
      intro tm hS
      refine o_alloc hS (.inl rfl) rfl Fz72 (by decide) ?_; clear hS
      intro b7 tm H hS
      refine o_st (k := 0) hS (.inl rfl) rfl rfl rfl Fs72 rfl rfl (all_cons rfl (all_cons rfl all_nil)) rfl ?_; clear hS; try clear H
      intro H hS
      refine pp1 hS rfl rfl ?_; clear hS
      intro tm hS
      refine o_nil (hR _ _ ?_)
      clear hR R
      refine c_seqS ?_
      refine cr2 hS rfl rfl rfl rfl ?_; clear hS
      intro tm hS
      refine c_cond hS rfl (fun hc => ?_) (fun hc => ?_)
      ·replace h5 := iteT hc h5
       refine c_reg fun R hR => ?_
       refine o_build hS (.inl rfl) rfl Fb25 rfl .nil rfl ?_; clear hS
       intro tm hS
       refine pp1 hS rfl rfl ?_; clear hS
       intro tm hS
       refine o_st (k := 4) hS (.inl rfl) rfl rfl rfl Fs25 rfl rfl (all_cons rfl (all_cons rfl (all_cons rfl all_nil))) rfl ?_; clear hS; try clear H
       intro H hS
       refine pp1 hS rfl rfl ?_; clear hS
       intro tm hS
       refine o_nil (hR _ _ ?_)
       clear hR R
       refine wpC.ret ?_
       obtain rfl := Option.some.inj h5
       obtain rfl := hq5 _ rfl
       refine And.intro rfl ?_
       obtain rfl := leave h3
       obtain rfl := hq3 _ rfl
       refine And.intro rfl ?_
       obtain rfl := leave h0
       replace hS := hS.nilOwn (rI .i64)
       replace hS := hS.nilOwn (rI .i64)
       refine Exists.intro _ (And.intro (rs_cellA (k := 6) hS rfl rfl (.inl rfl) Fu25 rfl Fs25 rfl (rs_tmp hS rfl rs_nil)) ?_)
       have hI := hS.inv
       exact ⟨(.slice none 0 0), (.slice none 0 0), rfl, (((hI.pull 0 rfl).pull 1 rfl).take 2)⟩
      ·replace h5 := iteF hc h5
       refine wpC.skip ?_
       refine c_reg1 fun R hR => ?_
       refine pp1 hS rfl rfl ?_; clear hS
       intro tm hS
       refine o_ld1 (k := 5) hS (.inl rfl) rfl rfl rfl (.inl rfl) Fu23 rfl rfl ?_; clear hS
       intro tm hS
       refine pp1 hS rfl rfl ?_; clear hS
       intro tm hS
       refine o_ld1 (k := 0) hS (.inl rfl) rfl rfl rfl (.inl rfl) Fu2 rfl rfl ?_; clear hS
       intro tm hS
       refine o_lit (r := (rI .i64)) (l := [r8.n]) hS (.inl rfl) rfl Fl23 rfl rfl rfl (.cons rfl .nil) rfl rfl (ri_1 (rd_flat fun _ => rfl) ri_nil) rfl ?_; clear hS
       intro v13 tm H hS
       obtain ⟨l2, hx9, h5⟩ := bindS h5
       refine o_app (k1 := 7) (k2 := 0) (r := (rI .i64)) hS (.inl rfl) rfl rfl rfl rfl rfl (.inr (.inr rfl)) rfl Fe23_23 rfl hx9 ?_; clear hS
       intro v14 tm H hS
       refine pp1 hS rfl rfl ?_; clear hS
       intro tm hS
       refine o_st (k := 6) hS (.inl rfl) rfl rfl rfl Fs23 (cells_one (hS.one (k := 7) rfl (.inr (.inl rfl)))) rfl (all_cons (hS.one (k := 7) rfl (.inr (.inl rfl))) all_nil) rfl ?_; clear hS; try clear H
       intro H hS
       refine o_nil (hR _ _ ?_)
       clear hR R
       refine cs2 hS rfl rfl rfl rfl ?_; clear hS
       intro tm hS
       obtain rfl := Option.some.inj h5
       refine ⟨_, rfl, ?_⟩
       refine Exists.intro v14 ?_; change S wm 93 _ _ _ _ Fr; exact hS.keep (k9 rfl rfl rfl rfl rfl rfl rfl rfl rfl) (fun hI => (hI.sub (sd (sd (sd (sc (sc (sc (sc (sc (sc (sc (sc (sc (sc (sc sn))))))))))))))))
     ·replace h5 := iteF hc h5
      refine wpC.exit ?_
      refine seqX ?_
      obtain rfl := Option.some.inj h5
      obtain rfl := hq5 _ rfl
      refine And.intro rfl (blk_eq ?_)
      replace h3 := joinN h3
      refine cs3 hS rfl rfl rfl rfl rfl rfl ?_; clear hS
      intro tm hS
      obtain rfl := Option.some.inj h3
      refine ⟨_, rfl, ?_⟩
      refine Exists.intro v12 ?_; change S wm 93 _ _ _ _ Fr; exact hS.keep (k7 rfl rfl rfl rfl rfl rfl rfl) (fun hI => (hI.sub (sc (sc (sc (sc (sc (sc (sc (sc (sc (sc (sc sn)))))))))))))
    ·replace h3 := iteF hc h3
     refine wpC.exit ?_
     refine seqX ?_
     obtain rfl := Option.some.inj h3
     obtain rfl := hq3 _ rfl
     refine And.intro rfl (blk_eq ?_)
     replace h0 := joinN h0
     refine c_reg fun R hR => ?_
     refine o_ldA (k := 3) hS (.inl rfl) rfl rfl rfl (.inl rfl) Fu25 rfl Fs25 rfl ?_; clear hS
     intro tm hS
     refine o_st (k := 2) hS (.inl rfl) rfl rfl rfl Fs25 rfl rfl (all_cons rfl (all_cons (hS.one (k := 10) rfl (.inr (.inl rfl))) (all_cons (hS.one (k := 4) rfl (.inr (.inl rfl))) all_nil))) rfl ?_; clear hS; try clear H
     intro H hS
     refine pp1 hS rfl rfl ?_; clear hS
     intro tm hS
     refine o_nil (hR _ _ ?_)
     clear hR R
     refine wpC.ret ?_
     obtain rfl := Option.some.inj h0
     refine Exists.intro _ (And.intro (rs_cellA (k := 2) hS rfl rfl (.inl rfl) Fu25 rfl Fs25 rfl (rs_tmp hS rfl rs_nil)) ?_)
     have hI := hS.inv
     exact ⟨v9, v11, rfl, (((hI.pull 4 rfl).pull 10 rfl).take 2)⟩
theorem wk41 {wm : Nat} {H : AHeap} {Fr : List Ent}  (v1 : Val)  (v2 : Value) (v3 : Value) (hI : Kn wm H [.fz (rI .i64) v2 v1.Shape, .fz (rI .i64) v3 v1.Data] Fr) {r : Bool} (h0 : M.anamnesisref02_Right v1 = some r) :
  wpF Try.prog ora wm 41 [.agg #[.bool v1.Char, v2, v3]] H (fun res H => res = .bool r ∧ Kn wm H [] Fr) := by
 unfold M.anamnesisref02_Right at h0
 refine f_enter (n := 78) Try.func41 rfl (by simp) hI rfl rfl rfl fun tm hS => ?_
 clear hI
 refine c_reg fun R hR => ?_
 refine o_box hS (.inl rfl) rfl rfl rfl (all_cons rfl (all_cons (hS.one (k := 0) rfl (.inl rfl)) (all_cons (hS.one (k := 1) rfl (.inl rfl)) all_nil))) ?_; clear hS
 intro b1 tm H hS
 refine pp1 hS rfl rfl ?_; clear hS
 intro tm hS
 refine o_nil (hR _ _ ?_)
 clear hR R
 refine cr1 hS rfl rfl ?_; clear hS
 intro tm hS
 refine c_seqS ?_
 refine c_reg fun R hR => ?_
 refine pp1 hS rfl rfl ?_; clear hS
 intro tm hS
 refine o_ld1 (k := 0) hS (.inl rfl) rfl rfl rfl (.inl rfl) Fu22 rfl rfl ?_; clear hS
 intro tm hS
 refine o_len (k := 1) (r := (rI .i64)) hS (.inl rfl) rfl rfl rfl (.inl rfl) Fu22 rfl ?_; clear hS
 intro tm hS
 refine pp1 hS rfl rfl ?_; clear hS
 intro tm hS
 refine o_nil (hR _ _ ?_)
 clear hR R
 refine c_cond hS rfl (fun hc => ?_) (fun hc => ?_)
 ·replace h0 := iteT hc h0
  refine cr1 hS rfl rfl ?_; clear hS
  intro tm hS
  refine wpC.ret ?_
  obtain rfl := Option.some.inj h0
  refine Exists.intro _ (And.intro (rs_tmp hS rfl rs_nil) ?_)
  have hI := hS.inv
  exact ⟨rfl, (hI.sub sn)⟩
 ·replace h0 := iteF hc h0
  refine wpC.skip ?_
  refine c_seqS ?_
  refine cr1 hS rfl rfl ?_; clear hS
  intro tm hS
  obtain ⟨k1, hw1, h0⟩ := bindS h0
  refine wpC.block ?_
  refine c_loop (I := fun (s : Int × Int) tm H => match (generalizing := false) s with | (size1, i1) => S wm 78 tm H [(1, .pointer (some ⟨b1, 0, none⟩)), (3, .int .i64 size1), (4, .int .i64 i1)] [.box b1 [.bool v1.Char, v2, v3], .fz (rI .i64) v2 v1.Shape, .fz (rI .i64) v3 v1.Data] Fr) hw1 (by change S wm 78 _ _ _ _ Fr; exact hS.keep (k3 rfl rfl rfl) (fun hI => (hI.sub (sc (sc (sc sn)))))) ?_
  clear hS
  intro s1 tm H c1 hS h1 hq1
  obtain ⟨size1, i1⟩ := s1
  change S wm 78 tm H [(1, .pointer (some ⟨b1, 0, none⟩)), (3, .int .i64 size1), (4, .int .i64 i1)] [.box b1 [.bool v1.Char, v2, v3], .fz (rI .i64) v2 v1.Shape, .fz (rI .i64) v3 v1.Data] Fr at hS
  refine c_seqS ?_
  refine c_reg fun R hR => ?_
  refine pp2 hS rfl rfl rfl rfl ?_; clear hS
  intro tm hS
  refine o_ld1 (k := 0) hS (.inl rfl) rfl rfl rfl (.inl rfl) Fu22 rfl rfl ?_; clear hS
  intro tm hS
  refine o_len (k := 1) (r := (rI .i64)) hS (.inl rfl) rfl rfl rfl (.inl rfl) Fu22 rfl ?_; clear hS
  intro tm hS
  refine pp1 hS rfl rfl ?_; clear hS
  intro tm hS
  refine o_nil (hR _ _ ?_)
  clear hR R
  refine c_cond hS rfl (fun hc => ?_) (fun hc => ?_)
  ·replace h1 := iteT hc h1
   refine wpC.skip ?_
   refine c_seqS ?_
   refine wpC.block ?_
   refine c_seqS ?_
   refine c_reg fun R hR => ?_
   refine pp1 hS rfl rfl ?_; clear hS
   intro tm hS
   refine o_ld1 (k := 0) hS (.inl rfl) rfl rfl rfl (.inl rfl) Fu22 rfl rfl ?_; clear hS
   intro tm hS
   refine pp1 hS rfl rfl ?_; clear hS
   intro tm hS
   obtain ⟨y1, hx1, h1⟩ := bindS h1
   refine o_ixA (k := 1) (r := (rI .i64)) hS (.inl rfl) rfl rfl rfl rfl (.inl rfl) Fu22 Fs3 hx1 ?_; clear hS
   intro tm hS
   refine o_ldF (r := (rI .i64)) (k := 1) hS (.inl rfl) rfl rfl rfl (.inl rfl) hx1 Fu3 rfl (flat_I _) rfl ?_; clear hS
   intro tm hS
   refine pp2 hS rfl rfl rfl rfl ?_; clear hS
   intro tm hS
   obtain ⟨c2, hc1, h1⟩ := bindS h1
   refine o_cutN 7 (J := fun tm H => S wm 78 tm H [(31, .bool c2), (1, .pointer (some ⟨b1, 0, none⟩)), (3, .int .i64 size1), (4, .int .i64 i1)] [.box b1 [.bool v1.Char, v2, v3], .fz (rI .i64) v2 v1.Shape, .fz (rI .i64) v3 v1.Data] Fr) ?_ ?_
   ·rcases Bool.eq_false_or_eq_true (decide (y1 < 0)) with hg1 | hg1
    ·replace hc1 := iteT hg1 hc1
     refine o_skip hS rfl rfl rfl hg1 ?_; clear hS
     intro tm hS
     refine o_skip hS rfl rfl rfl hg1 ?_; clear hS
     intro tm hS
     refine o_skip hS rfl rfl rfl hg1 ?_; clear hS
     intro tm hS
     refine o_skip hS rfl rfl rfl hg1 ?_; clear hS
     intro tm hS
     refine o_skip hS rfl rfl rfl hg1 ?_; clear hS
     intro tm hS
     refine o_skip hS rfl rfl rfl hg1 ?_; clear hS
     intro tm hS
     refine o_pickT hS (.inl rfl) rfl rfl hg1 rfl ?_; clear hS
     intro tm hS
     obtain rfl := Option.some.inj hc1
     exact o_nil (hS.keep (k4 rfl rfl rfl rfl) (fun hI => (hI.sub (sc (sc (sc sn))))))
    ·replace hc1 := iteF hg1 hc1
     refine o_pure hS (.inr ⟨_, _, _, _, rfl, rfl, rfl, hg1⟩) rfl rfl ?_; clear hS
     intro tm hS
     refine o_ld1 (k := 0) hS (.inr ⟨_, _, _, _, rfl, rfl, rfl, hg1⟩) rfl rfl rfl (.inl rfl) Fu22 rfl rfl ?_; clear hS
     intro tm hS
     refine o_pure hS (.inr ⟨_, _, _, _, rfl, rfl, rfl, hg1⟩) rfl rfl ?_; clear hS
     intro tm hS
     obtain ⟨y2, hx2, hc1⟩ := bindS hc1
     refine o_ixA (k := 1) (r := (rI .i64)) hS (.inr ⟨_, _, _, _, rfl, rfl, rfl, hg1⟩) rfl rfl rfl rfl (.inl rfl) Fu22 Fs3 hx2 ?_; clear hS
     intro tm hS
     refine o_ldF (r := (rI .i64)) (k := 1) hS (.inr ⟨_, _, _, _, rfl, rfl, rfl, hg1⟩) rfl rfl rfl (.inl rfl) hx2 Fu3 rfl (flat_I _) rfl ?_; clear hS
     intro tm hS
     refine o_pure hS (.inr ⟨_, _, _, _, rfl, rfl, rfl, hg1⟩) rfl rfl ?_; clear hS
     intro tm hS
     refine o_pickF hS (.inl rfl) rfl rfl hg1 rfl ?_; clear hS
     intro tm hS
     obtain rfl := Option.some.inj hc1
     exact o_nil (hS.keep (k4 rfl rfl rfl rfl) (fun hI => (hI.sub (sc (sc (sc sn))))))
   intro tm H hS
   refine o_nil (hR _ _ ?_)
   clear hR R
   refine c_cond hS rfl (fun hc => ?_) (fun hc => ?_)
   ·replace h1 := iteT hc h1
    refine cr1 hS rfl rfl ?_; clear hS
    intro tm hS
    refine wpC.ret ?_
    obtain rfl := Option.some.inj h1
    obtain rfl := hq1 _ rfl
    refine And.intro rfl ?_
    obtain rfl := leave h0
    refine Exists.intro _ (And.intro (rs_tmp hS rfl rs_nil) ?_)
    have hI := hS.inv
    exact ⟨rfl, (hI.sub sn)⟩
   ·replace h1 := iteF hc h1
    refine wpC.skip ?_
    refine c_reg1 fun R hR => ?_
    refine pp2 hS rfl rfl rfl rfl ?_; clear hS
    intro tm hS
    refine o_ld1 (k := 0) hS (.inl rfl) rfl rfl rfl (.inl rfl) Fu22 rfl rfl ?_; clear hS
    intro tm hS
    refine pp1 hS rfl rfl ?_; clear hS
    intro tm hS
    obtain ⟨y3, hx3, h1⟩ := bindS h1
    refine o_ixA (k := 1) (r := (rI .i64)) hS (.inl rfl) rfl rfl rfl rfl (.inl rfl) Fu22 Fs3 hx3 ?_; clear hS
    intro tm hS
    refine o_ldF (r := (rI .i64)) (k := 1) hS (.inl rfl) rfl rfl rfl (.inl rfl) hx3 Fu3 rfl (flat_I _) rfl ?_; clear hS
    intro tm hS
    refine pp2 hS rfl rfl rfl rfl ?_; clear hS
    intro tm hS
    refine o_nil (hR _ _ ?_)
    clear hR R
    refine cs3 hS rfl rfl rfl rfl rfl rfl ?_; clear hS
    intro tm hS
    obtain rfl := Option.some.inj h1
    refine ⟨_, rfl, ?_⟩
    change S wm 78 _ _ _ _ Fr; exact hS.keep (k3 rfl rfl rfl) (fun hI => (hI.sub (sc (sc (sc sn)))))
  ·replace h1 := iteF hc h1
   refine wpC.exit ?_
   refine seqX ?_
   obtain rfl := Option.some.inj h1
   obtain rfl := hq1 _ rfl
   refine And.intro rfl (blk_eq ?_)
   replace h0 := joinN h0
   refine c_seqS ?_
   refine cr1 hS rfl rfl ?_; clear hS
   intro tm hS
   obtain ⟨k2, hw2, h0⟩ := bindS h0
   refine wpC.block ?_
   refine c_loop (I := fun (s : Int) tm H => match (generalizing := false) s with | i2 => S wm 78 tm H [(1, .pointer (some ⟨b1, 0, none⟩)), (3, .int .i64 size1), (5, .int .i64 i2)] [.box b1 [.bool v1.Char, v2, v3], .fz (rI .i64) v2 v1.Shape, .fz (rI .i64) v3 v1.Data] Fr) hw2 (by change S wm 78 _ _ _ _ Fr; exact hS.keep (k3 rfl rfl rfl) (fun hI => (hI.sub (sc (sc (sc sn)))))) ?_
   clear hS
   intro i2 tm H c3 hS h3 hq3
   change S wm 78 tm H [(1, .pointer (some ⟨b1, 0, none⟩)), (3, .int .i64 size1), (5, .int .i64 i2)] [.box b1 [.bool v1.Char, v2, v3], .fz (rI .i64) v2 v1.Shape, .fz (rI .i64) v3 v1.Data] Fr at hS
   refine c_seqS ?_
   refine c_reg fun R hR => ?_
   refine pp2 hS rfl rfl rfl rfl ?_; clear hS
   intro tm hS
   refine o_ld1 (k := 0) hS (.inl rfl) rfl rfl rfl (.inl rfl) Fu23 rfl rfl ?_; clear hS
   intro tm hS
   refine o_len (k := 2) (r := (rI .i64)) hS (.inl rfl) rfl rfl rfl (.inl rfl) Fu23 rfl ?_; clear hS
   intro tm hS
   refine pp2 hS rfl rfl rfl rfl ?_; clear hS
   intro tm hS
   obtain ⟨c4, hc2⟩ : ∃ x : Bool, x = ((decide (i2 < (v1.Data.length : Int))) && v1.Char) := ⟨_, rfl⟩
   refine o_cutN 3 (J := fun tm H => S wm 78 tm H [(47, .bool c4), (1, .pointer (some ⟨b1, 0, none⟩)), (3, .int .i64 size1), (5, .int .i64 i2)] [.box b1 [.bool v1.Char, v2, v3], .fz (rI .i64) v2 v1.Shape, .fz (rI .i64) v3 v1.Data] Fr) ?_ ?_
   ·rcases Bool.eq_false_or_eq_true (decide (i2 < (v1.Data.length : Int))) with hg2 | hg2
    ·refine o_pure hS (.inr ⟨_, _, _, _, rfl, rfl, rfl, hg2⟩) rfl rfl ?_; clear hS
     intro tm hS
     refine o_ld1 (k := 0) hS (.inr ⟨_, _, _, _, rfl, rfl, rfl, hg2⟩) rfl rfl rfl (.inl rfl) Fu4 rfl rfl ?_; clear hS
     intro tm hS
     refine o_pickT hS (.inl rfl) rfl rfl hg2 rfl ?_; clear hS
     intro tm hS
     have hc2 : c4 = v1.Char := hc2.trans (by rw [hg2]; first | rfl | simp)
     subst hc2
     exact o_nil (hS.keep (k4 rfl rfl rfl rfl) (fun hI => (hI.sub (sc (sc (sc sn))))))
    ·refine o_skip hS rfl rfl rfl hg2 ?_; clear hS
     intro tm hS
     refine o_skip hS rfl rfl rfl hg2 ?_; clear hS
     intro tm hS
     refine o_pickF hS (.inl rfl) rfl rfl hg2 rfl ?_; clear hS
     intro tm hS
     have hc2 : c4 = false := hc2.trans (by rw [hg2]; first | rfl | simp)
     subst hc2
     exact o_nil (hS.keep (k4 rfl rfl rfl rfl) (fun hI => (hI.sub (sc (sc (sc sn))))))
   intro tm H hS
   subst hc2
   refine o_nil (hR _ _ ?_)
   clear hR R
   refine c_cond hS rfl (fun hc => ?_) (fun hc => ?_)
   ·replace h3 := iteT hc h3
    refine wpC.skip ?_
    refine c_seqS ?_
    refine wpC.block ?_
    refine c_reg fun R hR => ?_
    refine pp1 hS rfl rfl ?_; clear hS
    intro tm hS
    refine o_ld1 (k := 0) hS (.inl rfl) rfl rfl rfl (.inl rfl) Fu23 rfl rfl ?_; clear hS
    intro tm hS
    refine pp1 hS rfl rfl ?_; clear hS
    intro tm hS
    obtain ⟨y4, hx4, h3⟩ := bindS h3
    refine o_ixA (k := 2) (r := (rI .i64)) hS (.inl rfl) rfl rfl rfl rfl (.inl rfl) Fu23 Fs2 hx4 ?_; clear hS
    intro tm hS
    refine o_ldF (r := (rI .i64)) (k := 2) hS (.inl rfl) rfl rfl rfl (.inl rfl) hx4 Fu2 rfl (flat_I _) rfl ?_; clear hS
    intro tm hS
    refine pp1 hS rfl rfl ?_; clear hS
    intro tm hS
    refine o_nil (hR _ _ ?_)
    clear hR R
    refine c_reg fun R hR => ?_
    refine pp3 hS rfl rfl rfl rfl rfl rfl ?_; clear hS
    intro tm hS
    obtain ⟨c5, hc3⟩ : ∃ x : Bool, x = ((decide (y4 < 0)) || (decide (y4 > 1114111))) := ⟨_, rfl⟩
    refine o_cutN 3 (J := fun tm H => S wm 78 tm H [(60, .bool c5), (1, .pointer (some ⟨b1, 0, none⟩)), (3, .int .i64 size1), (5, .int .i64 i2), (6, .int .i64 y4)] [.box b1 [.bool v1.Char, v2, v3], .fz (rI .i64) v2 v1.Shape, .fz (rI .i64) v3 v1.Data] Fr) ?_ ?_
    ·rcases Bool.eq_false_or_eq_true (decide (y4 < 0)) with hg3 | hg3
     ·refine o_skip hS rfl rfl rfl hg3 ?_; clear hS
      intro tm hS
      refine o_skip hS rfl rfl rfl hg3 ?_; clear hS
      intro tm hS
      refine o_pickT hS (.inl rfl) rfl rfl hg3 rfl ?_; clear hS
      intro tm hS
      have hc3 : c5 = true := hc3.trans (by rw [hg3]; first | rfl | simp)
      subst hc3
      exact o_nil (hS.keep (k5 rfl rfl rfl rfl rfl) (fun hI => (hI.sub (sc (sc (sc sn))))))
     ·refine o_pure hS (.inr ⟨_, _, _, _, rfl, rfl, rfl, hg3⟩) rfl rfl ?_; clear hS
      intro tm hS
      refine o_pure hS (.inr ⟨_, _, _, _, rfl, rfl, rfl, hg3⟩) rfl rfl ?_; clear hS
      intro tm hS
      refine o_pickF hS (.inl rfl) rfl rfl hg3 rfl ?_; clear hS
      intro tm hS
      have hc3 : c5 = (decide (y4 > 1114111)) := hc3.trans (by rw [hg3]; first | rfl | simp)
      subst hc3
      exact o_nil (hS.keep (k5 rfl rfl rfl rfl rfl) (fun hI => (hI.sub (sc (sc (sc sn))))))
    intro tm H hS
    subst hc3
    refine pp1 hS rfl rfl ?_; clear hS
    intro tm hS
    obtain ⟨c6, hc4⟩ : ∃ x : Bool, x = (((decide (y4 < 0)) || (decide (y4 > 1114111))) || ((decide (y4 ≥ 55296)) && (decide (y4 ≤ 57343)))) := ⟨_, rfl⟩
    refine o_cutN 7 (J := fun tm H => S wm 78 tm H [(68, .bool c6), (1, .pointer (some ⟨b1, 0, none⟩)), (3, .int .i64 size1), (5, .int .i64 i2)] [.box b1 [.bool v1.Char, v2, v3], .fz (rI .i64) v2 v1.Shape, .fz (rI .i64) v3 v1.Data] Fr) ?_ ?_
    ·rcases Bool.eq_false_or_eq_true ((decide (y4 < 0)) || (decide (y4 > 1114111))) with hg4 | hg4
     ·refine o_skip hS rfl rfl rfl hg4 ?_; clear hS
      intro tm hS
      refine o_skip hS rfl rfl rfl hg4 ?_; clear hS
      intro tm hS
      refine o_skip hS rfl rfl rfl hg4 ?_; clear hS
      intro tm hS
      refine o_skipU hS rfl rfl rfl ?_; clear hS
      intro tm hS
      refine o_skipU hS rfl rfl rfl ?_; clear hS
      intro tm hS
      refine o_skip hS rfl rfl rfl hg4 ?_; clear hS
      intro tm hS
      refine o_pickT hS (.inl rfl) rfl rfl hg4 rfl ?_; clear hS
      intro tm hS
      have hc4 : c6 = true := hc4.trans (by rw [hg4]; first | rfl | simp)
      subst hc4
      exact o_nil (hS.keep (k4 rfl rfl rfl rfl) (fun hI => (hI.sub (sc (sc (sc sn))))))
     ·refine o_pure hS (.inr ⟨_, _, _, _, rfl, rfl, rfl, hg4⟩) rfl rfl ?_; clear hS
      intro tm hS
      refine o_pure hS (.inr ⟨_, _, _, _, rfl, rfl, rfl, hg4⟩) rfl rfl ?_; clear hS
      intro tm hS
      refine o_pure hS (.inr ⟨_, _, _, _, rfl, rfl, rfl, hg4⟩) rfl rfl ?_; clear hS
      intro tm hS
      obtain ⟨c7, hc5⟩ : ∃ x : Bool, x = ((decide (y4 ≥ 55296)) && (decide (y4 ≤ 57343))) := ⟨_, rfl⟩
      refine o_cutN 3 (J := fun tm H => S wm 78 tm H [(67, .bool c7), (1, .pointer (some ⟨b1, 0, none⟩)), (3, .int .i64 size1), (5, .int .i64 i2), (61, .bool ((decide (y4 < 0)) || (decide (y4 > 1114111)))), (62, .int .i64 y4), (63, .bool (decide (y4 ≥ 55296))), (64, .bool (decide (y4 ≥ 55296)))] [.box b1 [.bool v1.Char, v2, v3], .fz (rI .i64) v2 v1.Shape, .fz (rI .i64) v3 v1.Data] Fr) ?_ ?_
      ·rcases Bool.eq_false_or_eq_true (decide (y4 ≥ 55296)) with hg5 | hg5
       ·refine o_pure hS (.inr ⟨_, _, _, _, rfl, rfl, rfl, hg5⟩) rfl rfl ?_; clear hS
        intro tm hS
        refine o_pure hS (.inr ⟨_, _, _, _, rfl, rfl, rfl, hg5⟩) rfl rfl ?_; clear hS
        intro tm hS
        refine o_pickT hS (.inr ⟨_, _, _, _, rfl, rfl, rfl, hg4⟩) rfl rfl hg5 rfl ?_; clear hS
        intro tm hS
        have hc5 : c7 = (decide (y4 ≤ 57343)) := hc5.trans (by rw [hg5]; first | rfl | simp)
        subst hc5
        exact o_nil (hS.keep (k8 rfl rfl rfl rfl rfl rfl rfl rfl) (fun hI => (hI.sub (sc (sc (sc sn))))))
       ·refine o_skip hS rfl rfl rfl hg5 ?_; clear hS
        intro tm hS
        refine o_skip hS rfl rfl rfl hg5 ?_; clear hS
        intro tm hS
        refine o_pickF hS (.inr ⟨_, _, _, _, rfl, rfl, rfl, hg4⟩) rfl rfl hg5 rfl ?_; clear hS
        intro tm hS
        have hc5 : c7 = false := hc5.trans (by rw [hg5]; first | rfl | simp)
        subst hc5
        exact o_nil (hS.keep (k8 rfl rfl rfl rfl rfl rfl rfl rfl) (fun hI => (hI.sub (sc (sc (sc sn))))))
      intro tm H hS
      subst hc5
      refine o_pickF hS (.inl rfl) rfl rfl hg4 rfl ?_; clear hS
      intro tm hS
      have hc4 : c6 = ((decide (y4 ≥ 55296)) && (decide (y4 ≤ 57343))) := hc4.trans (by rw [hg4]; first | rfl | simp)
      subst hc4
      exact o_nil (hS.keep (k4 rfl rfl rfl rfl) (fun hI => (hI.sub (sc (sc (sc sn))))))
    intro tm H hS
    subst hc4
    refine o_nil (hR _ _ ?_)
    clear hR R
    refine c_cond hS rfl (fun hc => ?_) (fun hc => ?_)
    ·replace h3 := iteT hc h3
     refine cr1 hS rfl rfl ?_; clear hS
     intro tm hS
     refine wpC.ret ?_
     obtain rfl := Option.some.inj h3
     obtain rfl := hq3 _ rfl
     refine And.intro rfl ?_
     obtain rfl := leave h0
     refine Exists.intro _ (And.intro (rs_tmp hS rfl rs_nil) ?_)
     have hI := hS.inv
     exact ⟨rfl, (hI.sub sn)⟩
    ·replace h3 := iteF hc h3
     refine wpC.skip ?_
     refine cs3 hS rfl rfl rfl rfl rfl rfl ?_; clear hS
     intro tm hS
     obtain rfl := Option.some.inj h3
     refine ⟨_, rfl, ?_⟩
     change S wm 78 _ _ _ _ Fr; exact hS.keep (k3 rfl rfl rfl) (fun hI => (hI.sub (sc (sc (sc sn)))))
   ·replace h3 := iteF hc h3
    refine wpC.exit ?_
    refine seqX ?_
    obtain rfl := Option.some.inj h3
    obtain rfl := hq3 _ rfl
    refine And.intro rfl (blk_eq ?_)
    replace h0 := joinN h0
    refine c_reg fun R hR => ?_
    refine pp2 hS rfl rfl rfl rfl ?_; clear hS
    intro tm hS
    refine o_ld1 (k := 0) hS (.inl rfl) rfl rfl rfl (.inl rfl) Fu23 rfl rfl ?_; clear hS
    intro tm hS
    refine o_len (k := 2) (r := (rI .i64)) hS (.inl rfl) rfl rfl rfl (.inl rfl) Fu23 rfl ?_; clear hS
    intro tm hS
    refine pp2 hS rfl rfl rfl rfl ?_; clear hS
    intro tm hS
    obtain ⟨c8, hc6⟩ : ∃ x : Bool, x = ((size1 == (v1.Data.length : Int)) && (decide (size1 ≤ 10000))) := ⟨_, rfl⟩
    refine o_cutN 3 (J := fun tm H => S wm 78 tm H [(77, .bool c8)] [] Fr) ?_ ?_
    ·rcases Bool.eq_false_or_eq_true (size1 == (v1.Data.length : Int)) with hg6 | hg6
     ·refine o_pure hS (.inr ⟨_, _, _, _, rfl, rfl, rfl, hg6⟩) rfl rfl ?_; clear hS
      intro tm hS
      refine o_pure hS (.inr ⟨_, _, _, _, rfl, rfl, rfl, hg6⟩) rfl rfl ?_; clear hS
      intro tm hS
      refine o_pickT hS (.inl rfl) rfl rfl hg6 rfl ?_; clear hS
      intro tm hS
      have hc6 : c8 = (decide (size1 ≤ 10000)) := hc6.trans (by rw [hg6]; first | rfl | simp)
      subst hc6
      exact o_nil (hS.keep (ka_cons rfl ka_nil) (fun hI => (hI.sub sn)))
     ·refine o_skip hS rfl rfl rfl hg6 ?_; clear hS
      intro tm hS
      refine o_skip hS rfl rfl rfl hg6 ?_; clear hS
      intro tm hS
      refine o_pickF hS (.inl rfl) rfl rfl hg6 rfl ?_; clear hS
      intro tm hS
      have hc6 : c8 = false := hc6.trans (by rw [hg6]; first | rfl | simp)
      subst hc6
      exact o_nil (hS.keep (ka_cons rfl ka_nil) (fun hI => (hI.sub sn)))
    intro tm H hS
    subst hc6
    refine pp1 hS rfl rfl ?_; clear hS
    intro tm hS
    refine o_nil (hR _ _ ?_)
    clear hR R
    refine wpC.ret ?_
    obtain rfl := Option.some.inj h0
    refine Exists.intro _ (And.intro (rs_tmp hS rfl rs_nil) ?_)
    have hI := hS.inv
    exact ⟨rfl, (hI.sub sn)⟩
theorem wk72 {wm : Nat} {H : AHeap} {Fr : List Ent} (ho72 : ora 72 = false)    (hI : Kn wm H [] Fr) {r : (List ByteArray)} (h0 : M.anamnesisref01_Dyads = some r) :
  wpF Try.prog ora wm 72 [] H (fun res H => ∃ v2, res = v2 ∧ Kn wm H [.own rS v2 r] Fr) := by
 unfold M.anamnesisref01_Dyads at h0
 refine f_enter (n := 2) Try.func72 rfl (by simp [ho72]) hI rfl rfl rfl fun tm hS => ?_
 clear hI
 refine cr1 hS rfl rfl ?_; clear hS
 intro tm hS
 refine c_reg fun R hR => ?_
 refine o_lit (r := rS) (l := [str_43, str_45, str_195_151, str_195_183, str_42, str_124, str_33, str_226_140_136, str_226_140_138, str_60, str_226_137_164, str_61, str_226_137_165, str_62, str_226_137_160, str_226_136_167, str_226_136_168, str_226_141_178, str_226_141_177]) hS (.inl rfl) rfl Fl28 rfl rfl rfl (.cons rfl (.cons rfl (.cons rfl (.cons rfl (.cons rfl (.cons rfl (.cons rfl (.cons rfl (.cons rfl (.cons rfl (.cons rfl (.cons rfl (.cons rfl (.cons rfl (.cons rfl (.cons rfl (.cons rfl (.cons rfl (.cons rfl .nil))))))))))))))))))) rfl rfl (ri_1 (rd_flat fun _ => rfl) (ri_1 (rd_flat fun _ => rfl) (ri_1 (rd_flat fun _ => rfl) (ri_1 (rd_flat fun _ => rfl) (ri_1 (rd_flat fun _ => rfl) (ri_1 (rd_flat fun _ => rfl) (ri_1 (rd_flat fun _ => rfl) (ri_1 (rd_flat fun _ => rfl) (ri_1 (rd_flat fun _ => rfl) (ri_1 (rd_flat fun _ => rfl) (ri_1 (rd_flat fun _ => rfl) (ri_1 (rd_flat fun _ => rfl) (ri_1 (rd_flat fun _ => rfl) (ri_1 (rd_flat fun _ => rfl) (ri_1 (rd_flat fun _ => rfl) (ri_1 (rd_flat fun _ => rfl) (ri_1 (rd_flat fun _ => rfl) (ri_1 (rd_flat fun _ => rfl) (ri_1 (rd_flat fun _ => rfl) ri_nil))))))))))))))))))) rfl ?_; clear hS
 intro v1 tm H hS
 refine pp1 hS rfl rfl ?_; clear hS
 intro tm hS
 refine o_nil (hR _ _ ?_)
 clear hR R
 refine wpC.ret ?_
 obtain rfl := Option.some.inj h0
 replace hS := hS.litOwn (k := 0) rfl
 refine Exists.intro _ (And.intro (rs_tmp hS rfl rs_nil) ?_)
 have hI := hS.inv
 exact ⟨v1, rfl, (hI.sub (sc sn))⟩
theorem wk71 {wm : Nat} {H : AHeap} {Fr : List Ent}  (l1 : (List ByteArray)) (fn1 : ByteArray)  (v1 : Value) (hI : Kn wm H [.fz rS v1 l1] Fr) {r : Bool} (h0 : M.anamnesisref01_In l1 fn1 = some r) :
  wpF Try.prog ora wm 71 [v1, .string fn1] H (fun res H => res = .bool r ∧ Kn wm H [] Fr) := by
 unfold M.anamnesisref01_In at h0
 refine f_enter (n := 18) Try.func71 rfl (by simp) hI rfl rfl rfl fun tm hS => ?_
 clear hI
 refine cr1 hS rfl rfl ?_; clear hS
 intro tm hS
 refine c_seqS ?_
 refine cr1 hS rfl rfl ?_; clear hS
 intro tm hS
 obtain ⟨k1, hw1, h0⟩ := bindS h0
 refine wpC.block ?_
 refine c_loop (I := fun (s : Int) tm H => match (generalizing := false) s with | i1 => S wm 18 tm H [(0, v1), (1, .string fn1), (5, .int .i64 i1)] [.fz rS v1 l1] Fr) hw1 (by change S wm 18 _ _ _ _ Fr; exact hS.keep (k3 rfl rfl rfl) (fun hI => (hI.sub (sc sn)))) ?_
 clear hS
 intro i1 tm H c1 hS h1 hq1
 change S wm 18 tm H [(0, v1), (1, .string fn1), (5, .int .i64 i1)] [.fz rS v1 l1] Fr at hS
 refine c_seqS ?_
 refine c_reg fun R hR => ?_
 refine pp2 hS rfl rfl rfl rfl ?_; clear hS
 intro tm hS
 refine o_len (k := 0) (r := rS) hS (.inl rfl) rfl rfl rfl (.inl rfl) Fu28 rfl ?_; clear hS
 intro tm hS
 refine pp1 hS rfl rfl ?_; clear hS
 intro tm hS
 refine o_nil (hR _ _ ?_)
 clear hR R
 refine c_cond hS rfl (fun hc => ?_) (fun hc => ?_)
 ·replace h1 := iteT hc h1
  refine wpC.skip ?_
  refine c_seqS ?_
  refine wpC.block ?_
  refine c_reg fun R hR => ?_
  refine pp2 hS rfl rfl rfl rfl ?_; clear hS
  intro tm hS
  obtain ⟨y1, hx1, h1⟩ := bindS h1
  refine o_ixA (k := 0) (r := rS) hS (.inl rfl) rfl rfl rfl rfl (.inl rfl) Fu28 Fs9 hx1 ?_; clear hS
  intro tm hS
  refine o_ldF (r := rS) (k := 0) hS (.inl rfl) rfl rfl rfl (.inl rfl) hx1 Fu9 rfl flat_S rfl ?_; clear hS
  intro tm hS
  refine pp2 hS rfl rfl rfl rfl ?_; clear hS
  intro tm hS
  refine o_nil (hR _ _ ?_)
  clear hR R
  refine c_cond hS rfl (fun hc => ?_) (fun hc => ?_)
  ·replace h1 := iteT hc h1
   refine cr1 hS rfl rfl ?_; clear hS
   intro tm hS
   refine wpC.ret ?_
   obtain rfl := Option.some.inj h1
   obtain rfl := hq1 _ rfl
   refine And.intro rfl ?_
   obtain rfl := leave h0
   refine Exists.intro _ (And.intro (rs_tmp hS rfl rs_nil) ?_)
   have hI := hS.inv
   exact ⟨rfl, (hI.sub sn)⟩
  ·replace h1 := iteF hc h1
   refine wpC.skip ?_
   refine cs3 hS rfl rfl rfl rfl rfl rfl ?_; clear hS
   intro tm hS
   obtain rfl := Option.some.inj h1
   refine ⟨_, rfl, ?_⟩
   change S wm 18 _ _ _ _ Fr; exact hS.keep (k3 rfl rfl rfl) (fun hI => (hI.sub (sc sn)))
 ·replace h1 := iteF hc h1
  refine wpC.exit ?_
  refine seqX ?_
  obtain rfl := Option.some.inj h1
  obtain rfl := hq1 _ rfl
  refine And.intro rfl (blk_eq ?_)
  replace h0 := joinN h0
  refine cr1 hS rfl rfl ?_; clear hS
  intro tm hS
  refine wpC.ret ?_
  obtain rfl := Option.some.inj h0
  refine Exists.intro _ (And.intro (rs_tmp hS rfl rs_nil) ?_)
  have hI := hS.inv
  exact ⟨rfl, (hI.sub sn)⟩
theorem wk42 {wm : Nat} {H : AHeap} {Fr : List Ent} (ho72 : ora 72 = false) (fn1 : ByteArray)   (hI : Kn wm H [] Fr) {r : Bool} (h0 : M.anamnesisref12_known fn1 = some r) :
  wpF Try.prog ora wm 42 [.string fn1] H (fun res H => res = .bool r ∧ Kn wm H [] Fr) := by
 unfold M.anamnesisref12_known at h0
 refine f_enter (n := 6) Try.func42 rfl (by simp) hI rfl rfl rfl fun tm hS => ?_
 clear hI
 refine cr1 hS rfl rfl ?_; clear hS
 intro tm hS
 refine c_reg fun R hR => ?_
 obtain ⟨r1, hx1, h0⟩ := bindS h0
 refine o_call hS (.inl rfl) rfl (fun wm' hw1 hw2 => wk72 ho72    (hS.sel hw2) hx1) (fun wm' res H hw' hp => ?_)
 obtain ⟨v1, hres, hI⟩ := hp
 replace hres := hres.symm; subst hres
 replace hS : S wm 6 _ H ((3, v1) :: _) ([.own rS v1 r1] ++ _) Fr := hS.after rfl hw' hI
 clear hI hw'
 refine pp1 hS rfl rfl ?_; clear hS
 intro tm hS
 obtain ⟨r2, hx2, h0⟩ := bindS h0
 refine o_call (Pc := fun _ res H => res = .bool r2 ∧ Kn wm H ([.own rS v1 r1]) Fr) hS (.inl rfl) rfl (fun wm' hw1 hw2 => by
  obtain ⟨F2, kk_1, kk_2⟩ := hS.inv.lend (La := [.fz rS v1 r1]) (List.forall_mem_cons.mpr ⟨(.inr ⟨_, _, _, _, rfl, .inl (List.mem_of_getElem? (i := 0) rfl)⟩), (fun _ h => by cases h)⟩) hw1 hw2
  exact (wk71  r1 fn1  v1 kk_1 hx2).mono fun res H2 ⟨qq_1, qq_2⟩ => ⟨qq_1, kk_2 _ qq_2⟩) (fun wm' res H hw' hp => ?_)
 obtain ⟨hres, hI⟩ := hp
 replace hres := hres.symm; subst hres
 replace hS : S wm 6 _ H ((5, .bool r2) :: _) ([.own rS v1 r1]) Fr := (hS.put rfl _).withK hI
 clear hI hw'
 refine pp1 hS rfl rfl ?_; clear hS
 intro tm hS
 refine o_nil (hR _ _ ?_)
 clear hR R
 refine wpC.ret ?_
 obtain rfl := Option.some.inj h0
 refine Exists.intro _ (And.intro (rs_tmp hS rfl rs_nil) ?_)
 have hI := hS.inv
 exact ⟨rfl, (hI.sub sn)⟩
theorem wk43 {wm : Nat} {H : AHeap} {Fr : List Ent}  (s1 : (List Int))  (v1 : Value) (hI : Kn wm H [.fz (rI .i64) v1 s1] Fr) {r : Int} (h0 : M.anamnesisref07_Size s1 = some r) :
  wpF Try.prog ora wm 43 [v1] H (fun res H => res = .int .i64 r ∧ Kn wm H [] Fr) := by
 unfold M.anamnesisref07_Size at h0
 refine f_enter (n := 35) Try.func43 rfl (by simp) hI rfl rfl rfl fun tm hS => ?_
 clear hI
 refine cr1 hS rfl rfl ?_; clear hS
 intro tm hS
 refine c_seqS ?_
 refine c_reg fun R hR => ?_
 refine pp1 hS rfl rfl ?_; clear hS
 intro tm hS
 refine o_len (k := 0) (r := (rI .i64)) hS (.inl rfl) rfl rfl rfl (.inl rfl) Fu22 rfl ?_; clear hS
 intro tm hS
 refine pp1 hS rfl rfl ?_; clear hS
 intro tm hS
 refine o_nil (hR _ _ ?_)
 clear hR R
 refine c_cond hS rfl (fun hc => ?_) (fun hc => ?_)
 ·replace h0 := iteT hc h0
  refine cr1 hS rfl rfl ?_; clear hS
  intro tm hS
  refine wpC.ret ?_
  obtain rfl := Option.some.inj h0
  refine Exists.intro _ (And.intro (rs_tmp hS rfl rs_nil) ?_)
  have hI := hS.inv
  exact ⟨rfl, (hI.sub sn)⟩
 ·replace h0 := iteF hc h0
  refine wpC.skip ?_
  refine cr1 hS rfl rfl ?_; clear hS
  intro tm hS
  refine c_seqS ?_
  refine cr1 hS rfl rfl ?_; clear hS
  intro tm hS
  obtain ⟨k1, hw1, h0⟩ := bindS h0
  refine wpC.block ?_
  refine c_loop (I := fun (s : Int × Int) tm H => match (generalizing := false) s with | (size1, i1) => S wm 35 tm H [(0, v1), (3, .int .i64 size1), (4, .int .i64 i1)] [.fz (rI .i64) v1 s1] Fr) hw1 (by change S wm 35 _ _ _ _ Fr; exact hS.keep (k3 rfl rfl rfl) (fun hI => (hI.sub (sc sn)))) ?_
  clear hS
  intro s2 tm H c1 hS h1 hq1
  obtain ⟨size1, i1⟩ := s2
  change S wm 35 tm H [(0, v1), (3, .int .i64 size1), (4, .int .i64 i1)] [.fz (rI .i64) v1 s1] Fr at hS
  refine c_seqS ?_
  refine c_reg fun R hR => ?_
  refine pp2 hS rfl rfl rfl rfl ?_; clear hS
  intro tm hS
  refine o_len (k := 0) (r := (rI .i64)) hS (.inl rfl) rfl rfl rfl (.inl rfl) Fu22 rfl ?_; clear hS
  intro tm hS
  refine pp1 hS rfl rfl ?_; clear hS
  intro tm hS
  refine o_nil (hR _ _ ?_)
  clear hR R
  refine c_cond hS rfl (fun hc => ?_) (fun hc => ?_)
  ·replace h1 := iteT hc h1
   refine wpC.skip ?_
   refine c_seqS ?_
   refine wpC.block ?_
   refine c_seqS ?_
   refine c_reg fun R hR => ?_
   refine pp2 hS rfl rfl rfl rfl ?_; clear hS
   intro tm hS
   obtain ⟨y1, hx1, h1⟩ := bindS h1
   refine o_ixA (k := 0) (r := (rI .i64)) hS (.inl rfl) rfl rfl rfl rfl (.inl rfl) Fu22 Fs3 hx1 ?_; clear hS
   intro tm hS
   refine o_ldF (r := (rI .i64)) (k := 0) hS (.inl rfl) rfl rfl rfl (.inl rfl) hx1 Fu3 rfl (flat_I _) rfl ?_; clear hS
   intro tm hS
   refine pp2 hS rfl rfl rfl rfl ?_; clear hS
   intro tm hS
   obtain ⟨c2, hc1, h1⟩ := bindS h1
   refine o_cutN 6 (J := fun tm H => S wm 35 tm H [(25, .bool c2), (0, v1), (3, .int .i64 size1), (4, .int .i64 i1)] [.fz (rI .i64) v1 s1] Fr) ?_ ?_
   ·rcases Bool.eq_false_or_eq_true (decide (y1 < 0)) with hg1 | hg1
    ·replace hc1 := iteT hg1 hc1
     refine o_skip hS rfl rfl rfl hg1 ?_; clear hS
     intro tm hS
     refine o_skip hS rfl rfl rfl hg1 ?_; clear hS
     intro tm hS
     refine o_skip hS rfl rfl rfl hg1 ?_; clear hS
     intro tm hS
     refine o_skip hS rfl rfl rfl hg1 ?_; clear hS
     intro tm hS
     refine o_skip hS rfl rfl rfl hg1 ?_; clear hS
     intro tm hS
     refine o_pickT hS (.inl rfl) rfl rfl hg1 rfl ?_; clear hS
     intro tm hS
     obtain rfl := Option.some.inj hc1
     exact o_nil (hS.keep (k4 rfl rfl rfl rfl) (fun hI => (hI.sub (sc sn))))
    ·replace hc1 := iteF hg1 hc1
     refine o_pure hS (.inr ⟨_, _, _, _, rfl, rfl, rfl, hg1⟩) rfl rfl ?_; clear hS
     intro tm hS
     refine o_pure hS (.inr ⟨_, _, _, _, rfl, rfl, rfl, hg1⟩) rfl rfl ?_; clear hS
     intro tm hS
     obtain ⟨y2, hx2, hc1⟩ := bindS hc1
     refine o_ixA (k := 0) (r := (rI .i64)) hS (.inr ⟨_, _, _, _, rfl, rfl, rfl, hg1⟩) rfl rfl rfl rfl (.inl rfl) Fu22 Fs3 hx2 ?_; clear hS
     intro tm hS
     refine o_ldF (r := (rI .i64)) (k := 0) hS (.inr ⟨_, _, _, _, rfl, rfl, rfl, hg1⟩) rfl rfl rfl (.inl rfl) hx2 Fu3 rfl (flat_I _) rfl ?_; clear hS
     intro tm hS
     refine o_pure hS (.inr ⟨_, _, _, _, rfl, rfl, rfl, hg1⟩) rfl rfl ?_; clear hS
     intro tm hS
     refine o_pickF hS (.inl rfl) rfl rfl hg1 rfl ?_; clear hS
     intro tm hS
     obtain rfl := Option.some.inj hc1
     exact o_nil (hS.keep (k4 rfl rfl rfl rfl) (fun hI => (hI.sub (sc sn))))
   intro tm H hS
   refine o_nil (hR _ _ ?_)
   clear hR R
   refine c_cond hS rfl (fun hc => ?_) (fun hc => ?_)
   ·replace h1 := iteT hc h1
    refine cr1 hS rfl rfl ?_; clear hS
    intro tm hS
    refine wpC.ret ?_
    obtain rfl := Option.some.inj h1
    obtain rfl := hq1 _ rfl
    refine And.intro rfl ?_
    obtain rfl := leave h0
    refine Exists.intro _ (And.intro (rs_tmp hS rfl rs_nil) ?_)
    have hI := hS.inv
    exact ⟨rfl, (hI.sub sn)⟩
   ·replace h1 := iteF hc h1
    refine wpC.skip ?_
    refine c_reg1 fun R hR => ?_
    refine pp3 hS rfl rfl rfl rfl rfl rfl ?_; clear hS
    intro tm hS
    obtain ⟨y3, hx3, h1⟩ := bindS h1
    refine o_ixA (k := 0) (r := (rI .i64)) hS (.inl rfl) rfl rfl rfl rfl (.inl rfl) Fu22 Fs3 hx3 ?_; clear hS
    intro tm hS
    refine o_ldF (r := (rI .i64)) (k := 0) hS (.inl rfl) rfl rfl rfl (.inl rfl) hx3 Fu3 rfl (flat_I _) rfl ?_; clear hS
    intro tm hS
    refine pp2 hS rfl rfl rfl rfl ?_; clear hS
    intro tm hS
    refine o_nil (hR _ _ ?_)
    clear hR R
    refine cs3 hS rfl rfl rfl rfl rfl rfl ?_; clear hS
    intro tm hS
    obtain rfl := Option.some.inj h1
    refine ⟨_, rfl, ?_⟩
    change S wm 35 _ _ _ _ Fr; exact hS.keep (k3 rfl rfl rfl) (fun hI => (hI.sub (sc sn)))
  ·replace h1 := iteF hc h1
   refine wpC.exit ?_
   refine seqX ?_
   obtain rfl := Option.some.inj h1
   obtain rfl := hq1 _ rfl
   refine And.intro rfl (blk_eq ?_)
   replace h0 := joinN h0
   refine c_seqS ?_
   refine cr2 hS rfl rfl rfl rfl ?_; clear hS
   intro tm hS
   refine c_cond hS rfl (fun hc => ?_) (fun hc => ?_)
   ·replace h0 := iteT hc h0
    refine cr1 hS rfl rfl ?_; clear hS
    intro tm hS
    refine wpC.ret ?_
    obtain rfl := Option.some.inj h0
    refine Exists.intro _ (And.intro (rs_tmp hS rfl rs_nil) ?_)
    have hI := hS.inv
    exact ⟨rfl, (hI.sub sn)⟩
   ·replace h0 := iteF hc h0
    refine wpC.skip ?_
    refine cr2 hS rfl rfl rfl rfl ?_; clear hS
    intro tm hS
    refine wpC.ret ?_
    obtain rfl := Option.some.inj h0
    refine Exists.intro _ (And.intro (rs_tmp hS rfl rs_nil) ?_)
    have hI := hS.inv
    exact ⟨rfl, (hI.sub sn)⟩
theorem wk90 {wm : Nat} {H : AHeap} {Fr : List Ent}  (a1 : Int) (b1 : Int)   (hI : Kn wm H [] Fr) {r : Int × Bool} (h0 : M.anamnesisref01_times a1 b1 = some r) :
  wpF Try.prog ora wm 90 [.int .i64 a1, .int .i64 b1] H (fun res H => res = .tuple #[.int .i64 r.1, .bool r.2] ∧ Kn wm H [] Fr) := by
 unfold M.anamnesisref01_times at h0
 refine f_enter (n := 36) Try.func90 rfl (by simp) hI rfl rfl rfl fun tm hS => ?_
 clear hI
 refine cr2 hS rfl rfl rfl rfl ?_; clear hS
 intro tm hS
 refine c_seqS ?_
 refine c_reg fun R hR => ?_
 refine pp3 hS rfl rfl rfl rfl rfl rfl ?_; clear hS
 intro tm hS
 obtain ⟨c1, hc1⟩ : ∃ x : Bool, x = ((a1 == 0) || (b1 == 0)) := ⟨_, rfl⟩
 refine o_cutN 3 (J := fun tm H => S wm 36 tm H [(12, .bool c1), (0, .int .i64 a1), (1, .int .i64 b1)] [] Fr) ?_ ?_
 ·rcases Bool.eq_false_or_eq_true (a1 == 0) with hg1 | hg1
  ·refine o_skip hS rfl rfl rfl hg1 ?_; clear hS
   intro tm hS
   refine o_skip hS rfl rfl rfl hg1 ?_; clear hS
   intro tm hS
   refine o_pickT hS (.inl rfl) rfl rfl hg1 rfl ?_; clear hS
   intro tm hS
   have hc1 : c1 = true := hc1.trans (by rw [hg1]; first | rfl | simp)
   subst hc1
   exact o_nil (hS.keep (k3 rfl rfl rfl) (fun hI => (hI.sub sn)))
  ·refine o_pure hS (.inr ⟨_, _, _, _, rfl, rfl, rfl, hg1⟩) rfl rfl ?_; clear hS
   intro tm hS
   refine o_pure hS (.inr ⟨_, _, _, _, rfl, rfl, rfl, hg1⟩) rfl rfl ?_; clear hS
   intro tm hS
   refine o_pickF hS (.inl rfl) rfl rfl hg1 rfl ?_; clear hS
   intro tm hS
   have hc1 : c1 = (b1 == 0) := hc1.trans (by rw [hg1]; first | rfl | simp)
   subst hc1
   exact o_nil (hS.keep (k3 rfl rfl rfl) (fun hI => (hI.sub sn)))
 intro tm H hS
 subst hc1
 refine o_nil (hR _ _ ?_)
 clear hR R
 refine c_cond hS rfl (fun hc => ?_) (fun hc => ?_)
 ·replace h0 := iteT hc h0
  refine cr2 hS rfl rfl rfl rfl ?_; clear hS
  intro tm hS
  refine wpC.ret ?_
  obtain rfl := Option.some.inj h0
  refine Exists.intro _ (And.intro (rs_tmp hS rfl (rs_tmp hS rfl rs_nil)) ?_)
  have hI := hS.inv
  exact ⟨rfl, (hI.sub sn)⟩
 ·replace h0 := iteF hc h0
  refine wpC.skip ?_
  refine c_seqS ?_
  refine c_reg fun R hR => ?_
  refine pp3 hS rfl rfl rfl rfl rfl rfl ?_; clear hS
  intro tm hS
  obtain ⟨c2, hc2⟩ : ∃ x : Bool, x = ((a1 == (-1)) && (b1 == (-9223372036854775808))) := ⟨_, rfl⟩
  refine o_cutN 3 (J := fun tm H => S wm 36 tm H [(18, .bool c2), (0, .int .i64 a1), (1, .int .i64 b1)] [] Fr) ?_ ?_
  ·rcases Bool.eq_false_or_eq_true (a1 == (-1)) with hg2 | hg2
   ·refine o_pure hS (.inr ⟨_, _, _, _, rfl, rfl, rfl, hg2⟩) rfl rfl ?_; clear hS
    intro tm hS
    refine o_pure hS (.inr ⟨_, _, _, _, rfl, rfl, rfl, hg2⟩) rfl rfl ?_; clear hS
    intro tm hS
    refine o_pickT hS (.inl rfl) rfl rfl hg2 rfl ?_; clear hS
    intro tm hS
    have hc2 : c2 = (b1 == (-9223372036854775808)) := hc2.trans (by rw [hg2]; first | rfl | simp)
    subst hc2
    exact o_nil (hS.keep (k3 rfl rfl rfl) (fun hI => (hI.sub sn)))
   ·refine o_skip hS rfl rfl rfl hg2 ?_; clear hS
    intro tm hS
    refine o_skip hS rfl rfl rfl hg2 ?_; clear hS
    intro tm hS
    refine o_pickF hS (.inl rfl) rfl rfl hg2 rfl ?_; clear hS
    intro tm hS
    have hc2 : c2 = false := hc2.trans (by rw [hg2]; first | rfl | simp)
    subst hc2
    exact o_nil (hS.keep (k3 rfl rfl rfl) (fun hI => (hI.sub sn)))
  intro tm H hS
  subst hc2
  refine pp1 hS rfl rfl ?_; clear hS
  intro tm hS
  obtain ⟨c3, hc3⟩ : ∃ x : Bool, x = (((a1 == (-1)) && (b1 == (-9223372036854775808))) || ((b1 == (-1)) && (a1 == (-9223372036854775808)))) := ⟨_, rfl⟩
  refine o_cutN 7 (J := fun tm H => S wm 36 tm H [(26, .bool c3), (0, .int .i64 a1), (1, .int .i64 b1)] [] Fr) ?_ ?_
  ·rcases Bool.eq_false_or_eq_true ((a1 == (-1)) && (b1 == (-9223372036854775808))) with hg3 | hg3
   ·refine o_skip hS rfl rfl rfl hg3 ?_; clear hS
    intro tm hS
    refine o_skip hS rfl rfl rfl hg3 ?_; clear hS
    intro tm hS
    refine o_skip hS rfl rfl rfl hg3 ?_; clear hS
    intro tm hS
    refine o_skipU hS rfl rfl rfl ?_; clear hS
    intro tm hS
    refine o_skipU hS rfl rfl rfl ?_; clear hS
    intro tm hS
    refine o_skip hS rfl rfl rfl hg3 ?_; clear hS
    intro tm hS
    refine o_pickT hS (.inl rfl) rfl rfl hg3 rfl ?_; clear hS
    intro tm hS
    have hc3 : c3 = true := hc3.trans (by rw [hg3]; first | rfl | simp)
    subst hc3
    exact o_nil (hS.keep (k3 rfl rfl rfl) (fun hI => (hI.sub sn)))
   ·refine o_pure hS (.inr ⟨_, _, _, _, rfl, rfl, rfl, hg3⟩) rfl rfl ?_; clear hS
    intro tm hS
    refine o_pure hS (.inr ⟨_, _, _, _, rfl, rfl, rfl, hg3⟩) rfl rfl ?_; clear hS
    intro tm hS
    refine o_pure hS (.inr ⟨_, _, _, _, rfl, rfl, rfl, hg3⟩) rfl rfl ?_; clear hS
    intro tm hS
    obtain ⟨c4, hc4⟩ : ∃ x : Bool, x = ((b1 == (-1)) && (a1 == (-9223372036854775808))) := ⟨_, rfl⟩
    refine o_cutN 3 (J := fun tm H => S wm 36 tm H [(25, .bool c4), (0, .int .i64 a1), (1, .int .i64 b1), (19, .bool ((a1 == (-1)) && (b1 == (-9223372036854775808))))] [] Fr) ?_ ?_
    ·rcases Bool.eq_false_or_eq_true (b1 == (-1)) with hg4 | hg4
     ·refine o_pure hS (.inr ⟨_, _, _, _, rfl, rfl, rfl, hg4⟩) rfl rfl ?_; clear hS
      intro tm hS
      refine o_pure hS (.inr ⟨_, _, _, _, rfl, rfl, rfl, hg4⟩) rfl rfl ?_; clear hS
      intro tm hS
      refine o_pickT hS (.inr ⟨_, _, _, _, rfl, rfl, rfl, hg3⟩) rfl rfl hg4 rfl ?_; clear hS
      intro tm hS
      have hc4 : c4 = (a1 == (-9223372036854775808)) := hc4.trans (by rw [hg4]; first | rfl | simp)
      subst hc4
      exact o_nil (hS.keep (k4 rfl rfl rfl rfl) (fun hI => (hI.sub sn)))
     ·refine o_skip hS rfl rfl rfl hg4 ?_; clear hS
      intro tm hS
      refine o_skip hS rfl rfl rfl hg4 ?_; clear hS
      intro tm hS
      refine o_pickF hS (.inr ⟨_, _, _, _, rfl, rfl, rfl, hg3⟩) rfl rfl hg4 rfl ?_; clear hS
      intro tm hS
      have hc4 : c4 = false := hc4.trans (by rw [hg4]; first | rfl | simp)
      subst hc4
      exact o_nil (hS.keep (k4 rfl rfl rfl rfl) (fun hI => (hI.sub sn)))
    intro tm H hS
    subst hc4
    refine o_pickF hS (.inl rfl) rfl rfl hg3 rfl ?_; clear hS
    intro tm hS
    have hc3 : c3 = ((b1 == (-1)) && (a1 == (-9223372036854775808))) := hc3.trans (by rw [hg3]; first | rfl | simp)
    subst hc3
    exact o_nil (hS.keep (k3 rfl rfl rfl) (fun hI => (hI.sub sn)))
  intro tm H hS
  subst hc3
  refine o_nil (hR _ _ ?_)
  clear hR R
  refine c_cond hS rfl (fun hc => ?_) (fun hc => ?_)
  ·replace h0 := iteT hc h0
   refine cr2 hS rfl rfl rfl rfl ?_; clear hS
   intro tm hS
   refine wpC.ret ?_
   obtain rfl := Option.some.inj h0
   refine Exists.intro _ (And.intro (rs_tmp hS rfl (rs_tmp hS rfl rs_nil)) ?_)
   have hI := hS.inv
   exact ⟨rfl, (hI.sub sn)⟩
  ·replace h0 := iteF hc h0
   refine wpC.skip ?_
   refine cr4 hS rfl rfl rfl rfl rfl rfl rfl rfl ?_; clear hS
   intro tm hS
   refine c_seqS ?_
   refine c_reg fun R hR => ?_
   refine pp2 hS rfl rfl rfl rfl ?_; clear hS
   intro tm hS
   obtain ⟨q1, hx1, h0⟩ := bindS h0
   refine o_quo hS (.inl rfl) rfl rfl rfl hx1 ?_; clear hS
   intro tm hS
   refine pp2 hS rfl rfl rfl rfl ?_; clear hS
   intro tm hS
   refine o_nil (hR _ _ ?_)
   clear hR R
   refine c_cond hS rfl (fun hc => ?_) (fun hc => ?_)
   ·replace h0 := iteT hc h0
    refine cr2 hS rfl rfl rfl rfl ?_; clear hS
    intro tm hS
    refine wpC.ret ?_
    obtain rfl := Option.some.inj h0
    refine Exists.intro _ (And.intro (rs_tmp hS rfl (rs_tmp hS rfl rs_nil)) ?_)
    have hI := hS.inv
    exact ⟨rfl, (hI.sub sn)⟩
   ·replace h0 := iteF hc h0
    refine wpC.skip ?_
    refine cr3 hS rfl rfl rfl rfl rfl rfl ?_; clear hS
    intro tm hS
    refine wpC.ret ?_
    obtain rfl := Option.some.inj h0
    refine Exists.intro _ (And.intro (rs_tmp hS rfl (rs_tmp hS rfl rs_nil)) ?_)
    have hI := hS.inv
    exact ⟨rfl, (hI.sub sn)⟩
theorem wk91 {wm : Nat} {H : AHeap} {Fr : List Ent}  (a1 : Int) (b1 : Int)   (hI : Kn wm H [] Fr) {r : Int × Bool} (h0 : M.anamnesisref01_power a1 b1 = some r) :
  wpF Try.prog ora wm 91 [.int .i64 a1, .int .i64 b1] H (fun res H => res = .tuple #[.int .i64 r.1, .bool r.2] ∧ Kn wm H [] Fr) := by
 unfold M.anamnesisref01_power at h0
 refine f_enter (n := 35) Try.func91 rfl (by simp) hI rfl rfl rfl fun tm hS => ?_
 clear hI
 refine cr2 hS rfl rfl rfl rfl ?_; clear hS
 intro tm hS
 refine c_seqS ?_
 refine c_reg fun R hR => ?_
 refine pp3 hS rfl rfl rfl rfl rfl rfl ?_; clear hS
 intro tm hS
 obtain ⟨c1, hc1⟩ : ∃ x : Bool, x = ((a1 == 0) || (a1 == 1)) := ⟨_, rfl⟩
 refine o_cutN 3 (J := fun tm H => S wm 35 tm H [(14, .bool c1), (0, .int .i64 a1), (1, .int .i64 b1)] [] Fr) ?_ ?_
 ·rcases Bool.eq_false_or_eq_true (a1 == 0) with hg1 | hg1
  ·refine o_skip hS rfl rfl rfl hg1 ?_; clear hS
   intro tm hS
   refine o_skip hS rfl rfl rfl hg1 ?_; clear hS
   intro tm hS
   refine o_pickT hS (.inl rfl) rfl rfl hg1 rfl ?_; clear hS
   intro tm hS
   have hc1 : c1 = true := hc1.trans (by rw [hg1]; first | rfl | simp)
   subst hc1
   exact o_nil (hS.keep (k3 rfl rfl rfl) (fun hI => (hI.sub sn)))
  ·refine o_pure hS (.inr ⟨_, _, _, _, rfl, rfl, rfl, hg1⟩) rfl rfl ?_; clear hS
   intro tm hS
   refine o_pure hS (.inr ⟨_, _, _, _, rfl, rfl, rfl, hg1⟩) rfl rfl ?_; clear hS
   intro tm hS
   refine o_pickF hS (.inl rfl) rfl rfl hg1 rfl ?_; clear hS
   intro tm hS
   have hc1 : c1 = (a1 == 1) := hc1.trans (by rw [hg1]; first | rfl | simp)
   subst hc1
   exact o_nil (hS.keep (k3 rfl rfl rfl) (fun hI => (hI.sub sn)))
 intro tm H hS
 subst hc1
 refine o_nil (hR _ _ ?_)
 clear hR R
 refine c_cond hS rfl (fun hc => ?_) (fun hc => ?_)
 ·replace h0 := iteT hc h0
  refine cr3 hS rfl rfl rfl rfl rfl rfl ?_; clear hS
  intro tm hS
  refine wpC.ret ?_
  obtain rfl := Option.some.inj h0
  refine Exists.intro _ (And.intro (rs_tmp hS rfl (rs_tmp hS rfl rs_nil)) ?_)
  have hI := hS.inv
  exact ⟨rfl, (hI.sub sn)⟩
 ·replace h0 := iteF hc h0
  refine wpC.skip ?_
  refine c_seqS ?_
  refine cr2 hS rfl rfl rfl rfl ?_; clear hS
  intro tm hS
  refine c_cond hS rfl (fun hc => ?_) (fun hc => ?_)
  ·replace h0 := iteT hc h0
   refine c_seqS ?_
   refine cr3 hS rfl rfl rfl rfl rfl rfl ?_; clear hS
   intro tm hS
   refine c_cond hS rfl (fun hc => ?_) (fun hc => ?_)
   ·replace h0 := iteT hc h0
    refine cr2 hS rfl rfl rfl rfl ?_; clear hS
    intro tm hS
    refine wpC.ret ?_
    obtain rfl := Option.some.inj h0
    refine Exists.intro _ (And.intro (rs_tmp hS rfl (rs_tmp hS rfl rs_nil)) ?_)
    have hI := hS.inv
    exact ⟨rfl, (hI.sub sn)⟩
   ·replace h0 := iteF hc h0
    refine wpC.skip ?_
    refine cr2 hS rfl rfl rfl rfl ?_; clear hS
    intro tm hS
    refine wpC.ret ?_
    obtain rfl := Option.some.inj h0
    refine Exists.intro _ (And.intro (rs_tmp hS rfl (rs_tmp hS rfl rs_nil)) ?_)
    have hI := hS.inv
    exact ⟨rfl, (hI.sub sn)⟩
  ·replace h0 := iteF hc h0
   refine wpC.skip ?_
   refine cr1 hS rfl rfl ?_; clear hS
   intro tm hS
   refine cr1 hS rfl rfl ?_; clear hS
   intro tm hS
   refine c_seqS ?_
   refine cr1 hS rfl rfl ?_; clear hS
   intro tm hS
   obtain ⟨k1, hw1, h0⟩ := bindS h0
   refine wpC.block ?_
   refine c_loop (I := fun (s : Int × Int) tm H => match (generalizing := false) s with | (c2, i1) => S wm 35 tm H [(0, .int .i64 a1), (1, .int .i64 b1), (6, .int .i64 c2), (8, .int .i64 i1)] [] Fr) hw1 (by change S wm 35 _ _ _ _ Fr; exact hS.keep (k4 rfl rfl rfl rfl) (fun hI => (hI.sub sn))) ?_
   clear hS
   intro s1 tm H c3 hS h1 hq1
   obtain ⟨c2, i1⟩ := s1
   change S wm 35 tm H [(0, .int .i64 a1), (1, .int .i64 b1), (6, .int .i64 c2), (8, .int .i64 i1)] [] Fr at hS
   refine c_seqS ?_
   refine cr3 hS rfl rfl rfl rfl rfl rfl ?_; clear hS
   intro tm hS
   refine c_cond hS rfl (fun hc => ?_) (fun hc => ?_)
   ·replace h1 := iteT hc h1
    refine wpC.skip ?_
    refine c_seqS ?_
    refine wpC.block ?_
    refine c_reg fun R hR => ?_
    refine pp2 hS rfl rfl rfl rfl ?_; clear hS
    intro tm hS
    obtain ⟨⟨r1, r2⟩, hx1, h1⟩ := bindS h1
    refine o_call hS (.inl rfl) rfl (fun wm' hw1 hw2 => wk90  c2 a1   (hS.sel hw2) hx1) (fun wm' res H hw' hp => ?_)
    obtain ⟨hres, hI⟩ := hp
    replace hres := hres.symm; subst hres
    replace hS : S wm 35 _ H ((29, .tuple #[.int .i64 r1, .bool r2]) :: _) ([] ++ _) Fr := hS.after rfl hw' hI
    clear hI hw'
    refine pp5 hS rfl rfl rfl rfl rfl rfl rfl rfl rfl rfl ?_; clear hS
    intro tm hS
    refine o_nil (hR _ _ ?_)
    clear hR R
    refine cr2 hS rfl rfl rfl rfl ?_; clear hS
    intro tm hS
    refine c_cond hS rfl (fun hc => ?_) (fun hc => ?_)
    ·replace h1 := iteT hc h1
     refine cr2 hS rfl rfl rfl rfl ?_; clear hS
     intro tm hS
     refine wpC.ret ?_
     obtain rfl := Option.some.inj h1
     obtain rfl := hq1 _ rfl
     refine And.intro rfl ?_
     obtain rfl := leave h0
     refine Exists.intro _ (And.intro (rs_tmp hS rfl (rs_tmp hS rfl rs_nil)) ?_)
     have hI := hS.inv
     exact ⟨rfl, (hI.sub sn)⟩
    ·replace h1 := iteF hc h1
     refine wpC.skip ?_
     refine cs3 hS rfl rfl rfl rfl rfl rfl ?_; clear hS
     intro tm hS
     obtain rfl := Option.some.inj h1
     refine ⟨_, rfl, ?_⟩
     change S wm 35 _ _ _ _ Fr; exact hS.keep (k4 rfl rfl rfl rfl) (fun hI => (hI.sub sn))
   ·replace h1 := iteF hc h1
    refine wpC.exit ?_
    refine seqX ?_
    obtain rfl := Option.some.inj h1
    obtain rfl := hq1 _ rfl
    refine And.intro rfl (blk_eq ?_)
    replace h0 := joinN h0
    refine cr3 hS rfl rfl rfl rfl rfl rfl ?_; clear hS
    intro tm hS
    refine wpC.ret ?_
    obtain rfl := Option.some.inj h0
    refine Exists.intro _ (And.intro (rs_tmp hS rfl (rs_tmp hS rfl rs_nil)) ?_)
    have hI := hS.inv
    exact ⟨rfl, (hI.sub sn)⟩
theorem wk102 {wm : Nat} {H : AHeap} {Fr : List Ent}  (a1 : Int) (b1 : Int)   (hI : Kn wm H [] Fr) {r : Int} (h0 : M.anamnesisref01_gcd a1 b1 = some r) :
  wpF Try.prog ora wm 102 [.int .i64 a1, .int .i64 b1] H (fun res H => res = .int .i64 r ∧ Kn wm H [] Fr) := by
 unfold M.anamnesisref01_gcd at h0
 refine f_enter (n := 14) Try.func102 rfl (by simp) hI rfl rfl rfl fun tm hS => ?_
 clear hI
 refine cr1 hS rfl rfl ?_; clear hS
 intro tm hS
 refine c_seqS ?_
 obtain ⟨k1, hw1, h0⟩ := bindS h0
 refine wpC.block ?_
 refine c_loop (I := fun (s : Int × Int) tm H => match (generalizing := false) s with | (a2, b2) => S wm 14 tm H [(0, .int .i64 a2), (1, .int .i64 b2)] [] Fr) hw1 (by change S wm 14 _ _ _ _ Fr; exact hS.keep (k2 rfl rfl) (fun hI => (hI.sub sn))) ?_
 clear hS
 intro s1 tm H c1 hS h1 hq1
 obtain ⟨a2, b2⟩ := s1
 change S wm 14 tm H [(0, .int .i64 a2), (1, .int .i64 b2)] [] Fr at hS
 refine c_seqS ?_
 refine cr2 hS rfl rfl rfl rfl ?_; clear hS
 intro tm hS
 refine c_cond hS rfl (fun hc => ?_) (fun hc => ?_)
 ·replace h1 := iteT hc h1
  refine wpC.skip ?_
  refine wpC.block ?_
  refine c_reg fun R hR => ?_
  refine pp2 hS rfl rfl rfl rfl ?_; clear hS
  intro tm hS
  obtain ⟨q1, hx1, h1⟩ := bindS h1
  refine o_rem hS (.inl rfl) rfl rfl rfl hx1 ?_; clear hS
  intro tm hS
  refine pp1 hS rfl rfl ?_; clear hS
  intro tm hS
  refine o_nil (hR _ _ ?_)
  clear hR R
  refine cr2 hS rfl rfl rfl rfl ?_; clear hS
  intro tm hS
  refine cs2 hS rfl rfl rfl rfl ?_; clear hS
  intro tm hS
  obtain rfl := Option.some.inj h1
  refine ⟨_, rfl, ?_⟩
  change S wm 14 _ _ _ _ Fr; exact hS.keep (k2 rfl rfl) (fun hI => (hI.sub sn))
 ·replace h1 := iteF hc h1
  refine wpC.exit ?_
  refine seqX ?_
  obtain rfl := Option.some.inj h1
  obtain rfl := hq1 _ rfl
  refine And.intro rfl (blk_eq ?_)
  replace h0 := joinN h0
  refine cr2 hS rfl rfl rfl rfl ?_; clear hS
  intro tm hS
  refine wpC.ret ?_
  obtain rfl := Option.some.inj h0
  refine Exists.intro _ (And.intro (rs_tmp hS rfl rs_nil) ?_)
  have hI := hS.inv
  exact ⟨rfl, (hI.sub sn)⟩
theorem wk92 {wm : Nat} {H : AHeap} {Fr : List Ent}  (a1 : Int) (b1 : Int)   (hI : Kn wm H [] Fr) {r : Int × Bool} (h0 : M.anamnesisref01_choose a1 b1 = some r) :
  wpF Try.prog ora wm 92 [.int .i64 a1, .int .i64 b1] H (fun res H => res = .tuple #[.int .i64 r.1, .bool r.2] ∧ Kn wm H [] Fr) := by
 unfold M.anamnesisref01_choose at h0
 refine f_enter (n := 51) Try.func92 rfl (by simp) hI rfl rfl rfl fun tm hS => ?_
 clear hI
 refine cr2 hS rfl rfl rfl rfl ?_; clear hS
 intro tm hS
 refine c_seqS ?_
 refine cr3 hS rfl rfl rfl rfl rfl rfl ?_; clear hS
 intro tm hS
 refine c_cond hS rfl (fun hc => ?_) (fun hc => ?_)
 ·replace h0 := iteT hc h0
  refine cr2 hS rfl rfl rfl rfl ?_; clear hS
  intro tm hS
  refine wpC.ret ?_
  obtain rfl := Option.some.inj h0
  refine Exists.intro _ (And.intro (rs_tmp hS rfl (rs_tmp hS rfl rs_nil)) ?_)
  have hI := hS.inv
  exact ⟨rfl, (hI.sub sn)⟩
 ·replace h0 := iteF hc h0
  refine wpC.skip ?_
  refine cr2 hS rfl rfl rfl rfl ?_; clear hS
  intro tm hS
  obtain ⟨n1, h1, h0⟩ := bindS h0
  refine c_seqJ (J := fun tm H => (match (generalizing := false) n1 with | n1 => S wm 51 tm H [(1, .int .i64 b1), (6, .int .i64 n1)] [] Fr)) ?_ ?_
  ·refine cr5 hS rfl rfl rfl rfl rfl rfl rfl rfl rfl rfl ?_; clear hS
   intro tm hS
   refine c_cond hS rfl (fun hc => ?_) (fun hc => ?_)
   ·replace h1 := iteT hc h1
    refine c_reg1 fun R hR => ?_
    refine pp4 hS rfl rfl rfl rfl rfl rfl rfl rfl ?_; clear hS
    intro tm hS
    refine o_nil (hR _ _ ?_)
    clear hR R
    obtain rfl := Option.some.inj h1
    change S wm 51 _ _ _ _ Fr; exact hS.keep (k2 rfl rfl) (fun hI => (hI.sub sn))
   ·replace h1 := iteF hc h1
    refine wpC.skip ?_
    obtain rfl := Option.some.inj h1
    change S wm 51 _ _ _ _ Fr; exact hS.keep (k2 rfl rfl) (fun hI => (hI.sub sn))
  intro tm H hS
  change S wm 51 tm H [(1, .int .i64 b1), (6, .int .i64 n1)] [] Fr at hS
  refine cr1 hS rfl rfl ?_; clear hS
  intro tm hS
  refine cr1 hS rfl rfl ?_; clear hS
  intro tm hS
  refine c_seqS ?_
  refine cr1 hS rfl rfl ?_; clear hS
  intro tm hS
  obtain ⟨k1, hw1, h0⟩ := bindS h0
  refine wpC.block ?_
  refine c_loop (I := fun (s : Int × Int) tm H => match (generalizing := false) s with | (c1, i1) => S wm 51 tm H [(1, .int .i64 b1), (6, .int .i64 n1), (7, .int .i64 c1), (9, .int .i64 i1)] [] Fr) hw1 (by change S wm 51 _ _ _ _ Fr; exact hS.keep (k4 rfl rfl rfl rfl) (fun hI => (hI.sub sn))) ?_
  clear hS
  intro s1 tm H c2 hS h2 hq2
  obtain ⟨c1, i1⟩ := s1
  change S wm 51 tm H [(1, .int .i64 b1), (6, .int .i64 n1), (7, .int .i64 c1), (9, .int .i64 i1)] [] Fr at hS
  refine c_seqS ?_
  refine cr3 hS rfl rfl rfl rfl rfl rfl ?_; clear hS
  intro tm hS
  refine c_cond hS rfl (fun hc => ?_) (fun hc => ?_)
  ·replace h2 := iteT hc h2
   refine wpC.skip ?_
   refine c_seqS ?_
   refine wpC.block ?_
   refine c_reg fun R hR => ?_
   refine pp3 hS rfl rfl rfl rfl rfl rfl ?_; clear hS
   intro tm hS
   obtain ⟨r1, hx1, h2⟩ := bindS h2
   refine o_call hS (.inl rfl) rfl (fun wm' hw1 hw2 => wk102  c1 (IntKind.i64.wrap (i1 + 1))   (hS.sel hw2) hx1) (fun wm' res H hw' hp => ?_)
   obtain ⟨hres, hI⟩ := hp
   replace hres := hres.symm; subst hres
   replace hS : S wm 51 _ H ((31, .int .i64 r1) :: _) ([] ++ _) Fr := hS.after rfl hw' hI
   clear hI hw'
   refine pp1 hS rfl rfl ?_; clear hS
   intro tm hS
   refine o_nil (hR _ _ ?_)
   clear hR R
   refine c_reg fun R hR => ?_
   refine pp2 hS rfl rfl rfl rfl ?_; clear hS
   intro tm hS
   obtain ⟨q1, hx2, h2⟩ := bindS h2
   refine o_quo hS (.inl rfl) rfl rfl rfl hx2 ?_; clear hS
   intro tm hS
   refine pp1 hS rfl rfl ?_; clear hS
   intro tm hS
   refine o_nil (hR _ _ ?_)
   clear hR R
   refine c_reg fun R hR => ?_
   refine pp6 hS rfl rfl rfl rfl rfl rfl rfl rfl rfl rfl rfl rfl ?_; clear hS
   intro tm hS
   refine pp1 hS rfl rfl ?_; clear hS
   intro tm hS
   obtain ⟨q2, hx3, h2⟩ := bindS h2
   refine o_quo hS (.inl rfl) rfl rfl rfl hx3 ?_; clear hS
   intro tm hS
   obtain ⟨q3, hx4, h2⟩ := bindS h2
   refine o_quo hS (.inl rfl) rfl rfl rfl hx4 ?_; clear hS
   intro tm hS
   obtain ⟨⟨r2, r3⟩, hx5, h2⟩ := bindS h2
   refine o_call hS (.inl rfl) rfl (fun wm' hw1 hw2 => wk90  q1 q3   (hS.sel hw2) hx5) (fun wm' res H hw' hp => ?_)
   obtain ⟨hres, hI⟩ := hp
   replace hres := hres.symm; subst hres
   replace hS : S wm 51 _ H ((45, .tuple #[.int .i64 r2, .bool r3]) :: _) ([] ++ _) Fr := hS.after rfl hw' hI
   clear hI hw'
   refine pp5 hS rfl rfl rfl rfl rfl rfl rfl rfl rfl rfl ?_; clear hS
   intro tm hS
   refine o_nil (hR _ _ ?_)
   clear hR R
   refine cr2 hS rfl rfl rfl rfl ?_; clear hS
   intro tm hS
   refine c_cond hS rfl (fun hc => ?_) (fun hc => ?_)
   ·replace h2 := iteT hc h2
    refine cr2 hS rfl rfl rfl rfl ?_; clear hS
    intro tm hS
    refine wpC.ret ?_
    obtain rfl := Option.some.inj h2
    obtain rfl := hq2 _ rfl
    refine And.intro rfl ?_
    obtain rfl := leave h0
    refine Exists.intro _ (And.intro (rs_tmp hS rfl (rs_tmp hS rfl rs_nil)) ?_)
    have hI := hS.inv
    exact ⟨rfl, (hI.sub sn)⟩
   ·replace h2 := iteF hc h2
    refine wpC.skip ?_
    refine cs3 hS rfl rfl rfl rfl rfl rfl ?_; clear hS
    intro tm hS
    obtain rfl := Option.some.inj h2
    refine ⟨_, rfl, ?_⟩
    change S wm 51 _ _ _ _ Fr; exact hS.keep (k4 rfl rfl rfl rfl) (fun hI => (hI.sub sn))
  ·replace h2 := iteF hc h2
   refine wpC.exit ?_
   refine seqX ?_
   obtain rfl := Option.some.inj h2
   obtain rfl := hq2 _ rfl
   refine And.intro rfl (blk_eq ?_)
   replace h0 := joinN h0
   refine cr3 hS rfl rfl rfl rfl rfl rfl ?_; clear hS
   intro tm hS
   refine wpC.ret ?_
   obtain rfl := Option.some.inj h0
   refine Exists.intro _ (And.intro (rs_tmp hS rfl (rs_tmp hS rfl rs_nil)) ?_)
   have hI := hS.inv
   exact ⟨rfl, (hI.sub sn)⟩
theorem wk93 {wm : Nat} {H : AHeap} {Fr : List Ent}  (b1 : Bool)   (hI : Kn wm H [] Fr) {r : Int} (h0 : M.anamnesisref01_truth b1 = some r) :
  wpF Try.prog ora wm 93 [.bool b1] H (fun res H => res = .int .i64 r ∧ Kn wm H [] Fr) := by
 unfold M.anamnesisref01_truth at h0
 refine f_enter (n := 4) Try.func93 rfl (by simp) hI rfl rfl rfl fun tm hS => ?_
 clear hI
 refine cr1 hS rfl rfl ?_; clear hS
 intro tm hS
 refine c_seqS ?_
 refine cr1 hS rfl rfl ?_; clear hS
 intro tm hS
 refine c_cond hS rfl (fun hc => ?_) (fun hc => ?_)
 ·replace h0 := iteT hc h0
  refine cr1 hS rfl rfl ?_; clear hS
  intro tm hS
  refine wpC.ret ?_
  obtain rfl := Option.some.inj h0
  refine Exists.intro _ (And.intro (rs_tmp hS rfl rs_nil) ?_)
  have hI := hS.inv
  exact ⟨rfl, (hI.sub sn)⟩
 ·replace h0 := iteF hc h0
  refine wpC.skip ?_
  refine cr1 hS rfl rfl ?_; clear hS
  intro tm hS
  refine wpC.ret ?_
  obtain rfl := Option.some.inj h0
  refine Exists.intro _ (And.intro (rs_tmp hS rfl rs_nil) ?_)
  have hI := hS.inv
  exact ⟨rfl, (hI.sub sn)⟩
theorem wk94 {wm : Nat} {H : AHeap} {Fr : List Ent}  (fn1 : ByteArray) (a1 : Int) (b1 : Int)   (hI : Kn wm H [] Fr) {r : Int × Bool} (h0 : M.anamnesisref01_logic fn1 a1 b1 = some r) :
  wpF Try.prog ora wm 94 [.string fn1, .int .i64 a1, .int .i64 b1] H (fun res H => res = .tuple #[.int .i64 r.1, .bool r.2] ∧ Kn wm H [] Fr) := by
 unfold M.anamnesisref01_logic at h0
 refine f_enter (n := 45) Try.func94 rfl (by simp) hI rfl rfl rfl fun tm hS => ?_
 clear hI
 refine cr2 hS rfl rfl rfl rfl ?_; clear hS
 intro tm hS
 refine c_seqS ?_
 refine c_reg fun R hR => ?_
 refine pp3 hS rfl rfl rfl rfl rfl rfl ?_; clear hS
 intro tm hS
 obtain ⟨c1, hc1⟩ : ∃ x : Bool, x = ((a1 != 0) && (a1 != 1)) := ⟨_, rfl⟩
 refine o_cutN 3 (J := fun tm H => S wm 45 tm H [(15, .bool c1), (0, .string fn1), (1, .int .i64 a1), (2, .int .i64 b1)] [] Fr) ?_ ?_
 ·rcases Bool.eq_false_or_eq_true (a1 != 0) with hg1 | hg1
  ·refine o_pure hS (.inr ⟨_, _, _, _, rfl, rfl, rfl, hg1⟩) rfl rfl ?_; clear hS
   intro tm hS
   refine o_pure hS (.inr ⟨_, _, _, _, rfl, rfl, rfl, hg1⟩) rfl rfl ?_; clear hS
   intro tm hS
   refine o_pickT hS (.inl rfl) rfl rfl hg1 rfl ?_; clear hS
   intro tm hS
   have hc1 : c1 = (a1 != 1) := hc1.trans (by rw [hg1]; first | rfl | simp)
   subst hc1
   exact o_nil (hS.keep (k4 rfl rfl rfl rfl) (fun hI => (hI.sub sn)))
  ·refine o_skip hS rfl rfl rfl hg1 ?_; clear hS
   intro tm hS
   refine o_skip hS rfl rfl rfl hg1 ?_; clear hS
   intro tm hS
   refine o_pickF hS (.inl rfl) rfl rfl hg1 rfl ?_; clear hS
   intro tm hS
   have hc1 : c1 = false := hc1.trans (by rw [hg1]; first | rfl | simp)
   subst hc1
   exact o_nil (hS.keep (k4 rfl rfl rfl rfl) (fun hI => (hI.sub sn)))
 intro tm H hS
 subst hc1
 refine pp1 hS rfl rfl ?_; clear hS
 intro tm hS
 obtain ⟨c2, hc2⟩ : ∃ x : Bool, x = (((a1 != 0) && (a1 != 1)) || ((b1 != 0) && (b1 != 1))) := ⟨_, rfl⟩
 refine o_cutN 7 (J := fun tm H => S wm 45 tm H [(23, .bool c2), (0, .string fn1), (1, .int .i64 a1), (2, .int .i64 b1)] [] Fr) ?_ ?_
 ·rcases Bool.eq_false_or_eq_true ((a1 != 0) && (a1 != 1)) with hg2 | hg2
  ·refine o_skip hS rfl rfl rfl hg2 ?_; clear hS
   intro tm hS
   refine o_skip hS rfl rfl rfl hg2 ?_; clear hS
   intro tm hS
   refine o_skip hS rfl rfl rfl hg2 ?_; clear hS
   intro tm hS
   refine o_skipU hS rfl rfl rfl ?_; clear hS
   intro tm hS
   refine o_skipU hS rfl rfl rfl ?_; clear hS
   intro tm hS
   refine o_skip hS rfl rfl rfl hg2 ?_; clear hS
   intro tm hS
   refine o_pickT hS (.inl rfl) rfl rfl hg2 rfl ?_; clear hS
   intro tm hS
   have hc2 : c2 = true := hc2.trans (by rw [hg2]; first | rfl | simp)
   subst hc2
   exact o_nil (hS.keep (k4 rfl rfl rfl rfl) (fun hI => (hI.sub sn)))
  ·refine o_pure hS (.inr ⟨_, _, _, _, rfl, rfl, rfl, hg2⟩) rfl rfl ?_; clear hS
   intro tm hS
   refine o_pure hS (.inr ⟨_, _, _, _, rfl, rfl, rfl, hg2⟩) rfl rfl ?_; clear hS
   intro tm hS
   refine o_pure hS (.inr ⟨_, _, _, _, rfl, rfl, rfl, hg2⟩) rfl rfl ?_; clear hS
   intro tm hS
   obtain ⟨c3, hc3⟩ : ∃ x : Bool, x = ((b1 != 0) && (b1 != 1)) := ⟨_, rfl⟩
   refine o_cutN 3 (J := fun tm H => S wm 45 tm H [(22, .bool c3), (0, .string fn1), (1, .int .i64 a1), (2, .int .i64 b1), (16, .bool ((a1 != 0) && (a1 != 1)))] [] Fr) ?_ ?_
   ·rcases Bool.eq_false_or_eq_true (b1 != 0) with hg3 | hg3
    ·refine o_pure hS (.inr ⟨_, _, _, _, rfl, rfl, rfl, hg3⟩) rfl rfl ?_; clear hS
     intro tm hS
     refine o_pure hS (.inr ⟨_, _, _, _, rfl, rfl, rfl, hg3⟩) rfl rfl ?_; clear hS
     intro tm hS
     refine o_pickT hS (.inr ⟨_, _, _, _, rfl, rfl, rfl, hg2⟩) rfl rfl hg3 rfl ?_; clear hS
     intro tm hS
     have hc3 : c3 = (b1 != 1) := hc3.trans (by rw [hg3]; first | rfl | simp)
     subst hc3
     exact o_nil (hS.keep (k5 rfl rfl rfl rfl rfl) (fun hI => (hI.sub sn)))
    ·refine o_skip hS rfl rfl rfl hg3 ?_; clear hS
     intro tm hS
     refine o_skip hS rfl rfl rfl hg3 ?_; clear hS
     intro tm hS
     refine o_pickF hS (.inr ⟨_, _, _, _, rfl, rfl, rfl, hg2⟩) rfl rfl hg3 rfl ?_; clear hS
     intro tm hS
     have hc3 : c3 = false := hc3.trans (by rw [hg3]; first | rfl | simp)
     subst hc3
     exact o_nil (hS.keep (k5 rfl rfl rfl rfl rfl) (fun hI => (hI.sub sn)))
   intro tm H hS
   subst hc3
   refine o_pickF hS (.inl rfl) rfl rfl hg2 rfl ?_; clear hS
   intro tm hS
   have hc2 : c2 = ((b1 != 0) && (b1 != 1)) := hc2.trans (by rw [hg2]; first | rfl | simp)
   subst hc2
   exact o_nil (hS.keep (k4 rfl rfl rfl rfl) (fun hI => (hI.sub sn)))
 intro tm H hS
 subst hc2
 refine o_nil (hR _ _ ?_)
 clear hR R
 refine c_cond hS rfl (fun hc => ?_) (fun hc => ?_)
 ·replace h0 := iteT hc h0
  refine cr2 hS rfl rfl rfl rfl ?_; clear hS
  intro tm hS
  refine wpC.ret ?_
  obtain rfl := Option.some.inj h0
  refine Exists.intro _ (And.intro (rs_tmp hS rfl (rs_tmp hS rfl rs_nil)) ?_)
  have hI := hS.inv
  exact ⟨rfl, (hI.sub sn)⟩
 ·replace h0 := iteF hc h0
  refine wpC.skip ?_
  refine cr4 hS rfl rfl rfl rfl rfl rfl rfl rfl ?_; clear hS
  intro tm hS
  refine c_reg fun R hR => ?_
  refine pp6 hS rfl rfl rfl rfl rfl rfl rfl rfl rfl rfl rfl rfl ?_; clear hS
  intro tm hS
  refine o_nil (hR _ _ ?_)
  clear hR R
  refine c_seqS ?_
  refine cr1 hS rfl rfl ?_; clear hS
  intro tm hS
  refine wpC.block ?_
  refine cr2 hS rfl rfl rfl rfl ?_; clear hS
  intro tm hS
  refine c_cond hS rfl (fun hc => ?_) (fun hc => ?_)
  ·replace h0 := iteT hc h0
   refine cr3 hS rfl rfl rfl rfl rfl rfl ?_; clear hS
   intro tm hS
   refine wpC.ret ?_
   obtain rfl := Option.some.inj h0
   refine Exists.intro _ (And.intro (rs_tmp hS rfl (rs_tmp hS rfl rs_nil)) ?_)
   have hI := hS.inv
   exact ⟨rfl, (hI.sub sn)⟩
  ·replace h0 := iteF hc h0
   refine cr2 hS rfl rfl rfl rfl ?_; clear hS
   intro tm hS
   refine c_cond hS rfl (fun hc => ?_) (fun hc => ?_)
   ·replace h0 := iteT hc h0
    refine cr3 hS rfl rfl rfl rfl rfl rfl ?_; clear hS
    intro tm hS
    refine wpC.ret ?_
    obtain rfl := Option.some.inj h0
    refine Exists.intro _ (And.intro (rs_tmp hS rfl (rs_tmp hS rfl rs_nil)) ?_)
    have hI := hS.inv
    exact ⟨rfl, (hI.sub sn)⟩
   ·replace h0 := iteF hc h0
    refine cr2 hS rfl rfl rfl rfl ?_; clear hS
    intro tm hS
    refine c_cond hS rfl (fun hc => ?_) (fun hc => ?_)
    ·replace h0 := iteT hc h0
     refine cr4 hS rfl rfl rfl rfl rfl rfl rfl rfl ?_; clear hS
     intro tm hS
     refine wpC.ret ?_
     obtain rfl := Option.some.inj h0
     refine Exists.intro _ (And.intro (rs_tmp hS rfl (rs_tmp hS rfl rs_nil)) ?_)
     have hI := hS.inv
     exact ⟨rfl, (hI.sub sn)⟩
    ·replace h0 := iteF hc h0
     refine wpC.skip ?_
     refine cr4 hS rfl rfl rfl rfl rfl rfl rfl rfl ?_; clear hS
     intro tm hS
     refine wpC.ret ?_
     obtain rfl := Option.some.inj h0
     refine Exists.intro _ (And.intro (rs_tmp hS rfl (rs_tmp hS rfl rs_nil)) ?_)
     have hI := hS.inv
     exact ⟨rfl, (hI.sub sn)⟩
theorem wk73 {wm : Nat} {H : AHeap} {Fr : List Ent}  (fn1 : ByteArray) (a1 : Int) (b1 : Int)   (hI : Kn wm H [] Fr) {r : Int × Bool} (h0 : M.anamnesisref01_Dyad fn1 a1 b1 = some r) :
  wpF Try.prog ora wm 73 [.string fn1, .int .i64 a1, .int .i64 b1] H (fun res H => res = .tuple #[.int .i64 r.1, .bool r.2] ∧ Kn wm H [] Fr) := by
 unfold M.anamnesisref01_Dyad at h0
 refine f_enter (n := 215) Try.func73 rfl (by simp) hI rfl rfl rfl fun tm hS => ?_
 clear hI
 refine cr2 hS rfl rfl rfl rfl ?_; clear hS
 intro tm hS
 refine c_seqS ?_
 refine cr1 hS rfl rfl ?_; clear hS
 intro tm hS
 refine wpC.block ?_
 refine cr2 hS rfl rfl rfl rfl ?_; clear hS
 intro tm hS
 refine c_cond hS rfl (fun hc => ?_) (fun hc => ?_)
 ·replace h0 := iteT hc h0
  refine c_seqS ?_
  refine c_reg fun R hR => ?_
  refine pp3 hS rfl rfl rfl rfl rfl rfl ?_; clear hS
  intro tm hS
  obtain ⟨c1, hc1⟩ : ∃ x : Bool, x = ((decide (b1 > 0)) && (decide (a1 > (IntKind.i64.wrap (9223372036854775807 - b1))))) := ⟨_, rfl⟩
  refine o_cutN 5 (J := fun tm H => S wm 215 tm H [(19, .bool c1), (1, .int .i64 a1), (2, .int .i64 b1)] [] Fr) ?_ ?_
  ·rcases Bool.eq_false_or_eq_true (decide (b1 > 0)) with hg1 | hg1
   ·refine o_pure hS (.inr ⟨_, _, _, _, rfl, rfl, rfl, hg1⟩) rfl rfl ?_; clear hS
    intro tm hS
    refine o_pure hS (.inr ⟨_, _, _, _, rfl, rfl, rfl, hg1⟩) rfl rfl ?_; clear hS
    intro tm hS
    refine o_pure hS (.inr ⟨_, _, _, _, rfl, rfl, rfl, hg1⟩) rfl rfl ?_; clear hS
    intro tm hS
    refine o_pure hS (.inr ⟨_, _, _, _, rfl, rfl, rfl, hg1⟩) rfl rfl ?_; clear hS
    intro tm hS
    refine o_pickT hS (.inl rfl) rfl rfl hg1 rfl ?_; clear hS
    intro tm hS
    have hc1 : c1 = (decide (a1 > (IntKind.i64.wrap (9223372036854775807 - b1)))) := hc1.trans (by rw [hg1]; first | rfl | simp)
    subst hc1
    exact o_nil (hS.keep (k3 rfl rfl rfl) (fun hI => (hI.sub sn)))
   ·refine o_skip hS rfl rfl rfl hg1 ?_; clear hS
    intro tm hS
    refine o_skip hS rfl rfl rfl hg1 ?_; clear hS
    intro tm hS
    refine o_skip hS rfl rfl rfl hg1 ?_; clear hS
    intro tm hS
    refine o_skip hS rfl rfl rfl hg1 ?_; clear hS
    intro tm hS
    refine o_pickF hS (.inl rfl) rfl rfl hg1 rfl ?_; clear hS
    intro tm hS
    have hc1 : c1 = false := hc1.trans (by rw [hg1]; first | rfl | simp)
    subst hc1
    exact o_nil (hS.keep (k3 rfl rfl rfl) (fun hI => (hI.sub sn)))
  intro tm H hS
  subst hc1
  refine pp1 hS rfl rfl ?_; clear hS
  intro tm hS
  obtain ⟨c2, hc2⟩ : ∃ x : Bool, x = (((decide (b1 > 0)) && (decide (a1 > (IntKind.i64.wrap (9223372036854775807 - b1))))) || ((decide (b1 < 0)) && (decide (a1 < (IntKind.i64.wrap ((-9223372036854775808) - b1)))))) := ⟨_, rfl⟩
  refine o_cutN 9 (J := fun tm H => S wm 215 tm H [(29, .bool c2), (1, .int .i64 a1), (2, .int .i64 b1)] [] Fr) ?_ ?_
  ·rcases Bool.eq_false_or_eq_true ((decide (b1 > 0)) && (decide (a1 > (IntKind.i64.wrap (9223372036854775807 - b1))))) with hg2 | hg2
   ·refine o_skip hS rfl rfl rfl hg2 ?_; clear hS
    intro tm hS
    refine o_skip hS rfl rfl rfl hg2 ?_; clear hS
    intro tm hS
    refine o_skip hS rfl rfl rfl hg2 ?_; clear hS
    intro tm hS
    refine o_skipU hS rfl rfl rfl ?_; clear hS
    intro tm hS
    refine o_skipU hS rfl rfl rfl ?_; clear hS
    intro tm hS
    refine o_skipU hS rfl rfl rfl ?_; clear hS
    intro tm hS
    refine o_skipU hS rfl rfl rfl ?_; clear hS
    intro tm hS
    refine o_skip hS rfl rfl rfl hg2 ?_; clear hS
    intro tm hS
    refine o_pickT hS (.inl rfl) rfl rfl hg2 rfl ?_; clear hS
    intro tm hS
    have hc2 : c2 = true := hc2.trans (by rw [hg2]; first | rfl | simp)
    subst hc2
    exact o_nil (hS.keep (k3 rfl rfl rfl) (fun hI => (hI.sub sn)))
   ·refine o_pure hS (.inr ⟨_, _, _, _, rfl, rfl, rfl, hg2⟩) rfl rfl ?_; clear hS
    intro tm hS
    refine o_pure hS (.inr ⟨_, _, _, _, rfl, rfl, rfl, hg2⟩) rfl rfl ?_; clear hS
    intro tm hS
    refine o_pure hS (.inr ⟨_, _, _, _, rfl, rfl, rfl, hg2⟩) rfl rfl ?_; clear hS
    intro tm hS
    obtain ⟨c3, hc3⟩ : ∃ x : Bool, x = ((decide (b1 < 0)) && (decide (a1 < (IntKind.i64.wrap ((-9223372036854775808) - b1))))) := ⟨_, rfl⟩
    refine o_cutN 5 (J := fun tm H => S wm 215 tm H [(28, .bool c3), (1, .int .i64 a1), (2, .int .i64 b1), (20, .bool ((decide (b1 > 0)) && (decide (a1 > (IntKind.i64.wrap (9223372036854775807 - b1))))))] [] Fr) ?_ ?_
    ·rcases Bool.eq_false_or_eq_true (decide (b1 < 0)) with hg3 | hg3
     ·refine o_pure hS (.inr ⟨_, _, _, _, rfl, rfl, rfl, hg3⟩) rfl rfl ?_; clear hS
      intro tm hS
      refine o_pure hS (.inr ⟨_, _, _, _, rfl, rfl, rfl, hg3⟩) rfl rfl ?_; clear hS
      intro tm hS
      refine o_pure hS (.inr ⟨_, _, _, _, rfl, rfl, rfl, hg3⟩) rfl rfl ?_; clear hS
      intro tm hS
      refine o_pure hS (.inr ⟨_, _, _, _, rfl, rfl, rfl, hg3⟩) rfl rfl ?_; clear hS
      intro tm hS
      refine o_pickT hS (.inr ⟨_, _, _, _, rfl, rfl, rfl, hg2⟩) rfl rfl hg3 rfl ?_; clear hS
      intro tm hS
      have hc3 : c3 = (decide (a1 < (IntKind.i64.wrap ((-9223372036854775808) - b1)))) := hc3.trans (by rw [hg3]; first | rfl | simp)
      subst hc3
      exact o_nil (hS.keep (k4 rfl rfl rfl rfl) (fun hI => (hI.sub sn)))
     ·refine o_skip hS rfl rfl rfl hg3 ?_; clear hS
      intro tm hS
      refine o_skip hS rfl rfl rfl hg3 ?_; clear hS
      intro tm hS
      refine o_skip hS rfl rfl rfl hg3 ?_; clear hS
      intro tm hS
      refine o_skip hS rfl rfl rfl hg3 ?_; clear hS
      intro tm hS
      refine o_pickF hS (.inr ⟨_, _, _, _, rfl, rfl, rfl, hg2⟩) rfl rfl hg3 rfl ?_; clear hS
      intro tm hS
      have hc3 : c3 = false := hc3.trans (by rw [hg3]; first | rfl | simp)
      subst hc3
      exact o_nil (hS.keep (k4 rfl rfl rfl rfl) (fun hI => (hI.sub sn)))
    intro tm H hS
    subst hc3
    refine o_pickF hS (.inl rfl) rfl rfl hg2 rfl ?_; clear hS
    intro tm hS
    have hc2 : c2 = ((decide (b1 < 0)) && (decide (a1 < (IntKind.i64.wrap ((-9223372036854775808) - b1))))) := hc2.trans (by rw [hg2]; first | rfl | simp)
    subst hc2
    exact o_nil (hS.keep (k3 rfl rfl rfl) (fun hI => (hI.sub sn)))
  intro tm H hS
  subst hc2
  refine o_nil (hR _ _ ?_)
  clear hR R
  refine c_cond hS rfl (fun hc => ?_) (fun hc => ?_)
  ·replace h0 := iteT hc h0
   refine cr2 hS rfl rfl rfl rfl ?_; clear hS
   intro tm hS
   refine wpC.ret ?_
   obtain rfl := Option.some.inj h0
   refine Exists.intro _ (And.intro (rs_tmp hS rfl (rs_tmp hS rfl rs_nil)) ?_)
   have hI := hS.inv
   exact ⟨rfl, (hI.sub sn)⟩
  ·replace h0 := iteF hc h0
   refine wpC.skip ?_
   refine cr5 hS rfl rfl rfl rfl rfl rfl rfl rfl rfl rfl ?_; clear hS
   intro tm hS
   refine wpC.ret ?_
   obtain rfl := Option.some.inj h0
   refine Exists.intro _ (And.intro (rs_tmp hS rfl (rs_tmp hS rfl rs_nil)) ?_)
   have hI := hS.inv
   exact ⟨rfl, (hI.sub sn)⟩
 ·replace h0 := iteF hc h0
  refine cr2 hS rfl rfl rfl rfl ?_; clear hS
  intro tm hS
  refine c_cond hS rfl (fun hc => ?_) (fun hc => ?_)
  ·replace h0 := iteT hc h0
   refine c_seqS ?_
   refine c_reg fun R hR => ?_
   refine pp3 hS rfl rfl rfl rfl rfl rfl ?_; clear hS
   intro tm hS
   obtain ⟨c4, hc4⟩ : ∃ x : Bool, x = ((decide (b1 < 0)) && (decide (a1 > (IntKind.i64.wrap (9223372036854775807 + b1))))) := ⟨_, rfl⟩
   refine o_cutN 5 (J := fun tm H => S wm 215 tm H [(42, .bool c4), (1, .int .i64 a1), (2, .int .i64 b1)] [] Fr) ?_ ?_
   ·rcases Bool.eq_false_or_eq_true (decide (b1 < 0)) with hg4 | hg4
    ·refine o_pure hS (.inr ⟨_, _, _, _, rfl, rfl, rfl, hg4⟩) rfl rfl ?_; clear hS
     intro tm hS
     refine o_pure hS (.inr ⟨_, _, _, _, rfl, rfl, rfl, hg4⟩) rfl rfl ?_; clear hS
     intro tm hS
     refine o_pure hS (.inr ⟨_, _, _, _, rfl, rfl, rfl, hg4⟩) rfl rfl ?_; clear hS
     intro tm hS
     refine o_pure hS (.inr ⟨_, _, _, _, rfl, rfl, rfl, hg4⟩) rfl rfl ?_; clear hS
     intro tm hS
     refine o_pickT hS (.inl rfl) rfl rfl hg4 rfl ?_; clear hS
     intro tm hS
     have hc4 : c4 = (decide (a1 > (IntKind.i64.wrap (9223372036854775807 + b1)))) := hc4.trans (by rw [hg4]; first | rfl | simp)
     subst hc4
     exact o_nil (hS.keep (k3 rfl rfl rfl) (fun hI => (hI.sub sn)))
    ·refine o_skip hS rfl rfl rfl hg4 ?_; clear hS
     intro tm hS
     refine o_skip hS rfl rfl rfl hg4 ?_; clear hS
     intro tm hS
     refine o_skip hS rfl rfl rfl hg4 ?_; clear hS
     intro tm hS
     refine o_skip hS rfl rfl rfl hg4 ?_; clear hS
     intro tm hS
     refine o_pickF hS (.inl rfl) rfl rfl hg4 rfl ?_; clear hS
     intro tm hS
     have hc4 : c4 = false := hc4.trans (by rw [hg4]; first | rfl | simp)
     subst hc4
     exact o_nil (hS.keep (k3 rfl rfl rfl) (fun hI => (hI.sub sn)))
   intro tm H hS
   subst hc4
   refine pp1 hS rfl rfl ?_; clear hS
   intro tm hS
   obtain ⟨c5, hc5⟩ : ∃ x : Bool, x = (((decide (b1 < 0)) && (decide (a1 > (IntKind.i64.wrap (9223372036854775807 + b1))))) || ((decide (b1 > 0)) && (decide (a1 < (IntKind.i64.wrap ((-9223372036854775808) + b1)))))) := ⟨_, rfl⟩
   refine o_cutN 9 (J := fun tm H => S wm 215 tm H [(52, .bool c5), (1, .int .i64 a1), (2, .int .i64 b1)] [] Fr) ?_ ?_
   ·rcases Bool.eq_false_or_eq_true ((decide (b1 < 0)) && (decide (a1 > (IntKind.i64.wrap (9223372036854775807 + b1))))) with hg5 | hg5
    ·refine o_skip hS rfl rfl rfl hg5 ?_; clear hS
     intro tm hS
     refine o_skip hS rfl rfl rfl hg5 ?_; clear hS
     intro tm hS
     refine o_skip hS rfl rfl rfl hg5 ?_; clear hS
     intro tm hS
     refine o_skipU hS rfl rfl rfl ?_; clear hS
     intro tm hS
     refine o_skipU hS rfl rfl rfl ?_; clear hS
     intro tm hS
     refine o_skipU hS rfl rfl rfl ?_; clear hS
     intro tm hS
     refine o_skipU hS rfl rfl rfl ?_; clear hS
     intro tm hS
     refine o_skip hS rfl rfl rfl hg5 ?_; clear hS
     intro tm hS
     refine o_pickT hS (.inl rfl) rfl rfl hg5 rfl ?_; clear hS
     intro tm hS
     have hc5 : c5 = true := hc5.trans (by rw [hg5]; first | rfl | simp)
     subst hc5
     exact o_nil (hS.keep (k3 rfl rfl rfl) (fun hI => (hI.sub sn)))
    ·refine o_pure hS (.inr ⟨_, _, _, _, rfl, rfl, rfl, hg5⟩) rfl rfl ?_; clear hS
     intro tm hS
     refine o_pure hS (.inr ⟨_, _, _, _, rfl, rfl, rfl, hg5⟩) rfl rfl ?_; clear hS
     intro tm hS
     refine o_pure hS (.inr ⟨_, _, _, _, rfl, rfl, rfl, hg5⟩) rfl rfl ?_; clear hS
     intro tm hS
     obtain ⟨c6, hc6⟩ : ∃ x : Bool, x = ((decide (b1 > 0)) && (decide (a1 < (IntKind.i64.wrap ((-9223372036854775808) + b1))))) := ⟨_, rfl⟩
     refine o_cutN 5 (J := fun tm H => S wm 215 tm H [(51, .bool c6), (1, .int .i64 a1), (2, .int .i64 b1), (43, .bool ((decide (b1 < 0)) && (decide (a1 > (IntKind.i64.wrap (9223372036854775807 + b1))))))] [] Fr) ?_ ?_
     ·rcases Bool.eq_false_or_eq_true (decide (b1 > 0)) with hg6 | hg6
      ·refine o_pure hS (.inr ⟨_, _, _, _, rfl, rfl, rfl, hg6⟩) rfl rfl ?_; clear hS
       intro tm hS
       refine o_pure hS (.inr ⟨_, _, _, _, rfl, rfl, rfl, hg6⟩) rfl rfl ?_; clear hS
       intro tm hS
       refine o_pure hS (.inr ⟨_, _, _, _, rfl, rfl, rfl, hg6⟩) rfl rfl ?_; clear hS
       intro tm hS
       refine o_pure hS (.inr ⟨_, _, _, _, rfl, rfl, rfl, hg6⟩) rfl rfl ?_; clear hS
       intro tm hS
       refine o_pickT hS (.inr ⟨_, _, _, _, rfl, rfl, rfl, hg5⟩) rfl rfl hg6 rfl ?_; clear hS
       intro tm hS
       have hc6 : c6 = (decide (a1 < (IntKind.i64.wrap ((-9223372036854775808) + b1)))) := hc6.trans (by rw [hg6]; first | rfl | simp)
       subst hc6
       exact o_nil (hS.keep (k4 rfl rfl rfl rfl) (fun hI => (hI.sub sn)))
      ·refine o_skip hS rfl rfl rfl hg6 ?_; clear hS
       intro tm hS
       refine o_skip hS rfl rfl rfl hg6 ?_; clear hS
       intro tm hS
       refine o_skip hS rfl rfl rfl hg6 ?_; clear hS
       intro tm hS
       refine o_skip hS rfl rfl rfl hg6 ?_; clear hS
       intro tm hS
       refine o_pickF hS (.inr ⟨_, _, _, _, rfl, rfl, rfl, hg5⟩) rfl rfl hg6 rfl ?_; clear hS
       intro tm hS
       have hc6 : c6 = false := hc6.trans (by rw [hg6]; first | rfl | simp)
       subst hc6
       exact o_nil (hS.keep (k4 rfl rfl rfl rfl) (fun hI => (hI.sub sn)))
     intro tm H hS
     subst hc6
     refine o_pickF hS (.inl rfl) rfl rfl hg5 rfl ?_; clear hS
     intro tm hS
     have hc5 : c5 = ((decide (b1 > 0)) && (decide (a1 < (IntKind.i64.wrap ((-9223372036854775808) + b1))))) := hc5.trans (by rw [hg5]; first | rfl | simp)
     subst hc5
     exact o_nil (hS.keep (k3 rfl rfl rfl) (fun hI => (hI.sub sn)))
   intro tm H hS
   subst hc5
   refine o_nil (hR _ _ ?_)
   clear hR R
   refine c_cond hS rfl (fun hc => ?_) (fun hc => ?_)
   ·replace h0 := iteT hc h0
    refine cr2 hS rfl rfl rfl rfl ?_; clear hS
    intro tm hS
    refine wpC.ret ?_
    obtain rfl := Option.some.inj h0
    refine Exists.intro _ (And.intro (rs_tmp hS rfl (rs_tmp hS rfl rs_nil)) ?_)
    have hI := hS.inv
    exact ⟨rfl, (hI.sub sn)⟩
   ·replace h0 := iteF hc h0
    refine wpC.skip ?_
    refine cr5 hS rfl rfl rfl rfl rfl rfl rfl rfl rfl rfl ?_; clear hS
    intro tm hS
    refine wpC.ret ?_
    obtain rfl := Option.some.inj h0
    refine Exists.intro _ (And.intro (rs_tmp hS rfl (rs_tmp hS rfl rs_nil)) ?_)
    have hI := hS.inv
    exact ⟨rfl, (hI.sub sn)⟩
  ·replace h0 := iteF hc h0
   refine cr2 hS rfl rfl rfl rfl ?_; clear hS
   intro tm hS
   refine c_cond hS rfl (fun hc => ?_) (fun hc => ?_)
   ·replace h0 := iteT hc h0
    refine c_reg fun R hR => ?_
    refine pp2 hS rfl rfl rfl rfl ?_; clear hS
    intro tm hS
    obtain ⟨⟨r1, r2⟩, hx1, h0⟩ := bindS h0
    refine o_call hS (.inl rfl) rfl (fun wm' hw1 hw2 => wk90  a1 b1   (hS.sel hw2) hx1) (fun wm' res H hw' hp => ?_)
    obtain ⟨hres, hI⟩ := hp
    replace hres := hres.symm; subst hres
    replace hS : S wm 215 _ H ((60, .tuple #[.int .i64 r1, .bool r2]) :: _) ([] ++ _) Fr := hS.after rfl hw' hI
    clear hI hw'
    refine pp4 hS rfl rfl rfl rfl rfl rfl rfl rfl ?_; clear hS
    intro tm hS
    refine o_nil (hR _ _ ?_)
    clear hR R
    refine wpC.ret ?_
    obtain rfl := Option.some.inj h0
    refine Exists.intro _ (And.intro (rs_tmp hS rfl (rs_tmp hS rfl rs_nil)) ?_)
    have hI := hS.inv
    exact ⟨rfl, (hI.sub sn)⟩
   ·replace h0 := iteF hc h0
    refine cr2 hS rfl rfl rfl rfl ?_; clear hS
    intro tm hS
    refine c_cond hS rfl (fun hc => ?_) (fun hc => ?_)
    ·replace h0 := iteT hc h0
     refine c_seqS ?_
     refine c_reg fun R hR => ?_
     refine pp3 hS rfl rfl rfl rfl rfl rfl ?_; clear hS
     intro tm hS
     obtain ⟨c7, hc7⟩ : ∃ x : Bool, x = ((a1 == 0) && (b1 == 0)) := ⟨_, rfl⟩
     refine o_cutN 3 (J := fun tm H => S wm 215 tm H [(70, .bool c7), (1, .int .i64 a1), (2, .int .i64 b1)] [] Fr) ?_ ?_
     ·rcases Bool.eq_false_or_eq_true (a1 == 0) with hg7 | hg7
      ·refine o_pure hS (.inr ⟨_, _, _, _, rfl, rfl, rfl, hg7⟩) rfl rfl ?_; clear hS
       intro tm hS
       refine o_pure hS (.inr ⟨_, _, _, _, rfl, rfl, rfl, hg7⟩) rfl rfl ?_; clear hS
       intro tm hS
       refine o_pickT hS (.inl rfl) rfl rfl hg7 rfl ?_; clear hS
       intro tm hS
       have hc7 : c7 = (b1 == 0) := hc7.trans (by rw [hg7]; first | rfl | simp)
       subst hc7
       exact o_nil (hS.keep (k3 rfl rfl rfl) (fun hI => (hI.sub sn)))
      ·refine o_skip hS rfl rfl rfl hg7 ?_; clear hS
       intro tm hS
       refine o_skip hS rfl rfl rfl hg7 ?_; clear hS
       intro tm hS
       refine o_pickF hS (.inl rfl) rfl rfl hg7 rfl ?_; clear hS
       intro tm hS
       have hc7 : c7 = false := hc7.trans (by rw [hg7]; first | rfl | simp)
       subst hc7
       exact o_nil (hS.keep (k3 rfl rfl rfl) (fun hI => (hI.sub sn)))
     intro tm H hS
     subst hc7
     refine o_nil (hR _ _ ?_)
     clear hR R
     refine c_cond hS rfl (fun hc => ?_) (fun hc => ?_)
     ·replace h0 := iteT hc h0
      refine cr2 hS rfl rfl rfl rfl ?_; clear hS
      intro tm hS
      refine wpC.ret ?_
      obtain rfl := Option.some.inj h0
      refine Exists.intro _ (And.intro (rs_tmp hS rfl (rs_tmp hS rfl rs_nil)) ?_)
      have hI := hS.inv
      exact ⟨rfl, (hI.sub sn)⟩
     ·replace h0 := iteF hc h0
      refine wpC.skip ?_
      refine c_seqS ?_
      refine c_reg fun R hR => ?_
      refine pp3 hS rfl rfl rfl rfl rfl rfl ?_; clear hS
      intro tm hS
      obtain ⟨c8, hc8⟩ : ∃ x : Bool, x = ((b1 == 0) || ((a1 == (-9223372036854775808)) && (b1 == (-1)))) := ⟨_, rfl⟩
      refine o_cutN 7 (J := fun tm H => S wm 215 tm H [(80, .bool c8), (1, .int .i64 a1), (2, .int .i64 b1)] [] Fr) ?_ ?_
      ·rcases Bool.eq_false_or_eq_true (b1 == 0) with hg8 | hg8
       ·refine o_skip hS rfl rfl rfl hg8 ?_; clear hS
        intro tm hS
        refine o_skip hS rfl rfl rfl hg8 ?_; clear hS
        intro tm hS
        refine o_skip hS rfl rfl rfl hg8 ?_; clear hS
        intro tm hS
        refine o_skipU hS rfl rfl rfl ?_; clear hS
        intro tm hS
        refine o_skipU hS rfl rfl rfl ?_; clear hS
        intro tm hS
        refine o_skip hS rfl rfl rfl hg8 ?_; clear hS
        intro tm hS
        refine o_pickT hS (.inl rfl) rfl rfl hg8 rfl ?_; clear hS
        intro tm hS
        have hc8 : c8 = true := hc8.trans (by rw [hg8]; first | rfl | simp)
        subst hc8
        exact o_nil (hS.keep (k3 rfl rfl rfl) (fun hI => (hI.sub sn)))
       ·refine o_pure hS (.inr ⟨_, _, _, _, rfl, rfl, rfl, hg8⟩) rfl rfl ?_; clear hS
        intro tm hS
        refine o_pure hS (.inr ⟨_, _, _, _, rfl, rfl, rfl, hg8⟩) rfl rfl ?_; clear hS
        intro tm hS
        refine o_pure hS (.inr ⟨_, _, _, _, rfl, rfl, rfl, hg8⟩) rfl rfl ?_; clear hS
        intro tm hS
        obtain ⟨c9, hc9⟩ : ∃ x : Bool, x = ((a1 == (-9223372036854775808)) && (b1 == (-1))) := ⟨_, rfl⟩
        refine o_cutN 3 (J := fun tm H => S wm 215 tm H [(79, .bool c9), (1, .int .i64 a1), (2, .int .i64 b1), (73, .bool (b1 == 0))] [] Fr) ?_ ?_
        ·rcases Bool.eq_false_or_eq_true (a1 == (-9223372036854775808)) with hg9 | hg9
         ·refine o_pure hS (.inr ⟨_, _, _, _, rfl, rfl, rfl, hg9⟩) rfl rfl ?_; clear hS
          intro tm hS
          refine o_pure hS (.inr ⟨_, _, _, _, rfl, rfl, rfl, hg9⟩) rfl rfl ?_; clear hS
          intro tm hS
          refine o_pickT hS (.inr ⟨_, _, _, _, rfl, rfl, rfl, hg8⟩) rfl rfl hg9 rfl ?_; clear hS
          intro tm hS
          have hc9 : c9 = (b1 == (-1)) := hc9.trans (by rw [hg9]; first | rfl | simp)
          subst hc9
          exact o_nil (hS.keep (k4 rfl rfl rfl rfl) (fun hI => (hI.sub sn)))
         ·refine o_skip hS rfl rfl rfl hg9 ?_; clear hS
          intro tm hS
          refine o_skip hS rfl rfl rfl hg9 ?_; clear hS
          intro tm hS
          refine o_pickF hS (.inr ⟨_, _, _, _, rfl, rfl, rfl, hg8⟩) rfl rfl hg9 rfl ?_; clear hS
          intro tm hS
          have hc9 : c9 = false := hc9.trans (by rw [hg9]; first | rfl | simp)
          subst hc9
          exact o_nil (hS.keep (k4 rfl rfl rfl rfl) (fun hI => (hI.sub sn)))
        intro tm H hS
        subst hc9
        refine o_pickF hS (.inl rfl) rfl rfl hg8 rfl ?_; clear hS
        intro tm hS
        have hc8 : c8 = ((a1 == (-9223372036854775808)) && (b1 == (-1))) := hc8.trans (by rw [hg8]; first | rfl | simp)
        subst hc8
        exact o_nil (hS.keep (k3 rfl rfl rfl) (fun hI => (hI.sub sn)))
      intro tm H hS
      subst hc8
      refine pp1 hS rfl rfl ?_; clear hS
      intro tm hS
      obtain ⟨c10, hc10, h0⟩ := bindS h0
      refine o_cutN 5 (J := fun tm H => S wm 215 tm H [(86, .bool c10), (1, .int .i64 a1), (2, .int .i64 b1)] [] Fr) ?_ ?_
      ·rcases Bool.eq_false_or_eq_true ((b1 == 0) || ((a1 == (-9223372036854775808)) && (b1 == (-1)))) with hg10 | hg10
       ·replace hc10 := iteT hg10 hc10
        refine o_skip hS rfl rfl rfl hg10 ?_; clear hS
        intro tm hS
        refine o_skip hS rfl rfl rfl hg10 ?_; clear hS
        intro tm hS
        refine o_skip hS rfl rfl rfl hg10 ?_; clear hS
        intro tm hS
        refine o_skip hS rfl rfl rfl hg10 ?_; clear hS
        intro tm hS
        refine o_pickT hS (.inl rfl) rfl rfl hg10 rfl ?_; clear hS
        intro tm hS
        obtain rfl := Option.some.inj hc10
        exact o_nil (hS.keep (k3 rfl rfl rfl) (fun hI => (hI.sub sn)))
       ·replace hc10 := iteF hg10 hc10
        refine o_pure hS (.inr ⟨_, _, _, _, rfl, rfl, rfl, hg10⟩) rfl rfl ?_; clear hS
        intro tm hS
        refine o_pure hS (.inr ⟨_, _, _, _, rfl, rfl, rfl, hg10⟩) rfl rfl ?_; clear hS
        intro tm hS
        obtain ⟨q1, hx2, hc10⟩ := bindS hc10
        refine o_rem hS (.inr ⟨_, _, _, _, rfl, rfl, rfl, hg10⟩) rfl rfl rfl hx2 ?_; clear hS
        intro tm hS
        refine o_pure hS (.inr ⟨_, _, _, _, rfl, rfl, rfl, hg10⟩) rfl rfl ?_; clear hS
        intro tm hS
        refine o_pickF hS (.inl rfl) rfl rfl hg10 rfl ?_; clear hS
        intro tm hS
        obtain rfl := Option.some.inj hc10
        exact o_nil (hS.keep (k3 rfl rfl rfl) (fun hI => (hI.sub sn)))
      intro tm H hS
      refine o_nil (hR _ _ ?_)
      clear hR R
      refine c_cond hS rfl (fun hc => ?_) (fun hc => ?_)
      ·replace h0 := iteT hc h0
       refine cr2 hS rfl rfl rfl rfl ?_; clear hS
       intro tm hS
       refine wpC.ret ?_
       obtain rfl := Option.some.inj h0
       refine Exists.intro _ (And.intro (rs_tmp hS rfl (rs_tmp hS rfl rs_nil)) ?_)
       have hI := hS.inv
       exact ⟨rfl, (hI.sub sn)⟩
      ·replace h0 := iteF hc h0
       refine wpC.skip ?_
       refine c_reg fun R hR => ?_
       refine pp2 hS rfl rfl rfl rfl ?_; clear hS
       intro tm hS
       obtain ⟨q2, hx3, h0⟩ := bindS h0
       refine o_quo hS (.inl rfl) rfl rfl rfl hx3 ?_; clear hS
       intro tm hS
       refine pp2 hS rfl rfl rfl rfl ?_; clear hS
       intro tm hS
       refine o_nil (hR _ _ ?_)
       clear hR R
       refine wpC.ret ?_
       obtain rfl := Option.some.inj h0
       refine Exists.intro _ (And.intro (rs_tmp hS rfl (rs_tmp hS rfl rs_nil)) ?_)
       have hI := hS.inv
       exact ⟨rfl, (hI.sub sn)⟩
    ·replace h0 := iteF hc h0
     refine cr2 hS rfl rfl rfl rfl ?_; clear hS
     intro tm hS
     refine c_cond hS rfl (fun hc => ?_) (fun hc => ?_)
     ·replace h0 := iteT hc h0
      refine c_seqS ?_
      refine cr2 hS rfl rfl rfl rfl ?_; clear hS
      intro tm hS
      refine c_cond hS rfl (fun hc => ?_) (fun hc => ?_)
      ·replace h0 := iteT hc h0
       refine cr2 hS rfl rfl rfl rfl ?_; clear hS
       intro tm hS
       refine wpC.ret ?_
       obtain rfl := Option.some.inj h0
       refine Exists.intro _ (And.intro (rs_tmp hS rfl (rs_tmp hS rfl rs_nil)) ?_)
       have hI := hS.inv
       exact ⟨rfl, (hI.sub sn)⟩
      ·replace h0 := iteF hc h0
       refine wpC.skip ?_
       refine c_seqS ?_
       refine cr2 hS rfl rfl rfl rfl ?_; clear hS
       intro tm hS
       refine c_cond hS rfl (fun hc => ?_) (fun hc => ?_)
       ·replace h0 := iteT hc h0
        refine c_reg fun R hR => ?_
        refine pp2 hS rfl rfl rfl rfl ?_; clear hS
        intro tm hS
        obtain ⟨⟨r3, r4⟩, hx4, h0⟩ := bindS h0
        refine o_call hS (.inl rfl) rfl (fun wm' hw1 hw2 => wk91  a1 b1   (hS.sel hw2) hx4) (fun wm' res H hw' hp => ?_)
        obtain ⟨hres, hI⟩ := hp
        replace hres := hres.symm; subst hres
        replace hS : S wm 215 _ H ((98, .tuple #[.int .i64 r3, .bool r4]) :: _) ([] ++ _) Fr := hS.after rfl hw' hI
        clear hI hw'
        refine pp4 hS rfl rfl rfl rfl rfl rfl rfl rfl ?_; clear hS
        intro tm hS
        refine o_nil (hR _ _ ?_)
        clear hR R
        refine wpC.ret ?_
        obtain rfl := Option.some.inj h0
        refine Exists.intro _ (And.intro (rs_tmp hS rfl (rs_tmp hS rfl rs_nil)) ?_)
        have hI := hS.inv
        exact ⟨rfl, (hI.sub sn)⟩
       ·replace h0 := iteF hc h0
        refine wpC.skip ?_
        refine c_seqS ?_
        refine c_reg fun R hR => ?_
        refine pp3 hS rfl rfl rfl rfl rfl rfl ?_; clear hS
        intro tm hS
        obtain ⟨c11, hc11⟩ : ∃ x : Bool, x = ((a1 == 1) || (a1 == (-1))) := ⟨_, rfl⟩
        refine o_cutN 3 (J := fun tm H => S wm 215 tm H [(106, .bool c11), (1, .int .i64 a1), (2, .int .i64 b1)] [] Fr) ?_ ?_
        ·rcases Bool.eq_false_or_eq_true (a1 == 1) with hg11 | hg11
         ·refine o_skip hS rfl rfl rfl hg11 ?_; clear hS
          intro tm hS
          refine o_skip hS rfl rfl rfl hg11 ?_; clear hS
          intro tm hS
          refine o_pickT hS (.inl rfl) rfl rfl hg11 rfl ?_; clear hS
          intro tm hS
          have hc11 : c11 = true := hc11.trans (by rw [hg11]; first | rfl | simp)
          subst hc11
          exact o_nil (hS.keep (k3 rfl rfl rfl) (fun hI => (hI.sub sn)))
         ·refine o_pure hS (.inr ⟨_, _, _, _, rfl, rfl, rfl, hg11⟩) rfl rfl ?_; clear hS
          intro tm hS
          refine o_pure hS (.inr ⟨_, _, _, _, rfl, rfl, rfl, hg11⟩) rfl rfl ?_; clear hS
          intro tm hS
          refine o_pickF hS (.inl rfl) rfl rfl hg11 rfl ?_; clear hS
          intro tm hS
          have hc11 : c11 = (a1 == (-1)) := hc11.trans (by rw [hg11]; first | rfl | simp)
          subst hc11
          exact o_nil (hS.keep (k3 rfl rfl rfl) (fun hI => (hI.sub sn)))
        intro tm H hS
        subst hc11
        refine o_nil (hR _ _ ?_)
        clear hR R
        refine c_cond hS rfl (fun hc => ?_) (fun hc => ?_)
        ·replace h0 := iteT hc h0
         refine c_reg fun R hR => ?_
         refine pp4 hS rfl rfl rfl rfl rfl rfl rfl rfl ?_; clear hS
         intro tm hS
         obtain ⟨⟨r5, r6⟩, hx5, h0⟩ := bindS h0
         refine o_call hS (.inl rfl) rfl (fun wm' hw1 hw2 => wk91  a1 (IntKind.i64.wrap (2 - (Int.tmod b1 2)))   (hS.sel hw2) hx5) (fun wm' res H hw' hp => ?_)
         obtain ⟨hres, hI⟩ := hp
         replace hres := hres.symm; subst hres
         replace hS : S wm 215 _ H ((111, .tuple #[.int .i64 r5, .bool r6]) :: _) ([] ++ _) Fr := hS.after rfl hw' hI
         clear hI hw'
         refine pp4 hS rfl rfl rfl rfl rfl rfl rfl rfl ?_; clear hS
         intro tm hS
         refine o_nil (hR _ _ ?_)
         clear hR R
         refine wpC.ret ?_
         obtain rfl := Option.some.inj h0
         refine Exists.intro _ (And.intro (rs_tmp hS rfl (rs_tmp hS rfl rs_nil)) ?_)
         have hI := hS.inv
         exact ⟨rfl, (hI.sub sn)⟩
        ·replace h0 := iteF hc h0
         refine wpC.skip ?_
         refine cr2 hS rfl rfl rfl rfl ?_; clear hS
         intro tm hS
         refine wpC.ret ?_
         obtain rfl := Option.some.inj h0
         refine Exists.intro _ (And.intro (rs_tmp hS rfl (rs_tmp hS rfl rs_nil)) ?_)
         have hI := hS.inv
         exact ⟨rfl, (hI.sub sn)⟩
     ·replace h0 := iteF hc h0
      refine cr2 hS rfl rfl rfl rfl ?_; clear hS
      intro tm hS
      refine c_cond hS rfl (fun hc => ?_) (fun hc => ?_)
      ·replace h0 := iteT hc h0
       refine c_seqS ?_
       refine cr2 hS rfl rfl rfl rfl ?_; clear hS
       intro tm hS
       refine c_cond hS rfl (fun hc => ?_) (fun hc => ?_)
       ·replace h0 := iteT hc h0
        refine cr3 hS rfl rfl rfl rfl rfl rfl ?_; clear hS
        intro tm hS
        refine wpC.ret ?_
        obtain rfl := Option.some.inj h0
        refine Exists.intro _ (And.intro (rs_tmp hS rfl (rs_tmp hS rfl rs_nil)) ?_)
        have hI := hS.inv
        exact ⟨rfl, (hI.sub sn)⟩
       ·replace h0 := iteF hc h0
        refine wpC.skip ?_
        refine c_seqS ?_
        refine c_reg fun R hR => ?_
        refine pp3 hS rfl rfl rfl rfl rfl rfl ?_; clear hS
        intro tm hS
        obtain ⟨c12, hc12⟩ : ∃ x : Bool, x = ((a1 == (-1)) || (a1 == 1)) := ⟨_, rfl⟩
        refine o_cutN 3 (J := fun tm H => S wm 215 tm H [(124, .bool c12), (1, .int .i64 a1), (2, .int .i64 b1)] [] Fr) ?_ ?_
        ·rcases Bool.eq_false_or_eq_true (a1 == (-1)) with hg12 | hg12
         ·refine o_skip hS rfl rfl rfl hg12 ?_; clear hS
          intro tm hS
          refine o_skip hS rfl rfl rfl hg12 ?_; clear hS
          intro tm hS
          refine o_pickT hS (.inl rfl) rfl rfl hg12 rfl ?_; clear hS
          intro tm hS
          have hc12 : c12 = true := hc12.trans (by rw [hg12]; first | rfl | simp)
          subst hc12
          exact o_nil (hS.keep (k3 rfl rfl rfl) (fun hI => (hI.sub sn)))
         ·refine o_pure hS (.inr ⟨_, _, _, _, rfl, rfl, rfl, hg12⟩) rfl rfl ?_; clear hS
          intro tm hS
          refine o_pure hS (.inr ⟨_, _, _, _, rfl, rfl, rfl, hg12⟩) rfl rfl ?_; clear hS
          intro tm hS
          refine o_pickF hS (.inl rfl) rfl rfl hg12 rfl ?_; clear hS
          intro tm hS
          have hc12 : c12 = (a1 == 1) := hc12.trans (by rw [hg12]; first | rfl | simp)
          subst hc12
          exact o_nil (hS.keep (k3 rfl rfl rfl) (fun hI => (hI.sub sn)))
        intro tm H hS
        subst hc12
        refine o_nil (hR _ _ ?_)
        clear hR R
        refine c_cond hS rfl (fun hc => ?_) (fun hc => ?_)
        ·replace h0 := iteT hc h0
         refine cr2 hS rfl rfl rfl rfl ?_; clear hS
         intro tm hS
         refine wpC.ret ?_
         obtain rfl := Option.some.inj h0
         refine Exists.intro _ (And.intro (rs_tmp hS rfl (rs_tmp hS rfl rs_nil)) ?_)
         have hI := hS.inv
         exact ⟨rfl, (hI.sub sn)⟩
        ·replace h0 := iteF hc h0
         refine wpC.skip ?_
         refine c_reg fun R hR => ?_
         refine pp2 hS rfl rfl rfl rfl ?_; clear hS
         intro tm hS
         obtain ⟨q3, hx6, h0⟩ := bindS h0
         refine o_rem hS (.inl rfl) rfl rfl rfl hx6 ?_; clear hS
         intro tm hS
         refine pp1 hS rfl rfl ?_; clear hS
         intro tm hS
         refine o_nil (hR _ _ ?_)
         clear hR R
         obtain ⟨r7, h1, h0⟩ := bindS h0
         refine c_seqJ (J := fun tm H => (match (generalizing := false) r7 with | r7 => S wm 215 tm H [(8, .int .i64 r7)] [] Fr)) ?_ ?_
         ·refine c_reg fun R hR => ?_
          refine pp3 hS rfl rfl rfl rfl rfl rfl ?_; clear hS
          intro tm hS
          obtain ⟨c13, hc13⟩ : ∃ x : Bool, x = ((decide (q3 < 0)) && (decide (a1 > 0))) := ⟨_, rfl⟩
          refine o_cutN 3 (J := fun tm H => S wm 215 tm H [(133, .bool c13), (1, .int .i64 a1), (8, .int .i64 q3)] [] Fr) ?_ ?_
          ·rcases Bool.eq_false_or_eq_true (decide (q3 < 0)) with hg13 | hg13
           ·refine o_pure hS (.inr ⟨_, _, _, _, rfl, rfl, rfl, hg13⟩) rfl rfl ?_; clear hS
            intro tm hS
            refine o_pure hS (.inr ⟨_, _, _, _, rfl, rfl, rfl, hg13⟩) rfl rfl ?_; clear hS
            intro tm hS
            refine o_pickT hS (.inl rfl) rfl rfl hg13 rfl ?_; clear hS
            intro tm hS
            have hc13 : c13 = (decide (a1 > 0)) := hc13.trans (by rw [hg13]; first | rfl | simp)
            subst hc13
            exact o_nil (hS.keep (k3 rfl rfl rfl) (fun hI => (hI.sub sn)))
           ·refine o_skip hS rfl rfl rfl hg13 ?_; clear hS
            intro tm hS
            refine o_skip hS rfl rfl rfl hg13 ?_; clear hS
            intro tm hS
            refine o_pickF hS (.inl rfl) rfl rfl hg13 rfl ?_; clear hS
            intro tm hS
            have hc13 : c13 = false := hc13.trans (by rw [hg13]; first | rfl | simp)
            subst hc13
            exact o_nil (hS.keep (k3 rfl rfl rfl) (fun hI => (hI.sub sn)))
          intro tm H hS
          subst hc13
          refine pp1 hS rfl rfl ?_; clear hS
          intro tm hS
          obtain ⟨c14, hc14⟩ : ∃ x : Bool, x = (((decide (q3 < 0)) && (decide (a1 > 0))) || ((decide (q3 > 0)) && (decide (a1 < 0)))) := ⟨_, rfl⟩
          refine o_cutN 7 (J := fun tm H => S wm 215 tm H [(141, .bool c14), (1, .int .i64 a1), (8, .int .i64 q3)] [] Fr) ?_ ?_
          ·rcases Bool.eq_false_or_eq_true ((decide (q3 < 0)) && (decide (a1 > 0))) with hg14 | hg14
           ·refine o_skip hS rfl rfl rfl hg14 ?_; clear hS
            intro tm hS
            refine o_skip hS rfl rfl rfl hg14 ?_; clear hS
            intro tm hS
            refine o_skip hS rfl rfl rfl hg14 ?_; clear hS
            intro tm hS
            refine o_skipU hS rfl rfl rfl ?_; clear hS
            intro tm hS
            refine o_skipU hS rfl rfl rfl ?_; clear hS
            intro tm hS
            refine o_skip hS rfl rfl rfl hg14 ?_; clear hS
            intro tm hS
            refine o_pickT hS (.inl rfl) rfl rfl hg14 rfl ?_; clear hS
            intro tm hS
            have hc14 : c14 = true := hc14.trans (by rw [hg14]; first | rfl | simp)
            subst hc14
            exact o_nil (hS.keep (k3 rfl rfl rfl) (fun hI => (hI.sub sn)))
           ·refine o_pure hS (.inr ⟨_, _, _, _, rfl, rfl, rfl, hg14⟩) rfl rfl ?_; clear hS
            intro tm hS
            refine o_pure hS (.inr ⟨_, _, _, _, rfl, rfl, rfl, hg14⟩) rfl rfl ?_; clear hS
            intro tm hS
            refine o_pure hS (.inr ⟨_, _, _, _, rfl, rfl, rfl, hg14⟩) rfl rfl ?_; clear hS
            intro tm hS
            obtain ⟨c15, hc15⟩ : ∃ x : Bool, x = ((decide (q3 > 0)) && (decide (a1 < 0))) := ⟨_, rfl⟩
            refine o_cutN 3 (J := fun tm H => S wm 215 tm H [(140, .bool c15), (1, .int .i64 a1), (8, .int .i64 q3), (134, .bool ((decide (q3 < 0)) && (decide (a1 > 0))))] [] Fr) ?_ ?_
            ·rcases Bool.eq_false_or_eq_true (decide (q3 > 0)) with hg15 | hg15
             ·refine o_pure hS (.inr ⟨_, _, _, _, rfl, rfl, rfl, hg15⟩) rfl rfl ?_; clear hS
              intro tm hS
              refine o_pure hS (.inr ⟨_, _, _, _, rfl, rfl, rfl, hg15⟩) rfl rfl ?_; clear hS
              intro tm hS
              refine o_pickT hS (.inr ⟨_, _, _, _, rfl, rfl, rfl, hg14⟩) rfl rfl hg15 rfl ?_; clear hS
              intro tm hS
              have hc15 : c15 = (decide (a1 < 0)) := hc15.trans (by rw [hg15]; first | rfl | simp)
              subst hc15
              exact o_nil (hS.keep (k4 rfl rfl rfl rfl) (fun hI => (hI.sub sn)))
             ·refine o_skip hS rfl rfl rfl hg15 ?_; clear hS
              intro tm hS
              refine o_skip hS rfl rfl rfl hg15 ?_; clear hS
              intro tm hS
              refine o_pickF hS (.inr ⟨_, _, _, _, rfl, rfl, rfl, hg14⟩) rfl rfl hg15 rfl ?_; clear hS
              intro tm hS
              have hc15 : c15 = false := hc15.trans (by rw [hg15]; first | rfl | simp)
              subst hc15
              exact o_nil (hS.keep (k4 rfl rfl rfl rfl) (fun hI => (hI.sub sn)))
            intro tm H hS
            subst hc15
            refine o_pickF hS (.inl rfl) rfl rfl hg14 rfl ?_; clear hS
            intro tm hS
            have hc14 : c14 = ((decide (q3 > 0)) && (decide (a1 < 0))) := hc14.trans (by rw [hg14]; first | rfl | simp)
            subst hc14
            exact o_nil (hS.keep (k3 rfl rfl rfl) (fun hI => (hI.sub sn)))
          intro tm H hS
          subst hc14
          refine o_nil (hR _ _ ?_)
          clear hR R
          refine c_cond hS rfl (fun hc => ?_) (fun hc => ?_)
          ·replace h1 := iteT hc h1
           refine c_reg1 fun R hR => ?_
           refine pp4 hS rfl rfl rfl rfl rfl rfl rfl rfl ?_; clear hS
           intro tm hS
           refine o_nil (hR _ _ ?_)
           clear hR R
           obtain rfl := Option.some.inj h1
           change S wm 215 _ _ _ _ Fr; exact hS.keep (ka_cons rfl ka_nil) (fun hI => (hI.sub sn))
          ·replace h1 := iteF hc h1
           refine wpC.skip ?_
           obtain rfl := Option.some.inj h1
           change S wm 215 _ _ _ _ Fr; exact hS.keep (ka_cons rfl ka_nil) (fun hI => (hI.sub sn))
         intro tm H hS
         change S wm 215 tm H [(8, .int .i64 r7)] [] Fr at hS
         refine cr3 hS rfl rfl rfl rfl rfl rfl ?_; clear hS
         intro tm hS
         refine wpC.ret ?_
         obtain rfl := Option.some.inj h0
         refine Exists.intro _ (And.intro (rs_tmp hS rfl (rs_tmp hS rfl rs_nil)) ?_)
         have hI := hS.inv
         exact ⟨rfl, (hI.sub sn)⟩
      ·replace h0 := iteF hc h0
       refine cr2 hS rfl rfl rfl rfl ?_; clear hS
       intro tm hS
       refine c_cond hS rfl (fun hc => ?_) (fun hc => ?_)
       ·replace h0 := iteT hc h0
        refine c_seqS ?_
        refine c_reg fun R hR => ?_
        refine pp3 hS rfl rfl rfl rfl rfl rfl ?_; clear hS
        intro tm hS
        obtain ⟨c16, hc16⟩ : ∃ x : Bool, x = ((decide (a1 < 0)) || (decide (b1 < 0))) := ⟨_, rfl⟩
        refine o_cutN 3 (J := fun tm H => S wm 215 tm H [(153, .bool c16), (1, .int .i64 a1), (2, .int .i64 b1)] [] Fr) ?_ ?_
        ·rcases Bool.eq_false_or_eq_true (decide (a1 < 0)) with hg16 | hg16
         ·refine o_skip hS rfl rfl rfl hg16 ?_; clear hS
          intro tm hS
          refine o_skip hS rfl rfl rfl hg16 ?_; clear hS
          intro tm hS
          refine o_pickT hS (.inl rfl) rfl rfl hg16 rfl ?_; clear hS
          intro tm hS
          have hc16 : c16 = true := hc16.trans (by rw [hg16]; first | rfl | simp)
          subst hc16
          exact o_nil (hS.keep (k3 rfl rfl rfl) (fun hI => (hI.sub sn)))
         ·refine o_pure hS (.inr ⟨_, _, _, _, rfl, rfl, rfl, hg16⟩) rfl rfl ?_; clear hS
          intro tm hS
          refine o_pure hS (.inr ⟨_, _, _, _, rfl, rfl, rfl, hg16⟩) rfl rfl ?_; clear hS
          intro tm hS
          refine o_pickF hS (.inl rfl) rfl rfl hg16 rfl ?_; clear hS
          intro tm hS
          have hc16 : c16 = (decide (b1 < 0)) := hc16.trans (by rw [hg16]; first | rfl | simp)
          subst hc16
          exact o_nil (hS.keep (k3 rfl rfl rfl) (fun hI => (hI.sub sn)))
        intro tm H hS
        subst hc16
        refine o_nil (hR _ _ ?_)
        clear hR R
        refine c_cond hS rfl (fun hc => ?_) (fun hc => ?_)
        ·replace h0 := iteT hc h0
         refine cr2 hS rfl rfl rfl rfl ?_; clear hS
         intro tm hS
         refine wpC.ret ?_
         obtain rfl := Option.some.inj h0
         refine Exists.intro _ (And.intro (rs_tmp hS rfl (rs_tmp hS rfl rs_nil)) ?_)
         have hI := hS.inv
         exact ⟨rfl, (hI.sub sn)⟩
        ·replace h0 := iteF hc h0
         refine wpC.skip ?_
         refine c_reg fun R hR => ?_
         refine pp2 hS rfl rfl rfl rfl ?_; clear hS
         intro tm hS
         obtain ⟨⟨r8, r9⟩, hx7, h0⟩ := bindS h0
         refine o_call hS (.inl rfl) rfl (fun wm' hw1 hw2 => wk92  a1 b1   (hS.sel hw2) hx7) (fun wm' res H hw' hp => ?_)
         obtain ⟨hres, hI⟩ := hp
         replace hres := hres.symm; subst hres
         replace hS : S wm 215 _ H ((156, .tuple #[.int .i64 r8, .bool r9]) :: _) ([] ++ _) Fr := hS.after rfl hw' hI
         clear hI hw'
         refine pp4 hS rfl rfl rfl rfl rfl rfl rfl rfl ?_; clear hS
         intro tm hS
         refine o_nil (hR _ _ ?_)
         clear hR R
         refine wpC.ret ?_
         obtain rfl := Option.some.inj h0
         refine Exists.intro _ (And.intro (rs_tmp hS rfl (rs_tmp hS rfl rs_nil)) ?_)
         have hI := hS.inv
         exact ⟨rfl, (hI.sub sn)⟩
       ·replace h0 := iteF hc h0
        refine cr2 hS rfl rfl rfl rfl ?_; clear hS
        intro tm hS
        refine c_cond hS rfl (fun hc => ?_) (fun hc => ?_)
        ·replace h0 := iteT hc h0
         refine c_seqS ?_
         refine cr3 hS rfl rfl rfl rfl rfl rfl ?_; clear hS
         intro tm hS
         refine c_cond hS rfl (fun hc => ?_) (fun hc => ?_)
         ·replace h0 := iteT hc h0
          refine cr3 hS rfl rfl rfl rfl rfl rfl ?_; clear hS
          intro tm hS
          refine wpC.ret ?_
          obtain rfl := Option.some.inj h0
          refine Exists.intro _ (And.intro (rs_tmp hS rfl (rs_tmp hS rfl rs_nil)) ?_)
          have hI := hS.inv
          exact ⟨rfl, (hI.sub sn)⟩
         ·replace h0 := iteF hc h0
          refine wpC.skip ?_
          refine cr3 hS rfl rfl rfl rfl rfl rfl ?_; clear hS
          intro tm hS
          refine wpC.ret ?_
          obtain rfl := Option.some.inj h0
          refine Exists.intro _ (And.intro (rs_tmp hS rfl (rs_tmp hS rfl rs_nil)) ?_)
          have hI := hS.inv
          exact ⟨rfl, (hI.sub sn)⟩
        ·replace h0 := iteF hc h0
         refine cr2 hS rfl rfl rfl rfl ?_; clear hS
         intro tm hS
         refine c_cond hS rfl (fun hc => ?_) (fun hc => ?_)
         ·replace h0 := iteT hc h0
          refine c_seqS ?_
          refine cr3 hS rfl rfl rfl rfl rfl rfl ?_; clear hS
          intro tm hS
          refine c_cond hS rfl (fun hc => ?_) (fun hc => ?_)
          ·replace h0 := iteT hc h0
           refine cr3 hS rfl rfl rfl rfl rfl rfl ?_; clear hS
           intro tm hS
           refine wpC.ret ?_
           obtain rfl := Option.some.inj h0
           refine Exists.intro _ (And.intro (rs_tmp hS rfl (rs_tmp hS rfl rs_nil)) ?_)
           have hI := hS.inv
           exact ⟨rfl, (hI.sub sn)⟩
          ·replace h0 := iteF hc h0
           refine wpC.skip ?_
           refine cr3 hS rfl rfl rfl rfl rfl rfl ?_; clear hS
           intro tm hS
           refine wpC.ret ?_
           obtain rfl := Option.some.inj h0
           refine Exists.intro _ (And.intro (rs_tmp hS rfl (rs_tmp hS rfl rs_nil)) ?_)
           have hI := hS.inv
           exact ⟨rfl, (hI.sub sn)⟩
         ·replace h0 := iteF hc h0
          refine cr2 hS rfl rfl rfl rfl ?_; clear hS
          intro tm hS
          refine c_cond hS rfl (fun hc => ?_) (fun hc => ?_)
          ·replace h0 := iteT hc h0
           refine c_reg fun R hR => ?_
           refine pp3 hS rfl rfl rfl rfl rfl rfl ?_; clear hS
           intro tm hS
           obtain ⟨r10, hx8, h0⟩ := bindS h0
           refine o_call hS (.inl rfl) rfl (fun wm' hw1 hw2 => wk93  (decide (a1 < b1))   (hS.sel hw2) hx8) (fun wm' res H hw' hp => ?_)
           obtain ⟨hres, hI⟩ := hp
           replace hres := hres.symm; subst hres
           replace hS : S wm 215 _ H ((178, .int .i64 r10) :: _) ([] ++ _) Fr := hS.after rfl hw' hI
           clear hI hw'
           refine pp2 hS rfl rfl rfl rfl ?_; clear hS
           intro tm hS
           refine o_nil (hR _ _ ?_)
           clear hR R
           refine wpC.ret ?_
           obtain rfl := Option.some.inj h0
           refine Exists.intro _ (And.intro (rs_tmp hS rfl (rs_tmp hS rfl rs_nil)) ?_)
           have hI := hS.inv
           exact ⟨rfl, (hI.sub sn)⟩
          ·replace h0 := iteF hc h0
           refine cr2 hS rfl rfl rfl rfl ?_; clear hS
           intro tm hS
           refine c_cond hS rfl (fun hc => ?_) (fun hc => ?_)
           ·replace h0 := iteT hc h0
            refine c_reg fun R hR => ?_
            refine pp3 hS rfl rfl rfl rfl rfl rfl ?_; clear hS
            intro tm hS
            obtain ⟨r11, hx9, h0⟩ := bindS h0
            refine o_call hS (.inl rfl) rfl (fun wm' hw1 hw2 => wk93  (decide (a1 ≤ b1))   (hS.sel hw2) hx9) (fun wm' res H hw' hp => ?_)
            obtain ⟨hres, hI⟩ := hp
            replace hres := hres.symm; subst hres
            replace hS : S wm 215 _ H ((184, .int .i64 r11) :: _) ([] ++ _) Fr := hS.after rfl hw' hI
            clear hI hw'
            refine pp2 hS rfl rfl rfl rfl ?_; clear hS
            intro tm hS
            refine o_nil (hR _ _ ?_)
            clear hR R
            refine wpC.ret ?_
            obtain rfl := Option.some.inj h0
            refine Exists.intro _ (And.intro (rs_tmp hS rfl (rs_tmp hS rfl rs_nil)) ?_)
            have hI := hS.inv
            exact ⟨rfl, (hI.sub sn)⟩
           ·replace h0 := iteF hc h0
            refine cr2 hS rfl rfl rfl rfl ?_; clear hS
            intro tm hS
            refine c_cond hS rfl (fun hc => ?_) (fun hc => ?_)
            ·replace h0 := iteT hc h0
             refine c_reg fun R hR => ?_
             refine pp3 hS rfl rfl rfl rfl rfl rfl ?_; clear hS
             intro tm hS
             obtain ⟨r12, hx10, h0⟩ := bindS h0
             refine o_call hS (.inl rfl) rfl (fun wm' hw1 hw2 => wk93  (a1 == b1)   (hS.sel hw2) hx10) (fun wm' res H hw' hp => ?_)
             obtain ⟨hres, hI⟩ := hp
             replace hres := hres.symm; subst hres
             replace hS : S wm 215 _ H ((190, .int .i64 r12) :: _) ([] ++ _) Fr := hS.after rfl hw' hI
             clear hI hw'
             refine pp2 hS rfl rfl rfl rfl ?_; clear hS
             intro tm hS
             refine o_nil (hR _ _ ?_)
             clear hR R
             refine wpC.ret ?_
             obtain rfl := Option.some.inj h0
             refine Exists.intro _ (And.intro (rs_tmp hS rfl (rs_tmp hS rfl rs_nil)) ?_)
             have hI := hS.inv
             exact ⟨rfl, (hI.sub sn)⟩
            ·replace h0 := iteF hc h0
             refine cr2 hS rfl rfl rfl rfl ?_; clear hS
             intro tm hS
             refine c_cond hS rfl (fun hc => ?_) (fun hc => ?_)
             ·replace h0 := iteT hc h0
              refine c_reg fun R hR => ?_
              refine pp3 hS rfl rfl rfl rfl rfl rfl ?_; clear hS
              intro tm hS
              obtain ⟨r13, hx11, h0⟩ := bindS h0
              refine o_call hS (.inl rfl) rfl (fun wm' hw1 hw2 => wk93  (decide (a1 ≥ b1))   (hS.sel hw2) hx11) (fun wm' res H hw' hp => ?_)
              obtain ⟨hres, hI⟩ := hp
              replace hres := hres.symm; subst hres
              replace hS : S wm 215 _ H ((196, .int .i64 r13) :: _) ([] ++ _) Fr := hS.after rfl hw' hI
              clear hI hw'
              refine pp2 hS rfl rfl rfl rfl ?_; clear hS
              intro tm hS
              refine o_nil (hR _ _ ?_)
              clear hR R
              refine wpC.ret ?_
              obtain rfl := Option.some.inj h0
              refine Exists.intro _ (And.intro (rs_tmp hS rfl (rs_tmp hS rfl rs_nil)) ?_)
              have hI := hS.inv
              exact ⟨rfl, (hI.sub sn)⟩
             ·replace h0 := iteF hc h0
              refine cr2 hS rfl rfl rfl rfl ?_; clear hS
              intro tm hS
              refine c_cond hS rfl (fun hc => ?_) (fun hc => ?_)
              ·replace h0 := iteT hc h0
               refine c_reg fun R hR => ?_
               refine pp3 hS rfl rfl rfl rfl rfl rfl ?_; clear hS
               intro tm hS
               obtain ⟨r14, hx12, h0⟩ := bindS h0
               refine o_call hS (.inl rfl) rfl (fun wm' hw1 hw2 => wk93  (decide (a1 > b1))   (hS.sel hw2) hx12) (fun wm' res H hw' hp => ?_)
               obtain ⟨hres, hI⟩ := hp
               replace hres := hres.symm; subst hres
               replace hS : S wm 215 _ H ((202, .int .i64 r14) :: _) ([] ++ _) Fr := hS.after rfl hw' hI
               clear hI hw'
               refine pp2 hS rfl rfl rfl rfl ?_; clear hS
               intro tm hS
               refine o_nil (hR _ _ ?_)
               clear hR R
               refine wpC.ret ?_
               obtain rfl := Option.some.inj h0
               refine Exists.intro _ (And.intro (rs_tmp hS rfl (rs_tmp hS rfl rs_nil)) ?_)
               have hI := hS.inv
               exact ⟨rfl, (hI.sub sn)⟩
              ·replace h0 := iteF hc h0
               refine cr2 hS rfl rfl rfl rfl ?_; clear hS
               intro tm hS
               refine c_cond hS rfl (fun hc => ?_) (fun hc => ?_)
               ·replace h0 := iteT hc h0
                refine c_reg fun R hR => ?_
                refine pp3 hS rfl rfl rfl rfl rfl rfl ?_; clear hS
                intro tm hS
                obtain ⟨r15, hx13, h0⟩ := bindS h0
                refine o_call hS (.inl rfl) rfl (fun wm' hw1 hw2 => wk93  (a1 != b1)   (hS.sel hw2) hx13) (fun wm' res H hw' hp => ?_)
                obtain ⟨hres, hI⟩ := hp
                replace hres := hres.symm; subst hres
                replace hS : S wm 215 _ H ((208, .int .i64 r15) :: _) ([] ++ _) Fr := hS.after rfl hw' hI
                clear hI hw'
                refine pp2 hS rfl rfl rfl rfl ?_; clear hS
                intro tm hS
                refine o_nil (hR _ _ ?_)
                clear hR R
                refine wpC.ret ?_
                obtain rfl := Option.some.inj h0
                refine Exists.intro _ (And.intro (rs_tmp hS rfl (rs_tmp hS rfl rs_nil)) ?_)
                have hI := hS.inv
                exact ⟨rfl, (hI.sub sn)⟩
               ·replace h0 := iteF hc h0
                refine wpC.skip ?_
                refine c_reg fun R hR => ?_
                refine pp3 hS rfl rfl rfl rfl rfl rfl ?_; clear hS
                intro tm hS
                obtain ⟨⟨r16, r17⟩, hx14, h0⟩ := bindS h0
                refine o_call hS (.inl rfl) rfl (fun wm' hw1 hw2 => wk94  fn1 a1 b1   (hS.sel hw2) hx14) (fun wm' res H hw' hp => ?_)
                obtain ⟨hres, hI⟩ := hp
                replace hres := hres.symm; subst hres
                replace hS : S wm 215 _ H ((212, .tuple #[.int .i64 r16, .bool r17]) :: _) ([] ++ _) Fr := hS.after rfl hw' hI
                clear hI hw'
                refine pp4 hS rfl rfl rfl rfl rfl rfl rfl rfl ?_; clear hS
                intro tm hS
                refine o_nil (hR _ _ ?_)
                clear hR R
                refine wpC.ret ?_
                obtain rfl := Option.some.inj h0
                refine Exists.intro _ (And.intro (rs_tmp hS rfl (rs_tmp hS rfl rs_nil)) ?_)
                have hI := hS.inv
                exact ⟨rfl, (hI.sub sn)⟩
theorem wk44 {wm : Nat} {H : AHeap} {Fr : List Ent}  (fn1 : ByteArray) (a1 : Am.Item) (b1 : Am.Item)   (hI : Kn wm H [] Fr) {r : Am.Item × Int} (h0 : M.anamnesisref12_Two fn1 a1 b1 = some r) :
  wpF Try.prog ora wm 44 [.string fn1, .agg #[.int .i64 a1.n, .bool a1.char], .agg #[.int .i64 b1.n, .bool b1.char]] H (fun res H => res = .tuple #[.agg #[.int .i64 r.1.n, .bool r.1.char], .int .i64 r.2] ∧ Kn wm H [] Fr) := by
 unfold M.anamnesisref12_Two at h0
 refine f_enter (n := 67) Try.func44 rfl (by simp) hI rfl rfl rfl fun tm hS => ?_
 clear hI
 refine c_reg fun R hR => ?_
 refine o_box hS (.inl rfl) rfl rfl rfl (all_cons rfl (all_cons rfl all_nil)) ?_; clear hS
 intro b2 tm H hS
 refine o_box hS (.inl rfl) rfl rfl rfl (all_cons rfl (all_cons rfl all_nil)) ?_; clear hS
 intro b3 tm H hS
 refine o_alloc hS (.inl rfl) rfl Fz83 (by decide) ?_; clear hS
 intro b4 tm H hS
 refine pp1 hS rfl rfl ?_; clear hS
 intro tm hS
 refine o_nil (hR _ _ ?_)
 clear hR R
 refine c_seqS ?_
 refine c_reg fun R hR => ?_
 refine pp1 hS rfl rfl ?_; clear hS
 intro tm hS
 refine o_ld1 (k := 2) hS (.inl rfl) rfl rfl rfl (.inl rfl) Fu4 rfl rfl ?_; clear hS
 intro tm hS
 refine pp2 hS rfl rfl rfl rfl ?_; clear hS
 intro tm hS
 obtain ⟨c1, hc1⟩ : ∃ x : Bool, x = ((!a1.char) && (!b1.char)) := ⟨_, rfl⟩
 refine o_cutN 4 (J := fun tm H => S wm 67 tm H [(18, .bool c1), (0, .string fn1), (4, .pointer (some ⟨b2, 0, none⟩)), (5, .pointer (some ⟨b3, 0, none⟩)), (6, .pointer (some ⟨b4, 0, none⟩))] [.box b4 [.int .i64 0, .bool false], .box b3 [.int .i64 b1.n, .bool b1.char], .box b2 [.int .i64 a1.n, .bool a1.char]] Fr) ?_ ?_
 ·rcases Bool.eq_false_or_eq_true (!a1.char) with hg1 | hg1
  ·refine o_pure hS (.inr ⟨_, _, _, _, rfl, rfl, rfl, hg1⟩) rfl rfl ?_; clear hS
   intro tm hS
   refine o_ld1 (k := 1) hS (.inr ⟨_, _, _, _, rfl, rfl, rfl, hg1⟩) rfl rfl rfl (.inl rfl) Fu4 rfl rfl ?_; clear hS
   intro tm hS
   refine o_pure hS (.inr ⟨_, _, _, _, rfl, rfl, rfl, hg1⟩) rfl rfl ?_; clear hS
   intro tm hS
   refine o_pickT hS (.inl rfl) rfl rfl hg1 rfl ?_; clear hS
   intro tm hS
   have hc1 : c1 = (!b1.char) := hc1.trans (by rw [hg1]; first | rfl | simp)
   subst hc1
   exact o_nil (hS.keep (k5 rfl rfl rfl rfl rfl) (fun hI => (hI.sub (sc (sc (sc sn))))))
  ·refine o_skip hS rfl rfl rfl hg1 ?_; clear hS
   intro tm hS
   refine o_skip hS rfl rfl rfl hg1 ?_; clear hS
   intro tm hS
   refine o_skip hS rfl rfl rfl hg1 ?_; clear hS
   intro tm hS
   refine o_pickF hS (.inl rfl) rfl rfl hg1 rfl ?_; clear hS
   intro tm hS
   have hc1 : c1 = false := hc1.trans (by rw [hg1]; first | rfl | simp)
   subst hc1
   exact o_nil (hS.keep (k5 rfl rfl rfl rfl rfl) (fun hI => (hI.sub (sc (sc (sc sn))))))
 intro tm H hS
 subst hc1
 refine o_nil (hR _ _ ?_)
 clear hR R
 refine c_cond hS rfl (fun hc => ?_) (fun hc => ?_)
 ·replace h0 := iteT hc h0
  refine c_reg fun R hR => ?_
  refine pp2 hS rfl rfl rfl rfl ?_; clear hS
  intro tm hS
  refine o_ld1 (k := 2) hS (.inl rfl) rfl rfl rfl (.inl rfl) Fu2 rfl rfl ?_; clear hS
  intro tm hS
  refine pp1 hS rfl rfl ?_; clear hS
  intro tm hS
  refine o_ld1 (k := 1) hS (.inl rfl) rfl rfl rfl (.inl rfl) Fu2 rfl rfl ?_; clear hS
  intro tm hS
  obtain ⟨⟨r1, r2⟩, hx1, h0⟩ := bindS h0
  refine o_call hS (.inl rfl) rfl (fun wm' hw1 hw2 => wk73  fn1 a1.n b1.n   (hS.sel hw2) hx1) (fun wm' res H hw' hp => ?_)
  obtain ⟨hres, hI⟩ := hp
  replace hres := hres.symm; subst hres
  replace hS : S wm 67 _ H ((25, .tuple #[.int .i64 r1, .bool r2]) :: _) ([] ++ _) Fr := hS.after rfl hw' hI
  clear hI hw'
  refine pp5 hS rfl rfl rfl rfl rfl rfl rfl rfl rfl rfl ?_; clear hS
  intro tm hS
  refine o_nil (hR _ _ ?_)
  clear hR R
  refine c_seqS ?_
  refine cr2 hS rfl rfl rfl rfl ?_; clear hS
  intro tm hS
  refine c_cond hS rfl (fun hc => ?_) (fun hc => ?_)
  ·replace h0 := iteT hc h0
   refine c_reg fun R hR => ?_
   refine o_build hS (.inl rfl) rfl Fb83 rfl .nil rfl ?_; clear hS
   intro tm hS
   refine o_st (k := 0) hS (.inl rfl) rfl rfl rfl Fs83 rfl rfl (all_cons rfl (all_cons rfl all_nil)) rfl ?_; clear hS; try clear H
   intro H hS
   refine pp1 hS rfl rfl ?_; clear hS
   intro tm hS
   refine o_nil (hR _ _ ?_)
   clear hR R
   refine wpC.ret ?_
   obtain rfl := Option.some.inj h0
   refine Exists.intro _ (And.intro (rs_cellA (k := 0) hS rfl rfl (.inl rfl) Fu83 rfl Fs83 rfl (rs_tmp hS rfl rs_nil)) ?_)
   have hI := hS.inv
   exact ⟨rfl, (hI.sub sn)⟩
  ·replace h0 := iteF hc h0
   refine wpC.skip ?_
   refine c_reg fun R hR => ?_
   refine pp1 hS rfl rfl ?_; clear hS
   intro tm hS
   refine o_build hS (.inl rfl) rfl Fb83 rfl (.cons rfl .nil) rfl ?_; clear hS
   intro tm hS
   refine o_st (k := 0) hS (.inl rfl) rfl rfl rfl Fs83 rfl rfl (all_cons rfl (all_cons rfl all_nil)) rfl ?_; clear hS; try clear H
   intro H hS
   refine pp1 hS rfl rfl ?_; clear hS
   intro tm hS
   refine o_nil (hR _ _ ?_)
   clear hR R
   refine wpC.ret ?_
   obtain rfl := Option.some.inj h0
   refine Exists.intro _ (And.intro (rs_cellA (k := 0) hS rfl rfl (.inl rfl) Fu83 rfl Fs83 rfl (rs_tmp hS rfl rs_nil)) ?_)
   have hI := hS.inv
   exact ⟨rfl, (hI.sub sn)⟩
 ·replace h0 := iteF hc h0
  refine wpC.skip ?_
  refine c_reg fun R hR => ?_
  refine pp1 hS rfl rfl ?_; clear hS
  intro tm hS
  refine o_ld1 (k := 2) hS (.inl rfl) rfl rfl rfl (.inl rfl) Fu4 rfl rfl ?_; clear hS
  intro tm hS
  refine pp1 hS rfl rfl ?_; clear hS
  intro tm hS
  refine o_ld1 (k := 1) hS (.inl rfl) rfl rfl rfl (.inl rfl) Fu4 rfl rfl ?_; clear hS
  intro tm hS
  refine pp2 hS rfl rfl rfl rfl ?_; clear hS
  intro tm hS
  obtain ⟨c2, hc2⟩ : ∃ x : Bool, x = ((a1.char == b1.char) && (a1.n == b1.n)) := ⟨_, rfl⟩
  refine o_cutN 6 (J := fun tm H => S wm 67 tm H [(44, .bool c2), (0, .string fn1), (6, .pointer (some ⟨b4, 0, none⟩))] [.box b4 [.int .i64 0, .bool false]] Fr) ?_ ?_
  ·rcases Bool.eq_false_or_eq_true (a1.char == b1.char) with hg2 | hg2
   ·refine o_pure hS (.inr ⟨_, _, _, _, rfl, rfl, rfl, hg2⟩) rfl rfl ?_; clear hS
    intro tm hS
    refine o_ld1 (k := 2) hS (.inr ⟨_, _, _, _, rfl, rfl, rfl, hg2⟩) rfl rfl rfl (.inl rfl) Fu2 rfl rfl ?_; clear hS
    intro tm hS
    refine o_pure hS (.inr ⟨_, _, _, _, rfl, rfl, rfl, hg2⟩) rfl rfl ?_; clear hS
    intro tm hS
    refine o_ld1 (k := 1) hS (.inr ⟨_, _, _, _, rfl, rfl, rfl, hg2⟩) rfl rfl rfl (.inl rfl) Fu2 rfl rfl ?_; clear hS
    intro tm hS
    refine o_pure hS (.inr ⟨_, _, _, _, rfl, rfl, rfl, hg2⟩) rfl rfl ?_; clear hS
    intro tm hS
    refine o_pickT hS (.inl rfl) rfl rfl hg2 rfl ?_; clear hS
    intro tm hS
    have hc2 : c2 = (a1.n == b1.n) := hc2.trans (by rw [hg2]; first | rfl | simp)
    subst hc2
    exact o_nil (hS.keep (k3 rfl rfl rfl) (fun hI => (hI.sub (sc sn))))
   ·refine o_skip hS rfl rfl rfl hg2 ?_; clear hS
    intro tm hS
    refine o_skip hS rfl rfl rfl hg2 ?_; clear hS
    intro tm hS
    refine o_skip hS rfl rfl rfl hg2 ?_; clear hS
    intro tm hS
    refine o_skip hS rfl rfl rfl hg2 ?_; clear hS
    intro tm hS
    refine o_skip hS rfl rfl rfl hg2 ?_; clear hS
    intro tm hS
    refine o_pickF hS (.inl rfl) rfl rfl hg2 rfl ?_; clear hS
    intro tm hS
    have hc2 : c2 = false := hc2.trans (by rw [hg2]; first | rfl | simp)
    subst hc2
    exact o_nil (hS.keep (k3 rfl rfl rfl) (fun hI => (hI.sub (sc sn))))
  intro tm H hS
  subst hc2
  refine pp1 hS rfl rfl ?_; clear hS
  intro tm hS
  refine o_nil (hR _ _ ?_)
  clear hR R
  refine c_seqS ?_
  refine c_reg fun R hR => ?_
  refine pp3 hS rfl rfl rfl rfl rfl rfl ?_; clear hS
  intro tm hS
  obtain ⟨c3, hc3⟩ : ∃ x : Bool, x = ((fn1.toList == str_61.toList) && ((a1.char == b1.char) && (a1.n == b1.n))) := ⟨_, rfl⟩
  refine o_cutN 2 (J := fun tm H => S wm 67 tm H [(49, .bool c3), (0, .string fn1), (6, .pointer (some ⟨b4, 0, none⟩)), (10, .bool ((a1.char == b1.char) && (a1.n == b1.n)))] [.box b4 [.int .i64 0, .bool false]] Fr) ?_ ?_
  ·rcases Bool.eq_false_or_eq_true (fn1.toList == str_61.toList) with hg3 | hg3
   ·refine o_pure hS (.inr ⟨_, _, _, _, rfl, rfl, rfl, hg3⟩) rfl rfl ?_; clear hS
    intro tm hS
    refine o_pickT hS (.inl rfl) rfl rfl hg3 rfl ?_; clear hS
    intro tm hS
    have hc3 : c3 = ((a1.char == b1.char) && (a1.n == b1.n)) := hc3.trans (by rw [hg3]; first | rfl | simp)
    subst hc3
    exact o_nil (hS.keep (k4 rfl rfl rfl rfl) (fun hI => (hI.sub (sc sn))))
   ·refine o_skip hS rfl rfl rfl hg3 ?_; clear hS
    intro tm hS
    refine o_pickF hS (.inl rfl) rfl rfl hg3 rfl ?_; clear hS
    intro tm hS
    have hc3 : c3 = false := hc3.trans (by rw [hg3]; first | rfl | simp)
    subst hc3
    exact o_nil (hS.keep (k4 rfl rfl rfl rfl) (fun hI => (hI.sub (sc sn))))
  intro tm H hS
  subst hc3
  refine pp1 hS rfl rfl ?_; clear hS
  intro tm hS
  obtain ⟨c4, hc4⟩ : ∃ x : Bool, x = (((fn1.toList == str_61.toList) && ((a1.char == b1.char) && (a1.n == b1.n))) || ((fn1.toList == str_226_137_160.toList) && (!((a1.char == b1.char) && (a1.n == b1.n))))) := ⟨_, rfl⟩
  refine o_cutN 7 (J := fun tm H => S wm 67 tm H [(57, .bool c4), (0, .string fn1), (6, .pointer (some ⟨b4, 0, none⟩))] [.box b4 [.int .i64 0, .bool false]] Fr) ?_ ?_
  ·rcases Bool.eq_false_or_eq_true ((fn1.toList == str_61.toList) && ((a1.char == b1.char) && (a1.n == b1.n))) with hg4 | hg4
   ·refine o_skip hS rfl rfl rfl hg4 ?_; clear hS
    intro tm hS
    refine o_skip hS rfl rfl rfl hg4 ?_; clear hS
    intro tm hS
    refine o_skip hS rfl rfl rfl hg4 ?_; clear hS
    intro tm hS
    refine o_skipU hS rfl rfl rfl ?_; clear hS
    intro tm hS
    refine o_skipU hS rfl rfl rfl ?_; clear hS
    intro tm hS
    refine o_skip hS rfl rfl rfl hg4 ?_; clear hS
    intro tm hS
    refine o_pickT hS (.inl rfl) rfl rfl hg4 rfl ?_; clear hS
    intro tm hS
    have hc4 : c4 = true := hc4.trans (by rw [hg4]; first | rfl | simp)
    subst hc4
    exact o_nil (hS.keep (k3 rfl rfl rfl) (fun hI => (hI.sub (sc sn))))
   ·refine o_pure hS (.inr ⟨_, _, _, _, rfl, rfl, rfl, hg4⟩) rfl rfl ?_; clear hS
    intro tm hS
    refine o_pure hS (.inr ⟨_, _, _, _, rfl, rfl, rfl, hg4⟩) rfl rfl ?_; clear hS
    intro tm hS
    refine o_pure hS (.inr ⟨_, _, _, _, rfl, rfl, rfl, hg4⟩) rfl rfl ?_; clear hS
    intro tm hS
    obtain ⟨c5, hc5⟩ : ∃ x : Bool, x = ((fn1.toList == str_226_137_160.toList) && (!((a1.char == b1.char) && (a1.n == b1.n)))) := ⟨_, rfl⟩
    refine o_cutN 3 (J := fun tm H => S wm 67 tm H [(56, .bool c5), (0, .string fn1), (6, .pointer (some ⟨b4, 0, none⟩)), (50, .bool ((fn1.toList == str_61.toList) && ((a1.char == b1.char) && (a1.n == b1.n))))] [.box b4 [.int .i64 0, .bool false]] Fr) ?_ ?_
    ·rcases Bool.eq_false_or_eq_true (fn1.toList == str_226_137_160.toList) with hg5 | hg5
     ·refine o_pure hS (.inr ⟨_, _, _, _, rfl, rfl, rfl, hg5⟩) rfl rfl ?_; clear hS
      intro tm hS
      refine o_pure hS (.inr ⟨_, _, _, _, rfl, rfl, rfl, hg5⟩) rfl rfl ?_; clear hS
      intro tm hS
      refine o_pickT hS (.inr ⟨_, _, _, _, rfl, rfl, rfl, hg4⟩) rfl rfl hg5 rfl ?_; clear hS
      intro tm hS
      have hc5 : c5 = (!((a1.char == b1.char) && (a1.n == b1.n))) := hc5.trans (by rw [hg5]; first | rfl | simp)
      subst hc5
      exact o_nil (hS.keep (k4 rfl rfl rfl rfl) (fun hI => (hI.sub (sc sn))))
     ·refine o_skip hS rfl rfl rfl hg5 ?_; clear hS
      intro tm hS
      refine o_skip hS rfl rfl rfl hg5 ?_; clear hS
      intro tm hS
      refine o_pickF hS (.inr ⟨_, _, _, _, rfl, rfl, rfl, hg4⟩) rfl rfl hg5 rfl ?_; clear hS
      intro tm hS
      have hc5 : c5 = false := hc5.trans (by rw [hg5]; first | rfl | simp)
      subst hc5
      exact o_nil (hS.keep (k4 rfl rfl rfl rfl) (fun hI => (hI.sub (sc sn))))
    intro tm H hS
    subst hc5
    refine o_pickF hS (.inl rfl) rfl rfl hg4 rfl ?_; clear hS
    intro tm hS
    have hc4 : c4 = ((fn1.toList == str_226_137_160.toList) && (!((a1.char == b1.char) && (a1.n == b1.n)))) := hc4.trans (by rw [hg4]; first | rfl | simp)
    subst hc4
    exact o_nil (hS.keep (k3 rfl rfl rfl) (fun hI => (hI.sub (sc sn))))
  intro tm H hS
  subst hc4
  refine o_nil (hR _ _ ?_)
  clear hR R
  refine c_cond hS rfl (fun hc => ?_) (fun hc => ?_)
  ·replace h0 := iteT hc h0
   refine c_reg fun R hR => ?_
   refine o_build hS (.inl rfl) rfl Fb83 rfl (.cons rfl .nil) rfl ?_; clear hS
   intro tm hS
   refine o_st (k := 0) hS (.inl rfl) rfl rfl rfl Fs83 rfl rfl (all_cons rfl (all_cons rfl all_nil)) rfl ?_; clear hS; try clear H
   intro H hS
   refine pp1 hS rfl rfl ?_; clear hS
   intro tm hS
   refine o_nil (hR _ _ ?_)
   clear hR R
   refine wpC.ret ?_
   obtain rfl := Option.some.inj h0
   refine Exists.intro _ (And.intro (rs_cellA (k := 0) hS rfl rfl (.inl rfl) Fu83 rfl Fs83 rfl (rs_tmp hS rfl rs_nil)) ?_)
   have hI := hS.inv
   exact ⟨rfl, (hI.sub sn)⟩
  ·replace h0 := iteF hc h0
   refine wpC.skip ?_
   refine c_seqS ?_
   refine c_reg fun R hR => ?_
   refine pp3 hS rfl rfl rfl rfl rfl rfl ?_; clear hS
   intro tm hS
   obtain ⟨c6, hc6⟩ : ∃ x : Bool, x = ((fn1.toList == str_61.toList) || (fn1.toList == str_226_137_160.toList)) := ⟨_, rfl⟩
   refine o_cutN 3 (J := fun tm H => S wm 67 tm H [(64, .bool c6), (6, .pointer (some ⟨b4, 0, none⟩))] [.box b4 [.int .i64 0, .bool false]] Fr) ?_ ?_
   ·rcases Bool.eq_false_or_eq_true (fn1.toList == str_61.toList) with hg6 | hg6
    ·refine o_skip hS rfl rfl rfl hg6 ?_; clear hS
     intro tm hS
     refine o_skip hS rfl rfl rfl hg6 ?_; clear hS
     intro tm hS
     refine o_pickT hS (.inl rfl) rfl rfl hg6 rfl ?_; clear hS
     intro tm hS
     have hc6 : c6 = true := hc6.trans (by rw [hg6]; first | rfl | simp)
     subst hc6
     exact o_nil (hS.keep (k2 rfl rfl) (fun hI => (hI.sub (sc sn))))
    ·refine o_pure hS (.inr ⟨_, _, _, _, rfl, rfl, rfl, hg6⟩) rfl rfl ?_; clear hS
     intro tm hS
     refine o_pure hS (.inr ⟨_, _, _, _, rfl, rfl, rfl, hg6⟩) rfl rfl ?_; clear hS
     intro tm hS
     refine o_pickF hS (.inl rfl) rfl rfl hg6 rfl ?_; clear hS
     intro tm hS
     have hc6 : c6 = (fn1.toList == str_226_137_160.toList) := hc6.trans (by rw [hg6]; first | rfl | simp)
     subst hc6
     exact o_nil (hS.keep (k2 rfl rfl) (fun hI => (hI.sub (sc sn))))
   intro tm H hS
   subst hc6
   refine o_nil (hR _ _ ?_)
   clear hR R
   refine c_cond hS rfl (fun hc => ?_) (fun hc => ?_)
   ·replace h0 := iteT hc h0
    refine c_reg fun R hR => ?_
    refine o_build hS (.inl rfl) rfl Fb83 rfl .nil rfl ?_; clear hS
    intro tm hS
    refine o_st (k := 0) hS (.inl rfl) rfl rfl rfl Fs83 rfl rfl (all_cons rfl (all_cons rfl all_nil)) rfl ?_; clear hS; try clear H
    intro H hS
    refine pp1 hS rfl rfl ?_; clear hS
    intro tm hS
    refine o_nil (hR _ _ ?_)
    clear hR R
    refine wpC.ret ?_
    obtain rfl := Option.some.inj h0
    refine Exists.intro _ (And.intro (rs_cellA (k := 0) hS rfl rfl (.inl rfl) Fu83 rfl Fs83 rfl (rs_tmp hS rfl rs_nil)) ?_)
    have hI := hS.inv
    exact ⟨rfl, (hI.sub sn)⟩
   ·replace h0 := iteF hc h0
    refine wpC.skip ?_
    refine c_reg fun R hR => ?_
    refine o_build hS (.inl rfl) rfl Fb83 rfl .nil rfl ?_; clear hS
    intro tm hS
    refine o_st (k := 0) hS (.inl rfl) rfl rfl rfl Fs83 rfl rfl (all_cons rfl (all_cons rfl all_nil)) rfl ?_; clear hS; try clear H
    intro H hS
    refine pp1 hS rfl rfl ?_; clear hS
    intro tm hS
    refine o_nil (hR _ _ ?_)
    clear hR R
    refine wpC.ret ?_
    obtain rfl := Option.some.inj h0
    refine Exists.intro _ (And.intro (rs_cellA (k := 0) hS rfl rfl (.inl rfl) Fu83 rfl Fs83 rfl (rs_tmp hS rfl rs_nil)) ?_)
    have hI := hS.inv
    exact ⟨rfl, (hI.sub sn)⟩
theorem wk15 {wm : Nat} {H : AHeap} {Fr : List Ent} (ho72 : ora 72 = false) (fn1 : ByteArray) (a1 : Val) (b1 : Val)  (v1 : Value) (v2 : Value) (v3 : Value) (v4 : Value) (hI : Kn wm H [.fz (rI .i64) v1 a1.Shape, .fz (rI .i64) v2 a1.Data, .fz (rI .i64) v3 b1.Shape, .fz (rI .i64) v4 b1.Data] Fr) {r : Val × Int} (h0 : M.anamnesisref12_Outer fn1 a1 b1 = some r) :
  wpF Try.prog ora wm 15 [.string fn1, .agg #[.bool a1.Char, v1, v2], .agg #[.bool b1.Char, v3, v4]] H (fun res H => ∃ v10 v11, res = .tuple #[.agg #[.bool r.1.Char, v10, v11], .int .i64 r.2] ∧ Kn wm H [.own (rI .i64) v10 r.1.Shape, .own (rI .i64) v11 r.1.Data] Fr) := by
 unfold M.anamnesisref12_Outer at h0
 refine f_enter (n := 91) Try.func15 rfl (by simp) hI rfl rfl rfl fun tm hS => ?_
 clear hI
 refine c_reg fun R hR => ?_
 refine o_box hS (.inl rfl) rfl rfl rfl (all_cons rfl (all_cons (hS.one (k := 0) rfl (.inl rfl)) (all_cons (hS.one (k := 1) rfl (.inl rfl)) all_nil))) ?_; clear hS
 intro b2 tm H hS
 refine o_box hS (.inl rfl) rfl rfl rfl (all_cons rfl (all_cons (hS.one (k := 3) rfl (.inl rfl)) (all_cons (hS.one (k := 4) rfl (.inl rfl)) all_nil))) ?_; clear hS
 intro b3 tm H hS
 refine o_alloc hS (.inl rfl) rfl Fz25 (by decide) ?_; clear hS
 intro b4 tm H hS
 refine pp1 hS rfl rfl ?_; clear hS
 intro tm hS
 refine o_nil (hR _ _ ?_)
 clear hR R
 refine c_seqS ?_
 refine c_reg fun R hR => ?_
 refine o_ldA (k := 2) hS (.inl rfl) rfl rfl rfl (.inl rfl) Fu25 rfl Fs25 rfl ?_; clear hS
 intro tm hS
 obtain ⟨r1, hx1, h0⟩ := bindS h0
 refine o_call hS (.inl rfl) rfl (fun wm' hw1 hw2 => wk41  a1  v1 v2 (((hS.sel hw2).ad 4 rfl).ad 3 rfl) hx1) (fun wm' res H hw' hp => ?_)
 obtain ⟨hres, hI⟩ := hp
 replace hres := hres.symm; subst hres
 replace hS : S wm 91 _ H ((14, .bool r1) :: _) ([] ++ _) Fr := hS.after rfl hw' hI
 clear hI hw'
 refine pp2 hS rfl rfl rfl rfl ?_; clear hS
 intro tm hS
 obtain ⟨c1, hc1, h0⟩ := bindS h0
 refine o_cutN 4 (J := fun tm H => S wm 91 tm H [(20, .bool c1), (0, .string fn1), (4, .pointer (some ⟨b2, 0, none⟩)), (5, .pointer (some ⟨b3, 0, none⟩)), (6, .pointer (some ⟨b4, 0, none⟩))] [.box b4 [.bool false, (.slice none 0 0), (.slice none 0 0)], .box b3 [.bool b1.Char, v3, v4], .box b2 [.bool a1.Char, v1, v2], .fz (rI .i64) v1 a1.Shape, .fz (rI .i64) v2 a1.Data, .fz (rI .i64) v3 b1.Shape, .fz (rI .i64) v4 b1.Data] Fr) ?_ ?_
 ·rcases Bool.eq_false_or_eq_true (!r1) with hg1 | hg1
  ·replace hc1 := iteT hg1 hc1
   refine o_skip hS rfl rfl rfl hg1 ?_; clear hS
   intro tm hS
   refine o_skip hS rfl rfl rfl hg1 ?_; clear hS
   intro tm hS
   refine o_skip hS rfl rfl rfl hg1 ?_; clear hS
   intro tm hS
   refine o_pickT hS (.inl rfl) rfl rfl hg1 rfl ?_; clear hS
   intro tm hS
   obtain rfl := Option.some.inj hc1
   exact o_nil (hS.keep (k5 rfl rfl rfl rfl rfl) (fun hI => (hI.sub (sc (sc (sc (sc (sc (sc (sc sn))))))))))
  ·replace hc1 := iteF hg1 hc1
   refine o_ldA (k := 1) hS (.inr ⟨_, _, _, _, rfl, rfl, rfl, hg1⟩) rfl rfl rfl (.inl rfl) Fu25 rfl Fs25 rfl ?_; clear hS
   intro tm hS
   obtain ⟨r2, hx2, hc1⟩ := bindS hc1
   refine o_call hS (.inr ⟨_, _, _, _, rfl, rfl, rfl, hg1⟩) rfl (fun wm' hw1 hw2 => wk41  b1  v3 v4 (((hS.sel hw2).ad 6 rfl).ad 5 rfl) hx2) (fun wm' res H hw' hp => ?_)
   obtain ⟨hres, hI⟩ := hp
   replace hres := hres.symm; subst hres
   replace hS : S wm 91 _ H ((18, .bool r2) :: _) ([] ++ _) Fr := hS.after rfl hw' hI
   clear hI hw'
   refine o_pure hS (.inr ⟨_, _, _, _, rfl, rfl, rfl, hg1⟩) rfl rfl ?_; clear hS
   intro tm hS
   refine o_pickF hS (.inl rfl) rfl rfl hg1 rfl ?_; clear hS
   intro tm hS
   obtain rfl := Option.some.inj hc1
   exact o_nil (hS.keep (k5 rfl rfl rfl rfl rfl) (fun hI => (hI.sub (sc (sc (sc (sc (sc (sc (sc sn))))))))))
 intro tm H hS
 refine o_nil (hR _ _ ?_)
 clear hR R
 refine c_cond hS rfl (fun hc => ?_) (fun hc => ?_)
 ·replace h0 := iteT hc h0
  refine c_reg fun R hR => ?_
  refine o_build hS (.inl rfl) rfl Fb25 rfl .nil rfl ?_; clear hS
  intro tm hS
  refine o_st (k := 0) hS (.inl rfl) rfl rfl rfl Fs25 rfl rfl (all_cons rfl (all_cons rfl (all_cons rfl all_nil))) rfl ?_; clear hS; try clear H
  intro H hS
  refine pp1 hS rfl rfl ?_; clear hS
  intro tm hS
  refine o_nil (hR _ _ ?_)
  clear hR R
  refine wpC.ret ?_
  obtain rfl := Option.some.inj h0
  replace hS := hS.nilOwn (rI .i64)
  replace hS := hS.nilOwn (rI .i64)
  refine Exists.intro _ (And.intro (rs_cellA (k := 2) hS rfl rfl (.inl rfl) Fu25 rfl Fs25 rfl (rs_tmp hS rfl rs_nil)) ?_)
  have hI := hS.inv
  exact ⟨(.slice none 0 0), (.slice none 0 0), rfl, (((hI.pull 0 rfl).pull 1 rfl).take 2)⟩
 ·replace h0 := iteF hc h0
  refine wpC.skip ?_
  refine c_seqS ?_
  refine c_reg fun R hR => ?_
  refine pp1 hS rfl rfl ?_; clear hS
  intro tm hS
  obtain ⟨r3, hx3, h0⟩ := bindS h0
  refine o_call hS (.inl rfl) rfl (fun wm' hw1 hw2 => wk42 ho72 fn1   (hS.sel hw2) hx3) (fun wm' res H hw' hp => ?_)
  obtain ⟨hres, hI⟩ := hp
  replace hres := hres.symm; subst hres
  replace hS : S wm 91 _ H ((23, .bool r3) :: _) ([] ++ _) Fr := hS.after rfl hw' hI
  clear hI hw'
  refine pp1 hS rfl rfl ?_; clear hS
  intro tm hS
  refine o_nil (hR _ _ ?_)
  clear hR R
  refine c_cond hS rfl (fun hc => ?_) (fun hc => ?_)
  ·replace h0 := iteT hc h0
   refine c_reg fun R hR => ?_
   refine o_build hS (.inl rfl) rfl Fb25 rfl .nil rfl ?_; clear hS
   intro tm hS
   refine o_st (k := 0) hS (.inl rfl) rfl rfl rfl Fs25 rfl rfl (all_cons rfl (all_cons rfl (all_cons rfl all_nil))) rfl ?_; clear hS; try clear H
   intro H hS
   refine pp1 hS rfl rfl ?_; clear hS
   intro tm hS
   refine o_nil (hR _ _ ?_)
   clear hR R
   refine wpC.ret ?_
   obtain rfl := Option.some.inj h0
   replace hS := hS.nilOwn (rI .i64)
   replace hS := hS.nilOwn (rI .i64)
   refine Exists.intro _ (And.intro (rs_cellA (k := 2) hS rfl rfl (.inl rfl) Fu25 rfl Fs25 rfl (rs_tmp hS rfl rs_nil)) ?_)
   have hI := hS.inv
   exact ⟨(.slice none 0 0), (.slice none 0 0), rfl, (((hI.pull 0 rfl).pull 1 rfl).take 2)⟩
  ·replace h0 := iteF hc h0
   refine wpC.skip ?_
   refine cr1 hS rfl rfl ?_; clear hS
   intro tm hS
   refine c_reg fun R hR => ?_
   refine pp2 hS rfl rfl rfl rfl ?_; clear hS
   intro tm hS
   refine o_ld1 (k := 2) hS (.inl rfl) rfl rfl rfl (.inl rfl) Fu22 rfl rfl ?_; clear hS
   intro tm hS
   replace hS := hS.nilOwn (rI .i64)
   obtain ⟨l1, hx4, h0⟩ := bindS h0
   refine o_app (k1 := 0) (k2 := 4) (r := (rI .i64)) hS (.inl rfl) rfl rfl rfl rfl rfl (.inl rfl) rfl Fe22_22 rfl hx4 ?_; clear hS
   intro v5 tm H hS
   refine pp1 hS rfl rfl ?_; clear hS
   intro tm hS
   refine o_nil (hR _ _ ?_)
   clear hR R
   refine c_reg fun R hR => ?_
   refine pp2 hS rfl rfl rfl rfl ?_; clear hS
   intro tm hS
   refine o_ld1 (k := 2) hS (.inl rfl) rfl rfl rfl (.inl rfl) Fu22 rfl rfl ?_; clear hS
   intro tm hS
   obtain ⟨l2, hx5, h0⟩ := bindS h0
   refine o_app (k1 := 0) (k2 := 6) (r := (rI .i64)) hS (.inl rfl) rfl rfl rfl rfl rfl (.inl rfl) rfl Fe22_22 rfl hx5 ?_; clear hS
   intro v6 tm H hS
   refine pp1 hS rfl rfl ?_; clear hS
   intro tm hS
   refine o_nil (hR _ _ ?_)
   clear hR R
   refine c_seqS ?_
   refine c_reg fun R hR => ?_
   refine pp1 hS rfl rfl ?_; clear hS
   intro tm hS
   refine o_len (k := 0) (r := (rI .i64)) hS (.inl rfl) rfl rfl rfl (.inr (.inl rfl)) Fu22 rfl ?_; clear hS
   intro tm hS
   refine pp1 hS rfl rfl ?_; clear hS
   intro tm hS
   refine o_nil (hR _ _ ?_)
   clear hR R
   refine c_cond hS rfl (fun hc => ?_) (fun hc => ?_)
   ·replace h0 := iteT hc h0
    refine c_reg fun R hR => ?_
    refine o_build hS (.inl rfl) rfl Fb25 rfl .nil rfl ?_; clear hS
    intro tm hS
    refine o_st (k := 1) hS (.inl rfl) rfl rfl rfl Fs25 rfl rfl (all_cons rfl (all_cons rfl (all_cons rfl all_nil))) rfl ?_; clear hS; try clear H
    intro H hS
    refine pp1 hS rfl rfl ?_; clear hS
    intro tm hS
    refine o_nil (hR _ _ ?_)
    clear hR R
    refine wpC.ret ?_
    obtain rfl := Option.some.inj h0
    replace hS := hS.nilOwn (rI .i64)
    replace hS := hS.nilOwn (rI .i64)
    refine Exists.intro _ (And.intro (rs_cellA (k := 3) hS rfl rfl (.inl rfl) Fu25 rfl Fs25 rfl (rs_tmp hS rfl rs_nil)) ?_)
    have hI := hS.inv
    exact ⟨(.slice none 0 0), (.slice none 0 0), rfl, (((hI.pull 0 rfl).pull 1 rfl).take 2)⟩
   ·replace h0 := iteF hc h0
    refine wpC.skip ?_
    refine c_seqS ?_
    refine c_reg fun R hR => ?_
    refine pp1 hS rfl rfl ?_; clear hS
    intro tm hS
    obtain ⟨r4, hx6, h0⟩ := bindS h0
    refine o_call (Pc := fun _ res H => res = .int .i64 r4 ∧ Kn wm H ([.own (rI .i64) v6 l2, .box b4 [.bool false, (.slice none 0 0), (.slice none 0 0)], .box b3 [.bool b1.Char, v3, v4], .box b2 [.bool a1.Char, v1, v2], .fz (rI .i64) v1 a1.Shape, .fz (rI .i64) v2 a1.Data, .fz (rI .i64) v3 b1.Shape, .fz (rI .i64) v4 b1.Data]) Fr) hS (.inl rfl) rfl (fun wm' hw1 hw2 => by
     obtain ⟨F2, kk_1, kk_2⟩ := hS.inv.lend (La := [.fz (rI .i64) v6 l2]) (List.forall_mem_cons.mpr ⟨(.inr ⟨_, _, _, _, rfl, .inl (List.mem_of_getElem? (i := 0) rfl)⟩), (fun _ h => by cases h)⟩) hw1 hw2
     exact (wk43  l2  v6 kk_1 hx6).mono fun res H2 ⟨qq_1, qq_2⟩ => ⟨qq_1, kk_2 _ qq_2⟩) (fun wm' res H hw' hp => ?_)
    obtain ⟨hres, hI⟩ := hp
    replace hres := hres.symm; subst hres
    replace hS : S wm 91 _ H ((39, .int .i64 r4) :: _) ([.own (rI .i64) v6 l2, .box b4 [.bool false, (.slice none 0 0), (.slice none 0 0)], .box b3 [.bool b1.Char, v3, v4], .box b2 [.bool a1.Char, v1, v2], .fz (rI .i64) v1 a1.Shape, .fz (rI .i64) v2 a1.Data, .fz (rI .i64) v3 b1.Shape, .fz (rI .i64) v4 b1.Data]) Fr := (hS.put rfl _).withK hI
    clear hI hw'
    refine pp1 hS rfl rfl ?_; clear hS
    intro tm hS
    refine o_nil (hR _ _ ?_)
    clear hR R
    refine c_cond hS rfl (fun hc => ?_) (fun hc => ?_)
    ·replace h0 := iteT hc h0
     refine c_reg fun R hR => ?_
     refine o_build hS (.inl rfl) rfl Fb25 rfl .nil rfl ?_; clear hS
     intro tm hS
     refine o_st (k := 1) hS (.inl rfl) rfl rfl rfl Fs25 rfl rfl (all_cons rfl (all_cons rfl (all_cons rfl all_nil))) rfl ?_; clear hS; try clear H
     intro H hS
     refine pp1 hS rfl rfl ?_; clear hS
     intro tm hS
     refine o_nil (hR _ _ ?_)
     clear hR R
     refine wpC.ret ?_
     obtain rfl := Option.some.inj h0
     replace hS := hS.nilOwn (rI .i64)
     replace hS := hS.nilOwn (rI .i64)
     refine Exists.intro _ (And.intro (rs_cellA (k := 3) hS rfl rfl (.inl rfl) Fu25 rfl Fs25 rfl (rs_tmp hS rfl rs_nil)) ?_)
     have hI := hS.inv
     exact ⟨(.slice none 0 0), (.slice none 0 0), rfl, (((hI.pull 0 rfl).pull 1 rfl).take 2)⟩
    ·replace h0 := iteF hc h0
     refine wpC.skip ?_
     refine c_reg fun R hR => ?_
     refine pp1 hS rfl rfl ?_; clear hS
     intro tm hS
     refine o_build hS (.inl rfl) rfl Fb25 rfl (.cons (cells_one (hS.one (k := 0) rfl (.inr (.inl rfl)))) .nil) rfl ?_; clear hS
     intro tm hS
     refine o_alloc hS (.inl rfl) rfl Fz25 (by decide) ?_; clear hS
     intro b5 tm H hS
     refine o_st (k := 0) hS (.inl rfl) rfl rfl rfl Fs25 rfl rfl (all_cons rfl (all_cons (hS.one (k := 1) rfl (.inr (.inl rfl))) (all_cons rfl all_nil))) rfl ?_; clear hS; try clear H
     intro H hS
     refine o_nil (hR _ _ ?_)
     clear hR R
     refine c_seqS ?_
     refine cr1 hS rfl rfl ?_; clear hS
     intro tm hS
     obtain ⟨k2, hw1, h0⟩ := bindS h0
     refine wpC.block ?_
     replace hS := hS.nilOwn (rI .i64)
     refine c_loop (I := fun (s : Int × (List Int)) tm H => match (generalizing := false) s with | (k1, Data1) => ∃ v7, S wm 91 tm H [(0, .string fn1), (4, .pointer (some ⟨b2, 0, none⟩)), (5, .pointer (some ⟨b3, 0, none⟩)), (6, .pointer (some ⟨b4, 0, none⟩)), (8, v6), (9, .pointer (some ⟨b5, 0, none⟩)), (10, .int .i64 k1)] [.box b2 [.bool a1.Char, v1, v2], .box b3 [.bool b1.Char, v3, v4], .box b4 [.bool false, (.slice none 0 0), (.slice none 0 0)], .box b5 [.bool false, v6, v7], .own (rI .i64) v7 Data1, .fz (rI .i64) v1 a1.Shape, .fz (rI .i64) v2 a1.Data, .fz (rI .i64) v3 b1.Shape, .fz (rI .i64) v4 b1.Data, .own (rI .i64) v6 l2] Fr) hw1 (by refine Exists.intro (.slice none 0 0) ?_; change S wm 91 _ _ _ _ Fr; exact hS.keep (k7 rfl rfl rfl rfl rfl rfl rfl) (fun hI => (hI.pick [5, 4, 3, 1, 0, 6, 7, 8, 9, 2] rfl))) ?_
     clear hS
     intro s1 tm H c2 hS h1 hq1
     obtain ⟨k1, Data1⟩ := s1
     obtain ⟨v7, hS⟩ := hS
     change S wm 91 tm H [(0, .string fn1), (4, .pointer (some ⟨b2, 0, none⟩)), (5, .pointer (some ⟨b3, 0, none⟩)), (6, .pointer (some ⟨b4, 0, none⟩)), (8, v6), (9, .pointer (some ⟨b5, 0, none⟩)), (10, .int .i64 k1)] [.box b2 [.bool a1.Char, v1, v2], .box b3 [.bool b1.Char, v3, v4], .box b4 [.bool false, (.slice none 0 0), (.slice none 0 0)], .box b5 [.bool false, v6, v7], .own (rI .i64) v7 Data1, .fz (rI .i64) v1 a1.Shape, .fz (rI .i64) v2 a1.Data, .fz (rI .i64) v3 b1.Shape, .fz (rI .i64) v4 b1.Data, .own (rI .i64) v6 l2] Fr at hS
     refine c_seqS ?_
     refine c_reg fun R hR => ?_
     refine pp2 hS rfl rfl rfl rfl ?_; clear hS
     intro tm hS
     obtain ⟨r5, hx7, h1⟩ := bindS h1
     refine o_call (Pc := fun _ res H => res = .int .i64 r5 ∧ Kn wm H ([.box b2 [.bool a1.Char, v1, v2], .box b3 [.bool b1.Char, v3, v4], .box b4 [.bool false, (.slice none 0 0), (.slice none 0 0)], .box b5 [.bool false, v6, v7], .own (rI .i64) v7 Data1, .fz (rI .i64) v1 a1.Shape, .fz (rI .i64) v2 a1.Data, .fz (rI .i64) v3 b1.Shape, .fz (rI .i64) v4 b1.Data, .own (rI .i64) v6 l2]) Fr) hS (.inl rfl) rfl (fun wm' hw1 hw2 => by
      obtain ⟨F2, kk_1, kk_2⟩ := hS.inv.lend (La := [.fz (rI .i64) v6 l2]) (List.forall_mem_cons.mpr ⟨(.inr ⟨_, _, _, _, rfl, .inl (List.mem_of_getElem? (i := 9) rfl)⟩), (fun _ h => by cases h)⟩) hw1 hw2
      exact (wk43  l2  v6 kk_1 hx7).mono fun res H2 ⟨qq_1, qq_2⟩ => ⟨qq_1, kk_2 _ qq_2⟩) (fun wm' res H hw' hp => ?_)
     obtain ⟨hres, hI⟩ := hp
     replace hres := hres.symm; subst hres
     replace hS : S wm 91 _ H ((46, .int .i64 r5) :: _) ([.box b2 [.bool a1.Char, v1, v2], .box b3 [.bool b1.Char, v3, v4], .box b4 [.bool false, (.slice none 0 0), (.slice none 0 0)], .box b5 [.bool false, v6, v7], .own (rI .i64) v7 Data1, .fz (rI .i64) v1 a1.Shape, .fz (rI .i64) v2 a1.Data, .fz (rI .i64) v3 b1.Shape, .fz (rI .i64) v4 b1.Data, .own (rI .i64) v6 l2]) Fr := (hS.put rfl _).withK hI
     clear hI hw'
     refine pp1 hS rfl rfl ?_; clear hS
     intro tm hS
     refine o_nil (hR _ _ ?_)
     clear hR R
     refine c_cond hS rfl (fun hc => ?_) (fun hc => ?_)
     ·replace h1 := iteT hc h1
      refine wpC.skip ?_
      refine c_seqS ?_
      refine wpC.block ?_
      refine c_reg fun R hR => ?_
      refine pp2 hS rfl rfl rfl rfl ?_; clear hS
      intro tm hS
      refine o_ld1 (k := 0) hS (.inl rfl) rfl rfl rfl (.inl rfl) Fu23 rfl rfl ?_; clear hS
      intro tm hS
      refine pp2 hS rfl rfl rfl rfl ?_; clear hS
      intro tm hS
      refine o_ld1 (k := 1) hS (.inl rfl) rfl rfl rfl (.inl rfl) Fu23 rfl rfl ?_; clear hS
      intro tm hS
      refine o_len (k := 8) (r := (rI .i64)) hS (.inl rfl) rfl rfl rfl (.inl rfl) Fu23 rfl ?_; clear hS
      intro tm hS
      obtain ⟨q1, hx8, h1⟩ := bindS h1
      refine o_quo hS (.inl rfl) rfl rfl rfl hx8 ?_; clear hS
      intro tm hS
      obtain ⟨y1, hx9, h1⟩ := bindS h1
      refine o_ixA (k := 6) (r := (rI .i64)) hS (.inl rfl) rfl rfl rfl rfl (.inl rfl) Fu23 Fs2 hx9 ?_; clear hS
      intro tm hS
      refine o_ldF (r := (rI .i64)) (k := 6) hS (.inl rfl) rfl rfl rfl (.inl rfl) hx9 Fu2 rfl (flat_I _) rfl ?_; clear hS
      intro tm hS
      refine pp1 hS rfl rfl ?_; clear hS
      intro tm hS
      refine o_ld1 (k := 0) hS (.inl rfl) rfl rfl rfl (.inl rfl) Fu4 rfl rfl ?_; clear hS
      intro tm hS
      refine o_build hS (.inl rfl) rfl Fb83 rfl (.cons rfl (.cons rfl .nil)) rfl ?_; clear hS
      intro tm hS
      refine pp1 hS rfl rfl ?_; clear hS
      intro tm hS
      refine o_ld1 (k := 1) hS (.inl rfl) rfl rfl rfl (.inl rfl) Fu23 rfl rfl ?_; clear hS
      intro tm hS
      refine pp2 hS rfl rfl rfl rfl ?_; clear hS
      intro tm hS
      refine o_ld1 (k := 1) hS (.inl rfl) rfl rfl rfl (.inl rfl) Fu23 rfl rfl ?_; clear hS
      intro tm hS
      refine o_len (k := 8) (r := (rI .i64)) hS (.inl rfl) rfl rfl rfl (.inl rfl) Fu23 rfl ?_; clear hS
      intro tm hS
      obtain ⟨q2, hx10, h1⟩ := bindS h1
      refine o_rem hS (.inl rfl) rfl rfl rfl hx10 ?_; clear hS
      intro tm hS
      obtain ⟨y2, hx11, h1⟩ := bindS h1
      refine o_ixA (k := 8) (r := (rI .i64)) hS (.inl rfl) rfl rfl rfl rfl (.inl rfl) Fu23 Fs2 hx11 ?_; clear hS
      intro tm hS
      refine o_ldF (r := (rI .i64)) (k := 8) hS (.inl rfl) rfl rfl rfl (.inl rfl) hx11 Fu2 rfl (flat_I _) rfl ?_; clear hS
      intro tm hS
      refine pp1 hS rfl rfl ?_; clear hS
      intro tm hS
      refine o_ld1 (k := 1) hS (.inl rfl) rfl rfl rfl (.inl rfl) Fu4 rfl rfl ?_; clear hS
      intro tm hS
      refine o_build hS (.inl rfl) rfl Fb83 rfl (.cons rfl (.cons rfl .nil)) rfl ?_; clear hS
      intro tm hS
      obtain ⟨⟨r6, r7⟩, hx12, h1⟩ := bindS h1
      refine o_call hS (.inl rfl) rfl (fun wm' hw1 hw2 => wk44  fn1 (Am.Item.mk y1 a1.Char) (Am.Item.mk y2 b1.Char)   (hS.sel hw2) hx12) (fun wm' res H hw' hp => ?_)
      obtain ⟨hres, hI⟩ := hp
      replace hres := hres.symm; subst hres
      replace hS : S wm 91 _ H ((76, .tuple #[.agg #[.int .i64 r6.n, .bool r6.char], .int .i64 r7]) :: _) ([] ++ _) Fr := hS.after rfl hw' hI
      clear hI hw'
      refine pp3 hS rfl rfl rfl rfl rfl rfl ?_; clear hS
      intro tm hS
      refine o_alloc hS (.inl rfl) rfl Fz83 (by decide) ?_; clear hS
      intro b6 tm H hS
      refine o_st (k := 0) hS (.inl rfl) rfl rfl rfl Fs83 rfl rfl (all_cons rfl (all_cons rfl all_nil)) rfl ?_; clear hS; try clear H
      intro H hS
      refine pp1 hS rfl rfl ?_; clear hS
      intro tm hS
      refine o_nil (hR _ _ ?_)
      clear hR R
      refine c_seqS ?_
      refine cr2 hS rfl rfl rfl rfl ?_; clear hS
      intro tm hS
      refine c_cond hS rfl (fun hc => ?_) (fun hc => ?_)
      ·replace h1 := iteT hc h1
       refine c_reg fun R hR => ?_
       refine o_build hS (.inl rfl) rfl Fb25 rfl .nil rfl ?_; clear hS
       intro tm hS
       refine pp1 hS rfl rfl ?_; clear hS
       intro tm hS
       refine o_st (k := 3) hS (.inl rfl) rfl rfl rfl Fs25 rfl rfl (all_cons rfl (all_cons rfl (all_cons rfl all_nil))) rfl ?_; clear hS; try clear H
       intro H hS
       refine pp1 hS rfl rfl ?_; clear hS
       intro tm hS
       refine o_nil (hR _ _ ?_)
       clear hR R
       refine wpC.ret ?_
       obtain rfl := Option.some.inj h1
       obtain rfl := hq1 _ rfl
       refine And.intro rfl ?_
       obtain rfl := leave h0
       replace hS := hS.nilOwn (rI .i64)
       replace hS := hS.nilOwn (rI .i64)
       refine Exists.intro _ (And.intro (rs_cellA (k := 5) hS rfl rfl (.inl rfl) Fu25 rfl Fs25 rfl (rs_tmp hS rfl rs_nil)) ?_)
       have hI := hS.inv
       exact ⟨(.slice none 0 0), (.slice none 0 0), rfl, (((hI.pull 0 rfl).pull 1 rfl).take 2)⟩
      ·replace h1 := iteF hc h1
       refine wpC.skip ?_
       refine c_reg1 fun R hR => ?_
       refine pp1 hS rfl rfl ?_; clear hS
       intro tm hS
       refine o_ld1 (k := 4) hS (.inl rfl) rfl rfl rfl (.inl rfl) Fu23 rfl rfl ?_; clear hS
       intro tm hS
       refine pp1 hS rfl rfl ?_; clear hS
       intro tm hS
       refine o_ld1 (k := 0) hS (.inl rfl) rfl rfl rfl (.inl rfl) Fu2 rfl rfl ?_; clear hS
       intro tm hS
       refine o_lit (r := (rI .i64)) (l := [r6.n]) hS (.inl rfl) rfl Fl23 rfl rfl rfl (.cons rfl .nil) rfl rfl (ri_1 (rd_flat fun _ => rfl) ri_nil) rfl ?_; clear hS
       intro v8 tm H hS
       obtain ⟨l3, hx13, h1⟩ := bindS h1
       refine o_app (k1 := 6) (k2 := 0) (r := (rI .i64)) hS (.inl rfl) rfl rfl rfl rfl rfl (.inr (.inr rfl)) rfl Fe23_23 rfl hx13 ?_; clear hS
       intro v9 tm H hS
       refine pp1 hS rfl rfl ?_; clear hS
       intro tm hS
       refine o_st (k := 5) hS (.inl rfl) rfl rfl rfl Fs23 (cells_one (hS.one (k := 6) rfl (.inr (.inl rfl)))) rfl (all_cons (hS.one (k := 6) rfl (.inr (.inl rfl))) all_nil) rfl ?_; clear hS; try clear H
       intro H hS
       refine o_nil (hR _ _ ?_)
       clear hR R
       refine cs3 hS rfl rfl rfl rfl rfl rfl ?_; clear hS
       intro tm hS
       obtain rfl := Option.some.inj h1
       refine ⟨_, rfl, ?_⟩
       refine Exists.intro v9 ?_; change S wm 91 _ _ _ _ Fr; exact hS.keep (k7 rfl rfl rfl rfl rfl rfl rfl) (fun hI => (hI.sub (sd (sd (sc (sc (sc (sc (sc (sc (sc (sc (sc (sc sn))))))))))))))
     ·replace h1 := iteF hc h1
      refine wpC.exit ?_
      refine seqX ?_
      obtain rfl := Option.some.inj h1
      obtain rfl := hq1 _ rfl
      refine And.intro rfl (blk_eq ?_)
      replace h0 := joinN h0
      refine c_reg fun R hR => ?_
      refine o_ldA (k := 3) hS (.inl rfl) rfl rfl rfl (.inl rfl) Fu25 rfl Fs25 rfl ?_; clear hS
      intro tm hS
      refine o_st (k := 2) hS (.inl rfl) rfl rfl rfl Fs25 rfl rfl (all_cons rfl (all_cons (hS.one (k := 9) rfl (.inr (.inl rfl))) (all_cons (hS.one (k := 4) rfl (.inr (.inl rfl))) all_nil))) rfl ?_; clear hS; try clear H
      intro H hS
      refine pp1 hS rfl rfl ?_; clear hS
      intro tm hS
      refine o_nil (hR _ _ ?_)
      clear hR R
      refine wpC.ret ?_
      obtain rfl := Option.some.inj h0
      refine Exists.intro _ (And.intro (rs_cellA (k := 2) hS rfl rfl (.inl rfl) Fu25 rfl Fs25 rfl (rs_tmp hS rfl rs_nil)) ?_)
      have hI := hS.inv
      exact ⟨v6, v7, rfl, (((hI.pull 4 rfl).pull 9 rfl).take 2)⟩
theorem wk68 {wm : Nat} {H : AHeap} {Fr : List Ent}  (s1 : (List Int))  (v1 : Value) (hI : Kn wm H [.fz (rI .i64) v1 s1] Fr) {r : Bool} (h0 : M.shape_sized s1 = some r) :
  wpF Try.prog ora wm 68 [v1] H (fun res H => res = .bool r ∧ Kn wm H [] Fr) := by
 unfold M.shape_sized at h0
 refine f_enter (n := 12) Try.func68 rfl (by simp) hI rfl rfl rfl fun tm hS => ?_
 clear hI
 refine cr1 hS rfl rfl ?_; clear hS
 intro tm hS
 refine c_reg fun R hR => ?_
 refine pp1 hS rfl rfl ?_; clear hS
 intro tm hS
 obtain ⟨⟨r1, r2⟩, hx1, h0⟩ := bindS h0
 refine o_call hS (.inl rfl) rfl (fun wm' hw1 hw2 => wk35  s1  v1 ((hS.sel hw2).ad 0 rfl) hx1) (fun wm' res H hw' hp => ?_)
 obtain ⟨hres, hI⟩ := hp
 replace hres := hres.symm; subst hres
 replace hS : S wm 12 _ H ((7, .tuple #[.int .i64 r1, .int .i64 r2]) :: _) ([] ++ _) Fr := hS.after rfl hw' hI
 clear hI hw'
 refine pp5 hS rfl rfl rfl rfl rfl rfl rfl rfl rfl rfl ?_; clear hS
 intro tm hS
 refine o_nil (hR _ _ ?_)
 clear hR R
 refine cr3 hS rfl rfl rfl rfl rfl rfl ?_; clear hS
 intro tm hS
 refine wpC.ret ?_
 obtain rfl := Option.some.inj h0
 refine Exists.intro _ (And.intro (rs_tmp hS rfl rs_nil) ?_)
 have hI := hS.inv
 exact ⟨rfl, (hI.sub sn)⟩
theorem wk36 {wm : Nat} {H : AHeap} {Fr : List Ent}  (s1 : (List Int)) (axis1 : Int)  (v1 : Value) (hI : Kn wm H [.fz (rI .i64) v1 s1] Fr) {r : Int × Int × Int × Bool} (h0 : M.shape_Split s1 axis1 = some r) :
  wpF Try.prog ora wm 36 [v1, .int .i64 axis1] H (fun res H => res = .tuple #[.int .i64 r.1, .int .i64 r.2.1, .int .i64 r.2.2.1, .bool r.2.2.2] ∧ Kn wm H [] Fr) := by
 unfold M.shape_Split at h0
 refine f_enter (n := 34) Try.func36 rfl (by simp) hI rfl rfl rfl fun tm hS => ?_
 clear hI
 refine cr4 hS rfl rfl rfl rfl rfl rfl rfl rfl ?_; clear hS
 intro tm hS
 refine c_seqS ?_
 refine c_reg fun R hR => ?_
 refine pp3 hS rfl rfl rfl rfl rfl rfl ?_; clear hS
 intro tm hS
 obtain ⟨c1, hc1⟩ : ∃ x : Bool, x = ((decide (axis1 < 0)) || (decide (axis1 ≥ (s1.length : Int)))) := ⟨_, rfl⟩
 refine o_cutN 5 (J := fun tm H => S wm 34 tm H [(15, .bool c1), (0, v1), (1, .int .i64 axis1)] [.fz (rI .i64) v1 s1] Fr) ?_ ?_
 ·rcases Bool.eq_false_or_eq_true (decide (axis1 < 0)) with hg1 | hg1
  ·refine o_skip hS rfl rfl rfl hg1 ?_; clear hS
   intro tm hS
   refine o_skip hS rfl rfl rfl hg1 ?_; clear hS
   intro tm hS
   refine o_skip hS rfl rfl rfl hg1 ?_; clear hS
   intro tm hS
   refine o_skip hS rfl rfl rfl hg1 ?_; clear hS
   intro tm hS
   refine o_pickT hS (.inl rfl) rfl rfl hg1 rfl ?_; clear hS
   intro tm hS
   have hc1 : c1 = true := hc1.trans (by rw [hg1]; first | rfl | simp)
   subst hc1
   exact o_nil (hS.keep (k3 rfl rfl rfl) (fun hI => (hI.sub (sc sn))))
  ·refine o_pure hS (.inr ⟨_, _, _, _, rfl, rfl, rfl, hg1⟩) rfl rfl ?_; clear hS
   intro tm hS
   refine o_pure hS (.inr ⟨_, _, _, _, rfl, rfl, rfl, hg1⟩) rfl rfl ?_; clear hS
   intro tm hS
   refine o_len (k := 0) (r := (rI .i64)) hS (.inr ⟨_, _, _, _, rfl, rfl, rfl, hg1⟩) rfl rfl rfl (.inl rfl) Fu22 rfl ?_; clear hS
   intro tm hS
   refine o_pure hS (.inr ⟨_, _, _, _, rfl, rfl, rfl, hg1⟩) rfl rfl ?_; clear hS
   intro tm hS
   refine o_pickF hS (.inl rfl) rfl rfl hg1 rfl ?_; clear hS
   intro tm hS
   have hc1 : c1 = (decide (axis1 ≥ (s1.length : Int))) := hc1.trans (by rw [hg1]; first | rfl | simp)
   subst hc1
   exact o_nil (hS.keep (k3 rfl rfl rfl) (fun hI => (hI.sub (sc sn))))
 intro tm H hS
 subst hc1
 refine pp1 hS rfl rfl ?_; clear hS
 intro tm hS
 obtain ⟨c2, hc2, h0⟩ := bindS h0
 refine o_cutN 4 (J := fun tm H => S wm 34 tm H [(20, .bool c2), (0, v1), (1, .int .i64 axis1)] [.fz (rI .i64) v1 s1] Fr) ?_ ?_
 ·rcases Bool.eq_false_or_eq_true ((decide (axis1 < 0)) || (decide (axis1 ≥ (s1.length : Int)))) with hg2 | hg2
  ·replace hc2 := iteT hg2 hc2
   refine o_skip hS rfl rfl rfl hg2 ?_; clear hS
   intro tm hS
   refine o_skip hS rfl rfl rfl hg2 ?_; clear hS
   intro tm hS
   refine o_skip hS rfl rfl rfl hg2 ?_; clear hS
   intro tm hS
   refine o_pickT hS (.inl rfl) rfl rfl hg2 rfl ?_; clear hS
   intro tm hS
   obtain rfl := Option.some.inj hc2
   exact o_nil (hS.keep (k3 rfl rfl rfl) (fun hI => (hI.sub (sc sn))))
  ·replace hc2 := iteF hg2 hc2
   refine o_pure hS (.inr ⟨_, _, _, _, rfl, rfl, rfl, hg2⟩) rfl rfl ?_; clear hS
   intro tm hS
   obtain ⟨r1, hx1, hc2⟩ := bindS hc2
   refine o_call hS (.inr ⟨_, _, _, _, rfl, rfl, rfl, hg2⟩) rfl (fun wm' hw1 hw2 => wk68  s1  v1 ((hS.sel hw2).ad 0 rfl) hx1) (fun wm' res H hw' hp => ?_)
   obtain ⟨hres, hI⟩ := hp
   replace hres := hres.symm; subst hres
   replace hS : S wm 34 _ H ((18, .bool r1) :: _) ([] ++ _) Fr := hS.after rfl hw' hI
   clear hI hw'
   refine o_pure hS (.inr ⟨_, _, _, _, rfl, rfl, rfl, hg2⟩) rfl rfl ?_; clear hS
   intro tm hS
   refine o_pickF hS (.inl rfl) rfl rfl hg2 rfl ?_; clear hS
   intro tm hS
   obtain rfl := Option.some.inj hc2
   exact o_nil (hS.keep (k3 rfl rfl rfl) (fun hI => (hI.sub (sc sn))))
 intro tm H hS
 refine o_nil (hR _ _ ?_)
 clear hR R
 refine c_cond hS rfl (fun hc => ?_) (fun hc => ?_)
 ·replace h0 := iteT hc h0
  refine cr4 hS rfl rfl rfl rfl rfl rfl rfl rfl ?_; clear hS
  intro tm hS
  refine wpC.ret ?_
  obtain rfl := Option.some.inj h0
  refine Exists.intro _ (And.intro (rs_tmp hS rfl (rs_tmp hS rfl (rs_tmp hS rfl (rs_tmp hS rfl rs_nil)))) ?_)
  have hI := hS.inv
  exact ⟨rfl, (hI.sub sn)⟩
 ·replace h0 := iteF hc h0
  refine wpC.skip ?_
  refine c_reg fun R hR => ?_
  refine pp2 hS rfl rfl rfl rfl ?_; clear hS
  intro tm hS
  obtain ⟨l1, hx2, h0⟩ := bindS h0
  refine o_sl (k := 0) (r := (rI .i64)) hS (.inl rfl) rfl rfl rfl Fu22 Fs3 rfl rfl hx2 ?_; clear hS
  intro v2 tm hS
  obtain ⟨r2, hx3, h0⟩ := bindS h0
  refine o_call hS (.inl rfl) rfl (fun wm' hw1 hw2 => wk67  l1  v2 ((hS.sel hw2).ad 0 rfl) hx3) (fun wm' res H hw' hp => ?_)
  obtain ⟨hres, hI⟩ := hp
  replace hres := hres.symm; subst hres
  replace hS : S wm 34 _ H ((24, .int .i64 r2) :: _) ([] ++ _) Fr := hS.after rfl hw' hI
  clear hI hw'
  refine pp2 hS rfl rfl rfl rfl ?_; clear hS
  intro tm hS
  obtain ⟨y1, hx4, h0⟩ := bindS h0
  refine o_ixA (k := 1) (r := (rI .i64)) hS (.inl rfl) rfl rfl rfl rfl (.inl rfl) Fu22 Fs3 hx4 ?_; clear hS
  intro tm hS
  refine o_ldF (r := (rI .i64)) (k := 1) hS (.inl rfl) rfl rfl rfl (.inl rfl) hx4 Fu3 rfl (flat_I _) rfl ?_; clear hS
  intro tm hS
  refine pp3 hS rfl rfl rfl rfl rfl rfl ?_; clear hS
  intro tm hS
  obtain ⟨l2, hx5, h0⟩ := bindS h0
  refine o_sl (k := 1) (r := (rI .i64)) hS (.inl rfl) rfl rfl rfl Fu22 Fs3 rfl rfl hx5 ?_; clear hS
  intro v3 tm hS
  obtain ⟨r3, hx6, h0⟩ := bindS h0
  refine o_call hS (.inl rfl) rfl (fun wm' hw1 hw2 => wk67  l2  v3 ((hS.sel hw2).ad 0 rfl) hx6) (fun wm' res H hw' hp => ?_)
  obtain ⟨hres, hI⟩ := hp
  replace hres := hres.symm; subst hres
  replace hS : S wm 34 _ H ((33, .int .i64 r3) :: _) ([] ++ _) Fr := hS.after rfl hw' hI
  clear hI hw'
  refine pp4 hS rfl rfl rfl rfl rfl rfl rfl rfl ?_; clear hS
  intro tm hS
  refine o_nil (hR _ _ ?_)
  clear hR R
  refine wpC.ret ?_
  obtain rfl := Option.some.inj h0
  refine Exists.intro _ (And.intro (rs_tmp hS rfl (rs_tmp hS rfl (rs_tmp hS rfl (rs_tmp hS rfl rs_nil)))) ?_)
  have hI := hS.inv
  exact ⟨rfl, (hI.sub sn)⟩
theorem wk74 {wm : Nat} {H : AHeap} {Fr : List Ent}  (n1 : Int) (by1 : Int)   (hI : Kn wm H [] Fr) {r : Int} (h0 : M.over_step n1 by1 = some r) :
  wpF Try.prog ora wm 74 [.int .i64 n1, .int .i64 by1] H (fun res H => res = .int .i64 r ∧ Kn wm H [] Fr) := by
 unfold M.over_step at h0
 refine f_enter (n := 8) Try.func74 rfl (by simp) hI rfl rfl rfl fun tm hS => ?_
 clear hI
 refine cr1 hS rfl rfl ?_; clear hS
 intro tm hS
 refine c_seqS ?_
 refine cr2 hS rfl rfl rfl rfl ?_; clear hS
 intro tm hS
 refine c_cond hS rfl (fun hc => ?_) (fun hc => ?_)
 ·replace h0 := iteT hc h0
  refine cr1 hS rfl rfl ?_; clear hS
  intro tm hS
  refine wpC.ret ?_
  obtain rfl := Option.some.inj h0
  refine Exists.intro _ (And.intro (rs_tmp hS rfl rs_nil) ?_)
  have hI := hS.inv
  exact ⟨rfl, (hI.sub sn)⟩
 ·replace h0 := iteF hc h0
  refine wpC.skip ?_
  refine cr2 hS rfl rfl rfl rfl ?_; clear hS
  intro tm hS
  refine wpC.ret ?_
  obtain rfl := Option.some.inj h0
  refine Exists.intro _ (And.intro (rs_tmp hS rfl rs_nil) ?_)
  have hI := hS.inv
  exact ⟨rfl, (hI.sub sn)⟩
theorem wk45 {wm : Nat} {H : AHeap} {Fr : List Ent}  (v1 : Val)  (v2 : Value) (v3 : Value) (hI : Kn wm H [.fz (rI .i64) v2 v1.Shape, .fz (rI .i64) v3 v1.Data] Fr) {r : Am.Side} (h0 : M.over_left v1 = some r) :
  wpF Try.prog ora wm 45 [.agg #[.bool v1.Char, v2, v3]] H (fun res H => ∃ v5 v6 v7, res = .agg #[.bool r.v.Char, v5, v6, v7, .int .i64 r.n, .int .i64 r.size, .int .i64 r.across, .int .i64 r.inside] ∧ Kn wm H [.fz (rI .i64) v5 r.v.Shape, .fz (rI .i64) v6 r.v.Data, .fz (rI .i64) v7 r.s] Fr) := by
 unfold M.over_left at h0
 refine f_enter (n := 45) Try.func45 rfl (by simp) hI rfl rfl rfl fun tm hS => ?_
 clear hI
 refine c_reg fun R hR => ?_
 refine o_box hS (.inl rfl) rfl rfl rfl (all_cons rfl (all_cons (hS.one (k := 0) rfl (.inl rfl)) (all_cons (hS.one (k := 1) rfl (.inl rfl)) all_nil))) ?_; clear hS
 intro b1 tm H hS
 refine o_alloc hS (.inl rfl) rfl Fz87 (by decide) ?_; clear hS
 intro b2 tm H hS
 refine o_nil (hR _ _ ?_)
 clear hR R
 refine c_seqS ?_
 refine c_reg fun R hR => ?_
 refine pp1 hS rfl rfl ?_; clear hS
 intro tm hS
 refine o_ld1 (k := 1) hS (.inl rfl) rfl rfl rfl (.inl rfl) Fu22 rfl rfl ?_; clear hS
 intro tm hS
 refine o_len (k := 2) (r := (rI .i64)) hS (.inl rfl) rfl rfl rfl (.inl rfl) Fu22 rfl ?_; clear hS
 intro tm hS
 refine pp1 hS rfl rfl ?_; clear hS
 intro tm hS
 refine o_nil (hR _ _ ?_)
 clear hR R
 refine c_cond hS rfl (fun hc => ?_) (fun hc => ?_)
 ·replace h0 := iteT hc h0
  refine c_reg fun R hR => ?_
  refine o_ldA (k := 1) hS (.inl rfl) rfl rfl rfl (.inl rfl) Fu25 rfl Fs25 rfl ?_; clear hS
  intro tm hS
  refine o_build hS (.inl rfl) rfl Fb87 rfl (.cons rfl (.cons rfl (.cons rfl (.cons rfl (.cons rfl (.cons rfl .nil)))))) (fill_cons [.bool v1.Char, v2, v3, (.slice none 0 0), .int .i64 0, .int .i64 0, .int .i64 0, .int .i64 0] rfl rfl rfl (fill_cons [.bool v1.Char, v2, v3, (.slice none 0 0), .int .i64 0, .int .i64 0, .int .i64 0, .int .i64 0] rfl rfl rfl (fill_cons [.bool v1.Char, v2, v3, (.slice none 0 0), .int .i64 1, .int .i64 0, .int .i64 0, .int .i64 0] rfl rfl rfl (fill_cons [.bool v1.Char, v2, v3, (.slice none 0 0), .int .i64 1, .int .i64 1, .int .i64 0, .int .i64 0] rfl rfl rfl (fill_cons [.bool v1.Char, v2, v3, (.slice none 0 0), .int .i64 1, .int .i64 1, .int .i64 1, .int .i64 0] rfl rfl rfl (fill_cons [.bool v1.Char, v2, v3, (.slice none 0 0), .int .i64 1, .int .i64 1, .int .i64 1, .int .i64 0] rfl rfl rfl fill_nil)))))) ?_; clear hS
  intro tm hS
  refine o_stW (k := 0) hS (.inl rfl) rfl rfl rfl Fs87 rfl rfl (all_cons rfl (all_cons (hS.one (k := 2) rfl (.inl rfl)) (all_cons (hS.one (k := 3) rfl (.inl rfl)) (all_cons rfl (all_cons rfl (all_cons rfl (all_cons rfl (all_cons rfl all_nil)))))))) rfl ?_; clear hS; try clear H
  intro H hS
  refine o_nil (hR _ _ ?_)
  clear hR R
  refine wpC.ret ?_
  obtain rfl := Option.some.inj h0
  replace hS := hS.nilFz (rI .i64)
  refine Exists.intro _ (And.intro (rs_cellA (k := 1) hS rfl rfl (.inl rfl) Fu87 rfl Fs87 rfl rs_nil) ?_)
  have hI := hS.inv
  exact ⟨v2, v3, (.slice none 0 0), rfl, ((((hI.pull 0 rfl).pull 4 rfl).pull 4 rfl).take 3)⟩
 ·replace h0 := iteF hc h0
  refine wpC.skip ?_
  refine c_reg fun R hR => ?_
  refine pp1 hS rfl rfl ?_; clear hS
  intro tm hS
  refine o_ld1 (k := 1) hS (.inl rfl) rfl rfl rfl (.inl rfl) Fu22 rfl rfl ?_; clear hS
  intro tm hS
  refine o_len (k := 2) (r := (rI .i64)) hS (.inl rfl) rfl rfl rfl (.inl rfl) Fu22 rfl ?_; clear hS
  intro tm hS
  refine pp2 hS rfl rfl rfl rfl ?_; clear hS
  intro tm hS
  refine o_nil (hR _ _ ?_)
  clear hR R
  refine c_reg fun R hR => ?_
  refine pp1 hS rfl rfl ?_; clear hS
  intro tm hS
  refine o_ld1 (k := 1) hS (.inl rfl) rfl rfl rfl (.inl rfl) Fu22 rfl rfl ?_; clear hS
  intro tm hS
  refine pp1 hS rfl rfl ?_; clear hS
  intro tm hS
  obtain ⟨y1, hx1, h0⟩ := bindS h0
  refine o_ixA (k := 2) (r := (rI .i64)) hS (.inl rfl) rfl rfl rfl rfl (.inl rfl) Fu22 Fs3 hx1 ?_; clear hS
  intro tm hS
  refine o_ldF (r := (rI .i64)) (k := 2) hS (.inl rfl) rfl rfl rfl (.inl rfl) hx1 Fu3 rfl (flat_I _) rfl ?_; clear hS
  intro tm hS
  refine pp1 hS rfl rfl ?_; clear hS
  intro tm hS
  refine o_nil (hR _ _ ?_)
  clear hR R
  refine c_reg fun R hR => ?_
  refine pp1 hS rfl rfl ?_; clear hS
  intro tm hS
  refine o_ld1 (k := 1) hS (.inl rfl) rfl rfl rfl (.inl rfl) Fu22 rfl rfl ?_; clear hS
  intro tm hS
  refine pp1 hS rfl rfl ?_; clear hS
  intro tm hS
  obtain ⟨⟨r1, r2, r3, r4⟩, hx2, h0⟩ := bindS h0
  refine o_call hS (.inl rfl) rfl (fun wm' hw1 hw2 => wk36  v1.Shape (IntKind.i64.wrap ((v1.Shape.length : Int) - 1))  v2 ((hS.sel hw2).ad 2 rfl) hx2) (fun wm' res H hw' hp => ?_)
  obtain ⟨hres, hI⟩ := hp
  replace hres := hres.symm; subst hres
  replace hS : S wm 45 _ H ((28, .tuple #[.int .i64 r1, .int .i64 r2, .int .i64 r3, .bool r4]) :: _) ([] ++ _) Fr := hS.after rfl hw' hI
  clear hI hw'
  refine pp6 hS rfl rfl rfl rfl rfl rfl rfl rfl rfl rfl rfl rfl ?_; clear hS
  intro tm hS
  refine pp3 hS rfl rfl rfl rfl rfl rfl ?_; clear hS
  intro tm hS
  refine o_nil (hR _ _ ?_)
  clear hR R
  refine c_reg fun R hR => ?_
  refine o_ldA (k := 1) hS (.inl rfl) rfl rfl rfl (.inl rfl) Fu25 rfl Fs25 rfl ?_; clear hS
  intro tm hS
  refine pp1 hS rfl rfl ?_; clear hS
  intro tm hS
  refine o_ld1 (k := 1) hS (.inl rfl) rfl rfl rfl (.inl rfl) Fu22 rfl rfl ?_; clear hS
  intro tm hS
  refine pp2 hS rfl rfl rfl rfl ?_; clear hS
  intro tm hS
  obtain ⟨l1, hx3, h0⟩ := bindS h0
  refine o_sl3 (k := 2) (r := (rI .i64)) hS (.inl rfl) rfl rfl rfl Fu22 Fs3 rfl rfl rfl (by first | rfl | omega) hx3 ?_; clear hS
  intro v4 tm hS
  refine pp4 hS rfl rfl rfl rfl rfl rfl rfl rfl ?_; clear hS
  intro tm hS
  obtain ⟨r5, hx4, h0⟩ := bindS h0
  refine o_call hS (.inl rfl) rfl (fun wm' hw1 hw2 => wk74  y1 1   (hS.sel hw2) hx4) (fun wm' res H hw' hp => ?_)
  obtain ⟨hres, hI⟩ := hp
  replace hres := hres.symm; subst hres
  replace hS : S wm 45 _ H ((43, .int .i64 r5) :: _) ([] ++ _) Fr := hS.after rfl hw' hI
  clear hI hw'
  refine o_build hS (.inl rfl) rfl Fb87 rfl (.cons rfl (.cons (cells_one (hS.one (k := 0) rfl (.inl rfl))) (.cons rfl (.cons rfl (.cons rfl (.cons rfl .nil)))))) (fill_cons [.bool v1.Char, v2, v3, (.slice none 0 0), .int .i64 0, .int .i64 0, .int .i64 0, .int .i64 0] rfl rfl rfl (fill_cons [.bool v1.Char, v2, v3, v4, .int .i64 0, .int .i64 0, .int .i64 0, .int .i64 0] rfl rfl rfl (fill_cons [.bool v1.Char, v2, v3, v4, .int .i64 y1, .int .i64 0, .int .i64 0, .int .i64 0] rfl rfl rfl (fill_cons [.bool v1.Char, v2, v3, v4, .int .i64 y1, .int .i64 r1, .int .i64 0, .int .i64 0] rfl rfl rfl (fill_cons [.bool v1.Char, v2, v3, v4, .int .i64 y1, .int .i64 r1, .int .i64 y1, .int .i64 0] rfl rfl rfl (fill_cons [.bool v1.Char, v2, v3, v4, .int .i64 y1, .int .i64 r1, .int .i64 y1, .int .i64 r5] rfl rfl rfl fill_nil)))))) ?_; clear hS
  intro tm hS
  refine o_stW (k := 1) hS (.inl rfl) rfl rfl rfl Fs87 rfl rfl (all_cons rfl (all_cons (hS.one (k := 3) rfl (.inl rfl)) (all_cons (hS.one (k := 4) rfl (.inl rfl)) (all_cons (hS.one (k := 0) rfl (.inl rfl)) (all_cons rfl (all_cons rfl (all_cons rfl (all_cons rfl all_nil)))))))) rfl ?_; clear hS; try clear H
  intro H hS
  refine o_nil (hR _ _ ?_)
  clear hR R
  refine wpC.ret ?_
  obtain rfl := Option.some.inj h0
  refine Exists.intro _ (And.intro (rs_cellA (k := 1) hS rfl rfl (.inl rfl) Fu87 rfl Fs87 rfl rs_nil) ?_)
  have hI := hS.inv
  exact ⟨v2, v3, v4, rfl, ((((hI.pull 0 rfl).pull 4 rfl).pull 4 rfl).take 3)⟩
theorem wk46 {wm : Nat} {H : AHeap} {Fr : List Ent}  (v1 : Val)  (v2 : Value) (v3 : Value) (hI : Kn wm H [.fz (rI .i64) v2 v1.Shape, .fz (rI .i64) v3 v1.Data] Fr) {r : Am.Side} (h0 : M.over_right v1 = some r) :
  wpF Try.prog ora wm 46 [.agg #[.bool v1.Char, v2, v3]] H (fun res H => ∃ v5 v6 v7, res = .agg #[.bool r.v.Char, v5, v6, v7, .int .i64 r.n, .int .i64 r.size, .int .i64 r.across, .int .i64 r.inside] ∧ Kn wm H [.fz (rI .i64) v5 r.v.Shape, .fz (rI .i64) v6 r.v.Data, .fz (rI .i64) v7 r.s] Fr) := by
 unfold M.over_right at h0
 refine f_enter (n := 31) Try.func46 rfl (by simp) hI rfl rfl rfl fun tm hS => ?_
 clear hI
 refine c_reg fun R hR => ?_
 refine o_box hS (.inl rfl) rfl rfl rfl (all_cons rfl (all_cons (hS.one (k := 0) rfl (.inl rfl)) (all_cons (hS.one (k := 1) rfl (.inl rfl)) all_nil))) ?_; clear hS
 intro b1 tm H hS
 refine o_alloc hS (.inl rfl) rfl Fz87 (by decide) ?_; clear hS
 intro b2 tm H hS
 refine o_nil (hR _ _ ?_)
 clear hR R
 refine c_seqS ?_
 refine c_reg fun R hR => ?_
 refine pp1 hS rfl rfl ?_; clear hS
 intro tm hS
 refine o_ld1 (k := 1) hS (.inl rfl) rfl rfl rfl (.inl rfl) Fu22 rfl rfl ?_; clear hS
 intro tm hS
 refine o_len (k := 2) (r := (rI .i64)) hS (.inl rfl) rfl rfl rfl (.inl rfl) Fu22 rfl ?_; clear hS
 intro tm hS
 refine pp1 hS rfl rfl ?_; clear hS
 intro tm hS
 refine o_nil (hR _ _ ?_)
 clear hR R
 refine c_cond hS rfl (fun hc => ?_) (fun hc => ?_)
 ·replace h0 := iteT hc h0
  refine c_reg fun R hR => ?_
  refine o_ldA (k := 1) hS (.inl rfl) rfl rfl rfl (.inl rfl) Fu25 rfl Fs25 rfl ?_; clear hS
  intro tm hS
  refine o_build hS (.inl rfl) rfl Fb87 rfl (.cons rfl (.cons rfl (.cons rfl (.cons rfl (.cons rfl (.cons rfl .nil)))))) (fill_cons [.bool v1.Char, v2, v3, (.slice none 0 0), .int .i64 0, .int .i64 0, .int .i64 0, .int .i64 0] rfl rfl rfl (fill_cons [.bool v1.Char, v2, v3, (.slice none 0 0), .int .i64 0, .int .i64 0, .int .i64 0, .int .i64 0] rfl rfl rfl (fill_cons [.bool v1.Char, v2, v3, (.slice none 0 0), .int .i64 1, .int .i64 0, .int .i64 0, .int .i64 0] rfl rfl rfl (fill_cons [.bool v1.Char, v2, v3, (.slice none 0 0), .int .i64 1, .int .i64 1, .int .i64 0, .int .i64 0] rfl rfl rfl (fill_cons [.bool v1.Char, v2, v3, (.slice none 0 0), .int .i64 1, .int .i64 1, .int .i64 1, .int .i64 0] rfl rfl rfl (fill_cons [.bool v1.Char, v2, v3, (.slice none 0 0), .int .i64 1, .int .i64 1, .int .i64 1, .int .i64 0] rfl rfl rfl fill_nil)))))) ?_; clear hS
  intro tm hS
  refine o_stW (k := 0) hS (.inl rfl) rfl rfl rfl Fs87 rfl rfl (all_cons rfl (all_cons (hS.one (k := 2) rfl (.inl rfl)) (all_cons (hS.one (k := 3) rfl (.inl rfl)) (all_cons rfl (all_cons rfl (all_cons rfl (all_cons rfl (all_cons rfl all_nil)))))))) rfl ?_; clear hS; try clear H
  intro H hS
  refine o_nil (hR _ _ ?_)
  clear hR R
  refine wpC.ret ?_
  obtain rfl := Option.some.inj h0
  replace hS := hS.nilFz (rI .i64)
  refine Exists.intro _ (And.intro (rs_cellA (k := 1) hS rfl rfl (.inl rfl) Fu87 rfl Fs87 rfl rs_nil) ?_)
  have hI := hS.inv
  exact ⟨v2, v3, (.slice none 0 0), rfl, ((((hI.pull 0 rfl).pull 4 rfl).pull 4 rfl).take 3)⟩
 ·replace h0 := iteF hc h0
  refine wpC.skip ?_
  refine c_reg fun R hR => ?_
  refine pp1 hS rfl rfl ?_; clear hS
  intro tm hS
  refine o_ld1 (k := 1) hS (.inl rfl) rfl rfl rfl (.inl rfl) Fu22 rfl rfl ?_; clear hS
  intro tm hS
  obtain ⟨⟨r1, r2, r3, r4⟩, hx1, h0⟩ := bindS h0
  refine o_call hS (.inl rfl) rfl (fun wm' hw1 hw2 => wk36  v1.Shape 0  v2 ((hS.sel hw2).ad 2 rfl) hx1) (fun wm' res H hw' hp => ?_)
  obtain ⟨hres, hI⟩ := hp
  replace hres := hres.symm; subst hres
  replace hS : S wm 31 _ H ((16, .tuple #[.int .i64 r1, .int .i64 r2, .int .i64 r3, .bool r4]) :: _) ([] ++ _) Fr := hS.after rfl hw' hI
  clear hI hw'
  refine pp6 hS rfl rfl rfl rfl rfl rfl rfl rfl rfl rfl rfl rfl ?_; clear hS
  intro tm hS
  refine pp3 hS rfl rfl rfl rfl rfl rfl ?_; clear hS
  intro tm hS
  refine o_nil (hR _ _ ?_)
  clear hR R
  refine c_reg fun R hR => ?_
  refine o_ldA (k := 1) hS (.inl rfl) rfl rfl rfl (.inl rfl) Fu25 rfl Fs25 rfl ?_; clear hS
  intro tm hS
  refine pp1 hS rfl rfl ?_; clear hS
  intro tm hS
  refine o_ld1 (k := 1) hS (.inl rfl) rfl rfl rfl (.inl rfl) Fu22 rfl rfl ?_; clear hS
  intro tm hS
  obtain ⟨l1, hx2, h0⟩ := bindS h0
  refine o_sl (k := 2) (r := (rI .i64)) hS (.inl rfl) rfl rfl rfl Fu22 Fs3 rfl rfl hx2 ?_; clear hS
  intro v4 tm hS
  refine pp4 hS rfl rfl rfl rfl rfl rfl rfl rfl ?_; clear hS
  intro tm hS
  obtain ⟨r5, hx3, h0⟩ := bindS h0
  refine o_call hS (.inl rfl) rfl (fun wm' hw1 hw2 => wk74  r2 r3   (hS.sel hw2) hx3) (fun wm' res H hw' hp => ?_)
  obtain ⟨hres, hI⟩ := hp
  replace hres := hres.symm; subst hres
  replace hS : S wm 31 _ H ((29, .int .i64 r5) :: _) ([] ++ _) Fr := hS.after rfl hw' hI
  clear hI hw'
  refine o_build hS (.inl rfl) rfl Fb87 rfl (.cons rfl (.cons (cells_one (hS.one (k := 0) rfl (.inl rfl))) (.cons rfl (.cons rfl (.cons rfl (.cons rfl .nil)))))) (fill_cons [.bool v1.Char, v2, v3, (.slice none 0 0), .int .i64 0, .int .i64 0, .int .i64 0, .int .i64 0] rfl rfl rfl (fill_cons [.bool v1.Char, v2, v3, v4, .int .i64 0, .int .i64 0, .int .i64 0, .int .i64 0] rfl rfl rfl (fill_cons [.bool v1.Char, v2, v3, v4, .int .i64 r2, .int .i64 0, .int .i64 0, .int .i64 0] rfl rfl rfl (fill_cons [.bool v1.Char, v2, v3, v4, .int .i64 r2, .int .i64 r3, .int .i64 0, .int .i64 0] rfl rfl rfl (fill_cons [.bool v1.Char, v2, v3, v4, .int .i64 r2, .int .i64 r3, .int .i64 1, .int .i64 0] rfl rfl rfl (fill_cons [.bool v1.Char, v2, v3, v4, .int .i64 r2, .int .i64 r3, .int .i64 1, .int .i64 r5] rfl rfl rfl fill_nil)))))) ?_; clear hS
  intro tm hS
  refine o_stW (k := 1) hS (.inl rfl) rfl rfl rfl Fs87 rfl rfl (all_cons rfl (all_cons (hS.one (k := 3) rfl (.inl rfl)) (all_cons (hS.one (k := 4) rfl (.inl rfl)) (all_cons (hS.one (k := 0) rfl (.inl rfl)) (all_cons rfl (all_cons rfl (all_cons rfl (all_cons rfl all_nil)))))))) rfl ?_; clear hS; try clear H
  intro H hS
  refine o_nil (hR _ _ ?_)
  clear hR R
  refine wpC.ret ?_
  obtain rfl := Option.some.inj h0
  refine Exists.intro _ (And.intro (rs_cellA (k := 1) hS rfl rfl (.inl rfl) Fu87 rfl Fs87 rfl rs_nil) ?_)
  have hI := hS.inv
  exact ⟨v2, v3, v4, rfl, ((((hI.pull 0 rfl).pull 4 rfl).pull 4 rfl).take 3)⟩
theorem wk37 {wm : Nat} {H : AHeap} {Fr : List Ent} (ho100 : ora 100 = false) (fn1 : ByteArray) (f1 : (Option ByteArray)) (l1 : (List Am.Item))  (v1 : Value) (v2 : Value) (hI : Kn wm H [.el (rClo 87) [v1] f1, .fz rItem v2 l1] Fr) {r : Am.Item × Int} (h0 : M.over_reduced fn1 f1 l1 = some r) :
  wpF Try.prog ora wm 37 [.string fn1, v1, v2] H (fun res H => res = .tuple #[.agg #[.int .i64 r.1.n, .bool r.1.char], .int .i64 r.2] ∧ Kn wm H [] Fr) := by
 unfold M.over_reduced at h0
 refine f_enter (n := 52) Try.func37 rfl (by simp) hI rfl rfl rfl fun tm hS => ?_
 clear hI
 refine c_reg fun R hR => ?_
 refine o_alloc hS (.inl rfl) rfl Fz72 (by decide) ?_; clear hS
 intro b1 tm H hS
 refine pp1 hS rfl rfl ?_; clear hS
 intro tm hS
 refine o_nil (hR _ _ ?_)
 clear hR R
 refine c_seqS ?_
 refine c_reg fun R hR => ?_
 refine pp1 hS rfl rfl ?_; clear hS
 intro tm hS
 refine o_len (k := 2) (r := rItem) hS (.inl rfl) rfl rfl rfl (.inl rfl) Fu75 rfl ?_; clear hS
 intro tm hS
 refine pp1 hS rfl rfl ?_; clear hS
 intro tm hS
 refine o_nil (hR _ _ ?_)
 clear hR R
 refine c_cond hS rfl (fun hc => ?_) (fun hc => ?_)
 ·replace h0 := iteT hc h0
  refine c_reg fun R hR => ?_
  refine pp1 hS rfl rfl ?_; clear hS
  intro tm hS
  obtain ⟨⟨r1, r2⟩, hx1, h0⟩ := bindS h0
  refine o_call hS (.inl rfl) rfl (fun wm' hw1 hw2 => wk69  fn1   (hS.sel hw2) hx1) (fun wm' res H hw' hp => ?_)
  obtain ⟨hres, hI⟩ := hp
  replace hres := hres.symm; subst hres
  replace hS : S wm 52 _ H ((18, .tuple #[.int .i64 r1, .int .i64 r2]) :: _) ([] ++ _) Fr := hS.after rfl hw' hI
  clear hI hw'
  refine pp5 hS rfl rfl rfl rfl rfl rfl rfl rfl rfl rfl ?_; clear hS
  intro tm hS
  refine o_nil (hR _ _ ?_)
  clear hR R
  refine c_reg fun R hR => ?_
  refine pp1 hS rfl rfl ?_; clear hS
  intro tm hS
  refine o_build hS (.inl rfl) rfl Fb72 rfl (.cons rfl .nil) rfl ?_; clear hS
  intro tm hS
  refine pp1 hS rfl rfl ?_; clear hS
  intro tm hS
  refine o_st (k := 0) hS (.inl rfl) rfl rfl rfl Fs72 rfl rfl (all_cons rfl (all_cons rfl all_nil)) rfl ?_; clear hS; try clear H
  intro H hS
  refine pp1 hS rfl rfl ?_; clear hS
  intro tm hS
  refine o_nil (hR _ _ ?_)
  clear hR R
  refine wpC.ret ?_
  obtain rfl := Option.some.inj h0
  refine Exists.intro _ (And.intro (rs_cellA (k := 0) hS rfl rfl (.inl rfl) Fu72 rfl Fs72 rfl (rs_tmp hS rfl rs_nil)) ?_)
  have hI := hS.inv
  exact ⟨rfl, (hI.sub sn)⟩
 ·replace h0 := iteF hc h0
  refine wpC.skip ?_
  refine c_reg fun R hR => ?_
  refine pp2 hS rfl rfl rfl rfl ?_; clear hS
  intro tm hS
  refine o_len (k := 2) (r := rItem) hS (.inl rfl) rfl rfl rfl (.inl rfl) Fu75 rfl ?_; clear hS
  intro tm hS
  refine pp1 hS rfl rfl ?_; clear hS
  intro tm hS
  obtain ⟨y1, hx2, h0⟩ := bindS h0
  refine o_ixA (k := 2) (r := rItem) hS (.inl rfl) rfl rfl rfl rfl (.inl rfl) Fu75 Fs72 hx2 ?_; clear hS
  intro tm hS
  refine o_ldFA (r := rItem) (k := 2) hS (.inl rfl) rfl rfl rfl (.inl rfl) hx2 Fu72 rfl Fs72 rfl flat_Item ?_; clear hS
  intro tm hS
  refine o_alloc hS (.inl rfl) rfl Fz72 (by decide) ?_; clear hS
  intro b2 tm H hS
  refine o_st (k := 0) hS (.inl rfl) rfl rfl rfl Fs72 rfl rfl (all_cons rfl (all_cons rfl all_nil)) rfl ?_; clear hS; try clear H
  intro H hS
  refine o_nil (hR _ _ ?_)
  clear hR R
  refine c_seqS ?_
  refine c_reg fun R hR => ?_
  refine pp1 hS rfl rfl ?_; clear hS
  intro tm hS
  refine o_len (k := 3) (r := rItem) hS (.inl rfl) rfl rfl rfl (.inl rfl) Fu75 rfl ?_; clear hS
  intro tm hS
  refine pp2 hS rfl rfl rfl rfl ?_; clear hS
  intro tm hS
  refine o_nil (hR _ _ ?_)
  clear hR R
  obtain ⟨k1, hw1, h0⟩ := bindS h0
  refine wpC.block ?_
  refine c_loop (I := fun (s : Int × Int × Bool) tm H => match (generalizing := false) s with | (i1, n1, char1) => S wm 52 tm H [(1, v1), (2, v2), (6, .pointer (some ⟨b1, 0, none⟩)), (10, .pointer (some ⟨b2, 0, none⟩)), (11, .int .i64 i1)] [.box b1 [.int .i64 0, .bool false], .box b2 [.int .i64 n1, .bool char1], .el (rClo 87) [v1] f1, .fz rItem v2 l1] Fr) hw1 (by change S wm 52 _ _ _ _ Fr; exact hS.keep (k5 rfl rfl rfl rfl rfl) (fun hI => (((((hI.pull 3 rfl).pull 3 rfl).pull 2 rfl).pull 3 rfl).take 4))) ?_
  clear hS
  intro s1 tm H c1 hS h1 hq1
  obtain ⟨i1, n1, char1⟩ := s1
  change S wm 52 tm H [(1, v1), (2, v2), (6, .pointer (some ⟨b1, 0, none⟩)), (10, .pointer (some ⟨b2, 0, none⟩)), (11, .int .i64 i1)] [.box b1 [.int .i64 0, .bool false], .box b2 [.int .i64 n1, .bool char1], .el (rClo 87) [v1] f1, .fz rItem v2 l1] Fr at hS
  refine c_seqS ?_
  refine cr2 hS rfl rfl rfl rfl ?_; clear hS
  intro tm hS
  refine c_cond hS rfl (fun hc => ?_) (fun hc => ?_)
  ·replace h1 := iteT hc h1
   refine wpC.skip ?_
   refine c_seqS ?_
   refine wpC.block ?_
   refine cr1 hS rfl rfl ?_; clear hS
   intro tm hS
   refine c_reg fun R hR => ?_
   refine pp3 hS rfl rfl rfl rfl rfl rfl ?_; clear hS
   intro tm hS
   obtain ⟨y2, hx3, h1⟩ := bindS h1
   refine o_ixA (k := 3) (r := rItem) hS (.inl rfl) rfl rfl rfl rfl (.inl rfl) Fu75 Fs72 hx3 ?_; clear hS
   intro tm hS
   refine o_ldFA (r := rItem) (k := 3) hS (.inl rfl) rfl rfl rfl (.inl rfl) hx3 Fu72 rfl Fs72 rfl flat_Item ?_; clear hS
   intro tm hS
   refine o_ldA (k := 1) hS (.inl rfl) rfl rfl rfl (.inl rfl) Fu72 rfl Fs72 rfl ?_; clear hS
   intro tm hS
   obtain ⟨fn2, hx4, h1⟩ := bindS h1
   obtain ⟨b3, hv1, hS⟩ := hS.unclo (k := 2) rfl hx4
   obtain ⟨⟨r3, r4⟩, hx5, h1⟩ := bindS h1
   refine o_call hS (.inl rfl) (by subst hv1; rfl) (fun wm' hw1 hw2 => wk87 ho100 y2 (Am.Item.mk n1 char1) fn2  b3 ((hS.sel hw2).adB 0 rfl) hx5) (fun wm' res H hw' hp => ?_)
   obtain ⟨hres, hI⟩ := hp
   replace hres := hres.symm; subst hres
   replace hS : S wm 52 _ H ((44, .tuple #[.agg #[.int .i64 r3.n, .bool r3.char], .int .i64 r4]) :: _) ([] ++ _) Fr := hS.after rfl hw' hI
   clear hI hw'
   refine pp3 hS rfl rfl rfl rfl rfl rfl ?_; clear hS
   intro tm hS
   refine o_st (k := 2) hS (.inl rfl) rfl rfl rfl Fs72 rfl rfl (all_cons rfl (all_cons rfl all_nil)) rfl ?_; clear hS; try clear H
   intro H hS
   refine pp1 hS rfl rfl ?_; clear hS
   intro tm hS
   refine o_nil (hR _ _ ?_)
   clear hR R
   refine cr2 hS rfl rfl rfl rfl ?_; clear hS
   intro tm hS
   refine c_cond hS rfl (fun hc => ?_) (fun hc => ?_)
   ·replace h1 := iteT hc h1
    refine c_reg fun R hR => ?_
    refine o_build hS (.inl rfl) rfl Fb72 rfl .nil rfl ?_; clear hS
    intro tm hS
    refine pp1 hS rfl rfl ?_; clear hS
    intro tm hS
    refine o_st (k := 1) hS (.inl rfl) rfl rfl rfl Fs72 rfl rfl (all_cons rfl (all_cons rfl all_nil)) rfl ?_; clear hS; try clear H
    intro H hS
    refine pp1 hS rfl rfl ?_; clear hS
    intro tm hS
    refine o_nil (hR _ _ ?_)
    clear hR R
    refine wpC.ret ?_
    obtain rfl := Option.some.inj h1
    obtain rfl := hq1 _ rfl
    refine And.intro rfl ?_
    obtain rfl := leave h0
    refine Exists.intro _ (And.intro (rs_cellA (k := 1) hS rfl rfl (.inl rfl) Fu72 rfl Fs72 rfl (rs_tmp hS rfl rs_nil)) ?_)
    have hI := hS.inv
    exact ⟨rfl, (hI.sub sn)⟩
   ·replace h1 := iteF hc h1
    refine wpC.skip ?_
    refine cs3 hS rfl rfl rfl rfl rfl rfl ?_; clear hS
    intro tm hS
    obtain rfl := Option.some.inj h1
    refine ⟨_, rfl, ?_⟩
    change S wm 52 _ _ _ _ Fr; exact hS.keep (k5 rfl rfl rfl rfl rfl) (fun hI => (hI.sub (sd (sc (sc (sc (sc sn)))))))
  ·replace h1 := iteF hc h1
   refine wpC.exit ?_
   refine seqX ?_
   obtain rfl := Option.some.inj h1
   obtain rfl := hq1 _ rfl
   refine And.intro rfl (blk_eq ?_)
   replace h0 := joinN h0
   refine c_reg fun R hR => ?_
   refine o_ldA (k := 1) hS (.inl rfl) rfl rfl rfl (.inl rfl) Fu72 rfl Fs72 rfl ?_; clear hS
   intro tm hS
   refine o_st (k := 0) hS (.inl rfl) rfl rfl rfl Fs72 rfl rfl (all_cons rfl (all_cons rfl all_nil)) rfl ?_; clear hS; try clear H
   intro H hS
   refine pp1 hS rfl rfl ?_; clear hS
   intro tm hS
   refine o_nil (hR _ _ ?_)
   clear hR R
   refine wpC.ret ?_
   obtain rfl := Option.some.inj h0
   refine Exists.intro _ (And.intro (rs_cellA (k := 0) hS rfl rfl (.inl rfl) Fu72 rfl Fs72 rfl (rs_tmp hS rfl rs_nil)) ?_)
   have hI := hS.inv
   exact ⟨rfl, (hI.sub sn)⟩
end Go.Proofs.Ytblgdjpeedgnoaa.overTwo
